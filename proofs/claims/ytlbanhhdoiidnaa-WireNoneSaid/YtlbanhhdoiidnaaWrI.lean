/- The wire: contracts of its calls. -/
import Derived.Test.YtlbanhhdoiidnaaWrG
import Derived.Test.YtlbanhhdoiidnaaWrR
namespace Go.Proofs.Ytlbanhhdoiidnaa
open Go Go.SL Go.Wr Go.RowKit
open Go.Dk (beyondF beyondB beyond_step beyond_le beyond_one beyond_two)
set_option linter.unusedVariables false
theorem sz_4 : sizeIs Try.prog 4 = some 1 := by kernel_rfl
theorem zo_4 : zeroOf Try.prog 4 = some (Value.bool false) := by kernel_rfl
theorem byte1_ok (W0 : World) (r rb nb : Nat) (s : ByteArray) (a0 : Nat) (ha0 : a0 ≤ s.size) (hsz : s.size ≤ 9223372036854775807) (c : UInt8) (hget : s[a0]? = some c) (hat : a0 < s.size) :
    Con Try.prog W0 44 #[Value.pointer (some ⟨rb, 0, none⟩), Value.pointer (some ⟨nb, 0, none⟩)] [pt rb 31 [Value.pointer (some ⟨r, 0, none⟩)], pt nb 3 [Value.int .i64 0], pt r 59 [Value.bool true, Value.string s, Value.int .i64 ((a0 : Nat) : Int)]] (X := Unit) (fun _ => True) (fun _ => .int .i64 0) (fun _ => [pt rb 31 [Value.pointer (some ⟨r, 0, none⟩)], pt nb 3 [Value.int .i64 ((c.toNat : Nat) : Int)], pt r 59 [Value.bool true, Value.string s, Value.int .i64 (((a0 + 1) : Nat) : Int)]]) := by
  refine Con.of (args := [Value.pointer (some ⟨rb, 0, none⟩), Value.pointer (some ⟨nb, 0, none⟩)]) Try.func44 rfl Try.ntmps44 rfl (fun F => ?_)
  show Wc _ W0 _ _ _ _ _ ((pt rb 31 [Value.pointer (some ⟨r, 0, none⟩)]) :: (pt nb 3 [Value.int .i64 0]) :: (pt r 59 [Value.bool true, Value.string s, Value.int .i64 ((a0 : Nat) : Int)]) :: F)
  refine Wc.seq ?_
  refine Wc.region ?_
  refine Wl.q (v := Value.int .i64 0) (q_assign rfl) ?_
  refine Wl.done ?_
  refine Wx.go ?_
  refine Wc.seq ?_
  refine Wc.region ?_
  refine Wl.q (v := Value.pointer (some ⟨r, 0, none⟩)) (q_load sc_31 rfl (.cel (i := 0) rfl rfl)) ?_
  refine Wl.imp (L' := (pt r 59 [Value.bool true, Value.string s, Value.int .i64 ((a0 : Nat) : Int)]) :: (pt rb 31 [Value.pointer (some ⟨r, 0, none⟩)]) :: (pt nb 3 [Value.int .i64 0]) :: F) (fun _ h => st_pull [2] h) ?_
  refine Wl.e (e_call (F := (pt rb 31 [Value.pointer (some ⟨r, 0, none⟩)]) :: (pt nb 3 [Value.int .i64 0]) :: F) (args := [Value.pointer (some ⟨r, 0, none⟩)]) Try.call45 rfl (next_ok W0 r s a0 c hget hat hsz)) (fun _ _ => ?_)
  refine Wl.imp (L' := (pt r 59 [Value.bool true, Value.string s, Value.int .i64 (((a0 + 1) : Nat) : Int)]) :: (pt rb 31 [Value.pointer (some ⟨r, 0, none⟩)]) :: (pt nb 3 [Value.int .i64 0]) :: F) (fun _ h => h) ?_
  refine Wl.q (v := Value.tuple #[Value.int .u8 ((c.toNat : Nat) : Int), Value.bool true]) (q_move rfl) ?_
  refine Wl.q (v := Value.int .u8 ((c.toNat : Nat) : Int)) (q_extract (i := 0) rfl rfl) ?_
  refine Wl.q (v := Value.bool true) (q_extract (i := 1) rfl rfl) ?_
  refine Wl.q (v := Value.int .u8 ((c.toNat : Nat) : Int)) (q_assign rfl) ?_
  refine Wl.q (v := Value.bool true) (q_assign rfl) ?_
  refine Wl.done ?_
  refine Wx.go ?_
  refine Wc.seq ?_
  refine Wc.region ?_
  refine Wl.q (v := Value.int .u8 ((c.toNat : Nat) : Int)) (q_move rfl) ?_
  refine Wl.q (v := Value.int .i64 ((c.toNat : Nat) : Int)) (q_conv_int (c := ((c.toNat : Nat) : Int)) Try.underlying3 (by rw [Try.underlying5]; rfl) rfl (wrap_i64 (by omega) (by have := c.toNat_lt; omega))) ?_
  refine Wl.e (e_store (i := 2) (v := Value.int .i64 ((c.toNat : Nat) : Int)) sz_3 rfl rfl (fun _ _ => rfl) rfl (by simp)) (fun _ _ => ?_)
  refine Wl.imp (L' := (pt r 59 [Value.bool true, Value.string s, Value.int .i64 (((a0 + 1) : Nat) : Int)]) :: (pt rb 31 [Value.pointer (some ⟨r, 0, none⟩)]) :: (pt nb 3 [Value.int .i64 ((c.toNat : Nat) : Int)]) :: F) (fun _ h => h) ?_
  refine Wl.done ?_
  refine Wx.go ?_
  refine Wc.seq ?_
  refine Wc.region ?_
  refine Wl.q (v := Value.bool true) (q_move rfl) ?_
  refine Wl.e (e_call (F := (pt r 59 [Value.bool true, Value.string s, Value.int .i64 (((a0 + 1) : Nat) : Int)]) :: (pt rb 31 [Value.pointer (some ⟨r, 0, none⟩)]) :: (pt nb 3 [Value.int .i64 ((c.toNat : Nat) : Int)]) :: F) (args := [Value.bool true]) Try.call34 rfl (form_t W0)) (fun _ _ => ?_)
  refine Wl.imp (L' := (pt r 59 [Value.bool true, Value.string s, Value.int .i64 (((a0 + 1) : Nat) : Int)]) :: (pt rb 31 [Value.pointer (some ⟨r, 0, none⟩)]) :: (pt nb 3 [Value.int .i64 ((c.toNat : Nat) : Int)]) :: F) (fun _ h => h) ?_
  refine Wl.q (v := Value.int .i64 0) (q_assign rfl) ?_
  refine Wl.done ?_
  refine Wx.go ?_
  refine Wc.ret ?_
  refine Wx.fin1 rfl (.inl rfl) (fun w hs => ?_)
  exact ⟨(), trivial, rfl, (st_pull [1, 1, 0] (hs))⟩

theorem byte1_bad (W0 : World) (r rb nb : Nat) (s : ByteArray) (a0 : Nat) (ha0 : a0 ≤ s.size) (hsz : s.size ≤ 9223372036854775807) (hend : a0 = s.size) :
    Con Try.prog W0 44 #[Value.pointer (some ⟨rb, 0, none⟩), Value.pointer (some ⟨nb, 0, none⟩)] [pt rb 31 [Value.pointer (some ⟨r, 0, none⟩)], pt nb 3 [Value.int .i64 0], pt r 59 [Value.bool true, Value.string s, Value.int .i64 ((a0 : Nat) : Int)]] (X := Nat) (fun _ => True) (fun _ => .int .i64 4) (fun a => [pt rb 31 [Value.pointer (some ⟨r, 0, none⟩)], pt nb 3 [Value.int .i64 0], pt r 59 [Value.bool true, Value.string s, Value.int .i64 ((a : Nat) : Int)]]) := by
  refine Con.of (args := [Value.pointer (some ⟨rb, 0, none⟩), Value.pointer (some ⟨nb, 0, none⟩)]) Try.func44 rfl Try.ntmps44 rfl (fun F => ?_)
  show Wc _ W0 _ _ _ _ _ ((pt rb 31 [Value.pointer (some ⟨r, 0, none⟩)]) :: (pt nb 3 [Value.int .i64 0]) :: (pt r 59 [Value.bool true, Value.string s, Value.int .i64 ((a0 : Nat) : Int)]) :: F)
  refine Wc.seq ?_
  refine Wc.region ?_
  refine Wl.q (v := Value.int .i64 0) (q_assign rfl) ?_
  refine Wl.done ?_
  refine Wx.go ?_
  refine Wc.seq ?_
  refine Wc.region ?_
  refine Wl.q (v := Value.pointer (some ⟨r, 0, none⟩)) (q_load sc_31 rfl (.cel (i := 0) rfl rfl)) ?_
  refine Wl.imp (L' := (pt r 59 [Value.bool true, Value.string s, Value.int .i64 ((a0 : Nat) : Int)]) :: (pt rb 31 [Value.pointer (some ⟨r, 0, none⟩)]) :: (pt nb 3 [Value.int .i64 0]) :: F) (fun _ h => st_pull [2] h) ?_
  refine Wl.e (e_call (F := (pt rb 31 [Value.pointer (some ⟨r, 0, none⟩)]) :: (pt nb 3 [Value.int .i64 0]) :: F) (args := [Value.pointer (some ⟨r, 0, none⟩)]) Try.call45 rfl (Con.eqs (val' := fun _ => .tuple #[.int .u8 0, .bool false]) (post' := fun _ => [pt r 59 [Value.bool true, Value.string s, Value.int .i64 ((a0 : Nat) : Int)]]) (hend ▸ next_end W0 r s) (fun _ => rfl) (fun _ => rfl))) (fun _ _ => ?_)
  refine Wl.imp (L' := (pt r 59 [Value.bool true, Value.string s, Value.int .i64 ((a0 : Nat) : Int)]) :: (pt rb 31 [Value.pointer (some ⟨r, 0, none⟩)]) :: (pt nb 3 [Value.int .i64 0]) :: F) (fun _ h => h) ?_
  refine Wl.q (v := Value.tuple #[Value.int .u8 0, Value.bool false]) (q_move rfl) ?_
  refine Wl.q (v := Value.int .u8 0) (q_extract (i := 0) rfl rfl) ?_
  refine Wl.q (v := Value.bool false) (q_extract (i := 1) rfl rfl) ?_
  refine Wl.q (v := Value.int .u8 0) (q_assign rfl) ?_
  refine Wl.q (v := Value.bool false) (q_assign rfl) ?_
  refine Wl.done ?_
  refine Wx.go ?_
  refine Wc.seq ?_
  refine Wc.region ?_
  refine Wl.q (v := Value.int .u8 0) (q_move rfl) ?_
  refine Wl.q (v := Value.int .i64 0) (q_conv_int (c := 0) Try.underlying3 (by rw [Try.underlying5]; rfl) rfl (by decide)) ?_
  refine Wl.e (e_store (i := 2) (v := Value.int .i64 0) sz_3 rfl rfl (fun _ _ => rfl) rfl (by simp)) (fun _ _ => ?_)
  refine Wl.imp (L' := (pt r 59 [Value.bool true, Value.string s, Value.int .i64 ((a0 : Nat) : Int)]) :: (pt rb 31 [Value.pointer (some ⟨r, 0, none⟩)]) :: (pt nb 3 [Value.int .i64 0]) :: F) (fun _ h => h) ?_
  refine Wl.done ?_
  refine Wx.go ?_
  refine Wc.seq ?_
  refine Wc.region ?_
  refine Wl.q (v := Value.bool false) (q_move rfl) ?_
  refine Wl.e (e_call (F := (pt r 59 [Value.bool true, Value.string s, Value.int .i64 ((a0 : Nat) : Int)]) :: (pt rb 31 [Value.pointer (some ⟨r, 0, none⟩)]) :: (pt nb 3 [Value.int .i64 0]) :: F) (args := [Value.bool false]) Try.call34 rfl (form_f W0)) (fun _ _ => ?_)
  refine Wl.imp (L' := (pt r 59 [Value.bool true, Value.string s, Value.int .i64 ((a0 : Nat) : Int)]) :: (pt rb 31 [Value.pointer (some ⟨r, 0, none⟩)]) :: (pt nb 3 [Value.int .i64 0]) :: F) (fun _ h => h) ?_
  refine Wl.q (v := Value.int .i64 4) (q_assign rfl) ?_
  refine Wl.done ?_
  refine Wx.go ?_
  refine Wc.ret ?_
  refine Wx.fin1 rfl (.inl rfl) (fun w hs => ?_)
  exact ⟨a0, trivial, rfl, (st_pull [1, 1, 0] (hs))⟩

theorem rbyte_ok (W0 : World) (r : Nat) (s : ByteArray) (a0 : Nat) (ha0 : a0 ≤ s.size) (hsz : s.size ≤ 9223372036854775807) (c : UInt8) (hget : s[a0]? = some c) (hat : a0 < s.size) :
    Con Try.prog W0 22 #[Value.pointer (some ⟨r, 0, none⟩)] [pt r 59 [Value.bool true, Value.string s, Value.int .i64 ((a0 : Nat) : Int)]] (X := Unit) (fun _ => True) (fun _ => .tuple #[Value.int .i64 ((c.toNat : Nat) : Int), .int .i64 0]) (fun _ => [pt r 59 [Value.bool true, Value.string s, Value.int .i64 (((a0 + 1) : Nat) : Int)]]) := by
  refine Con.of (args := [Value.pointer (some ⟨r, 0, none⟩)]) Try.func22 rfl Try.ntmps22 rfl (fun F => ?_)
  show Wc _ W0 _ _ _ _ _ ((pt r 59 [Value.bool true, Value.string s, Value.int .i64 ((a0 : Nat) : Int)]) :: F)
  refine Wc.seq ?_
  refine Wc.region ?_
  refine Wl.e (e_box (x := .tmp 0) (vs := [Value.pointer (some ⟨r, 0, none⟩)]) rfl) (fun rb _ => ?_)
  refine Wl.imp (L' := (pt rb 31 [Value.pointer (some ⟨r, 0, none⟩)]) :: (pt r 59 [Value.bool true, Value.string s, Value.int .i64 ((a0 : Nat) : Int)]) :: F) (fun _ h => h) ?_
  refine Wl.e (e_alloc (vs := [Value.int .i64 0]) zo_3 rfl) (fun nb _ => ?_)
  refine Wl.imp (L' := (pt nb 3 [Value.int .i64 0]) :: (pt rb 31 [Value.pointer (some ⟨r, 0, none⟩)]) :: (pt r 59 [Value.bool true, Value.string s, Value.int .i64 ((a0 : Nat) : Int)]) :: F) (fun _ h => h) ?_
  refine Wl.q (v := Value.int .i64 0) (q_assign rfl) ?_
  refine Wl.done ?_
  refine Wx.go ?_
  refine Wc.seq ?_
  refine Wc.region ?_
  refine Wl.q (v := Value.pointer (some ⟨r, 0, none⟩)) (q_load sc_31 rfl (.cel (i := 1) rfl rfl)) ?_
  refine Wl.q (v := Value.func (.func 44) #[] #[Value.pointer (some ⟨rb, 0, none⟩), Value.pointer (some ⟨nb, 0, none⟩)]) (q_makeFunc (us := []) (vs := [Value.pointer (some ⟨rb, 0, none⟩), Value.pointer (some ⟨nb, 0, none⟩)]) rfl rfl) ?_
  refine Wl.imp (L' := (pt rb 31 [Value.pointer (some ⟨r, 0, none⟩)]) :: (pt nb 3 [Value.int .i64 0]) :: (pt r 59 [Value.bool true, Value.string s, Value.int .i64 ((a0 : Nat) : Int)]) :: F) (fun _ h => st_pull [1, 0, 0] h) ?_
  refine Wl.e (e_call (F := F) (args := [Value.pointer (some ⟨r, 0, none⟩), Value.func (.func 44) #[] #[Value.pointer (some ⟨rb, 0, none⟩), Value.pointer (some ⟨nb, 0, none⟩)]]) Try.call43 rfl (take_Byte_ok W0 r rb nb s a0 (a0 + 1) (Value.int .i64 0) (Value.int .i64 ((c.toNat : Nat) : Int)) (byte1_ok W0 r rb nb s a0 ha0 hsz c hget hat))) (fun _ _ => ?_)
  refine Wl.imp (L' := (pt rb 31 [Value.pointer (some ⟨r, 0, none⟩)]) :: (pt nb 3 [Value.int .i64 ((c.toNat : Nat) : Int)]) :: (pt r 59 [Value.bool true, Value.string s, Value.int .i64 (((a0 + 1) : Nat) : Int)]) :: F) (fun _ h => h) ?_
  refine Wl.q (v := Value.int .i64 0) (q_assign rfl) ?_
  refine Wl.done ?_
  refine Wx.go ?_
  refine Wc.seq ?_
  refine Wc.region ?_
  refine Wl.q (v := Value.int .i64 ((c.toNat : Nat) : Int)) (q_load sc_3 rfl (.cel (i := 1) rfl rfl)) ?_
  refine Wl.q (v := Value.int .i64 0) (q_move rfl) ?_
  refine Wl.e (e_store (i := 1) (v := Value.int .i64 ((c.toNat : Nat) : Int)) sz_3 rfl rfl (fun _ _ => rfl) rfl (by simp)) (fun _ _ => ?_)
  refine Wl.imp (L' := (pt rb 31 [Value.pointer (some ⟨r, 0, none⟩)]) :: (pt nb 3 [Value.int .i64 ((c.toNat : Nat) : Int)]) :: (pt r 59 [Value.bool true, Value.string s, Value.int .i64 (((a0 + 1) : Nat) : Int)]) :: F) (fun _ h => h) ?_
  refine Wl.q (v := Value.int .i64 0) (q_assign rfl) ?_
  refine Wl.done ?_
  refine Wx.go ?_
  refine Wc.ret ?_
  refine Wx.finC2 rfl (.inl rfl) sc_3 rfl (.cel (i := 1) rfl rfl) (fun w hs => ?_)
  exact ⟨(), trivial, rfl, (st_drop (st_drop (st_pull [0, 0] hs)))⟩

theorem rbyte_bad (W0 : World) (r : Nat) (s : ByteArray) (a0 : Nat) (ha0 : a0 ≤ s.size) (hsz : s.size ≤ 9223372036854775807) (hend : a0 = s.size) :
    Con Try.prog W0 22 #[Value.pointer (some ⟨r, 0, none⟩)] [pt r 59 [Value.bool true, Value.string s, Value.int .i64 ((a0 : Nat) : Int)]] (X := Unit) (fun _ => True) (fun _ => .tuple #[Value.int .i64 0, .int .i64 4]) (fun _ => [pt r 59 [Value.bool true, Value.string s, Value.int .i64 ((a0 : Nat) : Int)]]) := by
  refine Con.of (args := [Value.pointer (some ⟨r, 0, none⟩)]) Try.func22 rfl Try.ntmps22 rfl (fun F => ?_)
  show Wc _ W0 _ _ _ _ _ ((pt r 59 [Value.bool true, Value.string s, Value.int .i64 ((a0 : Nat) : Int)]) :: F)
  refine Wc.seq ?_
  refine Wc.region ?_
  refine Wl.e (e_box (x := .tmp 0) (vs := [Value.pointer (some ⟨r, 0, none⟩)]) rfl) (fun rb _ => ?_)
  refine Wl.imp (L' := (pt rb 31 [Value.pointer (some ⟨r, 0, none⟩)]) :: (pt r 59 [Value.bool true, Value.string s, Value.int .i64 ((a0 : Nat) : Int)]) :: F) (fun _ h => h) ?_
  refine Wl.e (e_alloc (vs := [Value.int .i64 0]) zo_3 rfl) (fun nb _ => ?_)
  refine Wl.imp (L' := (pt nb 3 [Value.int .i64 0]) :: (pt rb 31 [Value.pointer (some ⟨r, 0, none⟩)]) :: (pt r 59 [Value.bool true, Value.string s, Value.int .i64 ((a0 : Nat) : Int)]) :: F) (fun _ h => h) ?_
  refine Wl.q (v := Value.int .i64 0) (q_assign rfl) ?_
  refine Wl.done ?_
  refine Wx.go ?_
  refine Wc.seq ?_
  refine Wc.region ?_
  refine Wl.q (v := Value.pointer (some ⟨r, 0, none⟩)) (q_load sc_31 rfl (.cel (i := 1) rfl rfl)) ?_
  refine Wl.q (v := Value.func (.func 44) #[] #[Value.pointer (some ⟨rb, 0, none⟩), Value.pointer (some ⟨nb, 0, none⟩)]) (q_makeFunc (us := []) (vs := [Value.pointer (some ⟨rb, 0, none⟩), Value.pointer (some ⟨nb, 0, none⟩)]) rfl rfl) ?_
  refine Wl.imp (L' := (pt rb 31 [Value.pointer (some ⟨r, 0, none⟩)]) :: (pt nb 3 [Value.int .i64 0]) :: (pt r 59 [Value.bool true, Value.string s, Value.int .i64 ((a0 : Nat) : Int)]) :: F) (fun _ h => st_pull [1, 0, 0] h) ?_
  refine Wl.e (e_call (F := F) (args := [Value.pointer (some ⟨r, 0, none⟩), Value.func (.func 44) #[] #[Value.pointer (some ⟨rb, 0, none⟩), Value.pointer (some ⟨nb, 0, none⟩)]]) Try.call43 rfl (take_Byte_bad W0 r rb nb s a0 (Value.int .i64 0) (byte1_bad W0 r rb nb s a0 ha0 hsz hend))) (fun _ _ => ?_)
  refine Wl.imp (L' := (pt rb 31 [Value.pointer (some ⟨r, 0, none⟩)]) :: (pt nb 3 [Value.int .i64 0]) :: (pt r 59 [Value.bool true, Value.string s, Value.int .i64 ((a0 : Nat) : Int)]) :: F) (fun _ h => h) ?_
  refine Wl.q (v := Value.int .i64 4) (q_assign rfl) ?_
  refine Wl.done ?_
  refine Wx.go ?_
  refine Wc.seq ?_
  refine Wc.region ?_
  refine Wl.q (v := Value.int .i64 0) (q_load sc_3 rfl (.cel (i := 1) rfl rfl)) ?_
  refine Wl.q (v := Value.int .i64 4) (q_move rfl) ?_
  refine Wl.e (e_store (i := 1) (v := Value.int .i64 0) sz_3 rfl rfl (fun _ _ => rfl) rfl (by simp)) (fun _ _ => ?_)
  refine Wl.imp (L' := (pt rb 31 [Value.pointer (some ⟨r, 0, none⟩)]) :: (pt nb 3 [Value.int .i64 0]) :: (pt r 59 [Value.bool true, Value.string s, Value.int .i64 ((a0 : Nat) : Int)]) :: F) (fun _ h => h) ?_
  refine Wl.q (v := Value.int .i64 4) (q_assign rfl) ?_
  refine Wl.done ?_
  refine Wx.go ?_
  refine Wc.ret ?_
  refine Wx.finC2 rfl (.inl rfl) sc_3 rfl (.cel (i := 1) rfl rfl) (fun w hs => ?_)
  exact ⟨(), trivial, rfl, (st_drop (st_drop (st_pull [0, 0] hs)))⟩

theorem flag1_one (W0 : World) (r rb nb : Nat) (s : ByteArray) (a0 : Nat) (ha0 : a0 ≤ s.size) (hsz : s.size ≤ 9223372036854775807) (c : UInt8) (hget : s[a0]? = some c) (hat : a0 < s.size)(hc : c.toNat = 1) :
    Con Try.prog W0 48 #[Value.pointer (some ⟨rb, 0, none⟩), Value.pointer (some ⟨nb, 0, none⟩)] [pt rb 31 [Value.pointer (some ⟨r, 0, none⟩)], pt nb 4 [Value.bool false], pt r 59 [Value.bool true, Value.string s, Value.int .i64 ((a0 : Nat) : Int)]] (X := Unit) (fun _ => True) (fun _ => .int .i64 0) (fun _ => [pt rb 31 [Value.pointer (some ⟨r, 0, none⟩)], pt nb 4 [Value.bool true], pt r 59 [Value.bool true, Value.string s, Value.int .i64 (((a0 + 1) : Nat) : Int)]]) := by
  refine Con.of (args := [Value.pointer (some ⟨rb, 0, none⟩), Value.pointer (some ⟨nb, 0, none⟩)]) Try.func48 rfl Try.ntmps48 rfl (fun F => ?_)
  show Wc _ W0 _ _ _ _ _ ((pt rb 31 [Value.pointer (some ⟨r, 0, none⟩)]) :: (pt nb 4 [Value.bool false]) :: (pt r 59 [Value.bool true, Value.string s, Value.int .i64 ((a0 : Nat) : Int)]) :: F)
  refine Wc.seq ?_
  refine Wc.region ?_
  refine Wl.q (v := Value.int .i64 0) (q_assign rfl) ?_
  refine Wl.done ?_
  refine Wx.go ?_
  refine Wc.seq ?_
  refine Wc.region ?_
  refine Wl.q (v := Value.pointer (some ⟨r, 0, none⟩)) (q_load sc_31 rfl (.cel (i := 0) rfl rfl)) ?_
  refine Wl.imp (L' := (pt r 59 [Value.bool true, Value.string s, Value.int .i64 ((a0 : Nat) : Int)]) :: (pt rb 31 [Value.pointer (some ⟨r, 0, none⟩)]) :: (pt nb 4 [Value.bool false]) :: F) (fun _ h => st_pull [2] h) ?_
  refine Wl.e (e_call (F := (pt rb 31 [Value.pointer (some ⟨r, 0, none⟩)]) :: (pt nb 4 [Value.bool false]) :: F) (args := [Value.pointer (some ⟨r, 0, none⟩)]) Try.call45 rfl (next_ok W0 r s a0 c hget hat hsz)) (fun _ _ => ?_)
  refine Wl.imp (L' := (pt r 59 [Value.bool true, Value.string s, Value.int .i64 (((a0 + 1) : Nat) : Int)]) :: (pt rb 31 [Value.pointer (some ⟨r, 0, none⟩)]) :: (pt nb 4 [Value.bool false]) :: F) (fun _ h => h) ?_
  refine Wl.q (v := Value.tuple #[Value.int .u8 ((c.toNat : Nat) : Int), Value.bool true]) (q_move rfl) ?_
  refine Wl.q (v := Value.int .u8 ((c.toNat : Nat) : Int)) (q_extract (i := 0) rfl rfl) ?_
  refine Wl.q (v := Value.bool true) (q_extract (i := 1) rfl rfl) ?_
  refine Wl.q (v := Value.int .u8 ((c.toNat : Nat) : Int)) (q_assign rfl) ?_
  refine Wl.q (v := Value.bool true) (q_assign rfl) ?_
  refine Wl.done ?_
  refine Wx.go ?_
  refine Wc.seq ?_
  refine Wc.region ?_
  refine Wl.q (v := Value.bool true) (q_move rfl) ?_
  refine Wl.q (v := Value.bool true) (q_move rfl) ?_
  refine Wl.q (v := Value.int .u8 ((c.toNat : Nat) : Int)) (q_move rfl) ?_
  refine Wl.q (v := Value.bool true) (q_eql (r := true) rfl rfl (decide_eq_true (by omega))) ?_
  refine Wl.q (v := Value.bool true) (q_pick (t := true) rfl rfl) ?_
  refine Wl.e (e_store (i := 2) (v := Value.bool true) sz_4 rfl rfl (fun _ _ => rfl) rfl (by simp)) (fun _ _ => ?_)
  refine Wl.imp (L' := (pt r 59 [Value.bool true, Value.string s, Value.int .i64 (((a0 + 1) : Nat) : Int)]) :: (pt rb 31 [Value.pointer (some ⟨r, 0, none⟩)]) :: (pt nb 4 [Value.bool true]) :: F) (fun _ h => h) ?_
  refine Wl.done ?_
  refine Wx.go ?_
  refine Wc.seq ?_
  refine Wc.region ?_
  refine Wl.q (v := Value.bool true) (q_move rfl) ?_
  refine Wl.q (v := Value.bool true) (q_move rfl) ?_
  refine Wl.q (v := Value.int .u8 ((c.toNat : Nat) : Int)) (q_move rfl) ?_
  refine Wl.q (v := Value.bool true) (q_lss (r := true) rfl rfl (decide_eq_true (by omega))) ?_
  refine Wl.q (v := Value.bool true) (q_pick (t := true) rfl rfl) ?_
  refine Wl.e (e_call (F := (pt r 59 [Value.bool true, Value.string s, Value.int .i64 (((a0 + 1) : Nat) : Int)]) :: (pt rb 31 [Value.pointer (some ⟨r, 0, none⟩)]) :: (pt nb 4 [Value.bool true]) :: F) (args := [Value.bool true]) Try.call34 rfl (form_t W0)) (fun _ _ => ?_)
  refine Wl.imp (L' := (pt r 59 [Value.bool true, Value.string s, Value.int .i64 (((a0 + 1) : Nat) : Int)]) :: (pt rb 31 [Value.pointer (some ⟨r, 0, none⟩)]) :: (pt nb 4 [Value.bool true]) :: F) (fun _ h => h) ?_
  refine Wl.q (v := Value.int .i64 0) (q_assign rfl) ?_
  refine Wl.done ?_
  refine Wx.go ?_
  refine Wc.ret ?_
  refine Wx.fin1 rfl (.inl rfl) (fun w hs => ?_)
  exact ⟨(), trivial, rfl, (st_pull [1, 1, 0] (hs))⟩

theorem rflag_one (W0 : World) (r : Nat) (s : ByteArray) (a0 : Nat) (ha0 : a0 ≤ s.size) (hsz : s.size ≤ 9223372036854775807) (c : UInt8) (hget : s[a0]? = some c) (hat : a0 < s.size)(hc : c.toNat = 1) :
    Con Try.prog W0 24 #[Value.pointer (some ⟨r, 0, none⟩)] [pt r 59 [Value.bool true, Value.string s, Value.int .i64 ((a0 : Nat) : Int)]] (X := Unit) (fun _ => True) (fun _ => .tuple #[Value.bool true, .int .i64 0]) (fun _ => [pt r 59 [Value.bool true, Value.string s, Value.int .i64 (((a0 + 1) : Nat) : Int)]]) := by
  refine Con.of (args := [Value.pointer (some ⟨r, 0, none⟩)]) Try.func24 rfl Try.ntmps24 rfl (fun F => ?_)
  show Wc _ W0 _ _ _ _ _ ((pt r 59 [Value.bool true, Value.string s, Value.int .i64 ((a0 : Nat) : Int)]) :: F)
  refine Wc.seq ?_
  refine Wc.region ?_
  refine Wl.e (e_box (x := .tmp 0) (vs := [Value.pointer (some ⟨r, 0, none⟩)]) rfl) (fun rb _ => ?_)
  refine Wl.imp (L' := (pt rb 31 [Value.pointer (some ⟨r, 0, none⟩)]) :: (pt r 59 [Value.bool true, Value.string s, Value.int .i64 ((a0 : Nat) : Int)]) :: F) (fun _ h => h) ?_
  refine Wl.e (e_alloc (vs := [Value.bool false]) zo_4 rfl) (fun nb _ => ?_)
  refine Wl.imp (L' := (pt nb 4 [Value.bool false]) :: (pt rb 31 [Value.pointer (some ⟨r, 0, none⟩)]) :: (pt r 59 [Value.bool true, Value.string s, Value.int .i64 ((a0 : Nat) : Int)]) :: F) (fun _ h => h) ?_
  refine Wl.q (v := Value.int .i64 0) (q_assign rfl) ?_
  refine Wl.done ?_
  refine Wx.go ?_
  refine Wc.seq ?_
  refine Wc.region ?_
  refine Wl.q (v := Value.pointer (some ⟨r, 0, none⟩)) (q_load sc_31 rfl (.cel (i := 1) rfl rfl)) ?_
  refine Wl.q (v := Value.func (.func 48) #[] #[Value.pointer (some ⟨rb, 0, none⟩), Value.pointer (some ⟨nb, 0, none⟩)]) (q_makeFunc (us := []) (vs := [Value.pointer (some ⟨rb, 0, none⟩), Value.pointer (some ⟨nb, 0, none⟩)]) rfl rfl) ?_
  refine Wl.imp (L' := (pt rb 31 [Value.pointer (some ⟨r, 0, none⟩)]) :: (pt nb 4 [Value.bool false]) :: (pt r 59 [Value.bool true, Value.string s, Value.int .i64 ((a0 : Nat) : Int)]) :: F) (fun _ h => st_pull [1, 0, 0] h) ?_
  refine Wl.e (e_call (F := F) (args := [Value.pointer (some ⟨r, 0, none⟩), Value.func (.func 48) #[] #[Value.pointer (some ⟨rb, 0, none⟩), Value.pointer (some ⟨nb, 0, none⟩)]]) Try.call43 rfl (take_Flag_ok W0 r rb nb s a0 (a0 + 1) (Value.bool false) (Value.bool true) (flag1_one W0 r rb nb s a0 ha0 hsz c hget hat hc))) (fun _ _ => ?_)
  refine Wl.imp (L' := (pt rb 31 [Value.pointer (some ⟨r, 0, none⟩)]) :: (pt nb 4 [Value.bool true]) :: (pt r 59 [Value.bool true, Value.string s, Value.int .i64 (((a0 + 1) : Nat) : Int)]) :: F) (fun _ h => h) ?_
  refine Wl.q (v := Value.int .i64 0) (q_assign rfl) ?_
  refine Wl.done ?_
  refine Wx.go ?_
  refine Wc.seq ?_
  refine Wc.region ?_
  refine Wl.q (v := Value.bool true) (q_load sc_4 rfl (.cel (i := 1) rfl rfl)) ?_
  refine Wl.q (v := Value.int .i64 0) (q_move rfl) ?_
  refine Wl.e (e_store (i := 1) (v := Value.bool true) sz_4 rfl rfl (fun _ _ => rfl) rfl (by simp)) (fun _ _ => ?_)
  refine Wl.imp (L' := (pt rb 31 [Value.pointer (some ⟨r, 0, none⟩)]) :: (pt nb 4 [Value.bool true]) :: (pt r 59 [Value.bool true, Value.string s, Value.int .i64 (((a0 + 1) : Nat) : Int)]) :: F) (fun _ h => h) ?_
  refine Wl.q (v := Value.int .i64 0) (q_assign rfl) ?_
  refine Wl.done ?_
  refine Wx.go ?_
  refine Wc.ret ?_
  refine Wx.finC2 rfl (.inl rfl) sc_4 rfl (.cel (i := 1) rfl rfl) (fun w hs => ?_)
  exact ⟨(), trivial, rfl, (st_drop (st_drop (st_pull [0, 0] hs)))⟩

theorem flag1_zero (W0 : World) (r rb nb : Nat) (s : ByteArray) (a0 : Nat) (ha0 : a0 ≤ s.size) (hsz : s.size ≤ 9223372036854775807) (c : UInt8) (hget : s[a0]? = some c) (hat : a0 < s.size)(hc : c.toNat = 0) :
    Con Try.prog W0 48 #[Value.pointer (some ⟨rb, 0, none⟩), Value.pointer (some ⟨nb, 0, none⟩)] [pt rb 31 [Value.pointer (some ⟨r, 0, none⟩)], pt nb 4 [Value.bool false], pt r 59 [Value.bool true, Value.string s, Value.int .i64 ((a0 : Nat) : Int)]] (X := Unit) (fun _ => True) (fun _ => .int .i64 0) (fun _ => [pt rb 31 [Value.pointer (some ⟨r, 0, none⟩)], pt nb 4 [Value.bool false], pt r 59 [Value.bool true, Value.string s, Value.int .i64 (((a0 + 1) : Nat) : Int)]]) := by
  refine Con.of (args := [Value.pointer (some ⟨rb, 0, none⟩), Value.pointer (some ⟨nb, 0, none⟩)]) Try.func48 rfl Try.ntmps48 rfl (fun F => ?_)
  show Wc _ W0 _ _ _ _ _ ((pt rb 31 [Value.pointer (some ⟨r, 0, none⟩)]) :: (pt nb 4 [Value.bool false]) :: (pt r 59 [Value.bool true, Value.string s, Value.int .i64 ((a0 : Nat) : Int)]) :: F)
  refine Wc.seq ?_
  refine Wc.region ?_
  refine Wl.q (v := Value.int .i64 0) (q_assign rfl) ?_
  refine Wl.done ?_
  refine Wx.go ?_
  refine Wc.seq ?_
  refine Wc.region ?_
  refine Wl.q (v := Value.pointer (some ⟨r, 0, none⟩)) (q_load sc_31 rfl (.cel (i := 0) rfl rfl)) ?_
  refine Wl.imp (L' := (pt r 59 [Value.bool true, Value.string s, Value.int .i64 ((a0 : Nat) : Int)]) :: (pt rb 31 [Value.pointer (some ⟨r, 0, none⟩)]) :: (pt nb 4 [Value.bool false]) :: F) (fun _ h => st_pull [2] h) ?_
  refine Wl.e (e_call (F := (pt rb 31 [Value.pointer (some ⟨r, 0, none⟩)]) :: (pt nb 4 [Value.bool false]) :: F) (args := [Value.pointer (some ⟨r, 0, none⟩)]) Try.call45 rfl (next_ok W0 r s a0 c hget hat hsz)) (fun _ _ => ?_)
  refine Wl.imp (L' := (pt r 59 [Value.bool true, Value.string s, Value.int .i64 (((a0 + 1) : Nat) : Int)]) :: (pt rb 31 [Value.pointer (some ⟨r, 0, none⟩)]) :: (pt nb 4 [Value.bool false]) :: F) (fun _ h => h) ?_
  refine Wl.q (v := Value.tuple #[Value.int .u8 ((c.toNat : Nat) : Int), Value.bool true]) (q_move rfl) ?_
  refine Wl.q (v := Value.int .u8 ((c.toNat : Nat) : Int)) (q_extract (i := 0) rfl rfl) ?_
  refine Wl.q (v := Value.bool true) (q_extract (i := 1) rfl rfl) ?_
  refine Wl.q (v := Value.int .u8 ((c.toNat : Nat) : Int)) (q_assign rfl) ?_
  refine Wl.q (v := Value.bool true) (q_assign rfl) ?_
  refine Wl.done ?_
  refine Wx.go ?_
  refine Wc.seq ?_
  refine Wc.region ?_
  refine Wl.q (v := Value.bool true) (q_move rfl) ?_
  refine Wl.q (v := Value.bool true) (q_move rfl) ?_
  refine Wl.q (v := Value.int .u8 ((c.toNat : Nat) : Int)) (q_move rfl) ?_
  refine Wl.q (v := Value.bool false) (q_eql (r := false) rfl rfl (decide_eq_false (by omega))) ?_
  refine Wl.q (v := Value.bool false) (q_pick (t := true) rfl rfl) ?_
  refine Wl.e (e_store (i := 2) (v := Value.bool false) sz_4 rfl rfl (fun _ _ => rfl) rfl (by simp)) (fun _ _ => ?_)
  refine Wl.imp (L' := (pt r 59 [Value.bool true, Value.string s, Value.int .i64 (((a0 + 1) : Nat) : Int)]) :: (pt rb 31 [Value.pointer (some ⟨r, 0, none⟩)]) :: (pt nb 4 [Value.bool false]) :: F) (fun _ h => h) ?_
  refine Wl.done ?_
  refine Wx.go ?_
  refine Wc.seq ?_
  refine Wc.region ?_
  refine Wl.q (v := Value.bool true) (q_move rfl) ?_
  refine Wl.q (v := Value.bool true) (q_move rfl) ?_
  refine Wl.q (v := Value.int .u8 ((c.toNat : Nat) : Int)) (q_move rfl) ?_
  refine Wl.q (v := Value.bool true) (q_lss (r := true) rfl rfl (decide_eq_true (by omega))) ?_
  refine Wl.q (v := Value.bool true) (q_pick (t := true) rfl rfl) ?_
  refine Wl.e (e_call (F := (pt r 59 [Value.bool true, Value.string s, Value.int .i64 (((a0 + 1) : Nat) : Int)]) :: (pt rb 31 [Value.pointer (some ⟨r, 0, none⟩)]) :: (pt nb 4 [Value.bool false]) :: F) (args := [Value.bool true]) Try.call34 rfl (form_t W0)) (fun _ _ => ?_)
  refine Wl.imp (L' := (pt r 59 [Value.bool true, Value.string s, Value.int .i64 (((a0 + 1) : Nat) : Int)]) :: (pt rb 31 [Value.pointer (some ⟨r, 0, none⟩)]) :: (pt nb 4 [Value.bool false]) :: F) (fun _ h => h) ?_
  refine Wl.q (v := Value.int .i64 0) (q_assign rfl) ?_
  refine Wl.done ?_
  refine Wx.go ?_
  refine Wc.ret ?_
  refine Wx.fin1 rfl (.inl rfl) (fun w hs => ?_)
  exact ⟨(), trivial, rfl, (st_pull [1, 1, 0] (hs))⟩

theorem rflag_zero (W0 : World) (r : Nat) (s : ByteArray) (a0 : Nat) (ha0 : a0 ≤ s.size) (hsz : s.size ≤ 9223372036854775807) (c : UInt8) (hget : s[a0]? = some c) (hat : a0 < s.size)(hc : c.toNat = 0) :
    Con Try.prog W0 24 #[Value.pointer (some ⟨r, 0, none⟩)] [pt r 59 [Value.bool true, Value.string s, Value.int .i64 ((a0 : Nat) : Int)]] (X := Unit) (fun _ => True) (fun _ => .tuple #[Value.bool false, .int .i64 0]) (fun _ => [pt r 59 [Value.bool true, Value.string s, Value.int .i64 (((a0 + 1) : Nat) : Int)]]) := by
  refine Con.of (args := [Value.pointer (some ⟨r, 0, none⟩)]) Try.func24 rfl Try.ntmps24 rfl (fun F => ?_)
  show Wc _ W0 _ _ _ _ _ ((pt r 59 [Value.bool true, Value.string s, Value.int .i64 ((a0 : Nat) : Int)]) :: F)
  refine Wc.seq ?_
  refine Wc.region ?_
  refine Wl.e (e_box (x := .tmp 0) (vs := [Value.pointer (some ⟨r, 0, none⟩)]) rfl) (fun rb _ => ?_)
  refine Wl.imp (L' := (pt rb 31 [Value.pointer (some ⟨r, 0, none⟩)]) :: (pt r 59 [Value.bool true, Value.string s, Value.int .i64 ((a0 : Nat) : Int)]) :: F) (fun _ h => h) ?_
  refine Wl.e (e_alloc (vs := [Value.bool false]) zo_4 rfl) (fun nb _ => ?_)
  refine Wl.imp (L' := (pt nb 4 [Value.bool false]) :: (pt rb 31 [Value.pointer (some ⟨r, 0, none⟩)]) :: (pt r 59 [Value.bool true, Value.string s, Value.int .i64 ((a0 : Nat) : Int)]) :: F) (fun _ h => h) ?_
  refine Wl.q (v := Value.int .i64 0) (q_assign rfl) ?_
  refine Wl.done ?_
  refine Wx.go ?_
  refine Wc.seq ?_
  refine Wc.region ?_
  refine Wl.q (v := Value.pointer (some ⟨r, 0, none⟩)) (q_load sc_31 rfl (.cel (i := 1) rfl rfl)) ?_
  refine Wl.q (v := Value.func (.func 48) #[] #[Value.pointer (some ⟨rb, 0, none⟩), Value.pointer (some ⟨nb, 0, none⟩)]) (q_makeFunc (us := []) (vs := [Value.pointer (some ⟨rb, 0, none⟩), Value.pointer (some ⟨nb, 0, none⟩)]) rfl rfl) ?_
  refine Wl.imp (L' := (pt rb 31 [Value.pointer (some ⟨r, 0, none⟩)]) :: (pt nb 4 [Value.bool false]) :: (pt r 59 [Value.bool true, Value.string s, Value.int .i64 ((a0 : Nat) : Int)]) :: F) (fun _ h => st_pull [1, 0, 0] h) ?_
  refine Wl.e (e_call (F := F) (args := [Value.pointer (some ⟨r, 0, none⟩), Value.func (.func 48) #[] #[Value.pointer (some ⟨rb, 0, none⟩), Value.pointer (some ⟨nb, 0, none⟩)]]) Try.call43 rfl (take_Flag_ok W0 r rb nb s a0 (a0 + 1) (Value.bool false) (Value.bool false) (flag1_zero W0 r rb nb s a0 ha0 hsz c hget hat hc))) (fun _ _ => ?_)
  refine Wl.imp (L' := (pt rb 31 [Value.pointer (some ⟨r, 0, none⟩)]) :: (pt nb 4 [Value.bool false]) :: (pt r 59 [Value.bool true, Value.string s, Value.int .i64 (((a0 + 1) : Nat) : Int)]) :: F) (fun _ h => h) ?_
  refine Wl.q (v := Value.int .i64 0) (q_assign rfl) ?_
  refine Wl.done ?_
  refine Wx.go ?_
  refine Wc.seq ?_
  refine Wc.region ?_
  refine Wl.q (v := Value.bool false) (q_load sc_4 rfl (.cel (i := 1) rfl rfl)) ?_
  refine Wl.q (v := Value.int .i64 0) (q_move rfl) ?_
  refine Wl.e (e_store (i := 1) (v := Value.bool false) sz_4 rfl rfl (fun _ _ => rfl) rfl (by simp)) (fun _ _ => ?_)
  refine Wl.imp (L' := (pt rb 31 [Value.pointer (some ⟨r, 0, none⟩)]) :: (pt nb 4 [Value.bool false]) :: (pt r 59 [Value.bool true, Value.string s, Value.int .i64 (((a0 + 1) : Nat) : Int)]) :: F) (fun _ h => h) ?_
  refine Wl.q (v := Value.int .i64 0) (q_assign rfl) ?_
  refine Wl.done ?_
  refine Wx.go ?_
  refine Wc.ret ?_
  refine Wx.finC2 rfl (.inl rfl) sc_4 rfl (.cel (i := 1) rfl rfl) (fun w hs => ?_)
  exact ⟨(), trivial, rfl, (st_drop (st_drop (st_pull [0, 0] hs)))⟩

theorem flag1_big (W0 : World) (r rb nb : Nat) (s : ByteArray) (a0 : Nat) (ha0 : a0 ≤ s.size) (hsz : s.size ≤ 9223372036854775807) (c : UInt8) (hget : s[a0]? = some c) (hat : a0 < s.size)(hc : 2 ≤ c.toNat) :
    Con Try.prog W0 48 #[Value.pointer (some ⟨rb, 0, none⟩), Value.pointer (some ⟨nb, 0, none⟩)] [pt rb 31 [Value.pointer (some ⟨r, 0, none⟩)], pt nb 4 [Value.bool false], pt r 59 [Value.bool true, Value.string s, Value.int .i64 ((a0 : Nat) : Int)]] (X := Nat) (fun _ => True) (fun _ => .int .i64 4) (fun a => [pt rb 31 [Value.pointer (some ⟨r, 0, none⟩)], pt nb 4 [Value.bool false], pt r 59 [Value.bool true, Value.string s, Value.int .i64 ((a : Nat) : Int)]]) := by
  refine Con.of (args := [Value.pointer (some ⟨rb, 0, none⟩), Value.pointer (some ⟨nb, 0, none⟩)]) Try.func48 rfl Try.ntmps48 rfl (fun F => ?_)
  show Wc _ W0 _ _ _ _ _ ((pt rb 31 [Value.pointer (some ⟨r, 0, none⟩)]) :: (pt nb 4 [Value.bool false]) :: (pt r 59 [Value.bool true, Value.string s, Value.int .i64 ((a0 : Nat) : Int)]) :: F)
  refine Wc.seq ?_
  refine Wc.region ?_
  refine Wl.q (v := Value.int .i64 0) (q_assign rfl) ?_
  refine Wl.done ?_
  refine Wx.go ?_
  refine Wc.seq ?_
  refine Wc.region ?_
  refine Wl.q (v := Value.pointer (some ⟨r, 0, none⟩)) (q_load sc_31 rfl (.cel (i := 0) rfl rfl)) ?_
  refine Wl.imp (L' := (pt r 59 [Value.bool true, Value.string s, Value.int .i64 ((a0 : Nat) : Int)]) :: (pt rb 31 [Value.pointer (some ⟨r, 0, none⟩)]) :: (pt nb 4 [Value.bool false]) :: F) (fun _ h => st_pull [2] h) ?_
  refine Wl.e (e_call (F := (pt rb 31 [Value.pointer (some ⟨r, 0, none⟩)]) :: (pt nb 4 [Value.bool false]) :: F) (args := [Value.pointer (some ⟨r, 0, none⟩)]) Try.call45 rfl (next_ok W0 r s a0 c hget hat hsz)) (fun _ _ => ?_)
  refine Wl.imp (L' := (pt r 59 [Value.bool true, Value.string s, Value.int .i64 (((a0 + 1) : Nat) : Int)]) :: (pt rb 31 [Value.pointer (some ⟨r, 0, none⟩)]) :: (pt nb 4 [Value.bool false]) :: F) (fun _ h => h) ?_
  refine Wl.q (v := Value.tuple #[Value.int .u8 ((c.toNat : Nat) : Int), Value.bool true]) (q_move rfl) ?_
  refine Wl.q (v := Value.int .u8 ((c.toNat : Nat) : Int)) (q_extract (i := 0) rfl rfl) ?_
  refine Wl.q (v := Value.bool true) (q_extract (i := 1) rfl rfl) ?_
  refine Wl.q (v := Value.int .u8 ((c.toNat : Nat) : Int)) (q_assign rfl) ?_
  refine Wl.q (v := Value.bool true) (q_assign rfl) ?_
  refine Wl.done ?_
  refine Wx.go ?_
  refine Wc.seq ?_
  refine Wc.region ?_
  refine Wl.q (v := Value.bool true) (q_move rfl) ?_
  refine Wl.q (v := Value.bool true) (q_move rfl) ?_
  refine Wl.q (v := Value.int .u8 ((c.toNat : Nat) : Int)) (q_move rfl) ?_
  refine Wl.q (v := Value.bool false) (q_eql (r := false) rfl rfl (decide_eq_false (by omega))) ?_
  refine Wl.q (v := Value.bool false) (q_pick (t := true) rfl rfl) ?_
  refine Wl.e (e_store (i := 2) (v := Value.bool false) sz_4 rfl rfl (fun _ _ => rfl) rfl (by simp)) (fun _ _ => ?_)
  refine Wl.imp (L' := (pt r 59 [Value.bool true, Value.string s, Value.int .i64 (((a0 + 1) : Nat) : Int)]) :: (pt rb 31 [Value.pointer (some ⟨r, 0, none⟩)]) :: (pt nb 4 [Value.bool false]) :: F) (fun _ h => h) ?_
  refine Wl.done ?_
  refine Wx.go ?_
  refine Wc.seq ?_
  refine Wc.region ?_
  refine Wl.q (v := Value.bool true) (q_move rfl) ?_
  refine Wl.q (v := Value.bool true) (q_move rfl) ?_
  refine Wl.q (v := Value.int .u8 ((c.toNat : Nat) : Int)) (q_move rfl) ?_
  refine Wl.q (v := Value.bool false) (q_lss (r := false) rfl rfl (decide_eq_false (by omega))) ?_
  refine Wl.q (v := Value.bool false) (q_pick (t := true) rfl rfl) ?_
  refine Wl.e (e_call (F := (pt r 59 [Value.bool true, Value.string s, Value.int .i64 (((a0 + 1) : Nat) : Int)]) :: (pt rb 31 [Value.pointer (some ⟨r, 0, none⟩)]) :: (pt nb 4 [Value.bool false]) :: F) (args := [Value.bool false]) Try.call34 rfl (form_f W0)) (fun _ _ => ?_)
  refine Wl.imp (L' := (pt r 59 [Value.bool true, Value.string s, Value.int .i64 (((a0 + 1) : Nat) : Int)]) :: (pt rb 31 [Value.pointer (some ⟨r, 0, none⟩)]) :: (pt nb 4 [Value.bool false]) :: F) (fun _ h => h) ?_
  refine Wl.q (v := Value.int .i64 4) (q_assign rfl) ?_
  refine Wl.done ?_
  refine Wx.go ?_
  refine Wc.ret ?_
  refine Wx.fin1 rfl (.inl rfl) (fun w hs => ?_)
  exact ⟨(a0 + 1), trivial, rfl, (st_pull [1, 1, 0] (hs))⟩

theorem rflag_big (W0 : World) (r : Nat) (s : ByteArray) (a0 : Nat) (ha0 : a0 ≤ s.size) (hsz : s.size ≤ 9223372036854775807) (c : UInt8) (hget : s[a0]? = some c) (hat : a0 < s.size)(hc : 2 ≤ c.toNat) :
    Con Try.prog W0 24 #[Value.pointer (some ⟨r, 0, none⟩)] [pt r 59 [Value.bool true, Value.string s, Value.int .i64 ((a0 : Nat) : Int)]] (X := Unit) (fun _ => True) (fun _ => .tuple #[Value.bool false, .int .i64 4]) (fun _ => [pt r 59 [Value.bool true, Value.string s, Value.int .i64 ((a0 : Nat) : Int)]]) := by
  refine Con.of (args := [Value.pointer (some ⟨r, 0, none⟩)]) Try.func24 rfl Try.ntmps24 rfl (fun F => ?_)
  show Wc _ W0 _ _ _ _ _ ((pt r 59 [Value.bool true, Value.string s, Value.int .i64 ((a0 : Nat) : Int)]) :: F)
  refine Wc.seq ?_
  refine Wc.region ?_
  refine Wl.e (e_box (x := .tmp 0) (vs := [Value.pointer (some ⟨r, 0, none⟩)]) rfl) (fun rb _ => ?_)
  refine Wl.imp (L' := (pt rb 31 [Value.pointer (some ⟨r, 0, none⟩)]) :: (pt r 59 [Value.bool true, Value.string s, Value.int .i64 ((a0 : Nat) : Int)]) :: F) (fun _ h => h) ?_
  refine Wl.e (e_alloc (vs := [Value.bool false]) zo_4 rfl) (fun nb _ => ?_)
  refine Wl.imp (L' := (pt nb 4 [Value.bool false]) :: (pt rb 31 [Value.pointer (some ⟨r, 0, none⟩)]) :: (pt r 59 [Value.bool true, Value.string s, Value.int .i64 ((a0 : Nat) : Int)]) :: F) (fun _ h => h) ?_
  refine Wl.q (v := Value.int .i64 0) (q_assign rfl) ?_
  refine Wl.done ?_
  refine Wx.go ?_
  refine Wc.seq ?_
  refine Wc.region ?_
  refine Wl.q (v := Value.pointer (some ⟨r, 0, none⟩)) (q_load sc_31 rfl (.cel (i := 1) rfl rfl)) ?_
  refine Wl.q (v := Value.func (.func 48) #[] #[Value.pointer (some ⟨rb, 0, none⟩), Value.pointer (some ⟨nb, 0, none⟩)]) (q_makeFunc (us := []) (vs := [Value.pointer (some ⟨rb, 0, none⟩), Value.pointer (some ⟨nb, 0, none⟩)]) rfl rfl) ?_
  refine Wl.imp (L' := (pt rb 31 [Value.pointer (some ⟨r, 0, none⟩)]) :: (pt nb 4 [Value.bool false]) :: (pt r 59 [Value.bool true, Value.string s, Value.int .i64 ((a0 : Nat) : Int)]) :: F) (fun _ h => st_pull [1, 0, 0] h) ?_
  refine Wl.e (e_call (F := F) (args := [Value.pointer (some ⟨r, 0, none⟩), Value.func (.func 48) #[] #[Value.pointer (some ⟨rb, 0, none⟩), Value.pointer (some ⟨nb, 0, none⟩)]]) Try.call43 rfl (take_Flag_bad W0 r rb nb s a0 (Value.bool false) (flag1_big W0 r rb nb s a0 ha0 hsz c hget hat hc))) (fun _ _ => ?_)
  refine Wl.imp (L' := (pt rb 31 [Value.pointer (some ⟨r, 0, none⟩)]) :: (pt nb 4 [Value.bool false]) :: (pt r 59 [Value.bool true, Value.string s, Value.int .i64 ((a0 : Nat) : Int)]) :: F) (fun _ h => h) ?_
  refine Wl.q (v := Value.int .i64 4) (q_assign rfl) ?_
  refine Wl.done ?_
  refine Wx.go ?_
  refine Wc.seq ?_
  refine Wc.region ?_
  refine Wl.q (v := Value.bool false) (q_load sc_4 rfl (.cel (i := 1) rfl rfl)) ?_
  refine Wl.q (v := Value.int .i64 4) (q_move rfl) ?_
  refine Wl.e (e_store (i := 1) (v := Value.bool false) sz_4 rfl rfl (fun _ _ => rfl) rfl (by simp)) (fun _ _ => ?_)
  refine Wl.imp (L' := (pt rb 31 [Value.pointer (some ⟨r, 0, none⟩)]) :: (pt nb 4 [Value.bool false]) :: (pt r 59 [Value.bool true, Value.string s, Value.int .i64 ((a0 : Nat) : Int)]) :: F) (fun _ h => h) ?_
  refine Wl.q (v := Value.int .i64 4) (q_assign rfl) ?_
  refine Wl.done ?_
  refine Wx.go ?_
  refine Wc.ret ?_
  refine Wx.finC2 rfl (.inl rfl) sc_4 rfl (.cel (i := 1) rfl rfl) (fun w hs => ?_)
  exact ⟨(), trivial, rfl, (st_drop (st_drop (st_pull [0, 0] hs)))⟩

theorem flag1_end (W0 : World) (r rb nb : Nat) (s : ByteArray) (a0 : Nat) (ha0 : a0 ≤ s.size) (hsz : s.size ≤ 9223372036854775807) (hend : a0 = s.size) :
    Con Try.prog W0 48 #[Value.pointer (some ⟨rb, 0, none⟩), Value.pointer (some ⟨nb, 0, none⟩)] [pt rb 31 [Value.pointer (some ⟨r, 0, none⟩)], pt nb 4 [Value.bool false], pt r 59 [Value.bool true, Value.string s, Value.int .i64 ((a0 : Nat) : Int)]] (X := Nat) (fun _ => True) (fun _ => .int .i64 4) (fun a => [pt rb 31 [Value.pointer (some ⟨r, 0, none⟩)], pt nb 4 [Value.bool false], pt r 59 [Value.bool true, Value.string s, Value.int .i64 ((a : Nat) : Int)]]) := by
  refine Con.of (args := [Value.pointer (some ⟨rb, 0, none⟩), Value.pointer (some ⟨nb, 0, none⟩)]) Try.func48 rfl Try.ntmps48 rfl (fun F => ?_)
  show Wc _ W0 _ _ _ _ _ ((pt rb 31 [Value.pointer (some ⟨r, 0, none⟩)]) :: (pt nb 4 [Value.bool false]) :: (pt r 59 [Value.bool true, Value.string s, Value.int .i64 ((a0 : Nat) : Int)]) :: F)
  refine Wc.seq ?_
  refine Wc.region ?_
  refine Wl.q (v := Value.int .i64 0) (q_assign rfl) ?_
  refine Wl.done ?_
  refine Wx.go ?_
  refine Wc.seq ?_
  refine Wc.region ?_
  refine Wl.q (v := Value.pointer (some ⟨r, 0, none⟩)) (q_load sc_31 rfl (.cel (i := 0) rfl rfl)) ?_
  refine Wl.imp (L' := (pt r 59 [Value.bool true, Value.string s, Value.int .i64 ((a0 : Nat) : Int)]) :: (pt rb 31 [Value.pointer (some ⟨r, 0, none⟩)]) :: (pt nb 4 [Value.bool false]) :: F) (fun _ h => st_pull [2] h) ?_
  refine Wl.e (e_call (F := (pt rb 31 [Value.pointer (some ⟨r, 0, none⟩)]) :: (pt nb 4 [Value.bool false]) :: F) (args := [Value.pointer (some ⟨r, 0, none⟩)]) Try.call45 rfl (Con.eqs (val' := fun _ => .tuple #[.int .u8 0, .bool false]) (post' := fun _ => [pt r 59 [Value.bool true, Value.string s, Value.int .i64 ((a0 : Nat) : Int)]]) (hend ▸ next_end W0 r s) (fun _ => rfl) (fun _ => rfl))) (fun _ _ => ?_)
  refine Wl.imp (L' := (pt r 59 [Value.bool true, Value.string s, Value.int .i64 ((a0 : Nat) : Int)]) :: (pt rb 31 [Value.pointer (some ⟨r, 0, none⟩)]) :: (pt nb 4 [Value.bool false]) :: F) (fun _ h => h) ?_
  refine Wl.q (v := Value.tuple #[Value.int .u8 0, Value.bool false]) (q_move rfl) ?_
  refine Wl.q (v := Value.int .u8 0) (q_extract (i := 0) rfl rfl) ?_
  refine Wl.q (v := Value.bool false) (q_extract (i := 1) rfl rfl) ?_
  refine Wl.q (v := Value.int .u8 0) (q_assign rfl) ?_
  refine Wl.q (v := Value.bool false) (q_assign rfl) ?_
  refine Wl.done ?_
  refine Wx.go ?_
  refine Wc.seq ?_
  refine Wc.region ?_
  refine Wl.q (v := Value.bool false) (q_move rfl) ?_
  refine Wl.q (v := Value.bool false) (q_move rfl) ?_
  refine Wl.no ?_
  refine Wl.no ?_
  refine Wl.q (v := Value.bool false) (q_pick (t := false) rfl rfl) ?_
  refine Wl.e (e_store (i := 2) (v := Value.bool false) sz_4 rfl rfl (fun _ _ => rfl) rfl (by simp)) (fun _ _ => ?_)
  refine Wl.imp (L' := (pt r 59 [Value.bool true, Value.string s, Value.int .i64 ((a0 : Nat) : Int)]) :: (pt rb 31 [Value.pointer (some ⟨r, 0, none⟩)]) :: (pt nb 4 [Value.bool false]) :: F) (fun _ h => h) ?_
  refine Wl.done ?_
  refine Wx.go ?_
  refine Wc.seq ?_
  refine Wc.region ?_
  refine Wl.q (v := Value.bool false) (q_move rfl) ?_
  refine Wl.q (v := Value.bool false) (q_move rfl) ?_
  refine Wl.no ?_
  refine Wl.no ?_
  refine Wl.q (v := Value.bool false) (q_pick (t := false) rfl rfl) ?_
  refine Wl.e (e_call (F := (pt r 59 [Value.bool true, Value.string s, Value.int .i64 ((a0 : Nat) : Int)]) :: (pt rb 31 [Value.pointer (some ⟨r, 0, none⟩)]) :: (pt nb 4 [Value.bool false]) :: F) (args := [Value.bool false]) Try.call34 rfl (form_f W0)) (fun _ _ => ?_)
  refine Wl.imp (L' := (pt r 59 [Value.bool true, Value.string s, Value.int .i64 ((a0 : Nat) : Int)]) :: (pt rb 31 [Value.pointer (some ⟨r, 0, none⟩)]) :: (pt nb 4 [Value.bool false]) :: F) (fun _ h => h) ?_
  refine Wl.q (v := Value.int .i64 4) (q_assign rfl) ?_
  refine Wl.done ?_
  refine Wx.go ?_
  refine Wc.ret ?_
  refine Wx.fin1 rfl (.inl rfl) (fun w hs => ?_)
  exact ⟨a0, trivial, rfl, (st_pull [1, 1, 0] (hs))⟩

theorem rflag_end (W0 : World) (r : Nat) (s : ByteArray) (a0 : Nat) (ha0 : a0 ≤ s.size) (hsz : s.size ≤ 9223372036854775807) (hend : a0 = s.size) :
    Con Try.prog W0 24 #[Value.pointer (some ⟨r, 0, none⟩)] [pt r 59 [Value.bool true, Value.string s, Value.int .i64 ((a0 : Nat) : Int)]] (X := Unit) (fun _ => True) (fun _ => .tuple #[Value.bool false, .int .i64 4]) (fun _ => [pt r 59 [Value.bool true, Value.string s, Value.int .i64 ((a0 : Nat) : Int)]]) := by
  refine Con.of (args := [Value.pointer (some ⟨r, 0, none⟩)]) Try.func24 rfl Try.ntmps24 rfl (fun F => ?_)
  show Wc _ W0 _ _ _ _ _ ((pt r 59 [Value.bool true, Value.string s, Value.int .i64 ((a0 : Nat) : Int)]) :: F)
  refine Wc.seq ?_
  refine Wc.region ?_
  refine Wl.e (e_box (x := .tmp 0) (vs := [Value.pointer (some ⟨r, 0, none⟩)]) rfl) (fun rb _ => ?_)
  refine Wl.imp (L' := (pt rb 31 [Value.pointer (some ⟨r, 0, none⟩)]) :: (pt r 59 [Value.bool true, Value.string s, Value.int .i64 ((a0 : Nat) : Int)]) :: F) (fun _ h => h) ?_
  refine Wl.e (e_alloc (vs := [Value.bool false]) zo_4 rfl) (fun nb _ => ?_)
  refine Wl.imp (L' := (pt nb 4 [Value.bool false]) :: (pt rb 31 [Value.pointer (some ⟨r, 0, none⟩)]) :: (pt r 59 [Value.bool true, Value.string s, Value.int .i64 ((a0 : Nat) : Int)]) :: F) (fun _ h => h) ?_
  refine Wl.q (v := Value.int .i64 0) (q_assign rfl) ?_
  refine Wl.done ?_
  refine Wx.go ?_
  refine Wc.seq ?_
  refine Wc.region ?_
  refine Wl.q (v := Value.pointer (some ⟨r, 0, none⟩)) (q_load sc_31 rfl (.cel (i := 1) rfl rfl)) ?_
  refine Wl.q (v := Value.func (.func 48) #[] #[Value.pointer (some ⟨rb, 0, none⟩), Value.pointer (some ⟨nb, 0, none⟩)]) (q_makeFunc (us := []) (vs := [Value.pointer (some ⟨rb, 0, none⟩), Value.pointer (some ⟨nb, 0, none⟩)]) rfl rfl) ?_
  refine Wl.imp (L' := (pt rb 31 [Value.pointer (some ⟨r, 0, none⟩)]) :: (pt nb 4 [Value.bool false]) :: (pt r 59 [Value.bool true, Value.string s, Value.int .i64 ((a0 : Nat) : Int)]) :: F) (fun _ h => st_pull [1, 0, 0] h) ?_
  refine Wl.e (e_call (F := F) (args := [Value.pointer (some ⟨r, 0, none⟩), Value.func (.func 48) #[] #[Value.pointer (some ⟨rb, 0, none⟩), Value.pointer (some ⟨nb, 0, none⟩)]]) Try.call43 rfl (take_Flag_bad W0 r rb nb s a0 (Value.bool false) (flag1_end W0 r rb nb s a0 ha0 hsz hend))) (fun _ _ => ?_)
  refine Wl.imp (L' := (pt rb 31 [Value.pointer (some ⟨r, 0, none⟩)]) :: (pt nb 4 [Value.bool false]) :: (pt r 59 [Value.bool true, Value.string s, Value.int .i64 ((a0 : Nat) : Int)]) :: F) (fun _ h => h) ?_
  refine Wl.q (v := Value.int .i64 4) (q_assign rfl) ?_
  refine Wl.done ?_
  refine Wx.go ?_
  refine Wc.seq ?_
  refine Wc.region ?_
  refine Wl.q (v := Value.bool false) (q_load sc_4 rfl (.cel (i := 1) rfl rfl)) ?_
  refine Wl.q (v := Value.int .i64 4) (q_move rfl) ?_
  refine Wl.e (e_store (i := 1) (v := Value.bool false) sz_4 rfl rfl (fun _ _ => rfl) rfl (by simp)) (fun _ _ => ?_)
  refine Wl.imp (L' := (pt rb 31 [Value.pointer (some ⟨r, 0, none⟩)]) :: (pt nb 4 [Value.bool false]) :: (pt r 59 [Value.bool true, Value.string s, Value.int .i64 ((a0 : Nat) : Int)]) :: F) (fun _ h => h) ?_
  refine Wl.q (v := Value.int .i64 4) (q_assign rfl) ?_
  refine Wl.done ?_
  refine Wx.go ?_
  refine Wc.ret ?_
  refine Wx.finC2 rfl (.inl rfl) sc_4 rfl (.cel (i := 1) rfl rfl) (fun w hs => ?_)
  exact ⟨(), trivial, rfl, (st_drop (st_drop (st_pull [0, 0] hs)))⟩

theorem rlist_bad (W0 : World) (r : Nat) (s : ByteArray) (a0 : Nat) (ha0 : a0 ≤ s.size) (hsz : s.size ≤ 9223372036854775807) (h : takeList s a0 = none) :
    Con Try.prog W0 26 #[Value.pointer (some ⟨r, 0, none⟩)] [pt r 59 [Value.bool true, Value.string s, Value.int .i64 ((a0 : Nat) : Int)]] (X := Unit) (fun _ => True) (fun _ => .tuple #[.int .i64 0, .int .i64 4]) (fun _ => [pt r 59 [Value.bool true, Value.string s, Value.int .i64 ((a0 : Nat) : Int)]]) := by
  unfold takeList at h
  split at h
  · rename_i p hp
    split at h
    · cases h
    · rename_i hr
      by_cases h0 : p.1 < 0
      · exact rlist_neg W0 r s a0 ha0 hsz p.1 p.2 hp h0
      · exact rlist_big W0 r s a0 ha0 hsz p.1 p.2 hp (by omega) (by omega)
  · rename_i hp; exact rlist_none W0 r s a0 ha0 hsz hp

theorem text1_none (W0 : World) (r rb nb : Nat) (s : ByteArray) (a0 : Nat) (ha0 : a0 ≤ s.size) (hsz : s.size ≤ 9223372036854775807) (h : takeList s a0 = none) :
    Con Try.prog W0 49 #[Value.pointer (some ⟨rb, 0, none⟩), Value.pointer (some ⟨nb, 0, none⟩)] [pt rb 31 [Value.pointer (some ⟨r, 0, none⟩)], pt nb 9 ([Value.string (⟨#[]⟩)]), pt r 59 [Value.bool true, Value.string s, Value.int .i64 ((a0 : Nat) : Int)]] (X := Nat) (fun _ => True) (fun _ => .int .i64 4) (fun a => [pt rb 31 [Value.pointer (some ⟨r, 0, none⟩)], pt nb 9 ([Value.string (⟨#[]⟩)]), pt r 59 [Value.bool true, Value.string s, Value.int .i64 ((a : Nat) : Int)]]) := by
  refine Con.of (args := [Value.pointer (some ⟨rb, 0, none⟩), Value.pointer (some ⟨nb, 0, none⟩)]) Try.func49 rfl Try.ntmps49 rfl (fun F => ?_)
  show Wc _ W0 _ _ _ _ _ ((pt rb 31 [Value.pointer (some ⟨r, 0, none⟩)]) :: (pt nb 9 ([Value.string (⟨#[]⟩)])) :: (pt r 59 [Value.bool true, Value.string s, Value.int .i64 ((a0 : Nat) : Int)]) :: F)
  refine Wc.seq ?_
  refine Wc.region ?_
  refine Wl.q (v := Value.int .i64 0) (q_assign rfl) ?_
  refine Wl.done ?_
  refine Wx.go ?_
  refine Wc.seq ?_
  refine Wc.region ?_
  refine Wl.q (v := Value.pointer (some ⟨r, 0, none⟩)) (q_load sc_31 rfl (.cel (i := 0) rfl rfl)) ?_
  refine Wl.imp (L' := (pt r 59 [Value.bool true, Value.string s, Value.int .i64 ((a0 : Nat) : Int)]) :: (pt rb 31 [Value.pointer (some ⟨r, 0, none⟩)]) :: (pt nb 9 ([Value.string (⟨#[]⟩)])) :: F) (fun _ h => st_pull [2] h) ?_
  refine Wl.e (e_call (F := (pt rb 31 [Value.pointer (some ⟨r, 0, none⟩)]) :: (pt nb 9 ([Value.string (⟨#[]⟩)])) :: F) (args := [Value.pointer (some ⟨r, 0, none⟩)]) Try.call26 rfl (rlist_bad W0 r s a0 ha0 hsz h)) (fun _ _ => ?_)
  refine Wl.imp (L' := (pt r 59 [Value.bool true, Value.string s, Value.int .i64 ((a0 : Nat) : Int)]) :: (pt rb 31 [Value.pointer (some ⟨r, 0, none⟩)]) :: (pt nb 9 ([Value.string (⟨#[]⟩)])) :: F) (fun _ h => h) ?_
  refine Wl.q (v := Value.tuple #[Value.int .i64 0, Value.int .i64 4]) (q_move rfl) ?_
  refine Wl.q (v := Value.int .i64 0) (q_extract (i := 0) rfl rfl) ?_
  refine Wl.q (v := Value.int .i64 4) (q_extract (i := 1) rfl rfl) ?_
  refine Wl.q (v := Value.int .i64 0) (q_assign rfl) ?_
  refine Wl.q (v := Value.int .i64 4) (q_assign rfl) ?_
  refine Wl.done ?_
  refine Wx.go ?_
  refine Wc.seq ?_
  refine Wc.seq ?_
  refine Wc.drawsS [] ((pt r 59 [Value.bool true, Value.string s, Value.int .i64 ((a0 : Nat) : Int)]) :: (pt rb 31 [Value.pointer (some ⟨r, 0, none⟩)]) :: (pt nb 9 ([Value.string (⟨#[]⟩)])) :: []) (by kernel_rfl) ?_
  refine Wr.pure (v := Value.int .i64 4) 0 rfl (by kernel_rfl) (.inr (fun _ h => st_take [0, 0, 0] h)) (.inl ⟨rfl, fun _ => q_move rfl⟩) ?_
  refine Wr.pure (v := Value.bool true) 1 rfl (by kernel_rfl) (.inr (fun _ h => st_take [0, 0, 0] h)) (.inl ⟨rfl, fun _ => q_neq (r := false) rfl rfl (decide_eq_false (by decide))⟩) ?_
  refine Wr.pure (v := Value.bool true) 2 rfl (by kernel_rfl) (.inr (fun _ h => st_take [0, 0, 0] h)) (.inl ⟨rfl, fun _ => q_move rfl⟩) ?_
  refine Wr.pure (v := undef) 3 rfl (by kernel_rfl) (.inr (fun _ h => st_take [0, 0, 0] h)) (.inr ⟨rfl, rfl⟩) ?_
  refine Wr.pure (v := undef) 4 rfl (by kernel_rfl) (.inr (fun _ h => st_take [0, 0, 0] h)) (.inr ⟨rfl, rfl⟩) ?_
  refine Wr.pure (v := undef) 5 rfl (by kernel_rfl) (.inr (fun _ h => st_take [0, 0, 0] h)) (.inr ⟨rfl, rfl⟩) ?_
  refine Wr.pure (v := undef) 6 rfl (by kernel_rfl) (.inr (fun _ h => st_take [0, 0, 0] h)) (.inr ⟨rfl, rfl⟩) ?_
  refine Wr.pure (v := undef) 7 rfl (by kernel_rfl) (.inr (fun _ h => st_take [0, 0, 0] h)) (.inr ⟨rfl, rfl⟩) ?_
  refine Wr.pure (v := undef) 8 rfl (by kernel_rfl) (.inr (fun _ h => st_take [0, 0, 0] h)) (.inr ⟨rfl, rfl⟩) ?_
  refine Wr.pure (v := undef) 9 rfl (by kernel_rfl) (.inr (fun _ h => st_take [0, 0, 0] h)) (.inr ⟨rfl, rfl⟩) ?_
  refine Wr.pure (v := undef) 10 rfl (by kernel_rfl) (.inr (fun _ h => st_take [0, 0, 0] h)) (.inr ⟨rfl, rfl⟩) ?_
  refine Wr.pure (v := undef) 11 rfl (by kernel_rfl) (.inr (fun _ h => st_take [0, 0, 0] h)) (.inr ⟨rfl, rfl⟩) ?_
  refine Wr.pure (v := undef) 12 rfl (by kernel_rfl) (.inr (fun _ h => st_take [0, 0, 0] h)) (.inr ⟨rfl, rfl⟩) ?_
  refine Wr.pure (v := undef) 13 rfl (by kernel_rfl) (.inr (fun _ h => st_take [0, 0, 0] h)) (.inr ⟨rfl, rfl⟩) ?_
  refine Wr.pure (v := undef) 14 rfl (by kernel_rfl) (.inr (fun _ h => st_take [0, 0, 0] h)) (.inr ⟨rfl, rfl⟩) ?_
  refine Wr.pure (v := Value.bool true) 15 rfl (by kernel_rfl) (.inr (fun _ h => st_take [0, 0, 0] h)) (.inl ⟨rfl, fun _ => q_pick (t := true) rfl rfl⟩) ?_
  refine Wr.done (by kernel_rfl) ?_
  refine Wx.go ?_
  refine Wc.yes rfl ?_
  refine Wc.seq ?_
  refine Wc.region ?_
  refine Wl.q (v := Value.int .i64 4) (q_assign rfl) ?_
  refine Wl.done ?_
  refine Wx.go ?_
  refine Wc.ret ?_
  refine Wx.thenRet ?_
  refine Wx.fin1 rfl (.inl rfl) (fun w hs => ?_)
  exact ⟨a0, trivial, rfl, (st_pull [1, 1, 0] (hs))⟩

theorem text1_long (W0 : World) (r rb nb : Nat) (s : ByteArray) (a0 : Nat) (ha0 : a0 ≤ s.size) (hsz : s.size ≤ 9223372036854775807) (n a : Nat) (htk : takeNum s a0 = some ((n : Int), a)) (hn : n ≤ 65536) (ha : a ≤ s.size) (hna : ¬ a + n ≤ s.size) :
    Con Try.prog W0 49 #[Value.pointer (some ⟨rb, 0, none⟩), Value.pointer (some ⟨nb, 0, none⟩)] [pt rb 31 [Value.pointer (some ⟨r, 0, none⟩)], pt nb 9 ([Value.string (⟨#[]⟩)]), pt r 59 [Value.bool true, Value.string s, Value.int .i64 ((a0 : Nat) : Int)]] (X := Nat) (fun _ => True) (fun _ => .int .i64 4) (fun a => [pt rb 31 [Value.pointer (some ⟨r, 0, none⟩)], pt nb 9 ([Value.string (⟨#[]⟩)]), pt r 59 [Value.bool true, Value.string s, Value.int .i64 ((a : Nat) : Int)]]) := by
  refine Con.of (args := [Value.pointer (some ⟨rb, 0, none⟩), Value.pointer (some ⟨nb, 0, none⟩)]) Try.func49 rfl Try.ntmps49 rfl (fun F => ?_)
  show Wc _ W0 _ _ _ _ _ ((pt rb 31 [Value.pointer (some ⟨r, 0, none⟩)]) :: (pt nb 9 ([Value.string (⟨#[]⟩)])) :: (pt r 59 [Value.bool true, Value.string s, Value.int .i64 ((a0 : Nat) : Int)]) :: F)
  refine Wc.seq ?_
  refine Wc.region ?_
  refine Wl.q (v := Value.int .i64 0) (q_assign rfl) ?_
  refine Wl.done ?_
  refine Wx.go ?_
  refine Wc.seq ?_
  refine Wc.region ?_
  refine Wl.q (v := Value.pointer (some ⟨r, 0, none⟩)) (q_load sc_31 rfl (.cel (i := 0) rfl rfl)) ?_
  refine Wl.imp (L' := (pt r 59 [Value.bool true, Value.string s, Value.int .i64 ((a0 : Nat) : Int)]) :: (pt rb 31 [Value.pointer (some ⟨r, 0, none⟩)]) :: (pt nb 9 ([Value.string (⟨#[]⟩)])) :: F) (fun _ h => st_pull [2] h) ?_
  refine Wl.e (e_call (F := (pt rb 31 [Value.pointer (some ⟨r, 0, none⟩)]) :: (pt nb 9 ([Value.string (⟨#[]⟩)])) :: F) (args := [Value.pointer (some ⟨r, 0, none⟩)]) Try.call26 rfl (rlist_ok W0 r s a0 ha0 hsz (n : Int) a htk (by omega) (by omega))) (fun _ _ => ?_)
  refine Wl.imp (L' := (pt r 59 [Value.bool true, Value.string s, Value.int .i64 ((a : Nat) : Int)]) :: (pt rb 31 [Value.pointer (some ⟨r, 0, none⟩)]) :: (pt nb 9 ([Value.string (⟨#[]⟩)])) :: F) (fun _ h => h) ?_
  refine Wl.q (v := Value.tuple #[Value.int .i64 ((n : Nat) : Int), Value.int .i64 0]) (q_move rfl) ?_
  refine Wl.q (v := Value.int .i64 ((n : Nat) : Int)) (q_extract (i := 0) rfl rfl) ?_
  refine Wl.q (v := Value.int .i64 0) (q_extract (i := 1) rfl rfl) ?_
  refine Wl.q (v := Value.int .i64 ((n : Nat) : Int)) (q_assign rfl) ?_
  refine Wl.q (v := Value.int .i64 0) (q_assign rfl) ?_
  refine Wl.done ?_
  refine Wx.go ?_
  refine Wc.seq ?_
  refine Wc.seq ?_
  refine Wc.drawsS [] ((pt r 59 [Value.bool true, Value.string s, Value.int .i64 ((a : Nat) : Int)]) :: (pt rb 31 [Value.pointer (some ⟨r, 0, none⟩)]) :: (pt nb 9 ([Value.string (⟨#[]⟩)])) :: []) (by kernel_rfl) ?_
  refine Wr.pure (v := Value.int .i64 0) 0 rfl (by kernel_rfl) (.inr (fun _ h => st_take [0, 0, 0] h)) (.inl ⟨rfl, fun _ => q_move rfl⟩) ?_
  refine Wr.pure (v := Value.bool false) 1 rfl (by kernel_rfl) (.inr (fun _ h => st_take [0, 0, 0] h)) (.inl ⟨rfl, fun _ => q_neq (r := true) rfl rfl (decide_eq_true (by decide))⟩) ?_
  refine Wr.pure (v := Value.bool false) 2 rfl (by kernel_rfl) (.inr (fun _ h => st_take [0, 0, 0] h)) (.inl ⟨rfl, fun _ => q_move rfl⟩) ?_
  refine Wr.pure (v := Value.int .i64 ((n : Nat) : Int)) 3 rfl (by kernel_rfl) (.inr (fun _ h => st_take [0, 0, 0] h)) (.inl ⟨rfl, fun _ => q_move rfl⟩) ?_
  refine Wr.take (v := Value.pointer (some ⟨r, 0, none⟩)) 4 rfl (by kernel_rfl) (fun _ h => st_take [0, 0, 0] h) (.inl ⟨rfl, q_load sc_31 rfl (.cel (i := 1) rfl rfl)⟩) ?_
  refine Wr.pure (v := Value.pointer (some ⟨r, 0, none⟩)) 5 rfl (by kernel_rfl) (.inr (fun _ h => st_take [0, 0, 0] h)) (.inl ⟨rfl, fun _ => q_nil_ptr rfl⟩) ?_
  refine Wr.pure (v := Value.pointer (some ⟨r, 1, none⟩)) 6 rfl (by kernel_rfl) (.inr (fun _ h => st_take [0, 0, 0] h)) (.inl ⟨rfl, fun _ => q_field (m := 1) fo_59_1 rfl rfl⟩) ?_
  refine Wr.take (v := Value.string s) 7 rfl (by kernel_rfl) (fun _ h => st_take [0, 0, 0] h) (.inl ⟨rfl, q_load sc_9 rfl (.cel (i := 0) rfl rfl)⟩) ?_
  refine Wr.take (v := Value.int .i64 ((s.size : Nat) : Int)) 8 rfl (by kernel_rfl) (fun _ h => st_take [0, 0, 0] h) (.inl ⟨rfl, q_len_str Try.underlying9 rfl⟩) ?_
  refine Wr.take (v := Value.pointer (some ⟨r, 0, none⟩)) 9 rfl (by kernel_rfl) (fun _ h => st_take [0, 0, 0] h) (.inl ⟨rfl, q_load sc_31 rfl (.cel (i := 1) rfl rfl)⟩) ?_
  refine Wr.pure (v := Value.pointer (some ⟨r, 0, none⟩)) 10 rfl (by kernel_rfl) (.inr (fun _ h => st_take [0, 0, 0] h)) (.inl ⟨rfl, fun _ => q_nil_ptr rfl⟩) ?_
  refine Wr.pure (v := Value.pointer (some ⟨r, 2, none⟩)) 11 rfl (by kernel_rfl) (.inr (fun _ h => st_take [0, 0, 0] h)) (.inl ⟨rfl, fun _ => q_field (m := 2) fo_59_2 rfl rfl⟩) ?_
  refine Wr.take (v := Value.int .i64 ((a : Nat) : Int)) 12 rfl (by kernel_rfl) (fun _ h => st_take [0, 0, 0] h) (.inl ⟨rfl, q_load sc_3 rfl (.cel (i := 0) rfl rfl)⟩) ?_
  refine Wr.pure (v := Value.int .i64 (((s.size : Nat) : Int) - ((a : Nat) : Int))) 13 rfl (by kernel_rfl) (.inr (fun _ h => st_take [0, 0, 0] h)) (.inl ⟨rfl, fun _ => q_sub (c := (((s.size : Nat) : Int) - ((a : Nat) : Int))) rfl rfl (wrap_i64 (by omega) (by omega))⟩) ?_
  refine Wr.pure (v := Value.bool true) 14 rfl (by kernel_rfl) (.inr (fun _ h => st_take [0, 0, 0] h)) (.inl ⟨rfl, fun _ => q_gtr (r := true) rfl rfl (decide_eq_true (by omega))⟩) ?_
  refine Wr.pure (v := Value.bool true) 15 rfl (by kernel_rfl) (.inr (fun _ h => st_take [0, 0, 0] h)) (.inl ⟨rfl, fun _ => q_pick (t := false) rfl rfl⟩) ?_
  refine Wr.done (by kernel_rfl) ?_
  refine Wx.go ?_
  refine Wc.yes rfl ?_
  refine Wc.seq ?_
  refine Wc.region ?_
  refine Wl.q (v := Value.int .i64 4) (q_assign rfl) ?_
  refine Wl.done ?_
  refine Wx.go ?_
  refine Wc.ret ?_
  refine Wx.thenRet ?_
  refine Wx.fin1 rfl (.inl rfl) (fun w hs => ?_)
  exact ⟨a, trivial, rfl, (st_pull [1, 1, 0] (hs))⟩

theorem rtext_none (W0 : World) (r : Nat) (s : ByteArray) (a0 : Nat) (ha0 : a0 ≤ s.size) (hsz : s.size ≤ 9223372036854775807) (h : takeList s a0 = none) :
    Con Try.prog W0 25 #[Value.pointer (some ⟨r, 0, none⟩)] [pt r 59 [Value.bool true, Value.string s, Value.int .i64 ((a0 : Nat) : Int)]] (X := Unit) (fun _ => True) (fun _ => .tuple #[Value.string (⟨#[]⟩), .int .i64 4]) (fun _ => [pt r 59 [Value.bool true, Value.string s, Value.int .i64 ((a0 : Nat) : Int)]]) := by
  refine Con.of (args := [Value.pointer (some ⟨r, 0, none⟩)]) Try.func25 rfl Try.ntmps25 rfl (fun F => ?_)
  show Wc _ W0 _ _ _ _ _ ((pt r 59 [Value.bool true, Value.string s, Value.int .i64 ((a0 : Nat) : Int)]) :: F)
  refine Wc.seq ?_
  refine Wc.region ?_
  refine Wl.e (e_box (x := .tmp 0) (vs := [Value.pointer (some ⟨r, 0, none⟩)]) rfl) (fun rb _ => ?_)
  refine Wl.imp (L' := (pt rb 31 [Value.pointer (some ⟨r, 0, none⟩)]) :: (pt r 59 [Value.bool true, Value.string s, Value.int .i64 ((a0 : Nat) : Int)]) :: F) (fun _ h => h) ?_
  refine Wl.e (e_alloc (vs := [Value.string (⟨#[]⟩)]) zo_9 rfl) (fun nb _ => ?_)
  refine Wl.imp (L' := (pt nb 9 ([Value.string (⟨#[]⟩)])) :: (pt rb 31 [Value.pointer (some ⟨r, 0, none⟩)]) :: (pt r 59 [Value.bool true, Value.string s, Value.int .i64 ((a0 : Nat) : Int)]) :: F) (fun _ h => h) ?_
  refine Wl.q (v := Value.int .i64 0) (q_assign rfl) ?_
  refine Wl.done ?_
  refine Wx.go ?_
  refine Wc.seq ?_
  refine Wc.region ?_
  refine Wl.q (v := Value.pointer (some ⟨r, 0, none⟩)) (q_load sc_31 rfl (.cel (i := 1) rfl rfl)) ?_
  refine Wl.q (v := Value.func (.func 49) #[] #[Value.pointer (some ⟨rb, 0, none⟩), Value.pointer (some ⟨nb, 0, none⟩)]) (q_makeFunc (us := []) (vs := [Value.pointer (some ⟨rb, 0, none⟩), Value.pointer (some ⟨nb, 0, none⟩)]) rfl rfl) ?_
  refine Wl.imp (L' := (pt rb 31 [Value.pointer (some ⟨r, 0, none⟩)]) :: (pt nb 9 ([Value.string (⟨#[]⟩)])) :: (pt r 59 [Value.bool true, Value.string s, Value.int .i64 ((a0 : Nat) : Int)]) :: F) (fun _ h => st_pull [1, 0, 0] h) ?_
  refine Wl.e (e_call (F := F) (args := [Value.pointer (some ⟨r, 0, none⟩), Value.func (.func 49) #[] #[Value.pointer (some ⟨rb, 0, none⟩), Value.pointer (some ⟨nb, 0, none⟩)]]) Try.call43 rfl (take_Text_bad W0 r rb nb s a0 (Value.string (⟨#[]⟩)) (text1_none W0 r rb nb s a0 ha0 hsz h))) (fun _ _ => ?_)
  refine Wl.imp (L' := (pt rb 31 [Value.pointer (some ⟨r, 0, none⟩)]) :: (pt nb 9 ([Value.string (⟨#[]⟩)])) :: (pt r 59 [Value.bool true, Value.string s, Value.int .i64 ((a0 : Nat) : Int)]) :: F) (fun _ h => h) ?_
  refine Wl.q (v := Value.int .i64 4) (q_assign rfl) ?_
  refine Wl.done ?_
  refine Wx.go ?_
  refine Wc.seq ?_
  refine Wc.region ?_
  refine Wl.q (v := Value.string (⟨#[]⟩)) (q_load sc_9 rfl (.cel (i := 1) rfl rfl)) ?_
  refine Wl.q (v := Value.int .i64 4) (q_move rfl) ?_
  refine Wl.e (e_store (i := 1) (v := Value.string (⟨#[]⟩)) sz_9 rfl rfl (fun _ _ => rfl) rfl (by simp)) (fun _ _ => ?_)
  refine Wl.imp (L' := (pt rb 31 [Value.pointer (some ⟨r, 0, none⟩)]) :: (pt nb 9 ([Value.string (⟨#[]⟩)])) :: (pt r 59 [Value.bool true, Value.string s, Value.int .i64 ((a0 : Nat) : Int)]) :: F) (fun _ h => h) ?_
  refine Wl.q (v := Value.int .i64 4) (q_assign rfl) ?_
  refine Wl.done ?_
  refine Wx.go ?_
  refine Wc.ret ?_
  refine Wx.finC2 rfl (.inl rfl) sc_9 rfl (.cel (i := 1) rfl rfl) (fun w hs => ?_)
  exact ⟨(), trivial, rfl, (st_drop (st_drop (st_pull [0, 0] hs)))⟩

theorem rtext_long (W0 : World) (r : Nat) (s : ByteArray) (a0 : Nat) (ha0 : a0 ≤ s.size) (hsz : s.size ≤ 9223372036854775807) (n a : Nat) (htk : takeNum s a0 = some ((n : Int), a)) (hn : n ≤ 65536) (ha : a ≤ s.size) (hna : ¬ a + n ≤ s.size) :
    Con Try.prog W0 25 #[Value.pointer (some ⟨r, 0, none⟩)] [pt r 59 [Value.bool true, Value.string s, Value.int .i64 ((a0 : Nat) : Int)]] (X := Unit) (fun _ => True) (fun _ => .tuple #[Value.string (⟨#[]⟩), .int .i64 4]) (fun _ => [pt r 59 [Value.bool true, Value.string s, Value.int .i64 ((a0 : Nat) : Int)]]) := by
  refine Con.of (args := [Value.pointer (some ⟨r, 0, none⟩)]) Try.func25 rfl Try.ntmps25 rfl (fun F => ?_)
  show Wc _ W0 _ _ _ _ _ ((pt r 59 [Value.bool true, Value.string s, Value.int .i64 ((a0 : Nat) : Int)]) :: F)
  refine Wc.seq ?_
  refine Wc.region ?_
  refine Wl.e (e_box (x := .tmp 0) (vs := [Value.pointer (some ⟨r, 0, none⟩)]) rfl) (fun rb _ => ?_)
  refine Wl.imp (L' := (pt rb 31 [Value.pointer (some ⟨r, 0, none⟩)]) :: (pt r 59 [Value.bool true, Value.string s, Value.int .i64 ((a0 : Nat) : Int)]) :: F) (fun _ h => h) ?_
  refine Wl.e (e_alloc (vs := [Value.string (⟨#[]⟩)]) zo_9 rfl) (fun nb _ => ?_)
  refine Wl.imp (L' := (pt nb 9 ([Value.string (⟨#[]⟩)])) :: (pt rb 31 [Value.pointer (some ⟨r, 0, none⟩)]) :: (pt r 59 [Value.bool true, Value.string s, Value.int .i64 ((a0 : Nat) : Int)]) :: F) (fun _ h => h) ?_
  refine Wl.q (v := Value.int .i64 0) (q_assign rfl) ?_
  refine Wl.done ?_
  refine Wx.go ?_
  refine Wc.seq ?_
  refine Wc.region ?_
  refine Wl.q (v := Value.pointer (some ⟨r, 0, none⟩)) (q_load sc_31 rfl (.cel (i := 1) rfl rfl)) ?_
  refine Wl.q (v := Value.func (.func 49) #[] #[Value.pointer (some ⟨rb, 0, none⟩), Value.pointer (some ⟨nb, 0, none⟩)]) (q_makeFunc (us := []) (vs := [Value.pointer (some ⟨rb, 0, none⟩), Value.pointer (some ⟨nb, 0, none⟩)]) rfl rfl) ?_
  refine Wl.imp (L' := (pt rb 31 [Value.pointer (some ⟨r, 0, none⟩)]) :: (pt nb 9 ([Value.string (⟨#[]⟩)])) :: (pt r 59 [Value.bool true, Value.string s, Value.int .i64 ((a0 : Nat) : Int)]) :: F) (fun _ h => st_pull [1, 0, 0] h) ?_
  refine Wl.e (e_call (F := F) (args := [Value.pointer (some ⟨r, 0, none⟩), Value.func (.func 49) #[] #[Value.pointer (some ⟨rb, 0, none⟩), Value.pointer (some ⟨nb, 0, none⟩)]]) Try.call43 rfl (take_Text_bad W0 r rb nb s a0 (Value.string (⟨#[]⟩)) (text1_long W0 r rb nb s a0 ha0 hsz n a htk hn ha hna))) (fun _ _ => ?_)
  refine Wl.imp (L' := (pt rb 31 [Value.pointer (some ⟨r, 0, none⟩)]) :: (pt nb 9 ([Value.string (⟨#[]⟩)])) :: (pt r 59 [Value.bool true, Value.string s, Value.int .i64 ((a0 : Nat) : Int)]) :: F) (fun _ h => h) ?_
  refine Wl.q (v := Value.int .i64 4) (q_assign rfl) ?_
  refine Wl.done ?_
  refine Wx.go ?_
  refine Wc.seq ?_
  refine Wc.region ?_
  refine Wl.q (v := Value.string (⟨#[]⟩)) (q_load sc_9 rfl (.cel (i := 1) rfl rfl)) ?_
  refine Wl.q (v := Value.int .i64 4) (q_move rfl) ?_
  refine Wl.e (e_store (i := 1) (v := Value.string (⟨#[]⟩)) sz_9 rfl rfl (fun _ _ => rfl) rfl (by simp)) (fun _ _ => ?_)
  refine Wl.imp (L' := (pt rb 31 [Value.pointer (some ⟨r, 0, none⟩)]) :: (pt nb 9 ([Value.string (⟨#[]⟩)])) :: (pt r 59 [Value.bool true, Value.string s, Value.int .i64 ((a0 : Nat) : Int)]) :: F) (fun _ h => h) ?_
  refine Wl.q (v := Value.int .i64 4) (q_assign rfl) ?_
  refine Wl.done ?_
  refine Wx.go ?_
  refine Wc.ret ?_
  refine Wx.finC2 rfl (.inl rfl) sc_9 rfl (.cel (i := 1) rfl rfl) (fun w hs => ?_)
  exact ⟨(), trivial, rfl, (st_drop (st_drop (st_pull [0, 0] hs)))⟩

theorem rbyte_c (W0 : World) (r : Nat) (s : ByteArray) (a0 : Nat) (ha0 : a0 ≤ s.size) (hsz : s.size ≤ 9223372036854775807) :
    Con Try.prog W0 22 #[Value.pointer (some ⟨r, 0, none⟩)] [pt r 59 [Value.bool true, Value.string s, Value.int .i64 ((a0 : Nat) : Int)]] (X := Unit) (fun _ => True) (fun _ => .tuple #[.int .i64 ((gv 0 (takeByte s a0) : Nat) : Int), .int .i64 (ge (takeByte s a0))]) (fun _ => [pt r 59 [Value.bool true, Value.string s, Value.int .i64 (((gn a0 (takeByte s a0)) : Nat) : Int)]]) := by
  rcases h : s[a0]? with _ | c
  · rw [show takeByte s a0 = none from by simp [takeByte, h]]; exact rbyte_bad W0 r s a0 ha0 hsz (by have := get_none h; omega)
  · rw [show takeByte s a0 = some (c.toNat, a0 + 1) from by simp [takeByte, h]]; exact rbyte_ok W0 r s a0 ha0 hsz c h (get_lt h)

theorem rnumber_c (W0 : World) (r : Nat) (s : ByteArray) (a0 : Nat) (ha0 : a0 ≤ s.size) (hsz : s.size ≤ 9223372036854775807) :
    Con Try.prog W0 23 #[Value.pointer (some ⟨r, 0, none⟩)] [pt r 59 [Value.bool true, Value.string s, Value.int .i64 ((a0 : Nat) : Int)]] (X := Unit) (fun _ => True) (fun _ => .tuple #[.int .i64 (gv 0 (takeNum s a0)), .int .i64 (ge (takeNum s a0))]) (fun _ => [pt r 59 [Value.bool true, Value.string s, Value.int .i64 (((gn a0 (takeNum s a0)) : Nat) : Int)]]) := by
  rcases h : takeNum s a0 with _ | ⟨v, a⟩
  · exact rnumber_bad W0 r s a0 ha0 hsz h
  · exact rnumber_ok W0 r s a0 ha0 hsz v a h

theorem rflag_c (W0 : World) (r : Nat) (s : ByteArray) (a0 : Nat) (ha0 : a0 ≤ s.size) (hsz : s.size ≤ 9223372036854775807) :
    Con Try.prog W0 24 #[Value.pointer (some ⟨r, 0, none⟩)] [pt r 59 [Value.bool true, Value.string s, Value.int .i64 ((a0 : Nat) : Int)]] (X := Unit) (fun _ => True) (fun _ => .tuple #[.bool (gv false (takeFlag s a0)), .int .i64 (ge (takeFlag s a0))]) (fun _ => [pt r 59 [Value.bool true, Value.string s, Value.int .i64 (((gn a0 (takeFlag s a0)) : Nat) : Int)]]) := by
  rcases h : s[a0]? with _ | c
  · rw [show takeFlag s a0 = none from by simp [takeFlag, h]]; exact rflag_end W0 r s a0 ha0 hsz (by have := get_none h; omega)
  by_cases h1 : c.toNat = 1
  · rw [show takeFlag s a0 = some (true, a0 + 1) from by simp [takeFlag, h, h1]]; exact rflag_one W0 r s a0 ha0 hsz c h (get_lt h) h1
  by_cases h0 : c.toNat = 0
  · rw [show takeFlag s a0 = some (false, a0 + 1) from by simp [takeFlag, h, h0]]; exact rflag_zero W0 r s a0 ha0 hsz c h (get_lt h) h0
  · rw [show takeFlag s a0 = none from by simp [takeFlag, h]; omega]; exact rflag_big W0 r s a0 ha0 hsz c h (get_lt h) (by omega)

theorem rlist_c (W0 : World) (r : Nat) (s : ByteArray) (a0 : Nat) (ha0 : a0 ≤ s.size) (hsz : s.size ≤ 9223372036854775807) :
    Con Try.prog W0 26 #[Value.pointer (some ⟨r, 0, none⟩)] [pt r 59 [Value.bool true, Value.string s, Value.int .i64 ((a0 : Nat) : Int)]] (X := Unit) (fun _ => True) (fun _ => .tuple #[.int .i64 ((gv 0 (takeList s a0) : Nat) : Int), .int .i64 (ge (takeList s a0))]) (fun _ => [pt r 59 [Value.bool true, Value.string s, Value.int .i64 (((gn a0 (takeList s a0)) : Nat) : Int)]]) := by
  rcases h : takeList s a0 with _ | ⟨n, a⟩
  · exact rlist_bad W0 r s a0 ha0 hsz h
  · have := takeList_le h; simp only at this; exact rlist_ok W0 r s a0 ha0 hsz (n : Int) a (takeList_of h) (by omega) (by omega)

theorem rtext_c (W0 : World) (r : Nat) (s : ByteArray) (a0 : Nat) (ha0 : a0 ≤ s.size) (hsz : s.size ≤ 9223372036854775807) :
    Con Try.prog W0 25 #[Value.pointer (some ⟨r, 0, none⟩)] [pt r 59 [Value.bool true, Value.string s, Value.int .i64 ((a0 : Nat) : Int)]] (X := Unit) (fun _ => True) (fun _ => .tuple #[.string (gv ⟨#[]⟩ (takeText s a0)), .int .i64 (ge (takeText s a0))]) (fun _ => [pt r 59 [Value.bool true, Value.string s, Value.int .i64 (((gn a0 (takeText s a0)) : Nat) : Int)]]) := by
  rcases h : takeList s a0 with _ | ⟨n, a⟩
  · rw [show takeText s a0 = none from by simp [takeText, h]]; exact rtext_none W0 r s a0 ha0 hsz h
  have hl := takeList_le h
  simp only at hl
  by_cases h1 : a + n ≤ s.size
  · rw [show takeText s a0 = some (s.extract a (a + n), a + n) from by simp [takeText, h, h1]]; exact rtext_ok W0 r s a0 ha0 hsz n a (takeList_of h) (by omega) h1
  · rw [show takeText s a0 = none from by simp [takeText, h, h1]]; exact rtext_long W0 r s a0 ha0 hsz n a (takeList_of h) (by omega) (by omega) h1

theorem tbyte_bad (W0 : World) (s : ByteArray) (a0 : Nat) (ha0 : a0 ≤ s.size) (hsz : s.size ≤ 9223372036854775807) (hend : a0 = s.size) :
    Con Try.prog W0 29 #[Value.string s, Value.int .i64 ((a0 : Nat) : Int)] [] (X := Unit) (fun _ => True) (fun _ => .tuple #[.int .i64 0, .int .i64 ((a0 : Nat) : Int), .int .i64 4]) (fun _ => []) := by
  refine Con.of (args := [Value.string s, Value.int .i64 ((a0 : Nat) : Int)]) Try.func29 rfl Try.ntmps29 rfl (fun F => ?_)
  show Wc _ W0 _ _ _ _ _ (F)
  refine Wc.seq ?_
  refine Wc.region ?_
  refine Wl.q (v := Value.int .i64 0) (q_assign rfl) ?_
  refine Wl.q (v := Value.int .i64 0) (q_assign rfl) ?_
  refine Wl.q (v := Value.int .i64 0) (q_assign rfl) ?_
  refine Wl.done ?_
  refine Wx.go ?_
  refine Wc.seq ?_
  refine Wc.seq ?_
  refine Wc.region ?_
  refine Wl.q (v := Value.int .i64 ((a0 : Nat) : Int)) (q_move rfl) ?_
  refine Wl.q (v := Value.string s) (q_move rfl) ?_
  refine Wl.q (v := Value.int .i64 ((s.size : Nat) : Int)) (q_len_str Try.underlying9 rfl) ?_
  refine Wl.q (v := Value.bool true) (q_geq (r := true) rfl rfl (decide_eq_true (by omega))) ?_
  refine Wl.done ?_
  refine Wx.go ?_
  refine Wc.yes rfl ?_
  refine Wc.seq ?_
  refine Wc.region ?_
  refine Wl.q (v := Value.int .i64 ((a0 : Nat) : Int)) (q_move rfl) ?_
  refine Wl.q (v := Value.int .i64 0) (q_assign rfl) ?_
  refine Wl.q (v := Value.int .i64 ((a0 : Nat) : Int)) (q_assign rfl) ?_
  refine Wl.q (v := Value.int .i64 4) (q_assign rfl) ?_
  refine Wl.done ?_
  refine Wx.go ?_
  refine Wc.ret ?_
  refine Wx.thenRet ?_
  refine Wx.fin3 rfl (.inl rfl) (fun w hs => ?_)
  exact ⟨(), trivial, rfl, hs⟩

theorem tbyte_ok (W0 : World) (s : ByteArray) (a0 : Nat) (ha0 : a0 ≤ s.size) (hsz : s.size ≤ 9223372036854775807) (c : UInt8) (hget : s[a0]? = some c) (hat : a0 < s.size) :
    Con Try.prog W0 29 #[Value.string s, Value.int .i64 ((a0 : Nat) : Int)] [] (X := Unit) (fun _ => True) (fun _ => .tuple #[.int .i64 ((c.toNat : Nat) : Int), .int .i64 ((a0 + 1 : Nat) : Int), .int .i64 0]) (fun _ => []) := by
  refine Con.of (args := [Value.string s, Value.int .i64 ((a0 : Nat) : Int)]) Try.func29 rfl Try.ntmps29 rfl (fun F => ?_)
  show Wc _ W0 _ _ _ _ _ (F)
  refine Wc.seq ?_
  refine Wc.region ?_
  refine Wl.q (v := Value.int .i64 0) (q_assign rfl) ?_
  refine Wl.q (v := Value.int .i64 0) (q_assign rfl) ?_
  refine Wl.q (v := Value.int .i64 0) (q_assign rfl) ?_
  refine Wl.done ?_
  refine Wx.go ?_
  refine Wc.seq ?_
  refine Wc.seq ?_
  refine Wc.region ?_
  refine Wl.q (v := Value.int .i64 ((a0 : Nat) : Int)) (q_move rfl) ?_
  refine Wl.q (v := Value.string s) (q_move rfl) ?_
  refine Wl.q (v := Value.int .i64 ((s.size : Nat) : Int)) (q_len_str Try.underlying9 rfl) ?_
  refine Wl.q (v := Value.bool false) (q_geq (r := false) rfl rfl (decide_eq_false (by omega))) ?_
  refine Wl.done ?_
  refine Wx.go ?_
  refine Wc.no rfl ?_
  refine Wc.skip ?_
  refine Wx.go ?_
  refine Wc.seq ?_
  refine Wc.region ?_
  refine Wl.q (v := Value.string s) (q_move rfl) ?_
  refine Wl.q (v := Value.int .i64 ((a0 : Nat) : Int)) (q_move rfl) ?_
  refine Wl.q (v := Value.int .u8 ((c.toNat : Nat) : Int)) (q_idx_str Try.underlying9 rfl rfl (by omega) (by simpa using hget)) ?_
  refine Wl.q (v := Value.int .i64 ((c.toNat : Nat) : Int)) (q_conv_int (c := ((c.toNat : Nat) : Int)) Try.underlying3 (by rw [Try.underlying5]; rfl) rfl (wrap_i64 (by omega) (by have := c.toNat_lt; omega))) ?_
  refine Wl.q (v := Value.int .i64 ((a0 : Nat) : Int)) (q_move rfl) ?_
  refine Wl.q (v := Value.int .i64 ((a0 + 1 : Nat) : Int)) (q_add (c := ((a0 + 1 : Nat) : Int)) rfl rfl (by rw [wrap_i64] <;> omega)) ?_
  refine Wl.q (v := Value.int .i64 ((c.toNat : Nat) : Int)) (q_assign rfl) ?_
  refine Wl.q (v := Value.int .i64 ((a0 + 1 : Nat) : Int)) (q_assign rfl) ?_
  refine Wl.q (v := Value.int .i64 0) (q_assign rfl) ?_
  refine Wl.done ?_
  refine Wx.go ?_
  refine Wc.ret ?_
  refine Wx.fin3 rfl (.inl rfl) (fun w hs => ?_)
  exact ⟨(), trivial, rfl, hs⟩

theorem tflag_end (W0 : World) (s : ByteArray) (a0 : Nat) (ha0 : a0 ≤ s.size) (hsz : s.size ≤ 9223372036854775807) (hend : a0 = s.size) :
    Con Try.prog W0 31 #[Value.string s, Value.int .i64 ((a0 : Nat) : Int)] [] (X := Unit) (fun _ => True) (fun _ => .tuple #[.bool false, .int .i64 ((a0 : Nat) : Int), .int .i64 4]) (fun _ => []) := by
  refine Con.of (args := [Value.string s, Value.int .i64 ((a0 : Nat) : Int)]) Try.func31 rfl Try.ntmps31 rfl (fun F => ?_)
  show Wc _ W0 _ _ _ _ _ (F)
  refine Wc.seq ?_
  refine Wc.region ?_
  refine Wl.q (v := Value.bool false) (q_assign rfl) ?_
  refine Wl.q (v := Value.int .i64 0) (q_assign rfl) ?_
  refine Wl.q (v := Value.int .i64 0) (q_assign rfl) ?_
  refine Wl.done ?_
  refine Wx.go ?_
  refine Wc.seq ?_
  refine Wc.seq ?_
  refine Wc.region ?_
  refine Wl.q (v := Value.int .i64 ((a0 : Nat) : Int)) (q_move rfl) ?_
  refine Wl.q (v := Value.string s) (q_move rfl) ?_
  refine Wl.q (v := Value.int .i64 ((s.size : Nat) : Int)) (q_len_str Try.underlying9 rfl) ?_
  refine Wl.q (v := Value.bool true) (q_geq (r := true) rfl rfl (decide_eq_true (by omega))) ?_
  refine Wl.q (v := Value.bool true) (q_move rfl) ?_
  refine Wl.no ?_
  refine Wl.no ?_
  refine Wl.no ?_
  refine Wl.no ?_
  refine Wl.q (v := Value.bool true) (q_pick (t := true) rfl rfl) ?_
  refine Wl.done ?_
  refine Wx.go ?_
  refine Wc.yes rfl ?_
  refine Wc.seq ?_
  refine Wc.region ?_
  refine Wl.q (v := Value.int .i64 ((a0 : Nat) : Int)) (q_move rfl) ?_
  refine Wl.q (v := Value.bool false) (q_assign rfl) ?_
  refine Wl.q (v := Value.int .i64 ((a0 : Nat) : Int)) (q_assign rfl) ?_
  refine Wl.q (v := Value.int .i64 4) (q_assign rfl) ?_
  refine Wl.done ?_
  refine Wx.go ?_
  refine Wc.ret ?_
  refine Wx.thenRet ?_
  refine Wx.fin3 rfl (.inl rfl) (fun w hs => ?_)
  exact ⟨(), trivial, rfl, hs⟩

theorem tflag_big (W0 : World) (s : ByteArray) (a0 : Nat) (ha0 : a0 ≤ s.size) (hsz : s.size ≤ 9223372036854775807) (c : UInt8) (hget : s[a0]? = some c) (hat : a0 < s.size)(hc : 2 ≤ c.toNat) :
    Con Try.prog W0 31 #[Value.string s, Value.int .i64 ((a0 : Nat) : Int)] [] (X := Unit) (fun _ => True) (fun _ => .tuple #[.bool false, .int .i64 ((a0 : Nat) : Int), .int .i64 4]) (fun _ => []) := by
  refine Con.of (args := [Value.string s, Value.int .i64 ((a0 : Nat) : Int)]) Try.func31 rfl Try.ntmps31 rfl (fun F => ?_)
  show Wc _ W0 _ _ _ _ _ (F)
  refine Wc.seq ?_
  refine Wc.region ?_
  refine Wl.q (v := Value.bool false) (q_assign rfl) ?_
  refine Wl.q (v := Value.int .i64 0) (q_assign rfl) ?_
  refine Wl.q (v := Value.int .i64 0) (q_assign rfl) ?_
  refine Wl.done ?_
  refine Wx.go ?_
  refine Wc.seq ?_
  refine Wc.seq ?_
  refine Wc.region ?_
  refine Wl.q (v := Value.int .i64 ((a0 : Nat) : Int)) (q_move rfl) ?_
  refine Wl.q (v := Value.string s) (q_move rfl) ?_
  refine Wl.q (v := Value.int .i64 ((s.size : Nat) : Int)) (q_len_str Try.underlying9 rfl) ?_
  refine Wl.q (v := Value.bool false) (q_geq (r := false) rfl rfl (decide_eq_false (by omega))) ?_
  refine Wl.q (v := Value.bool false) (q_move rfl) ?_
  refine Wl.q (v := Value.string s) (q_move rfl) ?_
  refine Wl.q (v := Value.int .i64 ((a0 : Nat) : Int)) (q_move rfl) ?_
  refine Wl.q (v := Value.int .u8 ((c.toNat : Nat) : Int)) (q_idx_str Try.underlying9 rfl rfl (by omega) (by simpa using hget)) ?_
  refine Wl.q (v := Value.bool true) (q_gtr (r := true) rfl rfl (decide_eq_true (by omega))) ?_
  refine Wl.q (v := Value.bool true) (q_pick (t := false) rfl rfl) ?_
  refine Wl.done ?_
  refine Wx.go ?_
  refine Wc.yes rfl ?_
  refine Wc.seq ?_
  refine Wc.region ?_
  refine Wl.q (v := Value.int .i64 ((a0 : Nat) : Int)) (q_move rfl) ?_
  refine Wl.q (v := Value.bool false) (q_assign rfl) ?_
  refine Wl.q (v := Value.int .i64 ((a0 : Nat) : Int)) (q_assign rfl) ?_
  refine Wl.q (v := Value.int .i64 4) (q_assign rfl) ?_
  refine Wl.done ?_
  refine Wx.go ?_
  refine Wc.ret ?_
  refine Wx.thenRet ?_
  refine Wx.fin3 rfl (.inl rfl) (fun w hs => ?_)
  exact ⟨(), trivial, rfl, hs⟩

theorem tflag_one (W0 : World) (s : ByteArray) (a0 : Nat) (ha0 : a0 ≤ s.size) (hsz : s.size ≤ 9223372036854775807) (c : UInt8) (hget : s[a0]? = some c) (hat : a0 < s.size)(hc : c.toNat = 1) :
    Con Try.prog W0 31 #[Value.string s, Value.int .i64 ((a0 : Nat) : Int)] [] (X := Unit) (fun _ => True) (fun _ => .tuple #[.bool true, .int .i64 ((a0 + 1 : Nat) : Int), .int .i64 0]) (fun _ => []) := by
  refine Con.of (args := [Value.string s, Value.int .i64 ((a0 : Nat) : Int)]) Try.func31 rfl Try.ntmps31 rfl (fun F => ?_)
  show Wc _ W0 _ _ _ _ _ (F)
  refine Wc.seq ?_
  refine Wc.region ?_
  refine Wl.q (v := Value.bool false) (q_assign rfl) ?_
  refine Wl.q (v := Value.int .i64 0) (q_assign rfl) ?_
  refine Wl.q (v := Value.int .i64 0) (q_assign rfl) ?_
  refine Wl.done ?_
  refine Wx.go ?_
  refine Wc.seq ?_
  refine Wc.seq ?_
  refine Wc.region ?_
  refine Wl.q (v := Value.int .i64 ((a0 : Nat) : Int)) (q_move rfl) ?_
  refine Wl.q (v := Value.string s) (q_move rfl) ?_
  refine Wl.q (v := Value.int .i64 ((s.size : Nat) : Int)) (q_len_str Try.underlying9 rfl) ?_
  refine Wl.q (v := Value.bool false) (q_geq (r := false) rfl rfl (decide_eq_false (by omega))) ?_
  refine Wl.q (v := Value.bool false) (q_move rfl) ?_
  refine Wl.q (v := Value.string s) (q_move rfl) ?_
  refine Wl.q (v := Value.int .i64 ((a0 : Nat) : Int)) (q_move rfl) ?_
  refine Wl.q (v := Value.int .u8 ((c.toNat : Nat) : Int)) (q_idx_str Try.underlying9 rfl rfl (by omega) (by simpa using hget)) ?_
  refine Wl.q (v := Value.bool false) (q_gtr (r := false) rfl rfl (decide_eq_false (by omega))) ?_
  refine Wl.q (v := Value.bool false) (q_pick (t := false) rfl rfl) ?_
  refine Wl.done ?_
  refine Wx.go ?_
  refine Wc.no rfl ?_
  refine Wc.skip ?_
  refine Wx.go ?_
  refine Wc.seq ?_
  refine Wc.region ?_
  refine Wl.q (v := Value.string s) (q_move rfl) ?_
  refine Wl.q (v := Value.int .i64 ((a0 : Nat) : Int)) (q_move rfl) ?_
  refine Wl.q (v := Value.int .u8 ((c.toNat : Nat) : Int)) (q_idx_str Try.underlying9 rfl rfl (by omega) (by simpa using hget)) ?_
  refine Wl.q (v := Value.bool true) (q_eql (r := true) rfl rfl (decide_eq_true (by omega))) ?_
  refine Wl.q (v := Value.int .i64 ((a0 : Nat) : Int)) (q_move rfl) ?_
  refine Wl.q (v := Value.int .i64 ((a0 + 1 : Nat) : Int)) (q_add (c := ((a0 + 1 : Nat) : Int)) rfl rfl (by rw [wrap_i64] <;> omega)) ?_
  refine Wl.q (v := Value.bool true) (q_assign rfl) ?_
  refine Wl.q (v := Value.int .i64 ((a0 + 1 : Nat) : Int)) (q_assign rfl) ?_
  refine Wl.q (v := Value.int .i64 0) (q_assign rfl) ?_
  refine Wl.done ?_
  refine Wx.go ?_
  refine Wc.ret ?_
  refine Wx.fin3 rfl (.inl rfl) (fun w hs => ?_)
  exact ⟨(), trivial, rfl, hs⟩

theorem tflag_zero (W0 : World) (s : ByteArray) (a0 : Nat) (ha0 : a0 ≤ s.size) (hsz : s.size ≤ 9223372036854775807) (c : UInt8) (hget : s[a0]? = some c) (hat : a0 < s.size)(hc : c.toNat = 0) :
    Con Try.prog W0 31 #[Value.string s, Value.int .i64 ((a0 : Nat) : Int)] [] (X := Unit) (fun _ => True) (fun _ => .tuple #[.bool false, .int .i64 ((a0 + 1 : Nat) : Int), .int .i64 0]) (fun _ => []) := by
  refine Con.of (args := [Value.string s, Value.int .i64 ((a0 : Nat) : Int)]) Try.func31 rfl Try.ntmps31 rfl (fun F => ?_)
  show Wc _ W0 _ _ _ _ _ (F)
  refine Wc.seq ?_
  refine Wc.region ?_
  refine Wl.q (v := Value.bool false) (q_assign rfl) ?_
  refine Wl.q (v := Value.int .i64 0) (q_assign rfl) ?_
  refine Wl.q (v := Value.int .i64 0) (q_assign rfl) ?_
  refine Wl.done ?_
  refine Wx.go ?_
  refine Wc.seq ?_
  refine Wc.seq ?_
  refine Wc.region ?_
  refine Wl.q (v := Value.int .i64 ((a0 : Nat) : Int)) (q_move rfl) ?_
  refine Wl.q (v := Value.string s) (q_move rfl) ?_
  refine Wl.q (v := Value.int .i64 ((s.size : Nat) : Int)) (q_len_str Try.underlying9 rfl) ?_
  refine Wl.q (v := Value.bool false) (q_geq (r := false) rfl rfl (decide_eq_false (by omega))) ?_
  refine Wl.q (v := Value.bool false) (q_move rfl) ?_
  refine Wl.q (v := Value.string s) (q_move rfl) ?_
  refine Wl.q (v := Value.int .i64 ((a0 : Nat) : Int)) (q_move rfl) ?_
  refine Wl.q (v := Value.int .u8 ((c.toNat : Nat) : Int)) (q_idx_str Try.underlying9 rfl rfl (by omega) (by simpa using hget)) ?_
  refine Wl.q (v := Value.bool false) (q_gtr (r := false) rfl rfl (decide_eq_false (by omega))) ?_
  refine Wl.q (v := Value.bool false) (q_pick (t := false) rfl rfl) ?_
  refine Wl.done ?_
  refine Wx.go ?_
  refine Wc.no rfl ?_
  refine Wc.skip ?_
  refine Wx.go ?_
  refine Wc.seq ?_
  refine Wc.region ?_
  refine Wl.q (v := Value.string s) (q_move rfl) ?_
  refine Wl.q (v := Value.int .i64 ((a0 : Nat) : Int)) (q_move rfl) ?_
  refine Wl.q (v := Value.int .u8 ((c.toNat : Nat) : Int)) (q_idx_str Try.underlying9 rfl rfl (by omega) (by simpa using hget)) ?_
  refine Wl.q (v := Value.bool false) (q_eql (r := false) rfl rfl (decide_eq_false (by omega))) ?_
  refine Wl.q (v := Value.int .i64 ((a0 : Nat) : Int)) (q_move rfl) ?_
  refine Wl.q (v := Value.int .i64 ((a0 + 1 : Nat) : Int)) (q_add (c := ((a0 + 1 : Nat) : Int)) rfl rfl (by rw [wrap_i64] <;> omega)) ?_
  refine Wl.q (v := Value.bool false) (q_assign rfl) ?_
  refine Wl.q (v := Value.int .i64 ((a0 + 1 : Nat) : Int)) (q_assign rfl) ?_
  refine Wl.q (v := Value.int .i64 0) (q_assign rfl) ?_
  refine Wl.done ?_
  refine Wx.go ?_
  refine Wc.ret ?_
  refine Wx.fin3 rfl (.inl rfl) (fun w hs => ?_)
  exact ⟨(), trivial, rfl, hs⟩

theorem tnum_c (W0 : World) (s : ByteArray) (a0 : Nat) (ha0 : a0 ≤ s.size) (hsz : s.size ≤ 9223372036854775807) :
    Con Try.prog W0 30 #[Value.string s, Value.int .i64 ((a0 : Nat) : Int)] [] (X := Unit) (fun _ => True) (fun _ => .tuple #[.int .i64 (gv 0 (takeNum s a0)), .int .i64 ((gn a0 (takeNum s a0) : Nat) : Int), .int .i64 (ge (takeNum s a0))]) (fun _ => []) := by
  refine Con.of (args := [Value.string s, Value.int .i64 ((a0 : Nat) : Int)]) Try.func30 rfl Try.ntmps30 rfl (fun F => ?_)
  show Wc _ W0 _ _ _ _ _ (F)
  refine Wc.seq ?_
  refine Wc.region ?_
  refine Wl.q (v := Value.int .i64 0) (q_assign rfl) ?_
  refine Wl.q (v := Value.int .i64 0) (q_assign rfl) ?_
  refine Wl.q (v := Value.int .i64 0) (q_assign rfl) ?_
  refine Wl.done ?_
  refine Wx.go ?_
  refine Wc.seq ?_
  refine Wc.region ?_
  refine Wl.q (v := Value.int .u64 0) (q_assign rfl) ?_
  refine Wl.done ?_
  refine Wx.go ?_
  refine Wc.seq ?_
  refine Wc.seq ?_
  refine Wc.region ?_
  refine Wl.q (v := Value.int .i64 0) (q_assign rfl) ?_
  refine Wl.done ?_
  refine Wx.go ?_
  refine Wc.block ?_
  refine Wc.loop (X := Nat × Nat) (fun (i, z) E => E 8 = Value.int .i64 ((i : Nat) : Int) ∧ E 7 = Value.int .u64 ((z : Nat) : Int) ∧ E 0 = Value.string s ∧ E 1 = Value.int .i64 ((a0 : Nat) : Int) ∧ dec s a0 10 0 0 = dec s a0 (10 - i) i z ∧ z < 128 ^ i ∧ i ≤ 10 ∧ a0 + i ≤ s.size) (fun (i, z) => F) (fun (i, z) => 10 - i) (0, 0) ?_ ?_ ?_
  · exact ⟨rfl, rfl, rfl, rfl, rfl, (by decide), (by omega), (by omega)⟩
  · exact fun w hs => hs
  · rintro ⟨i, z⟩ E2 ⟨hE8_0, hE7_0, hE0_0, hE1_0, hp0, hz, hi, ha⟩
    dsimp only at *
    refine Wc.seq ?_
    refine Wc.seq ?_
    refine Wc.region ?_
    refine Wl.q (v := Value.int .i64 ((i : Nat) : Int)) (q_move hE8_0) ?_
    by_cases hi10 : ((i : Nat) : Int) < 10
    ·
      refine Wl.q (v := Value.bool true) (q_lss (r := true) rfl rfl (decide_eq_true hi10)) ?_
      refine Wl.done ?_
      refine Wx.go ?_
      refine Wc.yes rfl ?_
      refine Wc.skip ?_
      refine Wx.go ?_
      refine Wc.seq ?_
      refine Wc.block ?_
      refine Wc.seq ?_
      refine Wc.seq ?_
      refine Wc.region ?_
      refine Wl.q (v := Value.int .i64 ((a0 : Nat) : Int)) (q_move hE1_0) ?_
      refine Wl.q (v := Value.int .i64 ((i : Nat) : Int)) (q_move hE8_0) ?_
      refine Wl.q (v := Value.int .i64 ((a0 + i : Nat) : Int)) (q_add (c := ((a0 + i : Nat) : Int)) rfl rfl (by rw [wrap_i64] <;> omega)) ?_
      refine Wl.q (v := Value.string s) (q_move hE0_0) ?_
      refine Wl.q (v := Value.int .i64 ((s.size : Nat) : Int)) (q_len_str Try.underlying9 rfl) ?_
      by_cases hend : ((a0 + i : Nat) : Int) ≥ ((s.size : Nat) : Int)
      ·
        refine Wl.q (v := Value.bool true) (q_geq (r := true) rfl rfl (decide_eq_true hend)) ?_
        refine Wl.done ?_
        refine Wx.go ?_
        refine Wc.yes rfl ?_
        refine Wc.seq ?_
        refine Wc.region ?_
        refine Wl.q (v := Value.int .i64 ((a0 : Nat) : Int)) (q_move hE1_0) ?_
        refine Wl.q (v := Value.int .i64 0) (q_assign rfl) ?_
        refine Wl.q (v := Value.int .i64 ((a0 : Nat) : Int)) (q_assign rfl) ?_
        refine Wl.q (v := Value.int .i64 4) (q_assign rfl) ?_
        refine Wl.done ?_
        refine Wx.go ?_
        refine Wc.ret ?_
        refine Wx.thenRet ?_
        refine Wx.blockRet ?_
        refine Wx.thenRet ?_
        refine Wx.thenRet ?_
        refine Wx.blockRet ?_
        refine Wx.thenRet ?_
        refine Wx.fin3 rfl (.inl rfl) (fun w hs => ?_)
        rw [show 10 - i = (10 - (i + 1)) + 1 by omega] at hp0
        have e : takeNum s a0 = none := take_none hp0 (dec_none (getElem?_neg s (a0 + i) (by omega)))
        exact ⟨(), trivial, by rw [e]; rfl, hs⟩
      ·
        obtain ⟨c, hget⟩ := get_some (show a0 + i < s.size by omega)
        refine Wl.q (v := Value.bool false) (q_geq (r := false) rfl rfl (decide_eq_false hend)) ?_
        refine Wl.done ?_
        refine Wx.go ?_
        refine Wc.no rfl ?_
        refine Wc.skip ?_
        refine Wx.go ?_
        refine Wc.seq ?_
        refine Wc.region ?_
        refine Wl.q (v := Value.string s) (q_move hE0_0) ?_
        refine Wl.q (v := Value.int .i64 ((a0 : Nat) : Int)) (q_move hE1_0) ?_
        refine Wl.q (v := Value.int .i64 ((i : Nat) : Int)) (q_move hE8_0) ?_
        refine Wl.q (v := Value.int .i64 ((a0 + i : Nat) : Int)) (q_add (c := ((a0 + i : Nat) : Int)) rfl rfl (by rw [wrap_i64] <;> omega)) ?_
        refine Wl.q (v := Value.int .u8 ((c.toNat : Nat) : Int)) (q_idx_str Try.underlying9 rfl rfl (by omega) (by exact hget)) ?_
        refine Wl.q (v := Value.int .u8 ((c.toNat : Nat) : Int)) (q_assign rfl) ?_
        refine Wl.done ?_
        refine Wx.go ?_
        refine Wc.seq ?_
        refine Wc.seq ?_
        refine Wc.region ?_
        refine Wl.q (v := Value.int .i64 ((i : Nat) : Int)) (q_move hE8_0) ?_
        by_cases hi9 : ((i : Nat) : Int) = 9
        ·
          refine Wl.q (v := Value.bool true) (q_eql (r := true) rfl rfl (decide_eq_true hi9)) ?_
          refine Wl.q (v := Value.bool true) (q_move rfl) ?_
          refine Wl.q (v := Value.int .u8 ((c.toNat : Nat) : Int)) (q_move rfl) ?_
          by_cases hc1 : ((c.toNat : Nat) : Int) > 1
          ·
            refine Wl.q (v := Value.bool true) (q_gtr (r := true) rfl rfl (decide_eq_true hc1)) ?_
            refine Wl.q (v := Value.bool true) (q_pick (t := true) rfl rfl) ?_
            refine Wl.q (v := Value.bool true) (q_move rfl) ?_
            refine Wl.no ?_
            refine Wl.no ?_
            refine Wl.no ?_
            refine Wl.no ?_
            refine Wl.no ?_
            refine Wl.no ?_
            refine Wl.q (v := Value.bool true) (q_pick (t := true) rfl rfl) ?_
            refine Wl.done ?_
            refine Wx.go ?_
            refine Wc.yes rfl ?_
            refine Wc.seq ?_
            refine Wc.region ?_
            refine Wl.q (v := Value.int .i64 ((a0 : Nat) : Int)) (q_move hE1_0) ?_
            refine Wl.q (v := Value.int .i64 0) (q_assign rfl) ?_
            refine Wl.q (v := Value.int .i64 ((a0 : Nat) : Int)) (q_assign rfl) ?_
            refine Wl.q (v := Value.int .i64 4) (q_assign rfl) ?_
            refine Wl.done ?_
            refine Wx.go ?_
            refine Wc.ret ?_
            refine Wx.thenRet ?_
            refine Wx.blockRet ?_
            refine Wx.thenRet ?_
            refine Wx.thenRet ?_
            refine Wx.blockRet ?_
            refine Wx.thenRet ?_
            refine Wx.fin3 rfl (.inl rfl) (fun w hs => ?_)
            rw [show 10 - i = (10 - (i + 1)) + 1 by omega] at hp0
            have e : takeNum s a0 = none := take_none hp0 (dec_bad hget (by omega))
            exact ⟨(), trivial, by rw [e]; rfl, hs⟩
          ·
            have hc9 : i = 9 → c.toNat % 128 ≤ 1 := fun h => by omega
            refine Wl.q (v := Value.bool false) (q_gtr (r := false) rfl rfl (decide_eq_false hc1)) ?_
            refine Wl.q (v := Value.bool false) (q_pick (t := true) rfl rfl) ?_
            refine Wl.q (v := Value.bool false) (q_move rfl) ?_
            refine Wl.q (v := Value.int .i64 ((i : Nat) : Int)) (q_move hE8_0) ?_
            by_cases hi0 : ((i : Nat) : Int) > 0
            ·
              refine Wl.q (v := Value.bool true) (q_gtr (r := true) rfl rfl (decide_eq_true hi0)) ?_
              refine Wl.q (v := Value.bool true) (q_move rfl) ?_
              refine Wl.q (v := Value.int .u8 ((c.toNat : Nat) : Int)) (q_move rfl) ?_
              by_cases hc0 : ((c.toNat : Nat) : Int) = 0
              ·
                refine Wl.q (v := Value.bool true) (q_eql (r := true) rfl rfl (decide_eq_true hc0)) ?_
                refine Wl.q (v := Value.bool true) (q_pick (t := true) rfl rfl) ?_
                refine Wl.q (v := Value.bool true) (q_pick (t := false) rfl rfl) ?_
                refine Wl.done ?_
                refine Wx.go ?_
                refine Wc.yes rfl ?_
                refine Wc.seq ?_
                refine Wc.region ?_
                refine Wl.q (v := Value.int .i64 ((a0 : Nat) : Int)) (q_move hE1_0) ?_
                refine Wl.q (v := Value.int .i64 0) (q_assign rfl) ?_
                refine Wl.q (v := Value.int .i64 ((a0 : Nat) : Int)) (q_assign rfl) ?_
                refine Wl.q (v := Value.int .i64 4) (q_assign rfl) ?_
                refine Wl.done ?_
                refine Wx.go ?_
                refine Wc.ret ?_
                refine Wx.thenRet ?_
                refine Wx.blockRet ?_
                refine Wx.thenRet ?_
                refine Wx.thenRet ?_
                refine Wx.blockRet ?_
                refine Wx.thenRet ?_
                refine Wx.fin3 rfl (.inl rfl) (fun w hs => ?_)
                rw [show 10 - i = (10 - (i + 1)) + 1 by omega] at hp0
                have e : takeNum s a0 = none := take_none hp0 (dec_bad hget (by omega))
                exact ⟨(), trivial, by rw [e]; rfl, hs⟩
              ·
                refine Wl.q (v := Value.bool false) (q_eql (r := false) rfl rfl (decide_eq_false hc0)) ?_
                refine Wl.q (v := Value.bool false) (q_pick (t := true) rfl rfl) ?_
                refine Wl.q (v := Value.bool false) (q_pick (t := false) rfl rfl) ?_
                refine Wl.done ?_
                refine Wx.go ?_
                refine Wc.no rfl ?_
                refine Wc.skip ?_
                refine Wx.go ?_
                refine Wc.seq ?_
                refine Wc.region ?_
                refine Wl.q (v := Value.int .u64 ((z : Nat) : Int)) (q_move hE7_0) ?_
                refine Wl.q (v := Value.int .u8 ((c.toNat : Nat) : Int)) (q_move rfl) ?_
                refine Wl.q (v := Value.int .u8 ((c.toNat % 128 : Nat) : Int)) (q_and (c := ((c.toNat % 128 : Nat) : Int)) rfl rfl (and127 c)) ?_
                refine Wl.q (v := Value.int .u64 ((c.toNat % 128 : Nat) : Int)) (q_conv_int (c := ((c.toNat % 128 : Nat) : Int)) Try.underlying61 (by rw [Try.underlying5]; rfl) rfl (wrap_u64 (by omega) (by omega))) ?_
                refine Wl.q (v := Value.int .i64 ((i : Nat) : Int)) (q_move hE8_0) ?_
                refine Wl.q (v := Value.int .i64 ((7 * i : Nat) : Int)) (q_mul (c := ((7 * i : Nat) : Int)) rfl rfl (by rw [wrap_i64] <;> omega)) ?_
                refine Wl.q (v := Value.int .u64 ((c.toNat % 128 * 128 ^ i : Nat) : Int)) (q_shl (c := ((c.toNat % 128 * 128 ^ i : Nat) : Int)) rfl rfl (by omega) (shl7 (by omega) hc9 (by omega))) ?_
                refine Wl.q (v := Value.int .u64 (((z + c.toNat % 128 * 128 ^ i) : Nat) : Int)) (q_or (c := (((z + c.toNat % 128 * 128 ^ i) : Nat) : Int)) rfl rfl (or7 hz (by omega) hc9 (by omega)).2) ?_
                refine Wl.q (v := Value.int .u64 (((z + c.toNat % 128 * 128 ^ i) : Nat) : Int)) (q_assign rfl) ?_
                refine Wl.done ?_
                refine Wx.go ?_
                refine Wc.seq ?_
                refine Wc.region ?_
                refine Wl.q (v := Value.int .u8 ((c.toNat : Nat) : Int)) (q_move rfl) ?_
                by_cases hc128 : ((c.toNat : Nat) : Int) < 128
                ·
                  have hZ := (or7 hz (by omega) hc9 (by omega)).1
                  refine Wl.q (v := Value.bool true) (q_lss (r := true) rfl rfl (decide_eq_true hc128)) ?_
                  refine Wl.done ?_
                  refine Wx.go ?_
                  refine Wc.yes rfl ?_
                  refine Wc.seq ?_
                  refine Wc.region ?_
                  refine Wl.q (v := Value.int .u64 (((z + c.toNat % 128 * 128 ^ i) : Nat) : Int)) (q_move rfl) ?_
                  refine Wl.q (v := Value.int .u64 (((z + c.toNat % 128 * 128 ^ i) / 2 : Nat) : Int)) (q_quo (c := (((z + c.toNat % 128 * 128 ^ i) / 2 : Nat) : Int)) rfl rfl (by decide) (by rw [Int.tdiv_eq_ediv_of_nonneg (by omega), wrap_u64 (by omega) (by omega)]; omega)) ?_
                  refine Wl.q (v := Value.int .i64 (((z + c.toNat % 128 * 128 ^ i) / 2 : Nat) : Int)) (q_conv_int (c := (((z + c.toNat % 128 * 128 ^ i) / 2 : Nat) : Int)) Try.underlying2 (by rw [Try.underlying61]; rfl) rfl (wrap_i64 (by omega) (by omega))) ?_
                  refine Wl.q (v := Value.int .i64 (((z + c.toNat % 128 * 128 ^ i) / 2 : Nat) : Int)) (q_assign rfl) ?_
                  refine Wl.done ?_
                  refine Wx.go ?_
                  refine Wc.seq ?_
                  refine Wc.seq ?_
                  refine Wc.region ?_
                  refine Wl.q (v := Value.int .u64 (((z + c.toNat % 128 * 128 ^ i) : Nat) : Int)) (q_move rfl) ?_
                  refine Wl.q (v := Value.int .u64 (((z + c.toNat % 128 * 128 ^ i) % 2 : Nat) : Int)) (q_rem (c := (((z + c.toNat % 128 * 128 ^ i) % 2 : Nat) : Int)) rfl rfl (by decide) (by rw [Int.tmod_eq_emod_of_nonneg (by omega)]; omega)) ?_
                  by_cases hodd : (((z + c.toNat % 128 * 128 ^ i) % 2 : Nat) : Int) = 1
                  ·
                    refine Wl.q (v := Value.bool true) (q_eql (r := true) rfl rfl (decide_eq_true hodd)) ?_
                    refine Wl.done ?_
                    refine Wx.go ?_
                    refine Wc.yes rfl ?_
                    refine Wc.region ?_
                    refine Wl.q (v := Value.int .i64 (((z + c.toNat % 128 * 128 ^ i) / 2 : Nat) : Int)) (q_move rfl) ?_
                    refine Wl.q (v := Value.int .i64 (-(((z + c.toNat % 128 * 128 ^ i) / 2 : Nat) : Int))) (q_neg (c := (-(((z + c.toNat % 128 * 128 ^ i) / 2 : Nat) : Int))) rfl (wrap_i64 (by omega) (by omega))) ?_
                    refine Wl.q (v := Value.int .i64 (-(((z + c.toNat % 128 * 128 ^ i) / 2 : Nat) : Int) - 1)) (q_sub (c := (-(((z + c.toNat % 128 * 128 ^ i) / 2 : Nat) : Int) - 1)) rfl rfl (wrap_i64 (by omega) (by omega))) ?_
                    refine Wl.q (v := Value.int .i64 (-(((z + c.toNat % 128 * 128 ^ i) / 2 : Nat) : Int) - 1)) (q_assign rfl) ?_
                    refine Wl.done ?_
                    refine Wx.go ?_
                    refine Wc.seq ?_
                    refine Wc.region ?_
                    refine Wl.q (v := Value.int .i64 (-(((z + c.toNat % 128 * 128 ^ i) / 2 : Nat) : Int) - 1)) (q_move rfl) ?_
                    refine Wl.q (v := Value.int .i64 ((a0 : Nat) : Int)) (q_move hE1_0) ?_
                    refine Wl.q (v := Value.int .i64 ((i : Nat) : Int)) (q_move hE8_0) ?_
                    refine Wl.q (v := Value.int .i64 ((a0 + i : Nat) : Int)) (q_add (c := ((a0 + i : Nat) : Int)) rfl rfl (by rw [wrap_i64] <;> omega)) ?_
                    refine Wl.q (v := Value.int .i64 (((a0 + i) + 1 : Nat) : Int)) (q_add (c := (((a0 + i) + 1 : Nat) : Int)) rfl rfl (by rw [wrap_i64] <;> omega)) ?_
                    refine Wl.q (v := Value.int .i64 (-(((z + c.toNat % 128 * 128 ^ i) / 2 : Nat) : Int) - 1)) (q_assign rfl) ?_
                    refine Wl.q (v := Value.int .i64 (((a0 + i) + 1 : Nat) : Int)) (q_assign rfl) ?_
                    refine Wl.q (v := Value.int .i64 0) (q_assign rfl) ?_
                    refine Wl.done ?_
                    refine Wx.go ?_
                    refine Wc.ret ?_
                    refine Wx.blockRet ?_
                    refine Wx.thenRet ?_
                    refine Wx.thenRet ?_
                    refine Wx.blockRet ?_
                    refine Wx.thenRet ?_
                    refine Wx.fin3 rfl (.inl rfl) (fun w hs => ?_)
                    rw [show 10 - i = (10 - (i + 1)) + 1 by omega] at hp0
                    have e : takeNum s a0 = some (un (z + c.toNat % 128 * 128 ^ i), a0 + i + 1) := take_some hp0 (dec_end hget (by omega) (by omega))
                    exact ⟨(), trivial, by rw [e, ← un_odd hodd]; rfl, hs⟩
                  ·
                    refine Wl.q (v := Value.bool false) (q_eql (r := false) rfl rfl (decide_eq_false hodd)) ?_
                    refine Wl.done ?_
                    refine Wx.go ?_
                    refine Wc.no rfl ?_
                    refine Wc.skip ?_
                    refine Wx.go ?_
                    refine Wc.seq ?_
                    refine Wc.region ?_
                    refine Wl.q (v := Value.int .i64 (((z + c.toNat % 128 * 128 ^ i) / 2 : Nat) : Int)) (q_move rfl) ?_
                    refine Wl.q (v := Value.int .i64 ((a0 : Nat) : Int)) (q_move hE1_0) ?_
                    refine Wl.q (v := Value.int .i64 ((i : Nat) : Int)) (q_move hE8_0) ?_
                    refine Wl.q (v := Value.int .i64 ((a0 + i : Nat) : Int)) (q_add (c := ((a0 + i : Nat) : Int)) rfl rfl (by rw [wrap_i64] <;> omega)) ?_
                    refine Wl.q (v := Value.int .i64 (((a0 + i) + 1 : Nat) : Int)) (q_add (c := (((a0 + i) + 1 : Nat) : Int)) rfl rfl (by rw [wrap_i64] <;> omega)) ?_
                    refine Wl.q (v := Value.int .i64 (((z + c.toNat % 128 * 128 ^ i) / 2 : Nat) : Int)) (q_assign rfl) ?_
                    refine Wl.q (v := Value.int .i64 (((a0 + i) + 1 : Nat) : Int)) (q_assign rfl) ?_
                    refine Wl.q (v := Value.int .i64 0) (q_assign rfl) ?_
                    refine Wl.done ?_
                    refine Wx.go ?_
                    refine Wc.ret ?_
                    refine Wx.blockRet ?_
                    refine Wx.thenRet ?_
                    refine Wx.thenRet ?_
                    refine Wx.blockRet ?_
                    refine Wx.thenRet ?_
                    refine Wx.fin3 rfl (.inl rfl) (fun w hs => ?_)
                    rw [show 10 - i = (10 - (i + 1)) + 1 by omega] at hp0
                    have e : takeNum s a0 = some (un (z + c.toNat % 128 * 128 ^ i), a0 + i + 1) := take_some hp0 (dec_end hget (by omega) (by omega))
                    exact ⟨(), trivial, by rw [e, ← un_even hodd]; rfl, hs⟩
                ·
                  refine Wl.q (v := Value.bool false) (q_lss (r := false) rfl rfl (decide_eq_false hc128)) ?_
                  refine Wl.done ?_
                  refine Wx.go ?_
                  refine Wc.no rfl ?_
                  refine Wc.skip ?_
                  refine Wx.blockEnd ?_
                  refine Wx.go ?_
                  refine Wc.region ?_
                  refine Wl.q (v := Value.int .i64 ((i : Nat) : Int)) (q_move hE8_0) ?_
                  refine Wl.q (v := Value.int .i64 ((i + 1 : Nat) : Int)) (q_add (c := ((i + 1 : Nat) : Int)) rfl rfl (by rw [wrap_i64] <;> omega)) ?_
                  refine Wl.q (v := Value.int .i64 ((i + 1 : Nat) : Int)) (q_assign rfl) ?_
                  refine Wl.done ?_
                  refine Wx.at (i + 1, (z + c.toNat % 128 * 128 ^ i)) ⟨(by simp only; omega), rfl, rfl, hE0_0, hE1_0, (by simp only; rw [hp0, show 10 - i = (10 - (i + 1)) + 1 by omega]; exact dec_more hget (by omega) (by omega)), (pow_next hz), (by simp only; omega), (by simp only; omega)⟩ (fun w hs => hs)
            ·
              refine Wl.q (v := Value.bool false) (q_gtr (r := false) rfl rfl (decide_eq_false hi0)) ?_
              refine Wl.q (v := Value.bool false) (q_move rfl) ?_
              refine Wl.no ?_
              refine Wl.no ?_
              refine Wl.q (v := Value.bool false) (q_pick (t := false) rfl rfl) ?_
              refine Wl.q (v := Value.bool false) (q_pick (t := false) rfl rfl) ?_
              refine Wl.done ?_
              refine Wx.go ?_
              refine Wc.no rfl ?_
              refine Wc.skip ?_
              refine Wx.go ?_
              refine Wc.seq ?_
              refine Wc.region ?_
              refine Wl.q (v := Value.int .u64 ((z : Nat) : Int)) (q_move hE7_0) ?_
              refine Wl.q (v := Value.int .u8 ((c.toNat : Nat) : Int)) (q_move rfl) ?_
              refine Wl.q (v := Value.int .u8 ((c.toNat % 128 : Nat) : Int)) (q_and (c := ((c.toNat % 128 : Nat) : Int)) rfl rfl (and127 c)) ?_
              refine Wl.q (v := Value.int .u64 ((c.toNat % 128 : Nat) : Int)) (q_conv_int (c := ((c.toNat % 128 : Nat) : Int)) Try.underlying61 (by rw [Try.underlying5]; rfl) rfl (wrap_u64 (by omega) (by omega))) ?_
              refine Wl.q (v := Value.int .i64 ((i : Nat) : Int)) (q_move hE8_0) ?_
              refine Wl.q (v := Value.int .i64 ((7 * i : Nat) : Int)) (q_mul (c := ((7 * i : Nat) : Int)) rfl rfl (by rw [wrap_i64] <;> omega)) ?_
              refine Wl.q (v := Value.int .u64 ((c.toNat % 128 * 128 ^ i : Nat) : Int)) (q_shl (c := ((c.toNat % 128 * 128 ^ i : Nat) : Int)) rfl rfl (by omega) (shl7 (by omega) hc9 (by omega))) ?_
              refine Wl.q (v := Value.int .u64 (((z + c.toNat % 128 * 128 ^ i) : Nat) : Int)) (q_or (c := (((z + c.toNat % 128 * 128 ^ i) : Nat) : Int)) rfl rfl (or7 hz (by omega) hc9 (by omega)).2) ?_
              refine Wl.q (v := Value.int .u64 (((z + c.toNat % 128 * 128 ^ i) : Nat) : Int)) (q_assign rfl) ?_
              refine Wl.done ?_
              refine Wx.go ?_
              refine Wc.seq ?_
              refine Wc.region ?_
              refine Wl.q (v := Value.int .u8 ((c.toNat : Nat) : Int)) (q_move rfl) ?_
              by_cases hc128 : ((c.toNat : Nat) : Int) < 128
              ·
                have hZ := (or7 hz (by omega) hc9 (by omega)).1
                refine Wl.q (v := Value.bool true) (q_lss (r := true) rfl rfl (decide_eq_true hc128)) ?_
                refine Wl.done ?_
                refine Wx.go ?_
                refine Wc.yes rfl ?_
                refine Wc.seq ?_
                refine Wc.region ?_
                refine Wl.q (v := Value.int .u64 (((z + c.toNat % 128 * 128 ^ i) : Nat) : Int)) (q_move rfl) ?_
                refine Wl.q (v := Value.int .u64 (((z + c.toNat % 128 * 128 ^ i) / 2 : Nat) : Int)) (q_quo (c := (((z + c.toNat % 128 * 128 ^ i) / 2 : Nat) : Int)) rfl rfl (by decide) (by rw [Int.tdiv_eq_ediv_of_nonneg (by omega), wrap_u64 (by omega) (by omega)]; omega)) ?_
                refine Wl.q (v := Value.int .i64 (((z + c.toNat % 128 * 128 ^ i) / 2 : Nat) : Int)) (q_conv_int (c := (((z + c.toNat % 128 * 128 ^ i) / 2 : Nat) : Int)) Try.underlying2 (by rw [Try.underlying61]; rfl) rfl (wrap_i64 (by omega) (by omega))) ?_
                refine Wl.q (v := Value.int .i64 (((z + c.toNat % 128 * 128 ^ i) / 2 : Nat) : Int)) (q_assign rfl) ?_
                refine Wl.done ?_
                refine Wx.go ?_
                refine Wc.seq ?_
                refine Wc.seq ?_
                refine Wc.region ?_
                refine Wl.q (v := Value.int .u64 (((z + c.toNat % 128 * 128 ^ i) : Nat) : Int)) (q_move rfl) ?_
                refine Wl.q (v := Value.int .u64 (((z + c.toNat % 128 * 128 ^ i) % 2 : Nat) : Int)) (q_rem (c := (((z + c.toNat % 128 * 128 ^ i) % 2 : Nat) : Int)) rfl rfl (by decide) (by rw [Int.tmod_eq_emod_of_nonneg (by omega)]; omega)) ?_
                by_cases hodd : (((z + c.toNat % 128 * 128 ^ i) % 2 : Nat) : Int) = 1
                ·
                  refine Wl.q (v := Value.bool true) (q_eql (r := true) rfl rfl (decide_eq_true hodd)) ?_
                  refine Wl.done ?_
                  refine Wx.go ?_
                  refine Wc.yes rfl ?_
                  refine Wc.region ?_
                  refine Wl.q (v := Value.int .i64 (((z + c.toNat % 128 * 128 ^ i) / 2 : Nat) : Int)) (q_move rfl) ?_
                  refine Wl.q (v := Value.int .i64 (-(((z + c.toNat % 128 * 128 ^ i) / 2 : Nat) : Int))) (q_neg (c := (-(((z + c.toNat % 128 * 128 ^ i) / 2 : Nat) : Int))) rfl (wrap_i64 (by omega) (by omega))) ?_
                  refine Wl.q (v := Value.int .i64 (-(((z + c.toNat % 128 * 128 ^ i) / 2 : Nat) : Int) - 1)) (q_sub (c := (-(((z + c.toNat % 128 * 128 ^ i) / 2 : Nat) : Int) - 1)) rfl rfl (wrap_i64 (by omega) (by omega))) ?_
                  refine Wl.q (v := Value.int .i64 (-(((z + c.toNat % 128 * 128 ^ i) / 2 : Nat) : Int) - 1)) (q_assign rfl) ?_
                  refine Wl.done ?_
                  refine Wx.go ?_
                  refine Wc.seq ?_
                  refine Wc.region ?_
                  refine Wl.q (v := Value.int .i64 (-(((z + c.toNat % 128 * 128 ^ i) / 2 : Nat) : Int) - 1)) (q_move rfl) ?_
                  refine Wl.q (v := Value.int .i64 ((a0 : Nat) : Int)) (q_move hE1_0) ?_
                  refine Wl.q (v := Value.int .i64 ((i : Nat) : Int)) (q_move hE8_0) ?_
                  refine Wl.q (v := Value.int .i64 ((a0 + i : Nat) : Int)) (q_add (c := ((a0 + i : Nat) : Int)) rfl rfl (by rw [wrap_i64] <;> omega)) ?_
                  refine Wl.q (v := Value.int .i64 (((a0 + i) + 1 : Nat) : Int)) (q_add (c := (((a0 + i) + 1 : Nat) : Int)) rfl rfl (by rw [wrap_i64] <;> omega)) ?_
                  refine Wl.q (v := Value.int .i64 (-(((z + c.toNat % 128 * 128 ^ i) / 2 : Nat) : Int) - 1)) (q_assign rfl) ?_
                  refine Wl.q (v := Value.int .i64 (((a0 + i) + 1 : Nat) : Int)) (q_assign rfl) ?_
                  refine Wl.q (v := Value.int .i64 0) (q_assign rfl) ?_
                  refine Wl.done ?_
                  refine Wx.go ?_
                  refine Wc.ret ?_
                  refine Wx.blockRet ?_
                  refine Wx.thenRet ?_
                  refine Wx.thenRet ?_
                  refine Wx.blockRet ?_
                  refine Wx.thenRet ?_
                  refine Wx.fin3 rfl (.inl rfl) (fun w hs => ?_)
                  rw [show 10 - i = (10 - (i + 1)) + 1 by omega] at hp0
                  have e : takeNum s a0 = some (un (z + c.toNat % 128 * 128 ^ i), a0 + i + 1) := take_some hp0 (dec_end hget (by omega) (by omega))
                  exact ⟨(), trivial, by rw [e, ← un_odd hodd]; rfl, hs⟩
                ·
                  refine Wl.q (v := Value.bool false) (q_eql (r := false) rfl rfl (decide_eq_false hodd)) ?_
                  refine Wl.done ?_
                  refine Wx.go ?_
                  refine Wc.no rfl ?_
                  refine Wc.skip ?_
                  refine Wx.go ?_
                  refine Wc.seq ?_
                  refine Wc.region ?_
                  refine Wl.q (v := Value.int .i64 (((z + c.toNat % 128 * 128 ^ i) / 2 : Nat) : Int)) (q_move rfl) ?_
                  refine Wl.q (v := Value.int .i64 ((a0 : Nat) : Int)) (q_move hE1_0) ?_
                  refine Wl.q (v := Value.int .i64 ((i : Nat) : Int)) (q_move hE8_0) ?_
                  refine Wl.q (v := Value.int .i64 ((a0 + i : Nat) : Int)) (q_add (c := ((a0 + i : Nat) : Int)) rfl rfl (by rw [wrap_i64] <;> omega)) ?_
                  refine Wl.q (v := Value.int .i64 (((a0 + i) + 1 : Nat) : Int)) (q_add (c := (((a0 + i) + 1 : Nat) : Int)) rfl rfl (by rw [wrap_i64] <;> omega)) ?_
                  refine Wl.q (v := Value.int .i64 (((z + c.toNat % 128 * 128 ^ i) / 2 : Nat) : Int)) (q_assign rfl) ?_
                  refine Wl.q (v := Value.int .i64 (((a0 + i) + 1 : Nat) : Int)) (q_assign rfl) ?_
                  refine Wl.q (v := Value.int .i64 0) (q_assign rfl) ?_
                  refine Wl.done ?_
                  refine Wx.go ?_
                  refine Wc.ret ?_
                  refine Wx.blockRet ?_
                  refine Wx.thenRet ?_
                  refine Wx.thenRet ?_
                  refine Wx.blockRet ?_
                  refine Wx.thenRet ?_
                  refine Wx.fin3 rfl (.inl rfl) (fun w hs => ?_)
                  rw [show 10 - i = (10 - (i + 1)) + 1 by omega] at hp0
                  have e : takeNum s a0 = some (un (z + c.toNat % 128 * 128 ^ i), a0 + i + 1) := take_some hp0 (dec_end hget (by omega) (by omega))
                  exact ⟨(), trivial, by rw [e, ← un_even hodd]; rfl, hs⟩
              ·
                refine Wl.q (v := Value.bool false) (q_lss (r := false) rfl rfl (decide_eq_false hc128)) ?_
                refine Wl.done ?_
                refine Wx.go ?_
                refine Wc.no rfl ?_
                refine Wc.skip ?_
                refine Wx.blockEnd ?_
                refine Wx.go ?_
                refine Wc.region ?_
                refine Wl.q (v := Value.int .i64 ((i : Nat) : Int)) (q_move hE8_0) ?_
                refine Wl.q (v := Value.int .i64 ((i + 1 : Nat) : Int)) (q_add (c := ((i + 1 : Nat) : Int)) rfl rfl (by rw [wrap_i64] <;> omega)) ?_
                refine Wl.q (v := Value.int .i64 ((i + 1 : Nat) : Int)) (q_assign rfl) ?_
                refine Wl.done ?_
                refine Wx.at (i + 1, (z + c.toNat % 128 * 128 ^ i)) ⟨(by simp only; omega), rfl, rfl, hE0_0, hE1_0, (by simp only; rw [hp0, show 10 - i = (10 - (i + 1)) + 1 by omega]; exact dec_more hget (by omega) (by omega)), (pow_next hz), (by simp only; omega), (by simp only; omega)⟩ (fun w hs => hs)
        ·
          have hc9 : i = 9 → c.toNat % 128 ≤ 1 := fun h => by omega
          refine Wl.q (v := Value.bool false) (q_eql (r := false) rfl rfl (decide_eq_false hi9)) ?_
          refine Wl.q (v := Value.bool false) (q_move rfl) ?_
          refine Wl.no ?_
          refine Wl.no ?_
          refine Wl.q (v := Value.bool false) (q_pick (t := false) rfl rfl) ?_
          refine Wl.q (v := Value.bool false) (q_move rfl) ?_
          refine Wl.q (v := Value.int .i64 ((i : Nat) : Int)) (q_move hE8_0) ?_
          by_cases hi0 : ((i : Nat) : Int) > 0
          ·
            refine Wl.q (v := Value.bool true) (q_gtr (r := true) rfl rfl (decide_eq_true hi0)) ?_
            refine Wl.q (v := Value.bool true) (q_move rfl) ?_
            refine Wl.q (v := Value.int .u8 ((c.toNat : Nat) : Int)) (q_move rfl) ?_
            by_cases hc0 : ((c.toNat : Nat) : Int) = 0
            ·
              refine Wl.q (v := Value.bool true) (q_eql (r := true) rfl rfl (decide_eq_true hc0)) ?_
              refine Wl.q (v := Value.bool true) (q_pick (t := true) rfl rfl) ?_
              refine Wl.q (v := Value.bool true) (q_pick (t := false) rfl rfl) ?_
              refine Wl.done ?_
              refine Wx.go ?_
              refine Wc.yes rfl ?_
              refine Wc.seq ?_
              refine Wc.region ?_
              refine Wl.q (v := Value.int .i64 ((a0 : Nat) : Int)) (q_move hE1_0) ?_
              refine Wl.q (v := Value.int .i64 0) (q_assign rfl) ?_
              refine Wl.q (v := Value.int .i64 ((a0 : Nat) : Int)) (q_assign rfl) ?_
              refine Wl.q (v := Value.int .i64 4) (q_assign rfl) ?_
              refine Wl.done ?_
              refine Wx.go ?_
              refine Wc.ret ?_
              refine Wx.thenRet ?_
              refine Wx.blockRet ?_
              refine Wx.thenRet ?_
              refine Wx.thenRet ?_
              refine Wx.blockRet ?_
              refine Wx.thenRet ?_
              refine Wx.fin3 rfl (.inl rfl) (fun w hs => ?_)
              rw [show 10 - i = (10 - (i + 1)) + 1 by omega] at hp0
              have e : takeNum s a0 = none := take_none hp0 (dec_bad hget (by omega))
              exact ⟨(), trivial, by rw [e]; rfl, hs⟩
            ·
              refine Wl.q (v := Value.bool false) (q_eql (r := false) rfl rfl (decide_eq_false hc0)) ?_
              refine Wl.q (v := Value.bool false) (q_pick (t := true) rfl rfl) ?_
              refine Wl.q (v := Value.bool false) (q_pick (t := false) rfl rfl) ?_
              refine Wl.done ?_
              refine Wx.go ?_
              refine Wc.no rfl ?_
              refine Wc.skip ?_
              refine Wx.go ?_
              refine Wc.seq ?_
              refine Wc.region ?_
              refine Wl.q (v := Value.int .u64 ((z : Nat) : Int)) (q_move hE7_0) ?_
              refine Wl.q (v := Value.int .u8 ((c.toNat : Nat) : Int)) (q_move rfl) ?_
              refine Wl.q (v := Value.int .u8 ((c.toNat % 128 : Nat) : Int)) (q_and (c := ((c.toNat % 128 : Nat) : Int)) rfl rfl (and127 c)) ?_
              refine Wl.q (v := Value.int .u64 ((c.toNat % 128 : Nat) : Int)) (q_conv_int (c := ((c.toNat % 128 : Nat) : Int)) Try.underlying61 (by rw [Try.underlying5]; rfl) rfl (wrap_u64 (by omega) (by omega))) ?_
              refine Wl.q (v := Value.int .i64 ((i : Nat) : Int)) (q_move hE8_0) ?_
              refine Wl.q (v := Value.int .i64 ((7 * i : Nat) : Int)) (q_mul (c := ((7 * i : Nat) : Int)) rfl rfl (by rw [wrap_i64] <;> omega)) ?_
              refine Wl.q (v := Value.int .u64 ((c.toNat % 128 * 128 ^ i : Nat) : Int)) (q_shl (c := ((c.toNat % 128 * 128 ^ i : Nat) : Int)) rfl rfl (by omega) (shl7 (by omega) hc9 (by omega))) ?_
              refine Wl.q (v := Value.int .u64 (((z + c.toNat % 128 * 128 ^ i) : Nat) : Int)) (q_or (c := (((z + c.toNat % 128 * 128 ^ i) : Nat) : Int)) rfl rfl (or7 hz (by omega) hc9 (by omega)).2) ?_
              refine Wl.q (v := Value.int .u64 (((z + c.toNat % 128 * 128 ^ i) : Nat) : Int)) (q_assign rfl) ?_
              refine Wl.done ?_
              refine Wx.go ?_
              refine Wc.seq ?_
              refine Wc.region ?_
              refine Wl.q (v := Value.int .u8 ((c.toNat : Nat) : Int)) (q_move rfl) ?_
              by_cases hc128 : ((c.toNat : Nat) : Int) < 128
              ·
                have hZ := (or7 hz (by omega) hc9 (by omega)).1
                refine Wl.q (v := Value.bool true) (q_lss (r := true) rfl rfl (decide_eq_true hc128)) ?_
                refine Wl.done ?_
                refine Wx.go ?_
                refine Wc.yes rfl ?_
                refine Wc.seq ?_
                refine Wc.region ?_
                refine Wl.q (v := Value.int .u64 (((z + c.toNat % 128 * 128 ^ i) : Nat) : Int)) (q_move rfl) ?_
                refine Wl.q (v := Value.int .u64 (((z + c.toNat % 128 * 128 ^ i) / 2 : Nat) : Int)) (q_quo (c := (((z + c.toNat % 128 * 128 ^ i) / 2 : Nat) : Int)) rfl rfl (by decide) (by rw [Int.tdiv_eq_ediv_of_nonneg (by omega), wrap_u64 (by omega) (by omega)]; omega)) ?_
                refine Wl.q (v := Value.int .i64 (((z + c.toNat % 128 * 128 ^ i) / 2 : Nat) : Int)) (q_conv_int (c := (((z + c.toNat % 128 * 128 ^ i) / 2 : Nat) : Int)) Try.underlying2 (by rw [Try.underlying61]; rfl) rfl (wrap_i64 (by omega) (by omega))) ?_
                refine Wl.q (v := Value.int .i64 (((z + c.toNat % 128 * 128 ^ i) / 2 : Nat) : Int)) (q_assign rfl) ?_
                refine Wl.done ?_
                refine Wx.go ?_
                refine Wc.seq ?_
                refine Wc.seq ?_
                refine Wc.region ?_
                refine Wl.q (v := Value.int .u64 (((z + c.toNat % 128 * 128 ^ i) : Nat) : Int)) (q_move rfl) ?_
                refine Wl.q (v := Value.int .u64 (((z + c.toNat % 128 * 128 ^ i) % 2 : Nat) : Int)) (q_rem (c := (((z + c.toNat % 128 * 128 ^ i) % 2 : Nat) : Int)) rfl rfl (by decide) (by rw [Int.tmod_eq_emod_of_nonneg (by omega)]; omega)) ?_
                by_cases hodd : (((z + c.toNat % 128 * 128 ^ i) % 2 : Nat) : Int) = 1
                ·
                  refine Wl.q (v := Value.bool true) (q_eql (r := true) rfl rfl (decide_eq_true hodd)) ?_
                  refine Wl.done ?_
                  refine Wx.go ?_
                  refine Wc.yes rfl ?_
                  refine Wc.region ?_
                  refine Wl.q (v := Value.int .i64 (((z + c.toNat % 128 * 128 ^ i) / 2 : Nat) : Int)) (q_move rfl) ?_
                  refine Wl.q (v := Value.int .i64 (-(((z + c.toNat % 128 * 128 ^ i) / 2 : Nat) : Int))) (q_neg (c := (-(((z + c.toNat % 128 * 128 ^ i) / 2 : Nat) : Int))) rfl (wrap_i64 (by omega) (by omega))) ?_
                  refine Wl.q (v := Value.int .i64 (-(((z + c.toNat % 128 * 128 ^ i) / 2 : Nat) : Int) - 1)) (q_sub (c := (-(((z + c.toNat % 128 * 128 ^ i) / 2 : Nat) : Int) - 1)) rfl rfl (wrap_i64 (by omega) (by omega))) ?_
                  refine Wl.q (v := Value.int .i64 (-(((z + c.toNat % 128 * 128 ^ i) / 2 : Nat) : Int) - 1)) (q_assign rfl) ?_
                  refine Wl.done ?_
                  refine Wx.go ?_
                  refine Wc.seq ?_
                  refine Wc.region ?_
                  refine Wl.q (v := Value.int .i64 (-(((z + c.toNat % 128 * 128 ^ i) / 2 : Nat) : Int) - 1)) (q_move rfl) ?_
                  refine Wl.q (v := Value.int .i64 ((a0 : Nat) : Int)) (q_move hE1_0) ?_
                  refine Wl.q (v := Value.int .i64 ((i : Nat) : Int)) (q_move hE8_0) ?_
                  refine Wl.q (v := Value.int .i64 ((a0 + i : Nat) : Int)) (q_add (c := ((a0 + i : Nat) : Int)) rfl rfl (by rw [wrap_i64] <;> omega)) ?_
                  refine Wl.q (v := Value.int .i64 (((a0 + i) + 1 : Nat) : Int)) (q_add (c := (((a0 + i) + 1 : Nat) : Int)) rfl rfl (by rw [wrap_i64] <;> omega)) ?_
                  refine Wl.q (v := Value.int .i64 (-(((z + c.toNat % 128 * 128 ^ i) / 2 : Nat) : Int) - 1)) (q_assign rfl) ?_
                  refine Wl.q (v := Value.int .i64 (((a0 + i) + 1 : Nat) : Int)) (q_assign rfl) ?_
                  refine Wl.q (v := Value.int .i64 0) (q_assign rfl) ?_
                  refine Wl.done ?_
                  refine Wx.go ?_
                  refine Wc.ret ?_
                  refine Wx.blockRet ?_
                  refine Wx.thenRet ?_
                  refine Wx.thenRet ?_
                  refine Wx.blockRet ?_
                  refine Wx.thenRet ?_
                  refine Wx.fin3 rfl (.inl rfl) (fun w hs => ?_)
                  rw [show 10 - i = (10 - (i + 1)) + 1 by omega] at hp0
                  have e : takeNum s a0 = some (un (z + c.toNat % 128 * 128 ^ i), a0 + i + 1) := take_some hp0 (dec_end hget (by omega) (by omega))
                  exact ⟨(), trivial, by rw [e, ← un_odd hodd]; rfl, hs⟩
                ·
                  refine Wl.q (v := Value.bool false) (q_eql (r := false) rfl rfl (decide_eq_false hodd)) ?_
                  refine Wl.done ?_
                  refine Wx.go ?_
                  refine Wc.no rfl ?_
                  refine Wc.skip ?_
                  refine Wx.go ?_
                  refine Wc.seq ?_
                  refine Wc.region ?_
                  refine Wl.q (v := Value.int .i64 (((z + c.toNat % 128 * 128 ^ i) / 2 : Nat) : Int)) (q_move rfl) ?_
                  refine Wl.q (v := Value.int .i64 ((a0 : Nat) : Int)) (q_move hE1_0) ?_
                  refine Wl.q (v := Value.int .i64 ((i : Nat) : Int)) (q_move hE8_0) ?_
                  refine Wl.q (v := Value.int .i64 ((a0 + i : Nat) : Int)) (q_add (c := ((a0 + i : Nat) : Int)) rfl rfl (by rw [wrap_i64] <;> omega)) ?_
                  refine Wl.q (v := Value.int .i64 (((a0 + i) + 1 : Nat) : Int)) (q_add (c := (((a0 + i) + 1 : Nat) : Int)) rfl rfl (by rw [wrap_i64] <;> omega)) ?_
                  refine Wl.q (v := Value.int .i64 (((z + c.toNat % 128 * 128 ^ i) / 2 : Nat) : Int)) (q_assign rfl) ?_
                  refine Wl.q (v := Value.int .i64 (((a0 + i) + 1 : Nat) : Int)) (q_assign rfl) ?_
                  refine Wl.q (v := Value.int .i64 0) (q_assign rfl) ?_
                  refine Wl.done ?_
                  refine Wx.go ?_
                  refine Wc.ret ?_
                  refine Wx.blockRet ?_
                  refine Wx.thenRet ?_
                  refine Wx.thenRet ?_
                  refine Wx.blockRet ?_
                  refine Wx.thenRet ?_
                  refine Wx.fin3 rfl (.inl rfl) (fun w hs => ?_)
                  rw [show 10 - i = (10 - (i + 1)) + 1 by omega] at hp0
                  have e : takeNum s a0 = some (un (z + c.toNat % 128 * 128 ^ i), a0 + i + 1) := take_some hp0 (dec_end hget (by omega) (by omega))
                  exact ⟨(), trivial, by rw [e, ← un_even hodd]; rfl, hs⟩
              ·
                refine Wl.q (v := Value.bool false) (q_lss (r := false) rfl rfl (decide_eq_false hc128)) ?_
                refine Wl.done ?_
                refine Wx.go ?_
                refine Wc.no rfl ?_
                refine Wc.skip ?_
                refine Wx.blockEnd ?_
                refine Wx.go ?_
                refine Wc.region ?_
                refine Wl.q (v := Value.int .i64 ((i : Nat) : Int)) (q_move hE8_0) ?_
                refine Wl.q (v := Value.int .i64 ((i + 1 : Nat) : Int)) (q_add (c := ((i + 1 : Nat) : Int)) rfl rfl (by rw [wrap_i64] <;> omega)) ?_
                refine Wl.q (v := Value.int .i64 ((i + 1 : Nat) : Int)) (q_assign rfl) ?_
                refine Wl.done ?_
                refine Wx.at (i + 1, (z + c.toNat % 128 * 128 ^ i)) ⟨(by simp only; omega), rfl, rfl, hE0_0, hE1_0, (by simp only; rw [hp0, show 10 - i = (10 - (i + 1)) + 1 by omega]; exact dec_more hget (by omega) (by omega)), (pow_next hz), (by simp only; omega), (by simp only; omega)⟩ (fun w hs => hs)
          ·
            refine Wl.q (v := Value.bool false) (q_gtr (r := false) rfl rfl (decide_eq_false hi0)) ?_
            refine Wl.q (v := Value.bool false) (q_move rfl) ?_
            refine Wl.no ?_
            refine Wl.no ?_
            refine Wl.q (v := Value.bool false) (q_pick (t := false) rfl rfl) ?_
            refine Wl.q (v := Value.bool false) (q_pick (t := false) rfl rfl) ?_
            refine Wl.done ?_
            refine Wx.go ?_
            refine Wc.no rfl ?_
            refine Wc.skip ?_
            refine Wx.go ?_
            refine Wc.seq ?_
            refine Wc.region ?_
            refine Wl.q (v := Value.int .u64 ((z : Nat) : Int)) (q_move hE7_0) ?_
            refine Wl.q (v := Value.int .u8 ((c.toNat : Nat) : Int)) (q_move rfl) ?_
            refine Wl.q (v := Value.int .u8 ((c.toNat % 128 : Nat) : Int)) (q_and (c := ((c.toNat % 128 : Nat) : Int)) rfl rfl (and127 c)) ?_
            refine Wl.q (v := Value.int .u64 ((c.toNat % 128 : Nat) : Int)) (q_conv_int (c := ((c.toNat % 128 : Nat) : Int)) Try.underlying61 (by rw [Try.underlying5]; rfl) rfl (wrap_u64 (by omega) (by omega))) ?_
            refine Wl.q (v := Value.int .i64 ((i : Nat) : Int)) (q_move hE8_0) ?_
            refine Wl.q (v := Value.int .i64 ((7 * i : Nat) : Int)) (q_mul (c := ((7 * i : Nat) : Int)) rfl rfl (by rw [wrap_i64] <;> omega)) ?_
            refine Wl.q (v := Value.int .u64 ((c.toNat % 128 * 128 ^ i : Nat) : Int)) (q_shl (c := ((c.toNat % 128 * 128 ^ i : Nat) : Int)) rfl rfl (by omega) (shl7 (by omega) hc9 (by omega))) ?_
            refine Wl.q (v := Value.int .u64 (((z + c.toNat % 128 * 128 ^ i) : Nat) : Int)) (q_or (c := (((z + c.toNat % 128 * 128 ^ i) : Nat) : Int)) rfl rfl (or7 hz (by omega) hc9 (by omega)).2) ?_
            refine Wl.q (v := Value.int .u64 (((z + c.toNat % 128 * 128 ^ i) : Nat) : Int)) (q_assign rfl) ?_
            refine Wl.done ?_
            refine Wx.go ?_
            refine Wc.seq ?_
            refine Wc.region ?_
            refine Wl.q (v := Value.int .u8 ((c.toNat : Nat) : Int)) (q_move rfl) ?_
            by_cases hc128 : ((c.toNat : Nat) : Int) < 128
            ·
              have hZ := (or7 hz (by omega) hc9 (by omega)).1
              refine Wl.q (v := Value.bool true) (q_lss (r := true) rfl rfl (decide_eq_true hc128)) ?_
              refine Wl.done ?_
              refine Wx.go ?_
              refine Wc.yes rfl ?_
              refine Wc.seq ?_
              refine Wc.region ?_
              refine Wl.q (v := Value.int .u64 (((z + c.toNat % 128 * 128 ^ i) : Nat) : Int)) (q_move rfl) ?_
              refine Wl.q (v := Value.int .u64 (((z + c.toNat % 128 * 128 ^ i) / 2 : Nat) : Int)) (q_quo (c := (((z + c.toNat % 128 * 128 ^ i) / 2 : Nat) : Int)) rfl rfl (by decide) (by rw [Int.tdiv_eq_ediv_of_nonneg (by omega), wrap_u64 (by omega) (by omega)]; omega)) ?_
              refine Wl.q (v := Value.int .i64 (((z + c.toNat % 128 * 128 ^ i) / 2 : Nat) : Int)) (q_conv_int (c := (((z + c.toNat % 128 * 128 ^ i) / 2 : Nat) : Int)) Try.underlying2 (by rw [Try.underlying61]; rfl) rfl (wrap_i64 (by omega) (by omega))) ?_
              refine Wl.q (v := Value.int .i64 (((z + c.toNat % 128 * 128 ^ i) / 2 : Nat) : Int)) (q_assign rfl) ?_
              refine Wl.done ?_
              refine Wx.go ?_
              refine Wc.seq ?_
              refine Wc.seq ?_
              refine Wc.region ?_
              refine Wl.q (v := Value.int .u64 (((z + c.toNat % 128 * 128 ^ i) : Nat) : Int)) (q_move rfl) ?_
              refine Wl.q (v := Value.int .u64 (((z + c.toNat % 128 * 128 ^ i) % 2 : Nat) : Int)) (q_rem (c := (((z + c.toNat % 128 * 128 ^ i) % 2 : Nat) : Int)) rfl rfl (by decide) (by rw [Int.tmod_eq_emod_of_nonneg (by omega)]; omega)) ?_
              by_cases hodd : (((z + c.toNat % 128 * 128 ^ i) % 2 : Nat) : Int) = 1
              ·
                refine Wl.q (v := Value.bool true) (q_eql (r := true) rfl rfl (decide_eq_true hodd)) ?_
                refine Wl.done ?_
                refine Wx.go ?_
                refine Wc.yes rfl ?_
                refine Wc.region ?_
                refine Wl.q (v := Value.int .i64 (((z + c.toNat % 128 * 128 ^ i) / 2 : Nat) : Int)) (q_move rfl) ?_
                refine Wl.q (v := Value.int .i64 (-(((z + c.toNat % 128 * 128 ^ i) / 2 : Nat) : Int))) (q_neg (c := (-(((z + c.toNat % 128 * 128 ^ i) / 2 : Nat) : Int))) rfl (wrap_i64 (by omega) (by omega))) ?_
                refine Wl.q (v := Value.int .i64 (-(((z + c.toNat % 128 * 128 ^ i) / 2 : Nat) : Int) - 1)) (q_sub (c := (-(((z + c.toNat % 128 * 128 ^ i) / 2 : Nat) : Int) - 1)) rfl rfl (wrap_i64 (by omega) (by omega))) ?_
                refine Wl.q (v := Value.int .i64 (-(((z + c.toNat % 128 * 128 ^ i) / 2 : Nat) : Int) - 1)) (q_assign rfl) ?_
                refine Wl.done ?_
                refine Wx.go ?_
                refine Wc.seq ?_
                refine Wc.region ?_
                refine Wl.q (v := Value.int .i64 (-(((z + c.toNat % 128 * 128 ^ i) / 2 : Nat) : Int) - 1)) (q_move rfl) ?_
                refine Wl.q (v := Value.int .i64 ((a0 : Nat) : Int)) (q_move hE1_0) ?_
                refine Wl.q (v := Value.int .i64 ((i : Nat) : Int)) (q_move hE8_0) ?_
                refine Wl.q (v := Value.int .i64 ((a0 + i : Nat) : Int)) (q_add (c := ((a0 + i : Nat) : Int)) rfl rfl (by rw [wrap_i64] <;> omega)) ?_
                refine Wl.q (v := Value.int .i64 (((a0 + i) + 1 : Nat) : Int)) (q_add (c := (((a0 + i) + 1 : Nat) : Int)) rfl rfl (by rw [wrap_i64] <;> omega)) ?_
                refine Wl.q (v := Value.int .i64 (-(((z + c.toNat % 128 * 128 ^ i) / 2 : Nat) : Int) - 1)) (q_assign rfl) ?_
                refine Wl.q (v := Value.int .i64 (((a0 + i) + 1 : Nat) : Int)) (q_assign rfl) ?_
                refine Wl.q (v := Value.int .i64 0) (q_assign rfl) ?_
                refine Wl.done ?_
                refine Wx.go ?_
                refine Wc.ret ?_
                refine Wx.blockRet ?_
                refine Wx.thenRet ?_
                refine Wx.thenRet ?_
                refine Wx.blockRet ?_
                refine Wx.thenRet ?_
                refine Wx.fin3 rfl (.inl rfl) (fun w hs => ?_)
                rw [show 10 - i = (10 - (i + 1)) + 1 by omega] at hp0
                have e : takeNum s a0 = some (un (z + c.toNat % 128 * 128 ^ i), a0 + i + 1) := take_some hp0 (dec_end hget (by omega) (by omega))
                exact ⟨(), trivial, by rw [e, ← un_odd hodd]; rfl, hs⟩
              ·
                refine Wl.q (v := Value.bool false) (q_eql (r := false) rfl rfl (decide_eq_false hodd)) ?_
                refine Wl.done ?_
                refine Wx.go ?_
                refine Wc.no rfl ?_
                refine Wc.skip ?_
                refine Wx.go ?_
                refine Wc.seq ?_
                refine Wc.region ?_
                refine Wl.q (v := Value.int .i64 (((z + c.toNat % 128 * 128 ^ i) / 2 : Nat) : Int)) (q_move rfl) ?_
                refine Wl.q (v := Value.int .i64 ((a0 : Nat) : Int)) (q_move hE1_0) ?_
                refine Wl.q (v := Value.int .i64 ((i : Nat) : Int)) (q_move hE8_0) ?_
                refine Wl.q (v := Value.int .i64 ((a0 + i : Nat) : Int)) (q_add (c := ((a0 + i : Nat) : Int)) rfl rfl (by rw [wrap_i64] <;> omega)) ?_
                refine Wl.q (v := Value.int .i64 (((a0 + i) + 1 : Nat) : Int)) (q_add (c := (((a0 + i) + 1 : Nat) : Int)) rfl rfl (by rw [wrap_i64] <;> omega)) ?_
                refine Wl.q (v := Value.int .i64 (((z + c.toNat % 128 * 128 ^ i) / 2 : Nat) : Int)) (q_assign rfl) ?_
                refine Wl.q (v := Value.int .i64 (((a0 + i) + 1 : Nat) : Int)) (q_assign rfl) ?_
                refine Wl.q (v := Value.int .i64 0) (q_assign rfl) ?_
                refine Wl.done ?_
                refine Wx.go ?_
                refine Wc.ret ?_
                refine Wx.blockRet ?_
                refine Wx.thenRet ?_
                refine Wx.thenRet ?_
                refine Wx.blockRet ?_
                refine Wx.thenRet ?_
                refine Wx.fin3 rfl (.inl rfl) (fun w hs => ?_)
                rw [show 10 - i = (10 - (i + 1)) + 1 by omega] at hp0
                have e : takeNum s a0 = some (un (z + c.toNat % 128 * 128 ^ i), a0 + i + 1) := take_some hp0 (dec_end hget (by omega) (by omega))
                exact ⟨(), trivial, by rw [e, ← un_even hodd]; rfl, hs⟩
            ·
              refine Wl.q (v := Value.bool false) (q_lss (r := false) rfl rfl (decide_eq_false hc128)) ?_
              refine Wl.done ?_
              refine Wx.go ?_
              refine Wc.no rfl ?_
              refine Wc.skip ?_
              refine Wx.blockEnd ?_
              refine Wx.go ?_
              refine Wc.region ?_
              refine Wl.q (v := Value.int .i64 ((i : Nat) : Int)) (q_move hE8_0) ?_
              refine Wl.q (v := Value.int .i64 ((i + 1 : Nat) : Int)) (q_add (c := ((i + 1 : Nat) : Int)) rfl rfl (by rw [wrap_i64] <;> omega)) ?_
              refine Wl.q (v := Value.int .i64 ((i + 1 : Nat) : Int)) (q_assign rfl) ?_
              refine Wl.done ?_
              refine Wx.at (i + 1, (z + c.toNat % 128 * 128 ^ i)) ⟨(by simp only; omega), rfl, rfl, hE0_0, hE1_0, (by simp only; rw [hp0, show 10 - i = (10 - (i + 1)) + 1 by omega]; exact dec_more hget (by omega) (by omega)), (pow_next hz), (by simp only; omega), (by simp only; omega)⟩ (fun w hs => hs)
    ·
      refine Wl.q (v := Value.bool false) (q_lss (r := false) rfl rfl (decide_eq_false hi10)) ?_
      refine Wl.done ?_
      refine Wx.go ?_
      refine Wc.no rfl ?_
      refine Wc.exit ?_
      refine Wx.thenExit ?_
      refine Wx.thenExit ?_
      refine Wx.out ?_
      refine Wx.go ?_
      refine Wc.seq ?_
      refine Wc.region ?_
      refine Wl.q (v := Value.int .i64 ((a0 : Nat) : Int)) (q_move hE1_0) ?_
      refine Wl.q (v := Value.int .i64 0) (q_assign rfl) ?_
      refine Wl.q (v := Value.int .i64 ((a0 : Nat) : Int)) (q_assign rfl) ?_
      refine Wl.q (v := Value.int .i64 4) (q_assign rfl) ?_
      refine Wl.done ?_
      refine Wx.go ?_
      refine Wc.ret ?_
      refine Wx.fin3 rfl (.inl rfl) (fun w hs => ?_)
      have h10 : i = 10 := by omega
      subst h10
      have e : takeNum s a0 = none := take_none hp0 rfl
      exact ⟨(), trivial, by rw [e]; rfl, hs⟩

theorem tnum_ok (W0 : World) (s : ByteArray) (a0 : Nat) (ha0 : a0 ≤ s.size) (hsz : s.size ≤ 9223372036854775807) (v : Int) (a : Nat) (h : takeNum s a0 = some (v, a)) : Con Try.prog W0 30 #[Value.string s, Value.int .i64 ((a0 : Nat) : Int)] [] (X := Unit) (fun _ => True) (fun _ => .tuple #[.int .i64 v, .int .i64 ((a : Nat) : Int), .int .i64 0]) (fun _ => []) := by
  have := tnum_c W0 s a0 ha0 hsz; rw [h] at this; exact this
theorem tnum_bad (W0 : World) (s : ByteArray) (a0 : Nat) (ha0 : a0 ≤ s.size) (hsz : s.size ≤ 9223372036854775807) (h : takeNum s a0 = none) : Con Try.prog W0 30 #[Value.string s, Value.int .i64 ((a0 : Nat) : Int)] [] (X := Unit) (fun _ => True) (fun _ => .tuple #[.int .i64 0, .int .i64 ((a0 : Nat) : Int), .int .i64 4]) (fun _ => []) := by
  have := tnum_c W0 s a0 ha0 hsz; rw [h] at this; exact this

theorem tmany_none (W0 : World) (s : ByteArray) (a0 : Nat) (ha0 : a0 ≤ s.size) (hsz : s.size ≤ 9223372036854775807) (htk : takeNum s a0 = none) :
    Con Try.prog W0 51 #[Value.string s, Value.int .i64 ((a0 : Nat) : Int)] [] (X := Unit) (fun _ => True) (fun _ => .tuple #[.int .i64 0, .int .i64 ((a0 : Nat) : Int), .int .i64 4]) (fun _ => []) := by
  refine Con.of (args := [Value.string s, Value.int .i64 ((a0 : Nat) : Int)]) Try.func51 rfl Try.ntmps51 rfl (fun F => ?_)
  show Wc _ W0 _ _ _ _ _ (F)
  refine Wc.seq ?_
  refine Wc.region ?_
  refine Wl.q (v := Value.int .i64 0) (q_assign rfl) ?_
  refine Wl.q (v := Value.int .i64 0) (q_assign rfl) ?_
  refine Wl.q (v := Value.int .i64 0) (q_assign rfl) ?_
  refine Wl.done ?_
  refine Wx.go ?_
  refine Wc.seq ?_
  refine Wc.region ?_
  refine Wl.q (v := Value.string s) (q_move rfl) ?_
  refine Wl.q (v := Value.int .i64 ((a0 : Nat) : Int)) (q_move rfl) ?_
  refine Wl.e (e_call (F := F) (args := [Value.string s, Value.int .i64 ((a0 : Nat) : Int)]) Try.call30 rfl (tnum_bad W0 s a0 ha0 hsz htk)) (fun _ _ => ?_)
  refine Wl.imp (L' := F) (fun _ h => h) ?_
  refine Wl.q (v := Value.tuple #[Value.int .i64 0, Value.int .i64 ((a0 : Nat) : Int), Value.int .i64 4]) (q_move rfl) ?_
  refine Wl.q (v := Value.int .i64 0) (q_extract (i := 0) rfl rfl) ?_
  refine Wl.q (v := Value.int .i64 ((a0 : Nat) : Int)) (q_extract (i := 1) rfl rfl) ?_
  refine Wl.q (v := Value.int .i64 4) (q_extract (i := 2) rfl rfl) ?_
  refine Wl.q (v := Value.int .i64 0) (q_assign rfl) ?_
  refine Wl.q (v := Value.int .i64 ((a0 : Nat) : Int)) (q_assign rfl) ?_
  refine Wl.q (v := Value.int .i64 4) (q_assign rfl) ?_
  refine Wl.done ?_
  refine Wx.go ?_
  refine Wc.seq ?_
  refine Wc.seq ?_
  refine Wc.region ?_
  refine Wl.q (v := Value.int .i64 4) (q_move rfl) ?_
  refine Wl.q (v := Value.bool true) (q_neq (r := false) rfl rfl (decide_eq_false (by decide))) ?_
  refine Wl.q (v := Value.bool true) (q_move rfl) ?_
  refine Wl.no ?_
  refine Wl.no ?_
  refine Wl.q (v := Value.bool true) (q_pick (t := true) rfl rfl) ?_
  refine Wl.q (v := Value.bool true) (q_move rfl) ?_
  refine Wl.no ?_
  refine Wl.no ?_
  refine Wl.q (v := Value.bool true) (q_pick (t := true) rfl rfl) ?_
  refine Wl.done ?_
  refine Wx.go ?_
  refine Wc.yes rfl ?_
  refine Wc.seq ?_
  refine Wc.region ?_
  refine Wl.q (v := Value.int .i64 ((a0 : Nat) : Int)) (q_move rfl) ?_
  refine Wl.q (v := Value.int .i64 0) (q_assign rfl) ?_
  refine Wl.q (v := Value.int .i64 ((a0 : Nat) : Int)) (q_assign rfl) ?_
  refine Wl.q (v := Value.int .i64 4) (q_assign rfl) ?_
  refine Wl.done ?_
  refine Wx.go ?_
  refine Wc.ret ?_
  refine Wx.thenRet ?_
  refine Wx.fin3 rfl (.inl rfl) (fun w hs => ?_)
  exact ⟨(), trivial, rfl, hs⟩

theorem tmany_ok (W0 : World) (s : ByteArray) (a0 : Nat) (ha0 : a0 ≤ s.size) (hsz : s.size ≤ 9223372036854775807) (v : Int) (a : Nat) (htk : takeNum s a0 = some (v, a)) (hv0 : 0 ≤ v) (hv1 : v ≤ 65536) :
    Con Try.prog W0 51 #[Value.string s, Value.int .i64 ((a0 : Nat) : Int)] [] (X := Unit) (fun _ => True) (fun _ => .tuple #[.int .i64 v, .int .i64 ((a : Nat) : Int), .int .i64 0]) (fun _ => []) := by
  refine Con.of (args := [Value.string s, Value.int .i64 ((a0 : Nat) : Int)]) Try.func51 rfl Try.ntmps51 rfl (fun F => ?_)
  show Wc _ W0 _ _ _ _ _ (F)
  refine Wc.seq ?_
  refine Wc.region ?_
  refine Wl.q (v := Value.int .i64 0) (q_assign rfl) ?_
  refine Wl.q (v := Value.int .i64 0) (q_assign rfl) ?_
  refine Wl.q (v := Value.int .i64 0) (q_assign rfl) ?_
  refine Wl.done ?_
  refine Wx.go ?_
  refine Wc.seq ?_
  refine Wc.region ?_
  refine Wl.q (v := Value.string s) (q_move rfl) ?_
  refine Wl.q (v := Value.int .i64 ((a0 : Nat) : Int)) (q_move rfl) ?_
  refine Wl.e (e_call (F := F) (args := [Value.string s, Value.int .i64 ((a0 : Nat) : Int)]) Try.call30 rfl (tnum_ok W0 s a0 ha0 hsz v a htk)) (fun _ _ => ?_)
  refine Wl.imp (L' := F) (fun _ h => h) ?_
  refine Wl.q (v := Value.tuple #[Value.int .i64 v, Value.int .i64 ((a : Nat) : Int), Value.int .i64 0]) (q_move rfl) ?_
  refine Wl.q (v := Value.int .i64 v) (q_extract (i := 0) rfl rfl) ?_
  refine Wl.q (v := Value.int .i64 ((a : Nat) : Int)) (q_extract (i := 1) rfl rfl) ?_
  refine Wl.q (v := Value.int .i64 0) (q_extract (i := 2) rfl rfl) ?_
  refine Wl.q (v := Value.int .i64 v) (q_assign rfl) ?_
  refine Wl.q (v := Value.int .i64 ((a : Nat) : Int)) (q_assign rfl) ?_
  refine Wl.q (v := Value.int .i64 0) (q_assign rfl) ?_
  refine Wl.done ?_
  refine Wx.go ?_
  refine Wc.seq ?_
  refine Wc.seq ?_
  refine Wc.region ?_
  refine Wl.q (v := Value.int .i64 0) (q_move rfl) ?_
  refine Wl.q (v := Value.bool false) (q_neq (r := true) rfl rfl (decide_eq_true (by decide))) ?_
  refine Wl.q (v := Value.bool false) (q_move rfl) ?_
  refine Wl.q (v := Value.int .i64 v) (q_move rfl) ?_
  refine Wl.q (v := Value.bool false) (q_lss (r := false) rfl rfl (decide_eq_false (by omega))) ?_
  refine Wl.q (v := Value.bool false) (q_pick (t := false) rfl rfl) ?_
  refine Wl.q (v := Value.bool false) (q_move rfl) ?_
  refine Wl.q (v := Value.int .i64 v) (q_move rfl) ?_
  refine Wl.q (v := Value.bool false) (q_gtr (r := false) rfl rfl (decide_eq_false (by omega))) ?_
  refine Wl.q (v := Value.bool false) (q_pick (t := false) rfl rfl) ?_
  refine Wl.done ?_
  refine Wx.go ?_
  refine Wc.no rfl ?_
  refine Wc.skip ?_
  refine Wx.go ?_
  refine Wc.seq ?_
  refine Wc.region ?_
  refine Wl.q (v := Value.int .i64 v) (q_move rfl) ?_
  refine Wl.q (v := Value.int .i64 ((a : Nat) : Int)) (q_move rfl) ?_
  refine Wl.q (v := Value.int .i64 v) (q_assign rfl) ?_
  refine Wl.q (v := Value.int .i64 ((a : Nat) : Int)) (q_assign rfl) ?_
  refine Wl.q (v := Value.int .i64 0) (q_assign rfl) ?_
  refine Wl.done ?_
  refine Wx.go ?_
  refine Wc.ret ?_
  refine Wx.fin3 rfl (.inl rfl) (fun w hs => ?_)
  exact ⟨(), trivial, rfl, hs⟩

theorem tmany_neg (W0 : World) (s : ByteArray) (a0 : Nat) (ha0 : a0 ≤ s.size) (hsz : s.size ≤ 9223372036854775807) (v : Int) (a : Nat) (htk : takeNum s a0 = some (v, a)) (hv : v < 0) :
    Con Try.prog W0 51 #[Value.string s, Value.int .i64 ((a0 : Nat) : Int)] [] (X := Unit) (fun _ => True) (fun _ => .tuple #[.int .i64 0, .int .i64 ((a0 : Nat) : Int), .int .i64 4]) (fun _ => []) := by
  refine Con.of (args := [Value.string s, Value.int .i64 ((a0 : Nat) : Int)]) Try.func51 rfl Try.ntmps51 rfl (fun F => ?_)
  show Wc _ W0 _ _ _ _ _ (F)
  refine Wc.seq ?_
  refine Wc.region ?_
  refine Wl.q (v := Value.int .i64 0) (q_assign rfl) ?_
  refine Wl.q (v := Value.int .i64 0) (q_assign rfl) ?_
  refine Wl.q (v := Value.int .i64 0) (q_assign rfl) ?_
  refine Wl.done ?_
  refine Wx.go ?_
  refine Wc.seq ?_
  refine Wc.region ?_
  refine Wl.q (v := Value.string s) (q_move rfl) ?_
  refine Wl.q (v := Value.int .i64 ((a0 : Nat) : Int)) (q_move rfl) ?_
  refine Wl.e (e_call (F := F) (args := [Value.string s, Value.int .i64 ((a0 : Nat) : Int)]) Try.call30 rfl (tnum_ok W0 s a0 ha0 hsz v a htk)) (fun _ _ => ?_)
  refine Wl.imp (L' := F) (fun _ h => h) ?_
  refine Wl.q (v := Value.tuple #[Value.int .i64 v, Value.int .i64 ((a : Nat) : Int), Value.int .i64 0]) (q_move rfl) ?_
  refine Wl.q (v := Value.int .i64 v) (q_extract (i := 0) rfl rfl) ?_
  refine Wl.q (v := Value.int .i64 ((a : Nat) : Int)) (q_extract (i := 1) rfl rfl) ?_
  refine Wl.q (v := Value.int .i64 0) (q_extract (i := 2) rfl rfl) ?_
  refine Wl.q (v := Value.int .i64 v) (q_assign rfl) ?_
  refine Wl.q (v := Value.int .i64 ((a : Nat) : Int)) (q_assign rfl) ?_
  refine Wl.q (v := Value.int .i64 0) (q_assign rfl) ?_
  refine Wl.done ?_
  refine Wx.go ?_
  refine Wc.seq ?_
  refine Wc.seq ?_
  refine Wc.region ?_
  refine Wl.q (v := Value.int .i64 0) (q_move rfl) ?_
  refine Wl.q (v := Value.bool false) (q_neq (r := true) rfl rfl (decide_eq_true (by decide))) ?_
  refine Wl.q (v := Value.bool false) (q_move rfl) ?_
  refine Wl.q (v := Value.int .i64 v) (q_move rfl) ?_
  refine Wl.q (v := Value.bool true) (q_lss (r := true) rfl rfl (decide_eq_true (by omega))) ?_
  refine Wl.q (v := Value.bool true) (q_pick (t := false) rfl rfl) ?_
  refine Wl.q (v := Value.bool true) (q_move rfl) ?_
  refine Wl.no ?_
  refine Wl.no ?_
  refine Wl.q (v := Value.bool true) (q_pick (t := true) rfl rfl) ?_
  refine Wl.done ?_
  refine Wx.go ?_
  refine Wc.yes rfl ?_
  refine Wc.seq ?_
  refine Wc.region ?_
  refine Wl.q (v := Value.int .i64 ((a0 : Nat) : Int)) (q_move rfl) ?_
  refine Wl.q (v := Value.int .i64 0) (q_assign rfl) ?_
  refine Wl.q (v := Value.int .i64 ((a0 : Nat) : Int)) (q_assign rfl) ?_
  refine Wl.q (v := Value.int .i64 4) (q_assign rfl) ?_
  refine Wl.done ?_
  refine Wx.go ?_
  refine Wc.ret ?_
  refine Wx.thenRet ?_
  refine Wx.fin3 rfl (.inl rfl) (fun w hs => ?_)
  exact ⟨(), trivial, rfl, hs⟩

theorem tmany_big (W0 : World) (s : ByteArray) (a0 : Nat) (ha0 : a0 ≤ s.size) (hsz : s.size ≤ 9223372036854775807) (v : Int) (a : Nat) (htk : takeNum s a0 = some (v, a)) (hv0 : 0 ≤ v) (hv1 : 65536 < v) :
    Con Try.prog W0 51 #[Value.string s, Value.int .i64 ((a0 : Nat) : Int)] [] (X := Unit) (fun _ => True) (fun _ => .tuple #[.int .i64 0, .int .i64 ((a0 : Nat) : Int), .int .i64 4]) (fun _ => []) := by
  refine Con.of (args := [Value.string s, Value.int .i64 ((a0 : Nat) : Int)]) Try.func51 rfl Try.ntmps51 rfl (fun F => ?_)
  show Wc _ W0 _ _ _ _ _ (F)
  refine Wc.seq ?_
  refine Wc.region ?_
  refine Wl.q (v := Value.int .i64 0) (q_assign rfl) ?_
  refine Wl.q (v := Value.int .i64 0) (q_assign rfl) ?_
  refine Wl.q (v := Value.int .i64 0) (q_assign rfl) ?_
  refine Wl.done ?_
  refine Wx.go ?_
  refine Wc.seq ?_
  refine Wc.region ?_
  refine Wl.q (v := Value.string s) (q_move rfl) ?_
  refine Wl.q (v := Value.int .i64 ((a0 : Nat) : Int)) (q_move rfl) ?_
  refine Wl.e (e_call (F := F) (args := [Value.string s, Value.int .i64 ((a0 : Nat) : Int)]) Try.call30 rfl (tnum_ok W0 s a0 ha0 hsz v a htk)) (fun _ _ => ?_)
  refine Wl.imp (L' := F) (fun _ h => h) ?_
  refine Wl.q (v := Value.tuple #[Value.int .i64 v, Value.int .i64 ((a : Nat) : Int), Value.int .i64 0]) (q_move rfl) ?_
  refine Wl.q (v := Value.int .i64 v) (q_extract (i := 0) rfl rfl) ?_
  refine Wl.q (v := Value.int .i64 ((a : Nat) : Int)) (q_extract (i := 1) rfl rfl) ?_
  refine Wl.q (v := Value.int .i64 0) (q_extract (i := 2) rfl rfl) ?_
  refine Wl.q (v := Value.int .i64 v) (q_assign rfl) ?_
  refine Wl.q (v := Value.int .i64 ((a : Nat) : Int)) (q_assign rfl) ?_
  refine Wl.q (v := Value.int .i64 0) (q_assign rfl) ?_
  refine Wl.done ?_
  refine Wx.go ?_
  refine Wc.seq ?_
  refine Wc.seq ?_
  refine Wc.region ?_
  refine Wl.q (v := Value.int .i64 0) (q_move rfl) ?_
  refine Wl.q (v := Value.bool false) (q_neq (r := true) rfl rfl (decide_eq_true (by decide))) ?_
  refine Wl.q (v := Value.bool false) (q_move rfl) ?_
  refine Wl.q (v := Value.int .i64 v) (q_move rfl) ?_
  refine Wl.q (v := Value.bool false) (q_lss (r := false) rfl rfl (decide_eq_false (by omega))) ?_
  refine Wl.q (v := Value.bool false) (q_pick (t := false) rfl rfl) ?_
  refine Wl.q (v := Value.bool false) (q_move rfl) ?_
  refine Wl.q (v := Value.int .i64 v) (q_move rfl) ?_
  refine Wl.q (v := Value.bool true) (q_gtr (r := true) rfl rfl (decide_eq_true (by omega))) ?_
  refine Wl.q (v := Value.bool true) (q_pick (t := false) rfl rfl) ?_
  refine Wl.done ?_
  refine Wx.go ?_
  refine Wc.yes rfl ?_
  refine Wc.seq ?_
  refine Wc.region ?_
  refine Wl.q (v := Value.int .i64 ((a0 : Nat) : Int)) (q_move rfl) ?_
  refine Wl.q (v := Value.int .i64 0) (q_assign rfl) ?_
  refine Wl.q (v := Value.int .i64 ((a0 : Nat) : Int)) (q_assign rfl) ?_
  refine Wl.q (v := Value.int .i64 4) (q_assign rfl) ?_
  refine Wl.done ?_
  refine Wx.go ?_
  refine Wc.ret ?_
  refine Wx.thenRet ?_
  refine Wx.fin3 rfl (.inl rfl) (fun w hs => ?_)
  exact ⟨(), trivial, rfl, hs⟩

theorem tmany_bad (W0 : World) (s : ByteArray) (a0 : Nat) (ha0 : a0 ≤ s.size) (hsz : s.size ≤ 9223372036854775807) (h : takeList s a0 = none) : Con Try.prog W0 51 #[Value.string s, Value.int .i64 ((a0 : Nat) : Int)] [] (X := Unit) (fun _ => True) (fun _ => .tuple #[.int .i64 0, .int .i64 ((a0 : Nat) : Int), .int .i64 4]) (fun _ => []) := by
  unfold takeList at h
  split at h
  · rename_i p hp
    split at h
    · cases h
    · rename_i hr
      by_cases h0 : p.1 < 0
      · exact tmany_neg W0 s a0 ha0 hsz p.1 p.2 hp h0
      · exact tmany_big W0 s a0 ha0 hsz p.1 p.2 hp (by omega) (by omega)
  · rename_i hp; exact tmany_none W0 s a0 ha0 hsz hp

theorem tlist_bad (W0 : World) (s : ByteArray) (a0 : Nat) (ha0 : a0 ≤ s.size) (hsz : s.size ≤ 9223372036854775807) (h : takeList s a0 = none) :
    Con Try.prog W0 33 #[Value.string s, Value.int .i64 ((a0 : Nat) : Int)] [] (X := Unit) (fun _ => True) (fun _ => .tuple #[.int .i64 0, .int .i64 ((a0 : Nat) : Int), .int .i64 4]) (fun _ => []) := by
  refine Con.of (args := [Value.string s, Value.int .i64 ((a0 : Nat) : Int)]) Try.func33 rfl Try.ntmps33 rfl (fun F => ?_)
  show Wc _ W0 _ _ _ _ _ (F)
  refine Wc.seq ?_
  refine Wc.region ?_
  refine Wl.q (v := Value.int .i64 0) (q_assign rfl) ?_
  refine Wl.q (v := Value.int .i64 0) (q_assign rfl) ?_
  refine Wl.q (v := Value.int .i64 0) (q_assign rfl) ?_
  refine Wl.done ?_
  refine Wx.go ?_
  refine Wc.seq ?_
  refine Wc.region ?_
  refine Wl.q (v := Value.string s) (q_move rfl) ?_
  refine Wl.q (v := Value.int .i64 ((a0 : Nat) : Int)) (q_move rfl) ?_
  refine Wl.e (e_call (F := F) (args := [Value.string s, Value.int .i64 ((a0 : Nat) : Int)]) Try.call51 rfl (tmany_bad W0 s a0 ha0 hsz h)) (fun _ _ => ?_)
  refine Wl.imp (L' := F) (fun _ h => h) ?_
  refine Wl.q (v := Value.int .i64 0) (q_extract (i := 0) rfl rfl) ?_
  refine Wl.q (v := Value.int .i64 ((a0 : Nat) : Int)) (q_extract (i := 1) rfl rfl) ?_
  refine Wl.q (v := Value.int .i64 4) (q_extract (i := 2) rfl rfl) ?_
  refine Wl.q (v := Value.int .i64 0) (q_assign rfl) ?_
  refine Wl.q (v := Value.int .i64 ((a0 : Nat) : Int)) (q_assign rfl) ?_
  refine Wl.q (v := Value.int .i64 4) (q_assign rfl) ?_
  refine Wl.done ?_
  refine Wx.go ?_
  refine Wc.ret ?_
  refine Wx.fin3 rfl (.inl rfl) (fun w hs => ?_)
  exact ⟨(), trivial, rfl, hs⟩

theorem tlist_ok (W0 : World) (s : ByteArray) (a0 : Nat) (ha0 : a0 ≤ s.size) (hsz : s.size ≤ 9223372036854775807) (n a : Nat) (h : takeList s a0 = some (n, a)) :
    Con Try.prog W0 33 #[Value.string s, Value.int .i64 ((a0 : Nat) : Int)] [] (X := Unit) (fun _ => True) (fun _ => .tuple #[.int .i64 ((n : Nat) : Int), .int .i64 ((a : Nat) : Int), .int .i64 0]) (fun _ => []) := by
  refine Con.of (args := [Value.string s, Value.int .i64 ((a0 : Nat) : Int)]) Try.func33 rfl Try.ntmps33 rfl (fun F => ?_)
  show Wc _ W0 _ _ _ _ _ (F)
  refine Wc.seq ?_
  refine Wc.region ?_
  refine Wl.q (v := Value.int .i64 0) (q_assign rfl) ?_
  refine Wl.q (v := Value.int .i64 0) (q_assign rfl) ?_
  refine Wl.q (v := Value.int .i64 0) (q_assign rfl) ?_
  refine Wl.done ?_
  refine Wx.go ?_
  refine Wc.seq ?_
  refine Wc.region ?_
  refine Wl.q (v := Value.string s) (q_move rfl) ?_
  refine Wl.q (v := Value.int .i64 ((a0 : Nat) : Int)) (q_move rfl) ?_
  refine Wl.e (e_call (F := F) (args := [Value.string s, Value.int .i64 ((a0 : Nat) : Int)]) Try.call51 rfl (tmany_ok W0 s a0 ha0 hsz (n : Int) a (takeList_of h) (by omega) (by have := takeList_le h; simp only at this; omega))) (fun _ _ => ?_)
  refine Wl.imp (L' := F) (fun _ h => h) ?_
  refine Wl.q (v := Value.int .i64 ((n : Nat) : Int)) (q_extract (i := 0) rfl rfl) ?_
  refine Wl.q (v := Value.int .i64 ((a : Nat) : Int)) (q_extract (i := 1) rfl rfl) ?_
  refine Wl.q (v := Value.int .i64 0) (q_extract (i := 2) rfl rfl) ?_
  refine Wl.q (v := Value.int .i64 ((n : Nat) : Int)) (q_assign rfl) ?_
  refine Wl.q (v := Value.int .i64 ((a : Nat) : Int)) (q_assign rfl) ?_
  refine Wl.q (v := Value.int .i64 0) (q_assign rfl) ?_
  refine Wl.done ?_
  refine Wx.go ?_
  refine Wc.ret ?_
  refine Wx.fin3 rfl (.inl rfl) (fun w hs => ?_)
  exact ⟨(), trivial, rfl, hs⟩

theorem ttext_none (W0 : World) (s : ByteArray) (a0 : Nat) (ha0 : a0 ≤ s.size) (hsz : s.size ≤ 9223372036854775807) (h : takeList s a0 = none) :
    Con Try.prog W0 32 #[Value.string s, Value.int .i64 ((a0 : Nat) : Int)] [] (X := Unit) (fun _ => True) (fun _ => .tuple #[.string ⟨#[]⟩, .int .i64 ((a0 : Nat) : Int), .int .i64 4]) (fun _ => []) := by
  refine Con.of (args := [Value.string s, Value.int .i64 ((a0 : Nat) : Int)]) Try.func32 rfl Try.ntmps32 rfl (fun F => ?_)
  show Wc _ W0 _ _ _ _ _ (F)
  refine Wc.seq ?_
  refine Wc.region ?_
  refine Wl.q (v := Value.string (⟨#[]⟩)) (q_assign rfl) ?_
  refine Wl.q (v := Value.int .i64 0) (q_assign rfl) ?_
  refine Wl.q (v := Value.int .i64 0) (q_assign rfl) ?_
  refine Wl.done ?_
  refine Wx.go ?_
  refine Wc.seq ?_
  refine Wc.region ?_
  refine Wl.q (v := Value.string s) (q_move rfl) ?_
  refine Wl.q (v := Value.int .i64 ((a0 : Nat) : Int)) (q_move rfl) ?_
  refine Wl.e (e_call (F := F) (args := [Value.string s, Value.int .i64 ((a0 : Nat) : Int)]) Try.call51 rfl (tmany_bad W0 s a0 ha0 hsz h)) (fun _ _ => ?_)
  refine Wl.imp (L' := F) (fun _ h => h) ?_
  refine Wl.q (v := Value.tuple #[Value.int .i64 0, Value.int .i64 ((a0 : Nat) : Int), Value.int .i64 4]) (q_move rfl) ?_
  refine Wl.q (v := Value.int .i64 0) (q_extract (i := 0) rfl rfl) ?_
  refine Wl.q (v := Value.int .i64 ((a0 : Nat) : Int)) (q_extract (i := 1) rfl rfl) ?_
  refine Wl.q (v := Value.int .i64 4) (q_extract (i := 2) rfl rfl) ?_
  refine Wl.q (v := Value.int .i64 0) (q_assign rfl) ?_
  refine Wl.q (v := Value.int .i64 ((a0 : Nat) : Int)) (q_assign rfl) ?_
  refine Wl.q (v := Value.int .i64 4) (q_assign rfl) ?_
  refine Wl.done ?_
  refine Wx.go ?_
  refine Wc.seq ?_
  refine Wc.seq ?_
  refine Wc.region ?_
  refine Wl.q (v := Value.int .i64 4) (q_move rfl) ?_
  refine Wl.q (v := Value.bool true) (q_neq (r := false) rfl rfl (decide_eq_false (by decide))) ?_
  refine Wl.q (v := Value.bool true) (q_move rfl) ?_
  refine Wl.no ?_
  refine Wl.no ?_
  refine Wl.no ?_
  refine Wl.no ?_
  refine Wl.no ?_
  refine Wl.no ?_
  refine Wl.q (v := Value.bool true) (q_pick (t := true) rfl rfl) ?_
  refine Wl.done ?_
  refine Wx.go ?_
  refine Wc.yes rfl ?_
  refine Wc.seq ?_
  refine Wc.region ?_
  refine Wl.q (v := Value.int .i64 ((a0 : Nat) : Int)) (q_move rfl) ?_
  refine Wl.q (v := Value.string (⟨#[]⟩)) (q_assign rfl) ?_
  refine Wl.q (v := Value.int .i64 ((a0 : Nat) : Int)) (q_assign rfl) ?_
  refine Wl.q (v := Value.int .i64 4) (q_assign rfl) ?_
  refine Wl.done ?_
  refine Wx.go ?_
  refine Wc.ret ?_
  refine Wx.thenRet ?_
  refine Wx.fin3 rfl (.inl rfl) (fun w hs => ?_)
  exact ⟨(), trivial, rfl, hs⟩

theorem ttext_long (W0 : World) (s : ByteArray) (a0 : Nat) (ha0 : a0 ≤ s.size) (hsz : s.size ≤ 9223372036854775807) (n a : Nat) (h : takeList s a0 = some (n, a)) (ha : a ≤ s.size) (hna : ¬ a + n ≤ s.size) :
    Con Try.prog W0 32 #[Value.string s, Value.int .i64 ((a0 : Nat) : Int)] [] (X := Unit) (fun _ => True) (fun _ => .tuple #[.string ⟨#[]⟩, .int .i64 ((a0 : Nat) : Int), .int .i64 4]) (fun _ => []) := by
  refine Con.of (args := [Value.string s, Value.int .i64 ((a0 : Nat) : Int)]) Try.func32 rfl Try.ntmps32 rfl (fun F => ?_)
  show Wc _ W0 _ _ _ _ _ (F)
  refine Wc.seq ?_
  refine Wc.region ?_
  refine Wl.q (v := Value.string (⟨#[]⟩)) (q_assign rfl) ?_
  refine Wl.q (v := Value.int .i64 0) (q_assign rfl) ?_
  refine Wl.q (v := Value.int .i64 0) (q_assign rfl) ?_
  refine Wl.done ?_
  refine Wx.go ?_
  refine Wc.seq ?_
  refine Wc.region ?_
  refine Wl.q (v := Value.string s) (q_move rfl) ?_
  refine Wl.q (v := Value.int .i64 ((a0 : Nat) : Int)) (q_move rfl) ?_
  refine Wl.e (e_call (F := F) (args := [Value.string s, Value.int .i64 ((a0 : Nat) : Int)]) Try.call51 rfl (tmany_ok W0 s a0 ha0 hsz (n : Int) a (takeList_of h) (by omega) (by have := takeList_le h; simp only at this; omega))) (fun _ _ => ?_)
  refine Wl.imp (L' := F) (fun _ h => h) ?_
  refine Wl.q (v := Value.tuple #[Value.int .i64 ((n : Nat) : Int), Value.int .i64 ((a : Nat) : Int), Value.int .i64 0]) (q_move rfl) ?_
  refine Wl.q (v := Value.int .i64 ((n : Nat) : Int)) (q_extract (i := 0) rfl rfl) ?_
  refine Wl.q (v := Value.int .i64 ((a : Nat) : Int)) (q_extract (i := 1) rfl rfl) ?_
  refine Wl.q (v := Value.int .i64 0) (q_extract (i := 2) rfl rfl) ?_
  refine Wl.q (v := Value.int .i64 ((n : Nat) : Int)) (q_assign rfl) ?_
  refine Wl.q (v := Value.int .i64 ((a : Nat) : Int)) (q_assign rfl) ?_
  refine Wl.q (v := Value.int .i64 0) (q_assign rfl) ?_
  refine Wl.done ?_
  refine Wx.go ?_
  refine Wc.seq ?_
  refine Wc.seq ?_
  refine Wc.region ?_
  refine Wl.q (v := Value.int .i64 0) (q_move rfl) ?_
  refine Wl.q (v := Value.bool false) (q_neq (r := true) rfl rfl (decide_eq_true (by decide))) ?_
  refine Wl.q (v := Value.bool false) (q_move rfl) ?_
  refine Wl.q (v := Value.int .i64 ((n : Nat) : Int)) (q_move rfl) ?_
  refine Wl.q (v := Value.string s) (q_move rfl) ?_
  refine Wl.q (v := Value.int .i64 ((s.size : Nat) : Int)) (q_len_str Try.underlying9 rfl) ?_
  refine Wl.q (v := Value.int .i64 ((a : Nat) : Int)) (q_move rfl) ?_
  refine Wl.q (v := Value.int .i64 (((s.size : Nat) : Int) - ((a : Nat) : Int))) (q_sub (c := (((s.size : Nat) : Int) - ((a : Nat) : Int))) rfl rfl (wrap_i64 (by omega) (by omega))) ?_
  refine Wl.q (v := Value.bool true) (q_gtr (r := true) rfl rfl (decide_eq_true (by omega))) ?_
  refine Wl.q (v := Value.bool true) (q_pick (t := false) rfl rfl) ?_
  refine Wl.done ?_
  refine Wx.go ?_
  refine Wc.yes rfl ?_
  refine Wc.seq ?_
  refine Wc.region ?_
  refine Wl.q (v := Value.int .i64 ((a0 : Nat) : Int)) (q_move rfl) ?_
  refine Wl.q (v := Value.string (⟨#[]⟩)) (q_assign rfl) ?_
  refine Wl.q (v := Value.int .i64 ((a0 : Nat) : Int)) (q_assign rfl) ?_
  refine Wl.q (v := Value.int .i64 4) (q_assign rfl) ?_
  refine Wl.done ?_
  refine Wx.go ?_
  refine Wc.ret ?_
  refine Wx.thenRet ?_
  refine Wx.fin3 rfl (.inl rfl) (fun w hs => ?_)
  exact ⟨(), trivial, rfl, hs⟩

theorem ttext_ok (W0 : World) (s : ByteArray) (a0 : Nat) (ha0 : a0 ≤ s.size) (hsz : s.size ≤ 9223372036854775807) (n a : Nat) (h : takeList s a0 = some (n, a)) (hna : a + n ≤ s.size) :
    Con Try.prog W0 32 #[Value.string s, Value.int .i64 ((a0 : Nat) : Int)] [] (X := Unit) (fun _ => True) (fun _ => .tuple #[.string (s.extract a (a + n)), .int .i64 ((a + n : Nat) : Int), .int .i64 0]) (fun _ => []) := by
  refine Con.of (args := [Value.string s, Value.int .i64 ((a0 : Nat) : Int)]) Try.func32 rfl Try.ntmps32 rfl (fun F => ?_)
  show Wc _ W0 _ _ _ _ _ (F)
  refine Wc.seq ?_
  refine Wc.region ?_
  refine Wl.q (v := Value.string (⟨#[]⟩)) (q_assign rfl) ?_
  refine Wl.q (v := Value.int .i64 0) (q_assign rfl) ?_
  refine Wl.q (v := Value.int .i64 0) (q_assign rfl) ?_
  refine Wl.done ?_
  refine Wx.go ?_
  refine Wc.seq ?_
  refine Wc.region ?_
  refine Wl.q (v := Value.string s) (q_move rfl) ?_
  refine Wl.q (v := Value.int .i64 ((a0 : Nat) : Int)) (q_move rfl) ?_
  refine Wl.e (e_call (F := F) (args := [Value.string s, Value.int .i64 ((a0 : Nat) : Int)]) Try.call51 rfl (tmany_ok W0 s a0 ha0 hsz (n : Int) a (takeList_of h) (by omega) (by have := takeList_le h; simp only at this; omega))) (fun _ _ => ?_)
  refine Wl.imp (L' := F) (fun _ h => h) ?_
  refine Wl.q (v := Value.tuple #[Value.int .i64 ((n : Nat) : Int), Value.int .i64 ((a : Nat) : Int), Value.int .i64 0]) (q_move rfl) ?_
  refine Wl.q (v := Value.int .i64 ((n : Nat) : Int)) (q_extract (i := 0) rfl rfl) ?_
  refine Wl.q (v := Value.int .i64 ((a : Nat) : Int)) (q_extract (i := 1) rfl rfl) ?_
  refine Wl.q (v := Value.int .i64 0) (q_extract (i := 2) rfl rfl) ?_
  refine Wl.q (v := Value.int .i64 ((n : Nat) : Int)) (q_assign rfl) ?_
  refine Wl.q (v := Value.int .i64 ((a : Nat) : Int)) (q_assign rfl) ?_
  refine Wl.q (v := Value.int .i64 0) (q_assign rfl) ?_
  refine Wl.done ?_
  refine Wx.go ?_
  refine Wc.seq ?_
  refine Wc.seq ?_
  refine Wc.region ?_
  refine Wl.q (v := Value.int .i64 0) (q_move rfl) ?_
  refine Wl.q (v := Value.bool false) (q_neq (r := true) rfl rfl (decide_eq_true (by decide))) ?_
  refine Wl.q (v := Value.bool false) (q_move rfl) ?_
  refine Wl.q (v := Value.int .i64 ((n : Nat) : Int)) (q_move rfl) ?_
  refine Wl.q (v := Value.string s) (q_move rfl) ?_
  refine Wl.q (v := Value.int .i64 ((s.size : Nat) : Int)) (q_len_str Try.underlying9 rfl) ?_
  refine Wl.q (v := Value.int .i64 ((a : Nat) : Int)) (q_move rfl) ?_
  refine Wl.q (v := Value.int .i64 (((s.size : Nat) : Int) - ((a : Nat) : Int))) (q_sub (c := (((s.size : Nat) : Int) - ((a : Nat) : Int))) rfl rfl (wrap_i64 (by omega) (by omega))) ?_
  refine Wl.q (v := Value.bool false) (q_gtr (r := false) rfl rfl (decide_eq_false (by omega))) ?_
  refine Wl.q (v := Value.bool false) (q_pick (t := false) rfl rfl) ?_
  refine Wl.done ?_
  refine Wx.go ?_
  refine Wc.no rfl ?_
  refine Wc.skip ?_
  refine Wx.go ?_
  refine Wc.seq ?_
  refine Wc.region ?_
  refine Wl.q (v := Value.string s) (q_move rfl) ?_
  refine Wl.q (v := Value.int .i64 ((a : Nat) : Int)) (q_move rfl) ?_
  refine Wl.q (v := Value.int .i64 ((a : Nat) : Int)) (q_move rfl) ?_
  refine Wl.q (v := Value.int .i64 ((n : Nat) : Int)) (q_move rfl) ?_
  refine Wl.q (v := Value.int .i64 ((a + n : Nat) : Int)) (q_add (c := ((a + n : Nat) : Int)) rfl rfl (by rw [wrap_i64] <;> omega)) ?_
  refine Wl.q (v := Value.string (s.extract a (a + n))) (q_slice_str (l := a) (h := a + n) Try.underlying9 rfl ⟨_, rfl⟩ ⟨_, rfl⟩ (by omega) (by omega) rfl) ?_
  refine Wl.q (v := Value.int .i64 ((a : Nat) : Int)) (q_move rfl) ?_
  refine Wl.q (v := Value.int .i64 ((n : Nat) : Int)) (q_move rfl) ?_
  refine Wl.q (v := Value.int .i64 ((a + n : Nat) : Int)) (q_add (c := ((a + n : Nat) : Int)) rfl rfl (by rw [wrap_i64] <;> omega)) ?_
  refine Wl.q (v := Value.string (s.extract a (a + n))) (q_assign rfl) ?_
  refine Wl.q (v := Value.int .i64 ((a + n : Nat) : Int)) (q_assign rfl) ?_
  refine Wl.q (v := Value.int .i64 0) (q_assign rfl) ?_
  refine Wl.done ?_
  refine Wx.go ?_
  refine Wc.ret ?_
  refine Wx.fin3 rfl (.inl rfl) (fun w hs => ?_)
  exact ⟨(), trivial, rfl, hs⟩

theorem tbyte_c (W0 : World) (s : ByteArray) (a0 : Nat) (ha0 : a0 ≤ s.size) (hsz : s.size ≤ 9223372036854775807) : Con Try.prog W0 29 #[Value.string s, Value.int .i64 ((a0 : Nat) : Int)] [] (X := Unit) (fun _ => True) (fun _ => .tuple #[.int .i64 ((gv 0 (takeByte s a0) : Nat) : Int), .int .i64 ((gn a0 (takeByte s a0) : Nat) : Int), .int .i64 (ge (takeByte s a0))]) (fun _ => []) := by
  rcases h : s[a0]? with _ | c
  · rw [show takeByte s a0 = none from by simp [takeByte, h]]; exact tbyte_bad W0 s a0 ha0 hsz (by have := get_none h; omega)
  · rw [show takeByte s a0 = some (c.toNat, a0 + 1) from by simp [takeByte, h]]; exact tbyte_ok W0 s a0 ha0 hsz c h (get_lt h)

theorem tflag_c (W0 : World) (s : ByteArray) (a0 : Nat) (ha0 : a0 ≤ s.size) (hsz : s.size ≤ 9223372036854775807) : Con Try.prog W0 31 #[Value.string s, Value.int .i64 ((a0 : Nat) : Int)] [] (X := Unit) (fun _ => True) (fun _ => .tuple #[.bool (gv false (takeFlag s a0)), .int .i64 ((gn a0 (takeFlag s a0) : Nat) : Int), .int .i64 (ge (takeFlag s a0))]) (fun _ => []) := by
  rcases h : s[a0]? with _ | c
  · rw [show takeFlag s a0 = none from by simp [takeFlag, h]]; exact tflag_end W0 s a0 ha0 hsz (by have := get_none h; omega)
  by_cases h1 : c.toNat = 1
  · rw [show takeFlag s a0 = some (true, a0 + 1) from by simp [takeFlag, h, h1]]; exact tflag_one W0 s a0 ha0 hsz c h (get_lt h) h1
  by_cases h0 : c.toNat = 0
  · rw [show takeFlag s a0 = some (false, a0 + 1) from by simp [takeFlag, h, h0]]; exact tflag_zero W0 s a0 ha0 hsz c h (get_lt h) h0
  · rw [show takeFlag s a0 = none from by simp [takeFlag, h]; omega]; exact tflag_big W0 s a0 ha0 hsz c h (get_lt h) (by omega)

theorem tlist_c (W0 : World) (s : ByteArray) (a0 : Nat) (ha0 : a0 ≤ s.size) (hsz : s.size ≤ 9223372036854775807) : Con Try.prog W0 33 #[Value.string s, Value.int .i64 ((a0 : Nat) : Int)] [] (X := Unit) (fun _ => True) (fun _ => .tuple #[.int .i64 ((gv 0 (takeList s a0) : Nat) : Int), .int .i64 ((gn a0 (takeList s a0) : Nat) : Int), .int .i64 (ge (takeList s a0))]) (fun _ => []) := by
  rcases h : takeList s a0 with _ | ⟨n, a⟩
  · exact tlist_bad W0 s a0 ha0 hsz h
  · have := takeList_le h; simp only at this; exact tlist_ok W0 s a0 ha0 hsz n a h

theorem ttext_c (W0 : World) (s : ByteArray) (a0 : Nat) (ha0 : a0 ≤ s.size) (hsz : s.size ≤ 9223372036854775807) : Con Try.prog W0 32 #[Value.string s, Value.int .i64 ((a0 : Nat) : Int)] [] (X := Unit) (fun _ => True) (fun _ => .tuple #[.string (gv ⟨#[]⟩ (takeText s a0)), .int .i64 ((gn a0 (takeText s a0) : Nat) : Int), .int .i64 (ge (takeText s a0))]) (fun _ => []) := by
  rcases h : takeList s a0 with _ | ⟨n, a⟩
  · rw [show takeText s a0 = none from by simp [takeText, h]]; exact ttext_none W0 s a0 ha0 hsz h
  have hl := takeList_le h
  simp only at hl
  by_cases h1 : a + n ≤ s.size
  · rw [show takeText s a0 = some (s.extract a (a + n), a + n) from by simp [takeText, h, h1]]; exact ttext_ok W0 s a0 ha0 hsz n a h h1
  · rw [show takeText s a0 = none from by simp [takeText, h, h1]]; exact ttext_long W0 s a0 ha0 hsz n a h (by omega) h1

theorem reads_c (W0 : World) (r : Nat) (s : ByteArray) (kind : Int) (a0 : Nat) (ha0 : a0 ≤ s.size) (hsz : s.size ≤ 9223372036854775807) :
    Con Try.prog W0 16 #[Value.pointer (some ⟨r, 0, none⟩), Value.string s, Value.int .i64 kind, Value.int .i64 ((a0 : Nat) : Int)] [pt r 59 [Value.bool true, Value.string s, Value.int .i64 ((a0 : Nat) : Int)]] (X := Unit) (fun _ => True) (fun _ => .tuple #[.int .i64 ((readN s kind a0 : Nat) : Int), .bool true]) (fun _ => [pt r 59 [Value.bool true, Value.string s, Value.int .i64 (((readN s kind a0) : Nat) : Int)]]) := by
  refine Con.of (args := [Value.pointer (some ⟨r, 0, none⟩), Value.string s, Value.int .i64 kind, Value.int .i64 ((a0 : Nat) : Int)]) Try.func16 rfl Try.ntmps16 rfl (fun F => ?_)
  show Wc _ W0 _ _ _ _ _ ((pt r 59 [Value.bool true, Value.string s, Value.int .i64 ((a0 : Nat) : Int)]) :: F)
  refine Wc.seq ?_
  refine Wc.region ?_
  refine Wl.q (v := Value.int .i64 0) (q_assign rfl) ?_
  refine Wl.q (v := Value.bool false) (q_assign rfl) ?_
  refine Wl.done ?_
  refine Wx.go ?_
  refine Wc.seq ?_
  refine Wc.seq ?_
  refine Wc.region ?_
  refine Wl.q (v := Value.int .i64 kind) (q_move rfl) ?_
  refine Wl.done ?_
  refine Wx.go ?_
  refine Wc.block ?_
  refine Wc.seq ?_
  refine Wc.region ?_
  by_cases hk0 : kind = 0
  ·
    refine Wl.q (v := Value.bool true) (q_eql (r := true) rfl rfl (decide_eq_true hk0)) ?_
    refine Wl.q (v := Value.bool true) (q_assign rfl) ?_
    refine Wl.done ?_
    refine Wx.go ?_
    refine Wc.yes rfl ?_
    refine Wc.seq ?_
    refine Wc.region ?_
    refine Wl.q (v := Value.pointer (some ⟨r, 0, none⟩)) (q_move rfl) ?_
    refine Wl.e (e_call (F := F) (args := [Value.pointer (some ⟨r, 0, none⟩)]) Try.call22 rfl (rbyte_c W0 r s a0 ha0 hsz)) (fun _ _ => ?_)
    refine Wl.imp (L' := (pt r 59 [Value.bool true, Value.string s, Value.int .i64 (((gn a0 (takeByte s a0)) : Nat) : Int)]) :: F) (fun _ h => h) ?_
    refine Wl.q (v := Value.tuple #[Value.int .i64 (((gv 0 (takeByte s a0)) : Nat) : Int), Value.int .i64 (ge (takeByte s a0))]) (q_move rfl) ?_
    refine Wl.q (v := Value.int .i64 (((gv 0 (takeByte s a0)) : Nat) : Int)) (q_extract (i := 0) rfl rfl) ?_
    refine Wl.q (v := Value.int .i64 (ge (takeByte s a0))) (q_extract (i := 1) rfl rfl) ?_
    refine Wl.q (v := Value.int .i64 (((gv 0 (takeByte s a0)) : Nat) : Int)) (q_assign rfl) ?_
    refine Wl.q (v := Value.int .i64 (ge (takeByte s a0))) (q_assign rfl) ?_
    refine Wl.done ?_
    refine Wx.go ?_
    refine Wc.seq ?_
    refine Wc.region ?_
    refine Wl.q (v := Value.string s) (q_move rfl) ?_
    refine Wl.q (v := Value.int .i64 ((a0 : Nat) : Int)) (q_move rfl) ?_
    refine Wl.e (e_call (F := (pt r 59 [Value.bool true, Value.string s, Value.int .i64 (((gn a0 (takeByte s a0)) : Nat) : Int)]) :: F) (args := [Value.string s, Value.int .i64 ((a0 : Nat) : Int)]) Try.call29 rfl (tbyte_c W0 s a0 ha0 hsz)) (fun _ _ => ?_)
    refine Wl.imp (L' := (pt r 59 [Value.bool true, Value.string s, Value.int .i64 (((gn a0 (takeByte s a0)) : Nat) : Int)]) :: F) (fun _ h => h) ?_
    refine Wl.q (v := Value.tuple #[Value.int .i64 (((gv 0 (takeByte s a0)) : Nat) : Int), Value.int .i64 (((gn a0 (takeByte s a0)) : Nat) : Int), Value.int .i64 (ge (takeByte s a0))]) (q_move rfl) ?_
    refine Wl.q (v := Value.int .i64 (((gv 0 (takeByte s a0)) : Nat) : Int)) (q_extract (i := 0) rfl rfl) ?_
    refine Wl.q (v := Value.int .i64 (((gn a0 (takeByte s a0)) : Nat) : Int)) (q_extract (i := 1) rfl rfl) ?_
    refine Wl.q (v := Value.int .i64 (ge (takeByte s a0))) (q_extract (i := 2) rfl rfl) ?_
    refine Wl.q (v := Value.int .i64 (((gv 0 (takeByte s a0)) : Nat) : Int)) (q_assign rfl) ?_
    refine Wl.q (v := Value.int .i64 (((gn a0 (takeByte s a0)) : Nat) : Int)) (q_assign rfl) ?_
    refine Wl.q (v := Value.int .i64 (ge (takeByte s a0))) (q_assign rfl) ?_
    refine Wl.done ?_
    refine Wx.go ?_
    refine Wc.seq ?_
    refine Wc.region ?_
    refine Wl.q (v := Value.int .i64 (((gn a0 (takeByte s a0)) : Nat) : Int)) (q_move rfl) ?_
    refine Wl.q (v := Value.int .i64 (((gv 0 (takeByte s a0)) : Nat) : Int)) (q_move rfl) ?_
    refine Wl.q (v := Value.int .i64 (((gv 0 (takeByte s a0)) : Nat) : Int)) (q_move rfl) ?_
    refine Wl.q (v := Value.bool true) (q_eql (r := true) rfl rfl (decide_eq_true (rfl))) ?_
    refine Wl.q (v := Value.bool true) (q_move rfl) ?_
    refine Wl.q (v := Value.int .i64 (ge (takeByte s a0))) (q_move rfl) ?_
    refine Wl.q (v := Value.int .i64 (ge (takeByte s a0))) (q_move rfl) ?_
    refine Wl.q (v := Value.bool true) (q_eql (r := true) rfl rfl (decide_eq_true (rfl))) ?_
    refine Wl.q (v := Value.bool true) (q_pick (t := true) rfl rfl) ?_
    refine Wl.q (v := Value.int .i64 (((gn a0 (takeByte s a0)) : Nat) : Int)) (q_assign rfl) ?_
    refine Wl.q (v := Value.bool true) (q_assign rfl) ?_
    refine Wl.done ?_
    refine Wx.go ?_
    refine Wc.ret ?_
    refine Wx.blockRet ?_
    refine Wx.thenRet ?_
    refine Wx.fin2 rfl (.inl rfl) (fun w hs => ?_)
    unfold readN
    rw [if_pos hk0]
    exact ⟨(), trivial, rfl, hs⟩
  ·
    refine Wl.q (v := Value.bool false) (q_eql (r := false) rfl rfl (decide_eq_false hk0)) ?_
    refine Wl.q (v := Value.bool false) (q_assign rfl) ?_
    refine Wl.done ?_
    refine Wx.go ?_
    refine Wc.no rfl ?_
    refine Wc.seq ?_
    refine Wc.region ?_
    by_cases hk1 : kind = 1
    ·
      refine Wl.q (v := Value.bool true) (q_eql (r := true) rfl rfl (decide_eq_true hk1)) ?_
      refine Wl.q (v := Value.bool true) (q_assign rfl) ?_
      refine Wl.done ?_
      refine Wx.go ?_
      refine Wc.yes rfl ?_
      refine Wc.seq ?_
      refine Wc.region ?_
      refine Wl.q (v := Value.pointer (some ⟨r, 0, none⟩)) (q_move rfl) ?_
      refine Wl.e (e_call (F := F) (args := [Value.pointer (some ⟨r, 0, none⟩)]) Try.call23 rfl (rnumber_c W0 r s a0 ha0 hsz)) (fun _ _ => ?_)
      refine Wl.imp (L' := (pt r 59 [Value.bool true, Value.string s, Value.int .i64 (((gn a0 (takeNum s a0)) : Nat) : Int)]) :: F) (fun _ h => h) ?_
      refine Wl.q (v := Value.tuple #[Value.int .i64 (gv 0 (takeNum s a0)), Value.int .i64 (ge (takeNum s a0))]) (q_move rfl) ?_
      refine Wl.q (v := Value.int .i64 (gv 0 (takeNum s a0))) (q_extract (i := 0) rfl rfl) ?_
      refine Wl.q (v := Value.int .i64 (ge (takeNum s a0))) (q_extract (i := 1) rfl rfl) ?_
      refine Wl.q (v := Value.int .i64 (gv 0 (takeNum s a0))) (q_assign rfl) ?_
      refine Wl.q (v := Value.int .i64 (ge (takeNum s a0))) (q_assign rfl) ?_
      refine Wl.done ?_
      refine Wx.go ?_
      refine Wc.seq ?_
      refine Wc.region ?_
      refine Wl.q (v := Value.string s) (q_move rfl) ?_
      refine Wl.q (v := Value.int .i64 ((a0 : Nat) : Int)) (q_move rfl) ?_
      refine Wl.e (e_call (F := (pt r 59 [Value.bool true, Value.string s, Value.int .i64 (((gn a0 (takeNum s a0)) : Nat) : Int)]) :: F) (args := [Value.string s, Value.int .i64 ((a0 : Nat) : Int)]) Try.call30 rfl (tnum_c W0 s a0 ha0 hsz)) (fun _ _ => ?_)
      refine Wl.imp (L' := (pt r 59 [Value.bool true, Value.string s, Value.int .i64 (((gn a0 (takeNum s a0)) : Nat) : Int)]) :: F) (fun _ h => h) ?_
      refine Wl.q (v := Value.tuple #[Value.int .i64 (gv 0 (takeNum s a0)), Value.int .i64 (((gn a0 (takeNum s a0)) : Nat) : Int), Value.int .i64 (ge (takeNum s a0))]) (q_move rfl) ?_
      refine Wl.q (v := Value.int .i64 (gv 0 (takeNum s a0))) (q_extract (i := 0) rfl rfl) ?_
      refine Wl.q (v := Value.int .i64 (((gn a0 (takeNum s a0)) : Nat) : Int)) (q_extract (i := 1) rfl rfl) ?_
      refine Wl.q (v := Value.int .i64 (ge (takeNum s a0))) (q_extract (i := 2) rfl rfl) ?_
      refine Wl.q (v := Value.int .i64 (gv 0 (takeNum s a0))) (q_assign rfl) ?_
      refine Wl.q (v := Value.int .i64 (((gn a0 (takeNum s a0)) : Nat) : Int)) (q_assign rfl) ?_
      refine Wl.q (v := Value.int .i64 (ge (takeNum s a0))) (q_assign rfl) ?_
      refine Wl.done ?_
      refine Wx.go ?_
      refine Wc.seq ?_
      refine Wc.region ?_
      refine Wl.q (v := Value.int .i64 (((gn a0 (takeNum s a0)) : Nat) : Int)) (q_move rfl) ?_
      refine Wl.q (v := Value.int .i64 (gv 0 (takeNum s a0))) (q_move rfl) ?_
      refine Wl.q (v := Value.int .i64 (gv 0 (takeNum s a0))) (q_move rfl) ?_
      refine Wl.q (v := Value.bool true) (q_eql (r := true) rfl rfl (decide_eq_true (rfl))) ?_
      refine Wl.q (v := Value.bool true) (q_move rfl) ?_
      refine Wl.q (v := Value.int .i64 (ge (takeNum s a0))) (q_move rfl) ?_
      refine Wl.q (v := Value.int .i64 (ge (takeNum s a0))) (q_move rfl) ?_
      refine Wl.q (v := Value.bool true) (q_eql (r := true) rfl rfl (decide_eq_true (rfl))) ?_
      refine Wl.q (v := Value.bool true) (q_pick (t := true) rfl rfl) ?_
      refine Wl.q (v := Value.int .i64 (((gn a0 (takeNum s a0)) : Nat) : Int)) (q_assign rfl) ?_
      refine Wl.q (v := Value.bool true) (q_assign rfl) ?_
      refine Wl.done ?_
      refine Wx.go ?_
      refine Wc.ret ?_
      refine Wx.blockRet ?_
      refine Wx.thenRet ?_
      refine Wx.fin2 rfl (.inl rfl) (fun w hs => ?_)
      unfold readN
      rw [if_neg hk0, if_pos hk1]
      exact ⟨(), trivial, rfl, hs⟩
    ·
      refine Wl.q (v := Value.bool false) (q_eql (r := false) rfl rfl (decide_eq_false hk1)) ?_
      refine Wl.q (v := Value.bool false) (q_assign rfl) ?_
      refine Wl.done ?_
      refine Wx.go ?_
      refine Wc.no rfl ?_
      refine Wc.seq ?_
      refine Wc.region ?_
      by_cases hk2 : kind = 2
      ·
        refine Wl.q (v := Value.bool true) (q_eql (r := true) rfl rfl (decide_eq_true hk2)) ?_
        refine Wl.q (v := Value.bool true) (q_assign rfl) ?_
        refine Wl.done ?_
        refine Wx.go ?_
        refine Wc.yes rfl ?_
        refine Wc.seq ?_
        refine Wc.region ?_
        refine Wl.q (v := Value.pointer (some ⟨r, 0, none⟩)) (q_move rfl) ?_
        refine Wl.e (e_call (F := F) (args := [Value.pointer (some ⟨r, 0, none⟩)]) Try.call24 rfl (rflag_c W0 r s a0 ha0 hsz)) (fun _ _ => ?_)
        refine Wl.imp (L' := (pt r 59 [Value.bool true, Value.string s, Value.int .i64 (((gn a0 (takeFlag s a0)) : Nat) : Int)]) :: F) (fun _ h => h) ?_
        refine Wl.q (v := Value.tuple #[Value.bool (gv false (takeFlag s a0)), Value.int .i64 (ge (takeFlag s a0))]) (q_move rfl) ?_
        refine Wl.q (v := Value.bool (gv false (takeFlag s a0))) (q_extract (i := 0) rfl rfl) ?_
        refine Wl.q (v := Value.int .i64 (ge (takeFlag s a0))) (q_extract (i := 1) rfl rfl) ?_
        refine Wl.q (v := Value.bool (gv false (takeFlag s a0))) (q_assign rfl) ?_
        refine Wl.q (v := Value.int .i64 (ge (takeFlag s a0))) (q_assign rfl) ?_
        refine Wl.done ?_
        refine Wx.go ?_
        refine Wc.seq ?_
        refine Wc.region ?_
        refine Wl.q (v := Value.string s) (q_move rfl) ?_
        refine Wl.q (v := Value.int .i64 ((a0 : Nat) : Int)) (q_move rfl) ?_
        refine Wl.e (e_call (F := (pt r 59 [Value.bool true, Value.string s, Value.int .i64 (((gn a0 (takeFlag s a0)) : Nat) : Int)]) :: F) (args := [Value.string s, Value.int .i64 ((a0 : Nat) : Int)]) Try.call31 rfl (tflag_c W0 s a0 ha0 hsz)) (fun _ _ => ?_)
        refine Wl.imp (L' := (pt r 59 [Value.bool true, Value.string s, Value.int .i64 (((gn a0 (takeFlag s a0)) : Nat) : Int)]) :: F) (fun _ h => h) ?_
        refine Wl.q (v := Value.tuple #[Value.bool (gv false (takeFlag s a0)), Value.int .i64 (((gn a0 (takeFlag s a0)) : Nat) : Int), Value.int .i64 (ge (takeFlag s a0))]) (q_move rfl) ?_
        refine Wl.q (v := Value.bool (gv false (takeFlag s a0))) (q_extract (i := 0) rfl rfl) ?_
        refine Wl.q (v := Value.int .i64 (((gn a0 (takeFlag s a0)) : Nat) : Int)) (q_extract (i := 1) rfl rfl) ?_
        refine Wl.q (v := Value.int .i64 (ge (takeFlag s a0))) (q_extract (i := 2) rfl rfl) ?_
        refine Wl.q (v := Value.bool (gv false (takeFlag s a0))) (q_assign rfl) ?_
        refine Wl.q (v := Value.int .i64 (((gn a0 (takeFlag s a0)) : Nat) : Int)) (q_assign rfl) ?_
        refine Wl.q (v := Value.int .i64 (ge (takeFlag s a0))) (q_assign rfl) ?_
        refine Wl.done ?_
        refine Wx.go ?_
        refine Wc.seq ?_
        refine Wc.region ?_
        refine Wl.q (v := Value.int .i64 (((gn a0 (takeFlag s a0)) : Nat) : Int)) (q_move rfl) ?_
        refine Wl.q (v := Value.bool (gv false (takeFlag s a0))) (q_move rfl) ?_
        refine Wl.q (v := Value.bool (gv false (takeFlag s a0))) (q_move rfl) ?_
        refine Wl.q (v := Value.bool true) (q_eql_bool (r := true) rfl rfl Try.underlying4 (beq_iff_eq.2 (rfl))) ?_
        refine Wl.q (v := Value.bool true) (q_move rfl) ?_
        refine Wl.q (v := Value.int .i64 (ge (takeFlag s a0))) (q_move rfl) ?_
        refine Wl.q (v := Value.int .i64 (ge (takeFlag s a0))) (q_move rfl) ?_
        refine Wl.q (v := Value.bool true) (q_eql (r := true) rfl rfl (decide_eq_true (rfl))) ?_
        refine Wl.q (v := Value.bool true) (q_pick (t := true) rfl rfl) ?_
        refine Wl.q (v := Value.int .i64 (((gn a0 (takeFlag s a0)) : Nat) : Int)) (q_assign rfl) ?_
        refine Wl.q (v := Value.bool true) (q_assign rfl) ?_
        refine Wl.done ?_
        refine Wx.go ?_
        refine Wc.ret ?_
        refine Wx.blockRet ?_
        refine Wx.thenRet ?_
        refine Wx.fin2 rfl (.inl rfl) (fun w hs => ?_)
        unfold readN
        rw [if_neg hk0, if_neg hk1, if_pos hk2]
        exact ⟨(), trivial, rfl, hs⟩
      ·
        refine Wl.q (v := Value.bool false) (q_eql (r := false) rfl rfl (decide_eq_false hk2)) ?_
        refine Wl.q (v := Value.bool false) (q_assign rfl) ?_
        refine Wl.done ?_
        refine Wx.go ?_
        refine Wc.no rfl ?_
        refine Wc.seq ?_
        refine Wc.region ?_
        by_cases hk3 : kind = 3
        ·
          refine Wl.q (v := Value.bool true) (q_eql (r := true) rfl rfl (decide_eq_true hk3)) ?_
          refine Wl.q (v := Value.bool true) (q_assign rfl) ?_
          refine Wl.done ?_
          refine Wx.go ?_
          refine Wc.yes rfl ?_
          refine Wc.seq ?_
          refine Wc.region ?_
          refine Wl.q (v := Value.pointer (some ⟨r, 0, none⟩)) (q_move rfl) ?_
          refine Wl.e (e_call (F := F) (args := [Value.pointer (some ⟨r, 0, none⟩)]) Try.call25 rfl (rtext_c W0 r s a0 ha0 hsz)) (fun _ _ => ?_)
          refine Wl.imp (L' := (pt r 59 [Value.bool true, Value.string s, Value.int .i64 (((gn a0 (takeText s a0)) : Nat) : Int)]) :: F) (fun _ h => h) ?_
          refine Wl.q (v := Value.tuple #[Value.string (gv ⟨#[]⟩ (takeText s a0)), Value.int .i64 (ge (takeText s a0))]) (q_move rfl) ?_
          refine Wl.q (v := Value.string (gv ⟨#[]⟩ (takeText s a0))) (q_extract (i := 0) rfl rfl) ?_
          refine Wl.q (v := Value.int .i64 (ge (takeText s a0))) (q_extract (i := 1) rfl rfl) ?_
          refine Wl.q (v := Value.string (gv ⟨#[]⟩ (takeText s a0))) (q_assign rfl) ?_
          refine Wl.q (v := Value.int .i64 (ge (takeText s a0))) (q_assign rfl) ?_
          refine Wl.done ?_
          refine Wx.go ?_
          refine Wc.seq ?_
          refine Wc.region ?_
          refine Wl.q (v := Value.string s) (q_move rfl) ?_
          refine Wl.q (v := Value.int .i64 ((a0 : Nat) : Int)) (q_move rfl) ?_
          refine Wl.e (e_call (F := (pt r 59 [Value.bool true, Value.string s, Value.int .i64 (((gn a0 (takeText s a0)) : Nat) : Int)]) :: F) (args := [Value.string s, Value.int .i64 ((a0 : Nat) : Int)]) Try.call32 rfl (ttext_c W0 s a0 ha0 hsz)) (fun _ _ => ?_)
          refine Wl.imp (L' := (pt r 59 [Value.bool true, Value.string s, Value.int .i64 (((gn a0 (takeText s a0)) : Nat) : Int)]) :: F) (fun _ h => h) ?_
          refine Wl.q (v := Value.tuple #[Value.string (gv ⟨#[]⟩ (takeText s a0)), Value.int .i64 (((gn a0 (takeText s a0)) : Nat) : Int), Value.int .i64 (ge (takeText s a0))]) (q_move rfl) ?_
          refine Wl.q (v := Value.string (gv ⟨#[]⟩ (takeText s a0))) (q_extract (i := 0) rfl rfl) ?_
          refine Wl.q (v := Value.int .i64 (((gn a0 (takeText s a0)) : Nat) : Int)) (q_extract (i := 1) rfl rfl) ?_
          refine Wl.q (v := Value.int .i64 (ge (takeText s a0))) (q_extract (i := 2) rfl rfl) ?_
          refine Wl.q (v := Value.string (gv ⟨#[]⟩ (takeText s a0))) (q_assign rfl) ?_
          refine Wl.q (v := Value.int .i64 (((gn a0 (takeText s a0)) : Nat) : Int)) (q_assign rfl) ?_
          refine Wl.q (v := Value.int .i64 (ge (takeText s a0))) (q_assign rfl) ?_
          refine Wl.done ?_
          refine Wx.go ?_
          refine Wc.seq ?_
          refine Wc.region ?_
          refine Wl.q (v := Value.int .i64 (((gn a0 (takeText s a0)) : Nat) : Int)) (q_move rfl) ?_
          refine Wl.q (v := Value.string (gv ⟨#[]⟩ (takeText s a0))) (q_move rfl) ?_
          refine Wl.q (v := Value.string (gv ⟨#[]⟩ (takeText s a0))) (q_move rfl) ?_
          refine Wl.q (v := Value.bool true) (q_eql_str (r := true) rfl rfl (text_true (rfl))) ?_
          refine Wl.q (v := Value.bool true) (q_move rfl) ?_
          refine Wl.q (v := Value.int .i64 (ge (takeText s a0))) (q_move rfl) ?_
          refine Wl.q (v := Value.int .i64 (ge (takeText s a0))) (q_move rfl) ?_
          refine Wl.q (v := Value.bool true) (q_eql (r := true) rfl rfl (decide_eq_true (rfl))) ?_
          refine Wl.q (v := Value.bool true) (q_pick (t := true) rfl rfl) ?_
          refine Wl.q (v := Value.int .i64 (((gn a0 (takeText s a0)) : Nat) : Int)) (q_assign rfl) ?_
          refine Wl.q (v := Value.bool true) (q_assign rfl) ?_
          refine Wl.done ?_
          refine Wx.go ?_
          refine Wc.ret ?_
          refine Wx.blockRet ?_
          refine Wx.thenRet ?_
          refine Wx.fin2 rfl (.inl rfl) (fun w hs => ?_)
          unfold readN
          rw [if_neg hk0, if_neg hk1, if_neg hk2, if_pos hk3]
          exact ⟨(), trivial, rfl, hs⟩
        ·
          refine Wl.q (v := Value.bool false) (q_eql (r := false) rfl rfl (decide_eq_false hk3)) ?_
          refine Wl.q (v := Value.bool false) (q_assign rfl) ?_
          refine Wl.done ?_
          refine Wx.go ?_
          refine Wc.no rfl ?_
          refine Wc.skip ?_
          refine Wx.blockEnd ?_
          refine Wx.go ?_
          refine Wc.seq ?_
          refine Wc.region ?_
          refine Wl.q (v := Value.pointer (some ⟨r, 0, none⟩)) (q_move rfl) ?_
          refine Wl.e (e_call (F := F) (args := [Value.pointer (some ⟨r, 0, none⟩)]) Try.call26 rfl (rlist_c W0 r s a0 ha0 hsz)) (fun _ _ => ?_)
          refine Wl.imp (L' := (pt r 59 [Value.bool true, Value.string s, Value.int .i64 (((gn a0 (takeList s a0)) : Nat) : Int)]) :: F) (fun _ h => h) ?_
          refine Wl.q (v := Value.tuple #[Value.int .i64 (((gv 0 (takeList s a0)) : Nat) : Int), Value.int .i64 (ge (takeList s a0))]) (q_move rfl) ?_
          refine Wl.q (v := Value.int .i64 (((gv 0 (takeList s a0)) : Nat) : Int)) (q_extract (i := 0) rfl rfl) ?_
          refine Wl.q (v := Value.int .i64 (ge (takeList s a0))) (q_extract (i := 1) rfl rfl) ?_
          refine Wl.q (v := Value.int .i64 (((gv 0 (takeList s a0)) : Nat) : Int)) (q_assign rfl) ?_
          refine Wl.q (v := Value.int .i64 (ge (takeList s a0))) (q_assign rfl) ?_
          refine Wl.done ?_
          refine Wx.go ?_
          refine Wc.seq ?_
          refine Wc.region ?_
          refine Wl.q (v := Value.string s) (q_move rfl) ?_
          refine Wl.q (v := Value.int .i64 ((a0 : Nat) : Int)) (q_move rfl) ?_
          refine Wl.e (e_call (F := (pt r 59 [Value.bool true, Value.string s, Value.int .i64 (((gn a0 (takeList s a0)) : Nat) : Int)]) :: F) (args := [Value.string s, Value.int .i64 ((a0 : Nat) : Int)]) Try.call33 rfl (tlist_c W0 s a0 ha0 hsz)) (fun _ _ => ?_)
          refine Wl.imp (L' := (pt r 59 [Value.bool true, Value.string s, Value.int .i64 (((gn a0 (takeList s a0)) : Nat) : Int)]) :: F) (fun _ h => h) ?_
          refine Wl.q (v := Value.tuple #[Value.int .i64 (((gv 0 (takeList s a0)) : Nat) : Int), Value.int .i64 (((gn a0 (takeList s a0)) : Nat) : Int), Value.int .i64 (ge (takeList s a0))]) (q_move rfl) ?_
          refine Wl.q (v := Value.int .i64 (((gv 0 (takeList s a0)) : Nat) : Int)) (q_extract (i := 0) rfl rfl) ?_
          refine Wl.q (v := Value.int .i64 (((gn a0 (takeList s a0)) : Nat) : Int)) (q_extract (i := 1) rfl rfl) ?_
          refine Wl.q (v := Value.int .i64 (ge (takeList s a0))) (q_extract (i := 2) rfl rfl) ?_
          refine Wl.q (v := Value.int .i64 (((gv 0 (takeList s a0)) : Nat) : Int)) (q_assign rfl) ?_
          refine Wl.q (v := Value.int .i64 (((gn a0 (takeList s a0)) : Nat) : Int)) (q_assign rfl) ?_
          refine Wl.q (v := Value.int .i64 (ge (takeList s a0))) (q_assign rfl) ?_
          refine Wl.done ?_
          refine Wx.go ?_
          refine Wc.seq ?_
          refine Wc.region ?_
          refine Wl.q (v := Value.int .i64 (((gn a0 (takeList s a0)) : Nat) : Int)) (q_move rfl) ?_
          refine Wl.q (v := Value.int .i64 (((gv 0 (takeList s a0)) : Nat) : Int)) (q_move rfl) ?_
          refine Wl.q (v := Value.int .i64 (((gv 0 (takeList s a0)) : Nat) : Int)) (q_move rfl) ?_
          refine Wl.q (v := Value.bool true) (q_eql (r := true) rfl rfl (decide_eq_true (rfl))) ?_
          refine Wl.q (v := Value.bool true) (q_move rfl) ?_
          refine Wl.q (v := Value.int .i64 (ge (takeList s a0))) (q_move rfl) ?_
          refine Wl.q (v := Value.int .i64 (ge (takeList s a0))) (q_move rfl) ?_
          refine Wl.q (v := Value.bool true) (q_eql (r := true) rfl rfl (decide_eq_true (rfl))) ?_
          refine Wl.q (v := Value.bool true) (q_pick (t := true) rfl rfl) ?_
          refine Wl.q (v := Value.int .i64 (((gn a0 (takeList s a0)) : Nat) : Int)) (q_assign rfl) ?_
          refine Wl.q (v := Value.bool true) (q_assign rfl) ?_
          refine Wl.done ?_
          refine Wx.go ?_
          refine Wc.ret ?_
          refine Wx.fin2 rfl (.inl rfl) (fun w hs => ?_)
          unfold readN
          rw [if_neg hk0, if_neg hk1, if_neg hk2, if_neg hk3]
          exact ⟨(), trivial, rfl, hs⟩

theorem at_c (W0 : World) (r : Nat) (s : ByteArray) (a : Nat) :
    Con Try.prog W0 17 #[Value.pointer (some ⟨r, 0, none⟩)] [pt r 59 [Value.bool true, Value.string s, Value.int .i64 ((a : Nat) : Int)]] (X := Unit) (fun _ => True) (fun _ => .int .i64 ((a : Nat) : Int)) (fun _ => [pt r 59 [Value.bool true, Value.string s, Value.int .i64 ((a : Nat) : Int)]]) := by
  refine Con.of (args := [Value.pointer (some ⟨r, 0, none⟩)]) Try.func17 rfl Try.ntmps17 rfl (fun F => ?_)
  show Wc _ W0 _ _ _ _ _ ((pt r 59 [Value.bool true, Value.string s, Value.int .i64 ((a : Nat) : Int)]) :: F)
  refine Wc.seq ?_
  refine Wc.region ?_
  refine Wl.q (v := Value.int .i64 0) (q_assign rfl) ?_
  refine Wl.done ?_
  refine Wx.go ?_
  refine Wc.seq ?_
  refine Wc.seq ?_
  refine Wc.region ?_
  refine Wl.q (v := Value.pointer (some ⟨r, 0, none⟩)) (q_move rfl) ?_
  refine Wl.q (v := Value.bool false) (q_eql_nil (r := false) rfl rfl Try.underlying31 rfl) ?_
  refine Wl.done ?_
  refine Wx.go ?_
  refine Wc.no rfl ?_
  refine Wc.skip ?_
  refine Wx.go ?_
  refine Wc.seq ?_
  refine Wc.region ?_
  refine Wl.q (v := Value.pointer (some ⟨r, 0, none⟩)) (q_move rfl) ?_
  refine Wl.q (v := Value.pointer (some ⟨r, 0, none⟩)) (q_nil_ptr rfl) ?_
  refine Wl.q (v := Value.pointer (some ⟨r, 2, none⟩)) (q_field (m := 2) fo_59_2 rfl rfl) ?_
  refine Wl.q (v := Value.int .i64 ((a : Nat) : Int)) (q_load sc_3 rfl (.cel (i := 0) rfl rfl)) ?_
  refine Wl.q (v := Value.int .i64 ((a : Nat) : Int)) (q_assign rfl) ?_
  refine Wl.done ?_
  refine Wx.go ?_
  refine Wc.ret ?_
  refine Wx.fin1 rfl (.inl rfl) (fun w hs => ?_)
  exact ⟨(), trivial, rfl, hs⟩

theorem end_c (W0 : World) (r : Nat) (s : ByteArray) (a : Nat) : Con Try.prog W0 18 #[Value.pointer (some ⟨r, 0, none⟩)] [pt r 59 [Value.bool true, Value.string s, Value.int .i64 ((a : Nat) : Int)]] (X := Unit) (fun _ => True) (fun _ => .int .i64 (if a = s.size then 0 else 4)) (fun _ => [pt r 59 [Value.bool true, Value.string s, Value.int .i64 ((a : Nat) : Int)]]) := by
  by_cases h : a = s.size
  · rw [if_pos h]; exact end_yes W0 r s a h
  · rw [if_neg h]; exact end_no W0 r s a h

end Go.Proofs.Ytlbanhhdoiidnaa
