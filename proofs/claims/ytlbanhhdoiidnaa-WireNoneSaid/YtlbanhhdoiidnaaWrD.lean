/- The wire: contracts of its calls. -/
import Derived.Test.YtlbanhhdoiidnaaWrC
namespace Go.Proofs.Ytlbanhhdoiidnaa
open Go Go.SL Go.Wr Go.RowKit
open Go.Dk (beyondF beyondB beyond_step beyond_le beyond_one beyond_two)
set_option linter.unusedVariables false
theorem fo_59_2 : fieldOff Try.prog 59 2 = some 2 := by kernel_rfl
theorem sc_3 : scalar Try.prog 3 = true := by kernel_rfl
theorem fo_59_1 : fieldOff Try.prog 59 1 = some 1 := by kernel_rfl
theorem sc_9 : scalar Try.prog 9 = true := by kernel_rfl
theorem sz_3 : sizeIs Try.prog 3 = some 1 := by kernel_rfl
theorem sc_24 : scalar Try.prog 24 = true := by kernel_rfl
theorem sc_31 : scalar Try.prog 31 = true := by kernel_rfl
theorem zo_24 : zeroOf Try.prog 24 = some (Value.int .i64 0) := by kernel_rfl
theorem fo_59_0 : fieldOff Try.prog 59 0 = some 0 := by kernel_rfl
theorem zo_3 : zeroOf Try.prog 3 = some (Value.int .i64 0) := by kernel_rfl
theorem sz_24 : sizeIs Try.prog 24 = some 1 := by kernel_rfl
theorem form_t (W0 : World)  :
    Con Try.prog W0 34 #[Value.bool true] [] (X := Unit) (fun _ => True) (fun _ => .int .i64 0) (fun _ => []) := by
  refine Con.of (args := [Value.bool true]) Try.func34 rfl Try.ntmps34 rfl (fun F => ?_)
  show Wc _ W0 _ _ _ _ _ (F)
  refine Wc.seq ?_
  refine Wc.region ?_
  refine Wl.q (v := Value.int .i64 0) (q_assign rfl) ?_
  refine Wl.done ?_
  refine Wx.go ?_
  refine Wc.seq ?_
  refine Wc.seq ?_
  refine Wc.region ?_
  refine Wl.q (v := Value.bool true) (q_move rfl) ?_
  refine Wl.done ?_
  refine Wx.go ?_
  refine Wc.yes rfl ?_
  refine Wc.seq ?_
  refine Wc.region ?_
  refine Wl.q (v := Value.int .i64 0) (q_assign rfl) ?_
  refine Wl.done ?_
  refine Wx.go ?_
  refine Wc.ret ?_
  refine Wx.thenRet ?_
  refine Wx.fin1 rfl (.inl rfl) (fun w hs => ?_)
  exact ⟨(), trivial, rfl, hs⟩

theorem form_f (W0 : World)  :
    Con Try.prog W0 34 #[Value.bool false] [] (X := Unit) (fun _ => True) (fun _ => .int .i64 4) (fun _ => []) := by
  refine Con.of (args := [Value.bool false]) Try.func34 rfl Try.ntmps34 rfl (fun F => ?_)
  show Wc _ W0 _ _ _ _ _ (F)
  refine Wc.seq ?_
  refine Wc.region ?_
  refine Wl.q (v := Value.int .i64 0) (q_assign rfl) ?_
  refine Wl.done ?_
  refine Wx.go ?_
  refine Wc.seq ?_
  refine Wc.seq ?_
  refine Wc.region ?_
  refine Wl.q (v := Value.bool false) (q_move rfl) ?_
  refine Wl.done ?_
  refine Wx.go ?_
  refine Wc.no rfl ?_
  refine Wc.skip ?_
  refine Wx.go ?_
  refine Wc.seq ?_
  refine Wc.region ?_
  refine Wl.q (v := Value.int .i64 4) (q_assign rfl) ?_
  refine Wl.done ?_
  refine Wx.go ?_
  refine Wc.ret ?_
  refine Wx.fin1 rfl (.inl rfl) (fun w hs => ?_)
  exact ⟨(), trivial, rfl, hs⟩

theorem form_c (W0 : World) (b : Bool) : Con Try.prog W0 34 #[.bool b] [] (X := Unit) (fun _ => True) (fun _ => .int .i64 (if b then 0 else 4)) (fun _ => []) := by
  cases b
  · exact form_f W0
  · exact form_t W0

theorem next_end (W0 : World) (r : Nat) (s : ByteArray) :
    Con Try.prog W0 45 #[Value.pointer (some ⟨r, 0, none⟩)] [pt r 59 [Value.bool true, Value.string s, Value.int .i64 ((s.size : Nat) : Int)]] (X := Unit) (fun _ => True) (fun _ => .tuple #[.int .u8 0, .bool false]) (fun _ => [pt r 59 [Value.bool true, Value.string s, Value.int .i64 ((s.size : Nat) : Int)]]) := by
  refine Con.of (args := [Value.pointer (some ⟨r, 0, none⟩)]) Try.func45 rfl Try.ntmps45 rfl (fun F => ?_)
  show Wc _ W0 _ _ _ _ _ ((pt r 59 [Value.bool true, Value.string s, Value.int .i64 ((s.size : Nat) : Int)]) :: F)
  refine Wc.seq ?_
  refine Wc.region ?_
  refine Wl.q (v := Value.int .u8 0) (q_assign rfl) ?_
  refine Wl.q (v := Value.bool false) (q_assign rfl) ?_
  refine Wl.done ?_
  refine Wx.go ?_
  refine Wc.seq ?_
  refine Wc.seq ?_
  refine Wc.drawsS [] ((pt r 59 [Value.bool true, Value.string s, Value.int .i64 ((s.size : Nat) : Int)]) :: []) (by kernel_rfl) ?_
  refine Wr.pure (v := Value.pointer (some ⟨r, 0, none⟩)) 0 rfl (by kernel_rfl) (.inr (fun _ h => st_take [0] h)) (.inl ⟨rfl, fun _ => q_move rfl⟩) ?_
  refine Wr.pure (v := Value.pointer (some ⟨r, 0, none⟩)) 1 rfl (by kernel_rfl) (.inr (fun _ h => st_take [0] h)) (.inl ⟨rfl, fun _ => q_nil_ptr rfl⟩) ?_
  refine Wr.pure (v := Value.pointer (some ⟨r, 2, none⟩)) 2 rfl (by kernel_rfl) (.inr (fun _ h => st_take [0] h)) (.inl ⟨rfl, fun _ => q_field (m := 2) fo_59_2 rfl rfl⟩) ?_
  refine Wr.take (v := Value.int .i64 ((s.size : Nat) : Int)) 3 rfl (by kernel_rfl) (fun _ h => st_take [0] h) (.inl ⟨rfl, q_load sc_3 rfl (.cel (i := 0) rfl rfl)⟩) ?_
  refine Wr.pure (v := Value.pointer (some ⟨r, 0, none⟩)) 4 rfl (by kernel_rfl) (.inr (fun _ h => st_take [0] h)) (.inl ⟨rfl, fun _ => q_move rfl⟩) ?_
  refine Wr.pure (v := Value.pointer (some ⟨r, 0, none⟩)) 5 rfl (by kernel_rfl) (.inr (fun _ h => st_take [0] h)) (.inl ⟨rfl, fun _ => q_nil_ptr rfl⟩) ?_
  refine Wr.pure (v := Value.pointer (some ⟨r, 1, none⟩)) 6 rfl (by kernel_rfl) (.inr (fun _ h => st_take [0] h)) (.inl ⟨rfl, fun _ => q_field (m := 1) fo_59_1 rfl rfl⟩) ?_
  refine Wr.take (v := Value.string s) 7 rfl (by kernel_rfl) (fun _ h => st_take [0] h) (.inl ⟨rfl, q_load sc_9 rfl (.cel (i := 0) rfl rfl)⟩) ?_
  refine Wr.take (v := Value.int .i64 ((s.size : Nat) : Int)) 8 rfl (by kernel_rfl) (fun _ h => st_take [0] h) (.inl ⟨rfl, q_len_str Try.underlying9 rfl⟩) ?_
  refine Wr.pure (v := Value.bool true) 9 rfl (by kernel_rfl) (.inr (fun _ h => st_take [0] h)) (.inl ⟨rfl, fun _ => q_eql (r := true) rfl rfl (decide_eq_true (rfl))⟩) ?_
  refine Wr.done (by kernel_rfl) ?_
  refine Wx.go ?_
  refine Wc.yes rfl ?_
  refine Wc.seq ?_
  refine Wc.region ?_
  refine Wl.q (v := Value.int .u8 0) (q_assign rfl) ?_
  refine Wl.q (v := Value.bool false) (q_assign rfl) ?_
  refine Wl.done ?_
  refine Wx.go ?_
  refine Wc.ret ?_
  refine Wx.thenRet ?_
  refine Wx.fin2 rfl (.inl rfl) (fun w hs => ?_)
  exact ⟨(), trivial, rfl, hs⟩

theorem next_ok (W0 : World) (r : Nat) (s : ByteArray) (at_ : Nat) (c : UInt8) (hget : s[at_]? = some c) (hat : at_ < s.size) (hsz : s.size ≤ 9223372036854775807) :
    Con Try.prog W0 45 #[Value.pointer (some ⟨r, 0, none⟩)] [pt r 59 [Value.bool true, Value.string s, Value.int .i64 ((at_ : Nat) : Int)]] (X := Unit) (fun _ => True) (fun _ => .tuple #[.int .u8 ((c.toNat : Nat) : Int), .bool true]) (fun _ => [pt r 59 [Value.bool true, Value.string s, Value.int .i64 (((at_ + 1) : Nat) : Int)]]) := by
  refine Con.of (args := [Value.pointer (some ⟨r, 0, none⟩)]) Try.func45 rfl Try.ntmps45 rfl (fun F => ?_)
  show Wc _ W0 _ _ _ _ _ ((pt r 59 [Value.bool true, Value.string s, Value.int .i64 ((at_ : Nat) : Int)]) :: F)
  refine Wc.seq ?_
  refine Wc.region ?_
  refine Wl.q (v := Value.int .u8 0) (q_assign rfl) ?_
  refine Wl.q (v := Value.bool false) (q_assign rfl) ?_
  refine Wl.done ?_
  refine Wx.go ?_
  refine Wc.seq ?_
  refine Wc.seq ?_
  refine Wc.drawsS [] ((pt r 59 [Value.bool true, Value.string s, Value.int .i64 ((at_ : Nat) : Int)]) :: []) (by kernel_rfl) ?_
  refine Wr.pure (v := Value.pointer (some ⟨r, 0, none⟩)) 0 rfl (by kernel_rfl) (.inr (fun _ h => st_take [0] h)) (.inl ⟨rfl, fun _ => q_move rfl⟩) ?_
  refine Wr.pure (v := Value.pointer (some ⟨r, 0, none⟩)) 1 rfl (by kernel_rfl) (.inr (fun _ h => st_take [0] h)) (.inl ⟨rfl, fun _ => q_nil_ptr rfl⟩) ?_
  refine Wr.pure (v := Value.pointer (some ⟨r, 2, none⟩)) 2 rfl (by kernel_rfl) (.inr (fun _ h => st_take [0] h)) (.inl ⟨rfl, fun _ => q_field (m := 2) fo_59_2 rfl rfl⟩) ?_
  refine Wr.take (v := Value.int .i64 ((at_ : Nat) : Int)) 3 rfl (by kernel_rfl) (fun _ h => st_take [0] h) (.inl ⟨rfl, q_load sc_3 rfl (.cel (i := 0) rfl rfl)⟩) ?_
  refine Wr.pure (v := Value.pointer (some ⟨r, 0, none⟩)) 4 rfl (by kernel_rfl) (.inr (fun _ h => st_take [0] h)) (.inl ⟨rfl, fun _ => q_move rfl⟩) ?_
  refine Wr.pure (v := Value.pointer (some ⟨r, 0, none⟩)) 5 rfl (by kernel_rfl) (.inr (fun _ h => st_take [0] h)) (.inl ⟨rfl, fun _ => q_nil_ptr rfl⟩) ?_
  refine Wr.pure (v := Value.pointer (some ⟨r, 1, none⟩)) 6 rfl (by kernel_rfl) (.inr (fun _ h => st_take [0] h)) (.inl ⟨rfl, fun _ => q_field (m := 1) fo_59_1 rfl rfl⟩) ?_
  refine Wr.take (v := Value.string s) 7 rfl (by kernel_rfl) (fun _ h => st_take [0] h) (.inl ⟨rfl, q_load sc_9 rfl (.cel (i := 0) rfl rfl)⟩) ?_
  refine Wr.take (v := Value.int .i64 ((s.size : Nat) : Int)) 8 rfl (by kernel_rfl) (fun _ h => st_take [0] h) (.inl ⟨rfl, q_len_str Try.underlying9 rfl⟩) ?_
  refine Wr.pure (v := Value.bool false) 9 rfl (by kernel_rfl) (.inr (fun _ h => st_take [0] h)) (.inl ⟨rfl, fun _ => q_eql (r := false) rfl rfl (decide_eq_false (by omega))⟩) ?_
  refine Wr.done (by kernel_rfl) ?_
  refine Wx.go ?_
  refine Wc.no rfl ?_
  refine Wc.skip ?_
  refine Wx.go ?_
  refine Wc.seq ?_
  refine Wc.region ?_
  refine Wl.q (v := Value.pointer (some ⟨r, 0, none⟩)) (q_move rfl) ?_
  refine Wl.q (v := Value.pointer (some ⟨r, 0, none⟩)) (q_nil_ptr rfl) ?_
  refine Wl.q (v := Value.pointer (some ⟨r, 2, none⟩)) (q_field (m := 2) fo_59_2 rfl rfl) ?_
  refine Wl.q (v := Value.int .i64 ((at_ : Nat) : Int)) (q_load sc_3 rfl (.cel (i := 0) rfl rfl)) ?_
  refine Wl.q (v := Value.int .i64 ((at_ + 1 : Nat) : Int)) (q_add (c := ((at_ + 1 : Nat) : Int)) rfl rfl (by rw [wrap_i64] <;> omega)) ?_
  refine Wl.q (v := Value.pointer (some ⟨r, 0, none⟩)) (q_nil_ptr rfl) ?_
  refine Wl.q (v := Value.pointer (some ⟨r, 2, none⟩)) (q_field (m := 2) fo_59_2 rfl rfl) ?_
  refine Wl.e (e_store (i := 0) (v := Value.int .i64 ((at_ + 1 : Nat) : Int)) sz_3 rfl rfl (fun _ _ => rfl) rfl (by simp)) (fun _ _ => ?_)
  refine Wl.imp (L' := (pt r 59 [Value.bool true, Value.string s, Value.int .i64 ((at_ + 1 : Nat) : Int)]) :: F) (fun _ h => h) ?_
  refine Wl.done ?_
  refine Wx.go ?_
  refine Wc.seq ?_
  refine Wc.drawsS [] ((pt r 59 [Value.bool true, Value.string s, Value.int .i64 ((at_ + 1 : Nat) : Int)]) :: []) (by kernel_rfl) ?_
  refine Wr.pure (v := Value.pointer (some ⟨r, 0, none⟩)) 0 rfl (by kernel_rfl) (.inr (fun _ h => st_take [0] h)) (.inl ⟨rfl, fun _ => q_move rfl⟩) ?_
  refine Wr.pure (v := Value.pointer (some ⟨r, 0, none⟩)) 1 rfl (by kernel_rfl) (.inr (fun _ h => st_take [0] h)) (.inl ⟨rfl, fun _ => q_nil_ptr rfl⟩) ?_
  refine Wr.pure (v := Value.pointer (some ⟨r, 1, none⟩)) 2 rfl (by kernel_rfl) (.inr (fun _ h => st_take [0] h)) (.inl ⟨rfl, fun _ => q_field (m := 1) fo_59_1 rfl rfl⟩) ?_
  refine Wr.take (v := Value.string s) 3 rfl (by kernel_rfl) (fun _ h => st_take [0] h) (.inl ⟨rfl, q_load sc_9 rfl (.cel (i := 0) rfl rfl)⟩) ?_
  refine Wr.pure (v := Value.pointer (some ⟨r, 0, none⟩)) 4 rfl (by kernel_rfl) (.inr (fun _ h => st_take [0] h)) (.inl ⟨rfl, fun _ => q_move rfl⟩) ?_
  refine Wr.pure (v := Value.pointer (some ⟨r, 0, none⟩)) 5 rfl (by kernel_rfl) (.inr (fun _ h => st_take [0] h)) (.inl ⟨rfl, fun _ => q_nil_ptr rfl⟩) ?_
  refine Wr.pure (v := Value.pointer (some ⟨r, 2, none⟩)) 6 rfl (by kernel_rfl) (.inr (fun _ h => st_take [0] h)) (.inl ⟨rfl, fun _ => q_field (m := 2) fo_59_2 rfl rfl⟩) ?_
  refine Wr.take (v := Value.int .i64 ((at_ + 1 : Nat) : Int)) 7 rfl (by kernel_rfl) (fun _ h => st_take [0] h) (.inl ⟨rfl, q_load sc_3 rfl (.cel (i := 0) rfl rfl)⟩) ?_
  refine Wr.pure (v := Value.int .i64 ((at_ : Nat) : Int)) 8 rfl (by kernel_rfl) (.inr (fun _ h => st_take [0] h)) (.inl ⟨rfl, fun _ => q_sub (c := ((at_ : Nat) : Int)) rfl rfl (by rw [wrap_i64] <;> omega)⟩) ?_
  refine Wr.pure (v := Value.int .u8 ((c.toNat : Nat) : Int)) 9 rfl (by kernel_rfl) (.inr (fun _ h => st_take [0] h)) (.inl ⟨rfl, fun _ => q_idx_str Try.underlying9 rfl rfl (by omega) (by simpa using hget)⟩) ?_
  refine Wr.pure (v := Value.int .u8 ((c.toNat : Nat) : Int)) 10 rfl (by kernel_rfl) (.inr (fun _ h => st_take [0] h)) (.inl ⟨rfl, fun _ => q_assign rfl⟩) ?_
  refine Wr.pure (v := Value.bool true) 11 rfl (by kernel_rfl) (.inr (fun _ h => st_take [0] h)) (.inl ⟨rfl, fun _ => q_assign rfl⟩) ?_
  refine Wr.done (by kernel_rfl) ?_
  refine Wx.go ?_
  refine Wc.ret ?_
  refine Wx.fin2 rfl (.inl rfl) (fun w hs => ?_)
  exact ⟨(), trivial, rfl, hs⟩

theorem getElem?_neg_of (s : ByteArray) {i : Nat} (h : s[i]? = none) : s.size ≤ i := by
  rcases Nat.lt_or_ge i s.size with h' | h'
  · rw [getElem?_pos s i h'] at h; cases h
  · exact h'
theorem lt_of_get (s : ByteArray) {i : Nat} {c : UInt8} (h : s[i]? = some c) : i < s.size := by
  rcases Nat.lt_or_ge i s.size with h' | h'
  · exact h'
  · rw [getElem?_neg s i (by omega)] at h; cases h
theorem pow_next {z c i : Nat} (hz : z < 128 ^ i) : z + c % 128 * 128 ^ i < 128 ^ (i + 1) := by
  have : c % 128 * 128 ^ i ≤ 127 * 128 ^ i := Nat.mul_le_mul_right _ (by omega)
  rw [Nat.pow_succ]; omega

theorem number_c (W0 : World) (r : Nat) (s : ByteArray) (a0 : Nat) (ha0 : a0 ≤ s.size) (hsz : s.size ≤ 9223372036854775807) :
    Con Try.prog W0 47 #[Value.pointer (some ⟨r, 0, none⟩)] [pt r 59 [Value.bool true, Value.string s, Value.int .i64 ((a0 : Nat) : Int)]] (X := Int × Bool × Nat) (fun y => NumR s a0 y.1 y.2.1 y.2.2) (fun y => .tuple #[.int .i64 y.1, .bool y.2.1]) (fun y => [pt r 59 [Value.bool true, Value.string s, Value.int .i64 ((y.2.2 : Nat) : Int)]]) := by
  refine Con.of (args := [Value.pointer (some ⟨r, 0, none⟩)]) Try.func47 rfl Try.ntmps47 rfl (fun F => ?_)
  show Wc _ W0 _ _ _ _ _ ((pt r 59 [Value.bool true, Value.string s, Value.int .i64 ((a0 : Nat) : Int)]) :: F)
  refine Wc.seq ?_
  refine Wc.region ?_
  refine Wl.q (v := Value.int .i64 0) (q_assign rfl) ?_
  refine Wl.q (v := Value.bool false) (q_assign rfl) ?_
  refine Wl.done ?_
  refine Wx.go ?_
  refine Wc.seq ?_
  refine Wc.region ?_
  refine Wl.q (v := Value.int .u64 0) (q_assign rfl) ?_
  refine Wl.done ?_
  refine Wx.go ?_
  refine Wc.seq ?_
  refine Wc.seq ?_
  refine Wc.region ?_
  refine Wl.q (v := Value.int .i64 0) (q_assign rfl) ?_
  refine Wl.done ?_
  refine Wx.go ?_
  refine Wc.block ?_
  refine Wc.loop (X := Nat × Nat) (fun (i, z) E => E 5 = Value.int .i64 ((i : Nat) : Int) ∧ E 4 = Value.int .u64 ((z : Nat) : Int) ∧ E 0 = Value.pointer (some ⟨r, 0, none⟩) ∧ dec s a0 10 0 0 = dec s a0 (10 - i) i z ∧ z < 128 ^ i ∧ i ≤ 10 ∧ a0 + i ≤ s.size) (fun (i, z) => (pt r 59 [Value.bool true, Value.string s, Value.int .i64 (((a0 + i) : Nat) : Int)]) :: F) (fun (i, z) => 10 - i) (0, 0) ?_ ?_ ?_
  · exact ⟨rfl, rfl, rfl, rfl, (by decide), (by omega), (by omega)⟩
  · exact fun w hs => hs
  · rintro ⟨i, z⟩ E2 ⟨hE5_0, hE4_0, hE0_0, hp0, hz, hi, ha⟩
    dsimp only at *
    rcases hget : s[a0 + i]? with _ | c
    ·
      have hend : a0 + i = s.size := by have := getElem?_neg_of s hget; omega
      refine Wc.seq ?_
      refine Wc.seq ?_
      refine Wc.region ?_
      refine Wl.q (v := Value.int .i64 ((i : Nat) : Int)) (q_move hE5_0) ?_
      by_cases hi10 : ((i : Nat) : Int) < 10
      ·
        refine Wl.q (v := Value.bool true) (q_lss (r := true) rfl rfl (decide_eq_true hi10)) ?_
        refine Wl.done ?_
        refine Wx.go ?_
        refine Wc.yes rfl ?_
        refine Wc.skip ?_
        refine Wx.go ?_
        refine Wc.seq ?_
        refine Wc.block ?_
        refine Wc.seq ?_
        refine Wc.region ?_
        refine Wl.q (v := Value.pointer (some ⟨r, 0, none⟩)) (q_move hE0_0) ?_
        refine Wl.e (e_call (F := F) (args := [Value.pointer (some ⟨r, 0, none⟩)]) Try.call45 rfl (Con.eqs (val' := fun _ => .tuple #[.int .u8 0, .bool false]) (post' := fun _ => [pt r 59 [Value.bool true, Value.string s, Value.int .i64 (((a0 + i) : Nat) : Int)]]) (hend ▸ next_end W0 r s) (fun _ => rfl) (fun _ => rfl))) (fun _ _ => ?_)
        refine Wl.imp (L' := (pt r 59 [Value.bool true, Value.string s, Value.int .i64 (((a0 + i) : Nat) : Int)]) :: F) (fun _ h => h) ?_
        refine Wl.q (v := Value.tuple #[Value.int .u8 0, Value.bool false]) (q_move rfl) ?_
        refine Wl.q (v := Value.int .u8 0) (q_extract (i := 0) rfl rfl) ?_
        refine Wl.q (v := Value.bool false) (q_extract (i := 1) rfl rfl) ?_
        refine Wl.q (v := Value.int .u8 0) (q_assign rfl) ?_
        refine Wl.q (v := Value.bool false) (q_assign rfl) ?_
        refine Wl.done ?_
        refine Wx.go ?_
        refine Wc.seq ?_
        refine Wc.seq ?_
        refine Wc.region ?_
        refine Wl.q (v := Value.bool false) (q_move rfl) ?_
        refine Wl.q (v := Value.bool true) (q_not rfl rfl) ?_
        refine Wl.q (v := Value.bool true) (q_move rfl) ?_
        refine Wl.no ?_
        refine Wl.no ?_
        refine Wl.no ?_
        refine Wl.no ?_
        refine Wl.no ?_
        refine Wl.no ?_
        refine Wl.q (v := Value.bool true) (q_pick (t := true) rfl rfl) ?_
        refine Wl.done ?_
        refine Wx.go ?_
        refine Wc.yes rfl ?_
        refine Wc.seq ?_
        refine Wc.region ?_
        refine Wl.q (v := Value.int .i64 0) (q_assign rfl) ?_
        refine Wl.q (v := Value.bool false) (q_assign rfl) ?_
        refine Wl.done ?_
        refine Wx.go ?_
        refine Wc.ret ?_
        refine Wx.thenRet ?_
        refine Wx.blockRet ?_
        refine Wx.thenRet ?_
        refine Wx.thenRet ?_
        refine Wx.blockRet ?_
        refine Wx.thenRet ?_
        refine Wx.fin2 rfl (.inl rfl) (fun w hs => ?_)
        rw [show 10 - i = (10 - (i + 1)) + 1 by omega] at hp0
        have hN : NumR s a0 0 false (a0 + i) := NumR.none hp0 (dec_none hget) ha
        exact ⟨(0, false, a0 + i), hN, rfl, hs⟩
      ·
        refine Wl.q (v := Value.bool false) (q_lss (r := false) rfl rfl (decide_eq_false hi10)) ?_
        refine Wl.done ?_
        refine Wx.go ?_
        refine Wc.no rfl ?_
        refine Wc.exit ?_
        refine Wx.thenExit ?_
        refine Wx.thenExit ?_
        refine Wx.out ?_
        refine Wx.go ?_
        refine Wc.seq ?_
        refine Wc.region ?_
        refine Wl.q (v := Value.int .i64 0) (q_assign rfl) ?_
        refine Wl.q (v := Value.bool false) (q_assign rfl) ?_
        refine Wl.done ?_
        refine Wx.go ?_
        refine Wc.ret ?_
        refine Wx.fin2 rfl (.inl rfl) (fun w hs => ?_)
        have h10 : i = 10 := by omega
        subst h10
        have hN : NumR s a0 0 false (a0 + 10) := NumR.none hp0 rfl ha
        exact ⟨(0, false, a0 + 10), hN, rfl, hs⟩
    ·
      have hat : a0 + i < s.size := lt_of_get s hget
      refine Wc.seq ?_
      refine Wc.seq ?_
      refine Wc.region ?_
      refine Wl.q (v := Value.int .i64 ((i : Nat) : Int)) (q_move hE5_0) ?_
      by_cases hi10 : ((i : Nat) : Int) < 10
      ·
        refine Wl.q (v := Value.bool true) (q_lss (r := true) rfl rfl (decide_eq_true hi10)) ?_
        refine Wl.done ?_
        refine Wx.go ?_
        refine Wc.yes rfl ?_
        refine Wc.skip ?_
        refine Wx.go ?_
        refine Wc.seq ?_
        refine Wc.block ?_
        refine Wc.seq ?_
        refine Wc.region ?_
        refine Wl.q (v := Value.pointer (some ⟨r, 0, none⟩)) (q_move hE0_0) ?_
        refine Wl.e (e_call (F := F) (args := [Value.pointer (some ⟨r, 0, none⟩)]) Try.call45 rfl (next_ok W0 r s (a0 + i) c hget hat hsz)) (fun _ _ => ?_)
        refine Wl.imp (L' := (pt r 59 [Value.bool true, Value.string s, Value.int .i64 ((((a0 + i) + 1) : Nat) : Int)]) :: F) (fun _ h => h) ?_
        refine Wl.q (v := Value.tuple #[Value.int .u8 ((c.toNat : Nat) : Int), Value.bool true]) (q_move rfl) ?_
        refine Wl.q (v := Value.int .u8 ((c.toNat : Nat) : Int)) (q_extract (i := 0) rfl rfl) ?_
        refine Wl.q (v := Value.bool true) (q_extract (i := 1) rfl rfl) ?_
        refine Wl.q (v := Value.int .u8 ((c.toNat : Nat) : Int)) (q_assign rfl) ?_
        refine Wl.q (v := Value.bool true) (q_assign rfl) ?_
        refine Wl.done ?_
        refine Wx.go ?_
        refine Wc.seq ?_
        refine Wc.seq ?_
        refine Wc.region ?_
        refine Wl.q (v := Value.bool true) (q_move rfl) ?_
        refine Wl.q (v := Value.bool false) (q_not rfl rfl) ?_
        refine Wl.q (v := Value.bool false) (q_move rfl) ?_
        refine Wl.q (v := Value.int .i64 ((i : Nat) : Int)) (q_move hE5_0) ?_
        by_cases hi9 : ((i : Nat) : Int) = 9
        ·
          refine Wl.q (v := Value.bool true) (q_eql (r := true) rfl rfl (decide_eq_true hi9)) ?_
          refine Wl.q (v := Value.bool true) (q_move rfl) ?_
          refine Wl.q (v := Value.int .u8 ((c.toNat : Nat) : Int)) (q_move rfl) ?_
          by_cases hc1 : ((c.toNat : Nat) : Int) > 1
          ·
            refine Wl.q (v := Value.bool true) (q_gtr (r := true) rfl rfl (decide_eq_true hc1)) ?_
            refine Wl.q (v := Value.bool true) (q_pick (t := true) rfl rfl) ?_
            refine Wl.q (v := Value.bool true) (q_pick (t := false) rfl rfl) ?_
            refine Wl.done ?_
            refine Wx.go ?_
            refine Wc.yes rfl ?_
            refine Wc.seq ?_
            refine Wc.region ?_
            refine Wl.q (v := Value.int .i64 0) (q_assign rfl) ?_
            refine Wl.q (v := Value.bool false) (q_assign rfl) ?_
            refine Wl.done ?_
            refine Wx.go ?_
            refine Wc.ret ?_
            refine Wx.thenRet ?_
            refine Wx.blockRet ?_
            refine Wx.thenRet ?_
            refine Wx.thenRet ?_
            refine Wx.blockRet ?_
            refine Wx.thenRet ?_
            refine Wx.fin2 rfl (.inl rfl) (fun w hs => ?_)
            rw [show 10 - i = (10 - (i + 1)) + 1 by omega] at hp0
            have hN : NumR s a0 0 false (a0 + i + 1) := NumR.none hp0 (dec_bad hget (.inl ⟨by omega, by omega⟩)) (by omega)
            exact ⟨(0, false, a0 + i + 1), hN, rfl, hs⟩
          ·
            have hc9 : i = 9 → c.toNat % 128 ≤ 1 := fun h => by omega
            refine Wl.q (v := Value.bool false) (q_gtr (r := false) rfl rfl (decide_eq_false hc1)) ?_
            refine Wl.q (v := Value.bool false) (q_pick (t := true) rfl rfl) ?_
            refine Wl.q (v := Value.bool false) (q_pick (t := false) rfl rfl) ?_
            refine Wl.done ?_
            refine Wx.go ?_
            refine Wc.no rfl ?_
            refine Wc.skip ?_
            refine Wx.go ?_
            refine Wc.seq ?_
            refine Wc.region ?_
            refine Wl.q (v := Value.int .u64 ((z : Nat) : Int)) (q_move hE4_0) ?_
            refine Wl.q (v := Value.int .u8 ((c.toNat : Nat) : Int)) (q_move rfl) ?_
            refine Wl.q (v := Value.int .u8 ((c.toNat % 128 : Nat) : Int)) (q_and (c := ((c.toNat % 128 : Nat) : Int)) rfl rfl (and127 c)) ?_
            refine Wl.q (v := Value.int .u64 ((c.toNat % 128 : Nat) : Int)) (q_conv_int (c := ((c.toNat % 128 : Nat) : Int)) Try.underlying61 (by rw [Try.underlying5]; rfl) rfl (wrap_u64 (by omega) (by omega))) ?_
            refine Wl.q (v := Value.int .i64 ((i : Nat) : Int)) (q_move hE5_0) ?_
            refine Wl.q (v := Value.int .i64 ((7 * i : Nat) : Int)) (q_mul (c := ((7 * i : Nat) : Int)) rfl rfl (by rw [wrap_i64] <;> omega)) ?_
            refine Wl.q (v := Value.int .u64 ((c.toNat % 128 * 128 ^ i : Nat) : Int)) (q_shl (c := ((c.toNat % 128 * 128 ^ i : Nat) : Int)) rfl rfl (by omega) (shl7 (by omega) hc9 (by omega))) ?_
            refine Wl.q (v := Value.int .u64 (((z + c.toNat % 128 * 128 ^ i) : Nat) : Int)) (q_or (c := (((z + c.toNat % 128 * 128 ^ i) : Nat) : Int)) rfl rfl (or7 hz (by omega) hc9 (by omega)).2) ?_
            refine Wl.q (v := Value.int .u64 (((z + c.toNat % 128 * 128 ^ i) : Nat) : Int)) (q_assign rfl) ?_
            refine Wl.done ?_
            refine Wx.go ?_
            refine Wc.seq ?_
            refine Wc.region ?_
            refine Wl.q (v := Value.int .u8 ((c.toNat : Nat) : Int)) (q_move rfl) ?_
            by_cases hc128 : ((c.toNat : Nat) : Int) < 128
            ·
              refine Wl.q (v := Value.bool true) (q_lss (r := true) rfl rfl (decide_eq_true hc128)) ?_
              refine Wl.done ?_
              refine Wx.go ?_
              refine Wc.yes rfl ?_
              refine Wc.seq ?_
              refine Wc.region ?_
              refine Wl.q (v := Value.int .u64 (((z + c.toNat % 128 * 128 ^ i) : Nat) : Int)) (q_move rfl) ?_
              refine Wl.q (v := Value.int .u64 (((z + c.toNat % 128 * 128 ^ i) / 2 : Nat) : Int)) (q_shr (c := (((z + c.toNat % 128 * 128 ^ i) / 2 : Nat) : Int)) rfl rfl (by decide) (shr1 _)) ?_
              refine Wl.q (v := Value.int .i64 (((z + c.toNat % 128 * 128 ^ i) / 2 : Nat) : Int)) (q_conv_int (c := (((z + c.toNat % 128 * 128 ^ i) / 2 : Nat) : Int)) Try.underlying2 (by rw [Try.underlying61]; rfl) rfl (wrap_i64 (by omega) (by have := (or7 hz (by omega) hc9 (by omega)).1; omega))) ?_
              refine Wl.q (v := Value.int .u64 (((z + c.toNat % 128 * 128 ^ i) : Nat) : Int)) (q_move rfl) ?_
              refine Wl.q (v := Value.int .u64 (((z + c.toNat % 128 * 128 ^ i) % 2 : Nat) : Int)) (q_and (c := (((z + c.toNat % 128 * 128 ^ i) % 2 : Nat) : Int)) rfl rfl (and1 (or7 hz (by omega) hc9 (by omega)).1)) ?_
              refine Wl.q (v := Value.int .i64 (((z + c.toNat % 128 * 128 ^ i) % 2 : Nat) : Int)) (q_conv_int (c := (((z + c.toNat % 128 * 128 ^ i) % 2 : Nat) : Int)) Try.underlying2 (by rw [Try.underlying61]; rfl) rfl (wrap_i64 (by omega) (by omega))) ?_
              refine Wl.q (v := Value.int .i64 (-(((z + c.toNat % 128 * 128 ^ i) % 2 : Nat) : Int))) (q_neg (c := (-(((z + c.toNat % 128 * 128 ^ i) % 2 : Nat) : Int))) rfl (wrap_i64 (by omega) (by omega))) ?_
              refine Wl.q (v := Value.int .i64 (un (z + c.toNat % 128 * 128 ^ i))) (q_xor (c := (un (z + c.toNat % 128 * 128 ^ i))) rfl rfl (xor_un (or7 hz (by omega) hc9 (by omega)).1)) ?_
              refine Wl.q (v := Value.int .i64 ((i : Nat) : Int)) (q_move hE5_0) ?_
              by_cases hi0 : ((i : Nat) : Int) = 0
              ·
                refine Wl.q (v := Value.bool true) (q_eql (r := true) rfl rfl (decide_eq_true hi0)) ?_
                refine Wl.q (v := Value.bool true) (q_move rfl) ?_
                refine Wl.no ?_
                refine Wl.no ?_
                refine Wl.q (v := Value.bool true) (q_pick (t := true) rfl rfl) ?_
                refine Wl.q (v := Value.int .i64 (un (z + c.toNat % 128 * 128 ^ i))) (q_assign rfl) ?_
                refine Wl.q (v := Value.bool true) (q_assign rfl) ?_
                refine Wl.done ?_
                refine Wx.go ?_
                refine Wc.ret ?_
                refine Wx.blockRet ?_
                refine Wx.thenRet ?_
                refine Wx.thenRet ?_
                refine Wx.blockRet ?_
                refine Wx.thenRet ?_
                refine Wx.fin2 rfl (.inl rfl) (fun w hs => ?_)
                rw [show 10 - i = (10 - (i + 1)) + 1 by omega] at hp0
                have hN : NumR s a0 (un (z + c.toNat % 128 * 128 ^ i)) true (a0 + i + 1) := NumR.some hp0 (dec_end hget (by omega) (by omega)) (by omega)
                exact ⟨((un (z + c.toNat % 128 * 128 ^ i)), true, a0 + i + 1), hN, rfl, hs⟩
              ·
                refine Wl.q (v := Value.bool false) (q_eql (r := false) rfl rfl (decide_eq_false hi0)) ?_
                refine Wl.q (v := Value.bool false) (q_move rfl) ?_
                refine Wl.q (v := Value.int .u8 ((c.toNat : Nat) : Int)) (q_move rfl) ?_
                by_cases hc0 : ((c.toNat : Nat) : Int) > 0
                ·
                  refine Wl.q (v := Value.bool true) (q_gtr (r := true) rfl rfl (decide_eq_true hc0)) ?_
                  refine Wl.q (v := Value.bool true) (q_pick (t := false) rfl rfl) ?_
                  refine Wl.q (v := Value.int .i64 (un (z + c.toNat % 128 * 128 ^ i))) (q_assign rfl) ?_
                  refine Wl.q (v := Value.bool true) (q_assign rfl) ?_
                  refine Wl.done ?_
                  refine Wx.go ?_
                  refine Wc.ret ?_
                  refine Wx.blockRet ?_
                  refine Wx.thenRet ?_
                  refine Wx.thenRet ?_
                  refine Wx.blockRet ?_
                  refine Wx.thenRet ?_
                  refine Wx.fin2 rfl (.inl rfl) (fun w hs => ?_)
                  rw [show 10 - i = (10 - (i + 1)) + 1 by omega] at hp0
                  have hN : NumR s a0 (un (z + c.toNat % 128 * 128 ^ i)) true (a0 + i + 1) := NumR.some hp0 (dec_end hget (by omega) (by omega)) (by omega)
                  exact ⟨((un (z + c.toNat % 128 * 128 ^ i)), true, a0 + i + 1), hN, rfl, hs⟩
                ·
                  refine Wl.q (v := Value.bool false) (q_gtr (r := false) rfl rfl (decide_eq_false hc0)) ?_
                  refine Wl.q (v := Value.bool false) (q_pick (t := false) rfl rfl) ?_
                  refine Wl.q (v := Value.int .i64 (un (z + c.toNat % 128 * 128 ^ i))) (q_assign rfl) ?_
                  refine Wl.q (v := Value.bool false) (q_assign rfl) ?_
                  refine Wl.done ?_
                  refine Wx.go ?_
                  refine Wc.ret ?_
                  refine Wx.blockRet ?_
                  refine Wx.thenRet ?_
                  refine Wx.thenRet ?_
                  refine Wx.blockRet ?_
                  refine Wx.thenRet ?_
                  refine Wx.fin2 rfl (.inl rfl) (fun w hs => ?_)
                  rw [show 10 - i = (10 - (i + 1)) + 1 by omega] at hp0
                  have hN : NumR s a0 (un (z + c.toNat % 128 * 128 ^ i)) false (a0 + i + 1) := NumR.none hp0 (dec_bad hget (.inr ⟨by omega, by omega⟩)) (by omega)
                  exact ⟨((un (z + c.toNat % 128 * 128 ^ i)), false, a0 + i + 1), hN, rfl, hs⟩
            ·
              refine Wl.q (v := Value.bool false) (q_lss (r := false) rfl rfl (decide_eq_false hc128)) ?_
              refine Wl.done ?_
              refine Wx.go ?_
              refine Wc.no rfl ?_
              refine Wc.skip ?_
              refine Wx.blockEnd ?_
              refine Wx.go ?_
              refine Wc.region ?_
              refine Wl.q (v := Value.int .i64 ((i : Nat) : Int)) (q_move hE5_0) ?_
              refine Wl.q (v := Value.int .i64 ((i + 1 : Nat) : Int)) (q_add (c := ((i + 1 : Nat) : Int)) rfl rfl (by rw [wrap_i64] <;> omega)) ?_
              refine Wl.q (v := Value.int .i64 ((i + 1 : Nat) : Int)) (q_assign rfl) ?_
              refine Wl.done ?_
              refine Wx.at (i + 1, (z + c.toNat % 128 * 128 ^ i)) ⟨(by simp only; omega), rfl, rfl, hE0_0, (by simp only; rw [hp0, show 10 - i = (10 - (i + 1)) + 1 by omega]; exact dec_more hget (by omega) (by omega)), (pow_next hz), (by simp only; omega), (by simp only; omega)⟩ (fun w hs => hs)
        ·
          have hc9 : i = 9 → c.toNat % 128 ≤ 1 := fun h => by omega
          refine Wl.q (v := Value.bool false) (q_eql (r := false) rfl rfl (decide_eq_false hi9)) ?_
          refine Wl.q (v := Value.bool false) (q_move rfl) ?_
          refine Wl.no ?_
          refine Wl.no ?_
          refine Wl.q (v := Value.bool false) (q_pick (t := false) rfl rfl) ?_
          refine Wl.q (v := Value.bool false) (q_pick (t := false) rfl rfl) ?_
          refine Wl.done ?_
          refine Wx.go ?_
          refine Wc.no rfl ?_
          refine Wc.skip ?_
          refine Wx.go ?_
          refine Wc.seq ?_
          refine Wc.region ?_
          refine Wl.q (v := Value.int .u64 ((z : Nat) : Int)) (q_move hE4_0) ?_
          refine Wl.q (v := Value.int .u8 ((c.toNat : Nat) : Int)) (q_move rfl) ?_
          refine Wl.q (v := Value.int .u8 ((c.toNat % 128 : Nat) : Int)) (q_and (c := ((c.toNat % 128 : Nat) : Int)) rfl rfl (and127 c)) ?_
          refine Wl.q (v := Value.int .u64 ((c.toNat % 128 : Nat) : Int)) (q_conv_int (c := ((c.toNat % 128 : Nat) : Int)) Try.underlying61 (by rw [Try.underlying5]; rfl) rfl (wrap_u64 (by omega) (by omega))) ?_
          refine Wl.q (v := Value.int .i64 ((i : Nat) : Int)) (q_move hE5_0) ?_
          refine Wl.q (v := Value.int .i64 ((7 * i : Nat) : Int)) (q_mul (c := ((7 * i : Nat) : Int)) rfl rfl (by rw [wrap_i64] <;> omega)) ?_
          refine Wl.q (v := Value.int .u64 ((c.toNat % 128 * 128 ^ i : Nat) : Int)) (q_shl (c := ((c.toNat % 128 * 128 ^ i : Nat) : Int)) rfl rfl (by omega) (shl7 (by omega) hc9 (by omega))) ?_
          refine Wl.q (v := Value.int .u64 (((z + c.toNat % 128 * 128 ^ i) : Nat) : Int)) (q_or (c := (((z + c.toNat % 128 * 128 ^ i) : Nat) : Int)) rfl rfl (or7 hz (by omega) hc9 (by omega)).2) ?_
          refine Wl.q (v := Value.int .u64 (((z + c.toNat % 128 * 128 ^ i) : Nat) : Int)) (q_assign rfl) ?_
          refine Wl.done ?_
          refine Wx.go ?_
          refine Wc.seq ?_
          refine Wc.region ?_
          refine Wl.q (v := Value.int .u8 ((c.toNat : Nat) : Int)) (q_move rfl) ?_
          by_cases hc128 : ((c.toNat : Nat) : Int) < 128
          ·
            refine Wl.q (v := Value.bool true) (q_lss (r := true) rfl rfl (decide_eq_true hc128)) ?_
            refine Wl.done ?_
            refine Wx.go ?_
            refine Wc.yes rfl ?_
            refine Wc.seq ?_
            refine Wc.region ?_
            refine Wl.q (v := Value.int .u64 (((z + c.toNat % 128 * 128 ^ i) : Nat) : Int)) (q_move rfl) ?_
            refine Wl.q (v := Value.int .u64 (((z + c.toNat % 128 * 128 ^ i) / 2 : Nat) : Int)) (q_shr (c := (((z + c.toNat % 128 * 128 ^ i) / 2 : Nat) : Int)) rfl rfl (by decide) (shr1 _)) ?_
            refine Wl.q (v := Value.int .i64 (((z + c.toNat % 128 * 128 ^ i) / 2 : Nat) : Int)) (q_conv_int (c := (((z + c.toNat % 128 * 128 ^ i) / 2 : Nat) : Int)) Try.underlying2 (by rw [Try.underlying61]; rfl) rfl (wrap_i64 (by omega) (by have := (or7 hz (by omega) hc9 (by omega)).1; omega))) ?_
            refine Wl.q (v := Value.int .u64 (((z + c.toNat % 128 * 128 ^ i) : Nat) : Int)) (q_move rfl) ?_
            refine Wl.q (v := Value.int .u64 (((z + c.toNat % 128 * 128 ^ i) % 2 : Nat) : Int)) (q_and (c := (((z + c.toNat % 128 * 128 ^ i) % 2 : Nat) : Int)) rfl rfl (and1 (or7 hz (by omega) hc9 (by omega)).1)) ?_
            refine Wl.q (v := Value.int .i64 (((z + c.toNat % 128 * 128 ^ i) % 2 : Nat) : Int)) (q_conv_int (c := (((z + c.toNat % 128 * 128 ^ i) % 2 : Nat) : Int)) Try.underlying2 (by rw [Try.underlying61]; rfl) rfl (wrap_i64 (by omega) (by omega))) ?_
            refine Wl.q (v := Value.int .i64 (-(((z + c.toNat % 128 * 128 ^ i) % 2 : Nat) : Int))) (q_neg (c := (-(((z + c.toNat % 128 * 128 ^ i) % 2 : Nat) : Int))) rfl (wrap_i64 (by omega) (by omega))) ?_
            refine Wl.q (v := Value.int .i64 (un (z + c.toNat % 128 * 128 ^ i))) (q_xor (c := (un (z + c.toNat % 128 * 128 ^ i))) rfl rfl (xor_un (or7 hz (by omega) hc9 (by omega)).1)) ?_
            refine Wl.q (v := Value.int .i64 ((i : Nat) : Int)) (q_move hE5_0) ?_
            by_cases hi0 : ((i : Nat) : Int) = 0
            ·
              refine Wl.q (v := Value.bool true) (q_eql (r := true) rfl rfl (decide_eq_true hi0)) ?_
              refine Wl.q (v := Value.bool true) (q_move rfl) ?_
              refine Wl.no ?_
              refine Wl.no ?_
              refine Wl.q (v := Value.bool true) (q_pick (t := true) rfl rfl) ?_
              refine Wl.q (v := Value.int .i64 (un (z + c.toNat % 128 * 128 ^ i))) (q_assign rfl) ?_
              refine Wl.q (v := Value.bool true) (q_assign rfl) ?_
              refine Wl.done ?_
              refine Wx.go ?_
              refine Wc.ret ?_
              refine Wx.blockRet ?_
              refine Wx.thenRet ?_
              refine Wx.thenRet ?_
              refine Wx.blockRet ?_
              refine Wx.thenRet ?_
              refine Wx.fin2 rfl (.inl rfl) (fun w hs => ?_)
              rw [show 10 - i = (10 - (i + 1)) + 1 by omega] at hp0
              have hN : NumR s a0 (un (z + c.toNat % 128 * 128 ^ i)) true (a0 + i + 1) := NumR.some hp0 (dec_end hget (by omega) (by omega)) (by omega)
              exact ⟨((un (z + c.toNat % 128 * 128 ^ i)), true, a0 + i + 1), hN, rfl, hs⟩
            ·
              refine Wl.q (v := Value.bool false) (q_eql (r := false) rfl rfl (decide_eq_false hi0)) ?_
              refine Wl.q (v := Value.bool false) (q_move rfl) ?_
              refine Wl.q (v := Value.int .u8 ((c.toNat : Nat) : Int)) (q_move rfl) ?_
              by_cases hc0 : ((c.toNat : Nat) : Int) > 0
              ·
                refine Wl.q (v := Value.bool true) (q_gtr (r := true) rfl rfl (decide_eq_true hc0)) ?_
                refine Wl.q (v := Value.bool true) (q_pick (t := false) rfl rfl) ?_
                refine Wl.q (v := Value.int .i64 (un (z + c.toNat % 128 * 128 ^ i))) (q_assign rfl) ?_
                refine Wl.q (v := Value.bool true) (q_assign rfl) ?_
                refine Wl.done ?_
                refine Wx.go ?_
                refine Wc.ret ?_
                refine Wx.blockRet ?_
                refine Wx.thenRet ?_
                refine Wx.thenRet ?_
                refine Wx.blockRet ?_
                refine Wx.thenRet ?_
                refine Wx.fin2 rfl (.inl rfl) (fun w hs => ?_)
                rw [show 10 - i = (10 - (i + 1)) + 1 by omega] at hp0
                have hN : NumR s a0 (un (z + c.toNat % 128 * 128 ^ i)) true (a0 + i + 1) := NumR.some hp0 (dec_end hget (by omega) (by omega)) (by omega)
                exact ⟨((un (z + c.toNat % 128 * 128 ^ i)), true, a0 + i + 1), hN, rfl, hs⟩
              ·
                refine Wl.q (v := Value.bool false) (q_gtr (r := false) rfl rfl (decide_eq_false hc0)) ?_
                refine Wl.q (v := Value.bool false) (q_pick (t := false) rfl rfl) ?_
                refine Wl.q (v := Value.int .i64 (un (z + c.toNat % 128 * 128 ^ i))) (q_assign rfl) ?_
                refine Wl.q (v := Value.bool false) (q_assign rfl) ?_
                refine Wl.done ?_
                refine Wx.go ?_
                refine Wc.ret ?_
                refine Wx.blockRet ?_
                refine Wx.thenRet ?_
                refine Wx.thenRet ?_
                refine Wx.blockRet ?_
                refine Wx.thenRet ?_
                refine Wx.fin2 rfl (.inl rfl) (fun w hs => ?_)
                rw [show 10 - i = (10 - (i + 1)) + 1 by omega] at hp0
                have hN : NumR s a0 (un (z + c.toNat % 128 * 128 ^ i)) false (a0 + i + 1) := NumR.none hp0 (dec_bad hget (.inr ⟨by omega, by omega⟩)) (by omega)
                exact ⟨((un (z + c.toNat % 128 * 128 ^ i)), false, a0 + i + 1), hN, rfl, hs⟩
          ·
            refine Wl.q (v := Value.bool false) (q_lss (r := false) rfl rfl (decide_eq_false hc128)) ?_
            refine Wl.done ?_
            refine Wx.go ?_
            refine Wc.no rfl ?_
            refine Wc.skip ?_
            refine Wx.blockEnd ?_
            refine Wx.go ?_
            refine Wc.region ?_
            refine Wl.q (v := Value.int .i64 ((i : Nat) : Int)) (q_move hE5_0) ?_
            refine Wl.q (v := Value.int .i64 ((i + 1 : Nat) : Int)) (q_add (c := ((i + 1 : Nat) : Int)) rfl rfl (by rw [wrap_i64] <;> omega)) ?_
            refine Wl.q (v := Value.int .i64 ((i + 1 : Nat) : Int)) (q_assign rfl) ?_
            refine Wl.done ?_
            refine Wx.at (i + 1, (z + c.toNat % 128 * 128 ^ i)) ⟨(by simp only; omega), rfl, rfl, hE0_0, (by simp only; rw [hp0, show 10 - i = (10 - (i + 1)) + 1 by omega]; exact dec_more hget (by omega) (by omega)), (pow_next hz), (by simp only; omega), (by simp only; omega)⟩ (fun w hs => hs)
      ·
        refine Wl.q (v := Value.bool false) (q_lss (r := false) rfl rfl (decide_eq_false hi10)) ?_
        refine Wl.done ?_
        refine Wx.go ?_
        refine Wc.no rfl ?_
        refine Wc.exit ?_
        refine Wx.thenExit ?_
        refine Wx.thenExit ?_
        refine Wx.out ?_
        refine Wx.go ?_
        refine Wc.seq ?_
        refine Wc.region ?_
        refine Wl.q (v := Value.int .i64 0) (q_assign rfl) ?_
        refine Wl.q (v := Value.bool false) (q_assign rfl) ?_
        refine Wl.done ?_
        refine Wx.go ?_
        refine Wc.ret ?_
        refine Wx.fin2 rfl (.inl rfl) (fun w hs => ?_)
        have h10 : i = 10 := by omega
        subst h10
        have hN : NumR s a0 0 false (a0 + 10) := NumR.none hp0 rfl ha
        exact ⟨(0, false, a0 + 10), hN, rfl, hs⟩

theorem take1_ok (W0 : World) (eb ab tb : Nat) :
    ConD Try.prog W0 53 #[Value.pointer (some ⟨eb, 0, none⟩), Value.pointer (some ⟨ab, 0, none⟩), Value.pointer (some ⟨tb, 0, none⟩)] [pt eb 24 [Value.int .i64 0]] (X := Unit) (fun _ => True) (fun _ => [pt eb 24 [Value.int .i64 0]]) := by
  refine ConD.of (val := fun _ => .tuple #[]) (args := [Value.pointer (some ⟨eb, 0, none⟩), Value.pointer (some ⟨ab, 0, none⟩), Value.pointer (some ⟨tb, 0, none⟩)]) Try.func53 rfl Try.ntmps53 rfl (fun F => ?_)
  show Wc _ W0 _ _ _ _ _ ((pt eb 24 [Value.int .i64 0]) :: F)
  refine Wc.seq ?_
  refine Wc.region ?_
  refine Wl.q (v := Value.int .i64 0) (q_load sc_24 rfl (.cel (i := 0) rfl rfl)) ?_
  refine Wl.q (v := Value.bool false) (q_neq (r := true) rfl rfl (decide_eq_true (by decide))) ?_
  refine Wl.done ?_
  refine Wx.go ?_
  refine Wc.no rfl ?_
  refine Wc.skip ?_
  refine Wx.fin0 rfl (.inr rfl) (fun w hs => ?_)
  exact ⟨(), trivial, rfl, hs⟩

theorem take1_bad (W0 : World) (eb ab tb r : Nat) (s : ByteArray) (at_ a : Nat) :
    ConD Try.prog W0 53 #[Value.pointer (some ⟨eb, 0, none⟩), Value.pointer (some ⟨ab, 0, none⟩), Value.pointer (some ⟨tb, 0, none⟩)] [pt eb 24 [Value.int .i64 4], pt ab 3 [Value.int .i64 ((at_ : Nat) : Int)], pt tb 31 [Value.pointer (some ⟨r, 0, none⟩)], pt r 59 [Value.bool true, Value.string s, Value.int .i64 ((a : Nat) : Int)]] (X := Unit) (fun _ => True) (fun _ => [pt eb 24 [Value.int .i64 4], pt ab 3 [Value.int .i64 ((at_ : Nat) : Int)], pt tb 31 [Value.pointer (some ⟨r, 0, none⟩)], pt r 59 [Value.bool true, Value.string s, Value.int .i64 ((at_ : Nat) : Int)]]) := by
  refine ConD.of (val := fun _ => .tuple #[]) (args := [Value.pointer (some ⟨eb, 0, none⟩), Value.pointer (some ⟨ab, 0, none⟩), Value.pointer (some ⟨tb, 0, none⟩)]) Try.func53 rfl Try.ntmps53 rfl (fun F => ?_)
  show Wc _ W0 _ _ _ _ _ ((pt eb 24 [Value.int .i64 4]) :: (pt ab 3 [Value.int .i64 ((at_ : Nat) : Int)]) :: (pt tb 31 [Value.pointer (some ⟨r, 0, none⟩)]) :: (pt r 59 [Value.bool true, Value.string s, Value.int .i64 ((a : Nat) : Int)]) :: F)
  refine Wc.seq ?_
  refine Wc.region ?_
  refine Wl.q (v := Value.int .i64 4) (q_load sc_24 rfl (.cel (i := 0) rfl rfl)) ?_
  refine Wl.q (v := Value.bool true) (q_neq (r := false) rfl rfl (decide_eq_false (by decide))) ?_
  refine Wl.done ?_
  refine Wx.go ?_
  refine Wc.yes rfl ?_
  refine Wc.region ?_
  refine Wl.q (v := Value.pointer (some ⟨r, 0, none⟩)) (q_load sc_31 rfl (.cel (i := 2) rfl rfl)) ?_
  refine Wl.q (v := Value.int .i64 ((at_ : Nat) : Int)) (q_load sc_3 rfl (.cel (i := 1) rfl rfl)) ?_
  refine Wl.q (v := Value.pointer (some ⟨r, 0, none⟩)) (q_nil_ptr rfl) ?_
  refine Wl.q (v := Value.pointer (some ⟨r, 2, none⟩)) (q_field (m := 2) fo_59_2 rfl rfl) ?_
  refine Wl.e (e_store (i := 3) (v := Value.int .i64 ((at_ : Nat) : Int)) sz_3 rfl rfl (fun _ _ => rfl) rfl (by simp)) (fun _ _ => ?_)
  refine Wl.imp (L' := (pt eb 24 [Value.int .i64 4]) :: (pt ab 3 [Value.int .i64 ((at_ : Nat) : Int)]) :: (pt tb 31 [Value.pointer (some ⟨r, 0, none⟩)]) :: (pt r 59 [Value.bool true, Value.string s, Value.int .i64 ((at_ : Nat) : Int)]) :: F) (fun _ h => h) ?_
  refine Wl.done ?_
  refine Wx.fin0 rfl (.inr rfl) (fun w hs => ?_)
  exact ⟨(), trivial, rfl, hs⟩

theorem take_Byte_ok (W0 : World) (r rb nb : Nat) (s : ByteArray) (at_ a : Nat) (v0 v1 : Value) (hcl : Con Try.prog W0 44 #[Value.pointer (some ⟨rb, 0, none⟩), Value.pointer (some ⟨nb, 0, none⟩)] [pt rb 31 [Value.pointer (some ⟨r, 0, none⟩)], pt nb 3 [v0], pt r 59 [Value.bool true, Value.string s, Value.int .i64 ((at_ : Nat) : Int)]] (X := Unit) (fun _ => True) (fun _ => .int .i64 0) (fun _ => [pt rb 31 [Value.pointer (some ⟨r, 0, none⟩)], pt nb 3 [v1], pt r 59 [Value.bool true, Value.string s, Value.int .i64 ((a : Nat) : Int)]])) :
    Con Try.prog W0 43 #[Value.pointer (some ⟨r, 0, none⟩), Value.func (.func 44) #[] #[Value.pointer (some ⟨rb, 0, none⟩), Value.pointer (some ⟨nb, 0, none⟩)]] [pt rb 31 [Value.pointer (some ⟨r, 0, none⟩)], pt nb 3 [v0], pt r 59 [Value.bool true, Value.string s, Value.int .i64 ((at_ : Nat) : Int)]] (X := Unit) (fun _ => True) (fun _ => .int .i64 0) (fun _ => [pt rb 31 [Value.pointer (some ⟨r, 0, none⟩)], pt nb 3 [v1], pt r 59 [Value.bool true, Value.string s, Value.int .i64 ((a : Nat) : Int)]]) := by
  refine Con.ofD (args := [Value.pointer (some ⟨r, 0, none⟩), Value.func (.func 44) #[] #[Value.pointer (some ⟨rb, 0, none⟩), Value.pointer (some ⟨nb, 0, none⟩)]]) Try.func43 rfl Try.ntmps43 rfl (fun F => ?_)
  show Wc _ W0 _ _ _ _ _ ((pt rb 31 [Value.pointer (some ⟨r, 0, none⟩)]) :: (pt nb 3 [v0]) :: (pt r 59 [Value.bool true, Value.string s, Value.int .i64 ((at_ : Nat) : Int)]) :: F)
  refine Wc.seq ?_
  refine Wc.region ?_
  refine Wl.e (e_box (x := .tmp 0) (vs := [Value.pointer (some ⟨r, 0, none⟩)]) rfl) (fun tb _ => ?_)
  refine Wl.imp (L' := (pt tb 31 [Value.pointer (some ⟨r, 0, none⟩)]) :: (pt rb 31 [Value.pointer (some ⟨r, 0, none⟩)]) :: (pt nb 3 [v0]) :: (pt r 59 [Value.bool true, Value.string s, Value.int .i64 ((at_ : Nat) : Int)]) :: F) (fun _ h => h) ?_
  refine Wl.e (e_alloc (vs := [Value.int .i64 0]) zo_24 rfl) (fun eb _ => ?_)
  refine Wl.imp (L' := (pt eb 24 [Value.int .i64 0]) :: (pt tb 31 [Value.pointer (some ⟨r, 0, none⟩)]) :: (pt rb 31 [Value.pointer (some ⟨r, 0, none⟩)]) :: (pt nb 3 [v0]) :: (pt r 59 [Value.bool true, Value.string s, Value.int .i64 ((at_ : Nat) : Int)]) :: F) (fun _ h => h) ?_
  refine Wl.done ?_
  refine Wx.go ?_
  refine Wc.seq ?_
  refine Wc.seq ?_
  refine Wc.region ?_
  refine Wl.q (v := Value.pointer (some ⟨r, 0, none⟩)) (q_load sc_31 rfl (.cel (i := 1) rfl rfl)) ?_
  refine Wl.q (v := Value.bool false) (q_eql_nil (r := false) rfl rfl Try.underlying31 rfl) ?_
  refine Wl.q (v := Value.bool false) (q_move rfl) ?_
  refine Wl.q (v := Value.pointer (some ⟨r, 0, none⟩)) (q_load sc_31 rfl (.cel (i := 1) rfl rfl)) ?_
  refine Wl.q (v := Value.pointer (some ⟨r, 0, none⟩)) (q_nil_ptr rfl) ?_
  refine Wl.q (v := Value.pointer (some ⟨r, 0, none⟩)) (q_field (m := 0) fo_59_0 rfl rfl) ?_
  refine Wl.q (v := Value.bool true) (q_load sc_4 rfl (.cel (i := 4) rfl rfl)) ?_
  refine Wl.q (v := Value.bool false) (q_not rfl rfl) ?_
  refine Wl.q (v := Value.bool false) (q_pick (t := false) rfl rfl) ?_
  refine Wl.done ?_
  refine Wx.go ?_
  refine Wc.no rfl ?_
  refine Wc.skip ?_
  refine Wx.go ?_
  refine Wc.seq ?_
  refine Wc.region ?_
  refine Wl.q (v := Value.pointer (some ⟨r, 0, none⟩)) (q_load sc_31 rfl (.cel (i := 1) rfl rfl)) ?_
  refine Wl.q (v := Value.pointer (some ⟨r, 0, none⟩)) (q_nil_ptr rfl) ?_
  refine Wl.q (v := Value.pointer (some ⟨r, 2, none⟩)) (q_field (m := 2) fo_59_2 rfl rfl) ?_
  refine Wl.q (v := Value.int .i64 ((at_ : Nat) : Int)) (q_load sc_3 rfl (.cel (i := 4) rfl rfl)) ?_
  refine Wl.e (e_alloc (vs := [Value.int .i64 0]) zo_3 rfl) (fun ab _ => ?_)
  refine Wl.imp (L' := (pt ab 3 [Value.int .i64 0]) :: (pt eb 24 [Value.int .i64 0]) :: (pt tb 31 [Value.pointer (some ⟨r, 0, none⟩)]) :: (pt rb 31 [Value.pointer (some ⟨r, 0, none⟩)]) :: (pt nb 3 [v0]) :: (pt r 59 [Value.bool true, Value.string s, Value.int .i64 ((at_ : Nat) : Int)]) :: F) (fun _ h => h) ?_
  refine Wl.e (e_store (i := 0) (v := Value.int .i64 ((at_ : Nat) : Int)) sz_3 rfl rfl (fun _ _ => rfl) rfl (by simp)) (fun _ _ => ?_)
  refine Wl.imp (L' := (pt ab 3 [Value.int .i64 ((at_ : Nat) : Int)]) :: (pt eb 24 [Value.int .i64 0]) :: (pt tb 31 [Value.pointer (some ⟨r, 0, none⟩)]) :: (pt rb 31 [Value.pointer (some ⟨r, 0, none⟩)]) :: (pt nb 3 [v0]) :: (pt r 59 [Value.bool true, Value.string s, Value.int .i64 ((at_ : Nat) : Int)]) :: F) (fun _ h => h) ?_
  refine Wl.done ?_
  refine Wx.go ?_
  refine Wc.seq ?_
  refine Wc.region ?_
  refine Wl.q (v := Value.func (.func 53) #[] #[Value.pointer (some ⟨eb, 0, none⟩), Value.pointer (some ⟨ab, 0, none⟩), Value.pointer (some ⟨tb, 0, none⟩)]) (q_makeFunc (us := []) (vs := [Value.pointer (some ⟨eb, 0, none⟩), Value.pointer (some ⟨ab, 0, none⟩), Value.pointer (some ⟨tb, 0, none⟩)]) rfl rfl) ?_
  refine Wl.defer rfl rfl ?_
  refine Wl.done ?_
  refine Wx.go ?_
  refine Wc.seq ?_
  refine Wc.region ?_
  refine Wl.q (v := Value.func (.func 44) #[] #[Value.pointer (some ⟨rb, 0, none⟩), Value.pointer (some ⟨nb, 0, none⟩)]) (q_move rfl) ?_
  refine Wl.imp (L' := (pt rb 31 [Value.pointer (some ⟨r, 0, none⟩)]) :: (pt nb 3 [v0]) :: (pt r 59 [Value.bool true, Value.string s, Value.int .i64 ((at_ : Nat) : Int)]) :: (pt ab 3 [Value.int .i64 ((at_ : Nat) : Int)]) :: (pt eb 24 [Value.int .i64 0]) :: (pt tb 31 [Value.pointer (some ⟨r, 0, none⟩)]) :: F) (fun _ h => st_pull [3, 3, 3] h) ?_
  refine Wl.e (e_callv (F := (pt ab 3 [Value.int .i64 ((at_ : Nat) : Int)]) :: (pt eb 24 [Value.int .i64 0]) :: (pt tb 31 [Value.pointer (some ⟨r, 0, none⟩)]) :: F) (args := [Value.pointer (some ⟨rb, 0, none⟩), Value.pointer (some ⟨nb, 0, none⟩)]) (mid := []) rfl Try.call44 rfl rfl (hcl)) (fun _ _ => ?_)
  refine Wl.imp (L' := (pt rb 31 [Value.pointer (some ⟨r, 0, none⟩)]) :: (pt nb 3 [v1]) :: (pt r 59 [Value.bool true, Value.string s, Value.int .i64 ((a : Nat) : Int)]) :: (pt ab 3 [Value.int .i64 ((at_ : Nat) : Int)]) :: (pt eb 24 [Value.int .i64 0]) :: (pt tb 31 [Value.pointer (some ⟨r, 0, none⟩)]) :: F) (fun _ h => h) ?_
  refine Wl.e (e_store (i := 4) (v := Value.int .i64 0) sz_24 rfl rfl (fun _ _ => rfl) rfl (by simp)) (fun _ _ => ?_)
  refine Wl.imp (L' := (pt rb 31 [Value.pointer (some ⟨r, 0, none⟩)]) :: (pt nb 3 [v1]) :: (pt r 59 [Value.bool true, Value.string s, Value.int .i64 ((a : Nat) : Int)]) :: (pt ab 3 [Value.int .i64 ((at_ : Nat) : Int)]) :: (pt eb 24 [Value.int .i64 0]) :: (pt tb 31 [Value.pointer (some ⟨r, 0, none⟩)]) :: F) (fun _ h => h) ?_
  refine Wl.done ?_
  refine Wx.go ?_
  refine Wc.ret ?_
  refine Wx.finD1 (args := [Value.pointer (some ⟨eb, 0, none⟩), Value.pointer (some ⟨ab, 0, none⟩), Value.pointer (some ⟨tb, 0, none⟩)]) (pre := [pt eb 24 [Value.int .i64 0]]) (R := (pt rb 31 [Value.pointer (some ⟨r, 0, none⟩)]) :: (pt nb 3 [v1]) :: (pt r 59 [Value.bool true, Value.string s, Value.int .i64 ((a : Nat) : Int)]) :: F) (post := fun _ => [pt eb 24 [Value.int .i64 0]]) (v := fun _ => Value.int .i64 0) rfl (.inl rfl) sc_24 rfl Try.call53 rfl (take1_ok W0 eb ab tb) (fun w hs => (st_pull [3, 0, 0, 0] (st_drop (st_drop (st_pull [3, 4] hs))))) (fun _ _ => .cel (i := 0) rfl rfl) (fun _ _ w hs => ?_)
  exact ⟨(), trivial, rfl, (st_drop (st_pull [0] hs))⟩

theorem take_Byte_bad (W0 : World) (r rb nb : Nat) (s : ByteArray) (at_ : Nat) (v0 : Value) (hcl : Con Try.prog W0 44 #[Value.pointer (some ⟨rb, 0, none⟩), Value.pointer (some ⟨nb, 0, none⟩)] [pt rb 31 [Value.pointer (some ⟨r, 0, none⟩)], pt nb 3 [v0], pt r 59 [Value.bool true, Value.string s, Value.int .i64 ((at_ : Nat) : Int)]] (X := Nat) (fun _ => True) (fun _ => .int .i64 4) (fun a => [pt rb 31 [Value.pointer (some ⟨r, 0, none⟩)], pt nb 3 [v0], pt r 59 [Value.bool true, Value.string s, Value.int .i64 ((a : Nat) : Int)]])) :
    Con Try.prog W0 43 #[Value.pointer (some ⟨r, 0, none⟩), Value.func (.func 44) #[] #[Value.pointer (some ⟨rb, 0, none⟩), Value.pointer (some ⟨nb, 0, none⟩)]] [pt rb 31 [Value.pointer (some ⟨r, 0, none⟩)], pt nb 3 [v0], pt r 59 [Value.bool true, Value.string s, Value.int .i64 ((at_ : Nat) : Int)]] (X := Unit) (fun _ => True) (fun _ => .int .i64 4) (fun _ => [pt rb 31 [Value.pointer (some ⟨r, 0, none⟩)], pt nb 3 [v0], pt r 59 [Value.bool true, Value.string s, Value.int .i64 ((at_ : Nat) : Int)]]) := by
  refine Con.ofD (args := [Value.pointer (some ⟨r, 0, none⟩), Value.func (.func 44) #[] #[Value.pointer (some ⟨rb, 0, none⟩), Value.pointer (some ⟨nb, 0, none⟩)]]) Try.func43 rfl Try.ntmps43 rfl (fun F => ?_)
  show Wc _ W0 _ _ _ _ _ ((pt rb 31 [Value.pointer (some ⟨r, 0, none⟩)]) :: (pt nb 3 [v0]) :: (pt r 59 [Value.bool true, Value.string s, Value.int .i64 ((at_ : Nat) : Int)]) :: F)
  refine Wc.seq ?_
  refine Wc.region ?_
  refine Wl.e (e_box (x := .tmp 0) (vs := [Value.pointer (some ⟨r, 0, none⟩)]) rfl) (fun tb _ => ?_)
  refine Wl.imp (L' := (pt tb 31 [Value.pointer (some ⟨r, 0, none⟩)]) :: (pt rb 31 [Value.pointer (some ⟨r, 0, none⟩)]) :: (pt nb 3 [v0]) :: (pt r 59 [Value.bool true, Value.string s, Value.int .i64 ((at_ : Nat) : Int)]) :: F) (fun _ h => h) ?_
  refine Wl.e (e_alloc (vs := [Value.int .i64 0]) zo_24 rfl) (fun eb _ => ?_)
  refine Wl.imp (L' := (pt eb 24 [Value.int .i64 0]) :: (pt tb 31 [Value.pointer (some ⟨r, 0, none⟩)]) :: (pt rb 31 [Value.pointer (some ⟨r, 0, none⟩)]) :: (pt nb 3 [v0]) :: (pt r 59 [Value.bool true, Value.string s, Value.int .i64 ((at_ : Nat) : Int)]) :: F) (fun _ h => h) ?_
  refine Wl.done ?_
  refine Wx.go ?_
  refine Wc.seq ?_
  refine Wc.seq ?_
  refine Wc.region ?_
  refine Wl.q (v := Value.pointer (some ⟨r, 0, none⟩)) (q_load sc_31 rfl (.cel (i := 1) rfl rfl)) ?_
  refine Wl.q (v := Value.bool false) (q_eql_nil (r := false) rfl rfl Try.underlying31 rfl) ?_
  refine Wl.q (v := Value.bool false) (q_move rfl) ?_
  refine Wl.q (v := Value.pointer (some ⟨r, 0, none⟩)) (q_load sc_31 rfl (.cel (i := 1) rfl rfl)) ?_
  refine Wl.q (v := Value.pointer (some ⟨r, 0, none⟩)) (q_nil_ptr rfl) ?_
  refine Wl.q (v := Value.pointer (some ⟨r, 0, none⟩)) (q_field (m := 0) fo_59_0 rfl rfl) ?_
  refine Wl.q (v := Value.bool true) (q_load sc_4 rfl (.cel (i := 4) rfl rfl)) ?_
  refine Wl.q (v := Value.bool false) (q_not rfl rfl) ?_
  refine Wl.q (v := Value.bool false) (q_pick (t := false) rfl rfl) ?_
  refine Wl.done ?_
  refine Wx.go ?_
  refine Wc.no rfl ?_
  refine Wc.skip ?_
  refine Wx.go ?_
  refine Wc.seq ?_
  refine Wc.region ?_
  refine Wl.q (v := Value.pointer (some ⟨r, 0, none⟩)) (q_load sc_31 rfl (.cel (i := 1) rfl rfl)) ?_
  refine Wl.q (v := Value.pointer (some ⟨r, 0, none⟩)) (q_nil_ptr rfl) ?_
  refine Wl.q (v := Value.pointer (some ⟨r, 2, none⟩)) (q_field (m := 2) fo_59_2 rfl rfl) ?_
  refine Wl.q (v := Value.int .i64 ((at_ : Nat) : Int)) (q_load sc_3 rfl (.cel (i := 4) rfl rfl)) ?_
  refine Wl.e (e_alloc (vs := [Value.int .i64 0]) zo_3 rfl) (fun ab _ => ?_)
  refine Wl.imp (L' := (pt ab 3 [Value.int .i64 0]) :: (pt eb 24 [Value.int .i64 0]) :: (pt tb 31 [Value.pointer (some ⟨r, 0, none⟩)]) :: (pt rb 31 [Value.pointer (some ⟨r, 0, none⟩)]) :: (pt nb 3 [v0]) :: (pt r 59 [Value.bool true, Value.string s, Value.int .i64 ((at_ : Nat) : Int)]) :: F) (fun _ h => h) ?_
  refine Wl.e (e_store (i := 0) (v := Value.int .i64 ((at_ : Nat) : Int)) sz_3 rfl rfl (fun _ _ => rfl) rfl (by simp)) (fun _ _ => ?_)
  refine Wl.imp (L' := (pt ab 3 [Value.int .i64 ((at_ : Nat) : Int)]) :: (pt eb 24 [Value.int .i64 0]) :: (pt tb 31 [Value.pointer (some ⟨r, 0, none⟩)]) :: (pt rb 31 [Value.pointer (some ⟨r, 0, none⟩)]) :: (pt nb 3 [v0]) :: (pt r 59 [Value.bool true, Value.string s, Value.int .i64 ((at_ : Nat) : Int)]) :: F) (fun _ h => h) ?_
  refine Wl.done ?_
  refine Wx.go ?_
  refine Wc.seq ?_
  refine Wc.region ?_
  refine Wl.q (v := Value.func (.func 53) #[] #[Value.pointer (some ⟨eb, 0, none⟩), Value.pointer (some ⟨ab, 0, none⟩), Value.pointer (some ⟨tb, 0, none⟩)]) (q_makeFunc (us := []) (vs := [Value.pointer (some ⟨eb, 0, none⟩), Value.pointer (some ⟨ab, 0, none⟩), Value.pointer (some ⟨tb, 0, none⟩)]) rfl rfl) ?_
  refine Wl.defer rfl rfl ?_
  refine Wl.done ?_
  refine Wx.go ?_
  refine Wc.seq ?_
  refine Wc.region ?_
  refine Wl.q (v := Value.func (.func 44) #[] #[Value.pointer (some ⟨rb, 0, none⟩), Value.pointer (some ⟨nb, 0, none⟩)]) (q_move rfl) ?_
  refine Wl.imp (L' := (pt rb 31 [Value.pointer (some ⟨r, 0, none⟩)]) :: (pt nb 3 [v0]) :: (pt r 59 [Value.bool true, Value.string s, Value.int .i64 ((at_ : Nat) : Int)]) :: (pt ab 3 [Value.int .i64 ((at_ : Nat) : Int)]) :: (pt eb 24 [Value.int .i64 0]) :: (pt tb 31 [Value.pointer (some ⟨r, 0, none⟩)]) :: F) (fun _ h => st_pull [3, 3, 3] h) ?_
  refine Wl.e (e_callv (F := (pt ab 3 [Value.int .i64 ((at_ : Nat) : Int)]) :: (pt eb 24 [Value.int .i64 0]) :: (pt tb 31 [Value.pointer (some ⟨r, 0, none⟩)]) :: F) (args := [Value.pointer (some ⟨rb, 0, none⟩), Value.pointer (some ⟨nb, 0, none⟩)]) (mid := []) rfl Try.call44 rfl rfl (hcl)) (fun a _ => ?_)
  refine Wl.imp (L' := (pt rb 31 [Value.pointer (some ⟨r, 0, none⟩)]) :: (pt nb 3 [v0]) :: (pt r 59 [Value.bool true, Value.string s, Value.int .i64 ((a : Nat) : Int)]) :: (pt ab 3 [Value.int .i64 ((at_ : Nat) : Int)]) :: (pt eb 24 [Value.int .i64 0]) :: (pt tb 31 [Value.pointer (some ⟨r, 0, none⟩)]) :: F) (fun _ h => h) ?_
  refine Wl.e (e_store (i := 4) (v := Value.int .i64 4) sz_24 rfl rfl (fun _ _ => rfl) rfl (by simp)) (fun _ _ => ?_)
  refine Wl.imp (L' := (pt rb 31 [Value.pointer (some ⟨r, 0, none⟩)]) :: (pt nb 3 [v0]) :: (pt r 59 [Value.bool true, Value.string s, Value.int .i64 ((a : Nat) : Int)]) :: (pt ab 3 [Value.int .i64 ((at_ : Nat) : Int)]) :: (pt eb 24 [Value.int .i64 4]) :: (pt tb 31 [Value.pointer (some ⟨r, 0, none⟩)]) :: F) (fun _ h => h) ?_
  refine Wl.done ?_
  refine Wx.go ?_
  refine Wc.ret ?_
  refine Wx.finD1 (args := [Value.pointer (some ⟨eb, 0, none⟩), Value.pointer (some ⟨ab, 0, none⟩), Value.pointer (some ⟨tb, 0, none⟩)]) (pre := [pt eb 24 [Value.int .i64 4], pt ab 3 [Value.int .i64 ((at_ : Nat) : Int)], pt tb 31 [Value.pointer (some ⟨r, 0, none⟩)], pt r 59 [Value.bool true, Value.string s, Value.int .i64 ((a : Nat) : Int)]]) (R := (pt rb 31 [Value.pointer (some ⟨r, 0, none⟩)]) :: (pt nb 3 [v0]) :: F) (post := fun _ => [pt eb 24 [Value.int .i64 4], pt ab 3 [Value.int .i64 ((at_ : Nat) : Int)], pt tb 31 [Value.pointer (some ⟨r, 0, none⟩)], pt r 59 [Value.bool true, Value.string s, Value.int .i64 ((at_ : Nat) : Int)]]) (v := fun _ => Value.int .i64 4) rfl (.inl rfl) sc_24 rfl Try.call53 rfl (take1_bad W0 eb ab tb r s at_ a) (fun w hs => (st_pull [4, 3, 3, 2, 0, 0] (hs))) (fun _ _ => .cel (i := 0) rfl rfl) (fun _ _ w hs => ?_)
  exact ⟨(), trivial, rfl, (st_pull [1, 1, 0] (st_drop (st_drop (st_drop (st_pull [0, 0, 0] hs)))))⟩

theorem take_Number_ok (W0 : World) (r rb nb : Nat) (s : ByteArray) (at_ a : Nat) (v0 v1 : Value) (hcl : Con Try.prog W0 46 #[Value.pointer (some ⟨rb, 0, none⟩), Value.pointer (some ⟨nb, 0, none⟩)] [pt rb 31 [Value.pointer (some ⟨r, 0, none⟩)], pt nb 2 [v0], pt r 59 [Value.bool true, Value.string s, Value.int .i64 ((at_ : Nat) : Int)]] (X := Unit) (fun _ => True) (fun _ => .int .i64 0) (fun _ => [pt rb 31 [Value.pointer (some ⟨r, 0, none⟩)], pt nb 2 [v1], pt r 59 [Value.bool true, Value.string s, Value.int .i64 ((a : Nat) : Int)]])) :
    Con Try.prog W0 43 #[Value.pointer (some ⟨r, 0, none⟩), Value.func (.func 46) #[] #[Value.pointer (some ⟨rb, 0, none⟩), Value.pointer (some ⟨nb, 0, none⟩)]] [pt rb 31 [Value.pointer (some ⟨r, 0, none⟩)], pt nb 2 [v0], pt r 59 [Value.bool true, Value.string s, Value.int .i64 ((at_ : Nat) : Int)]] (X := Unit) (fun _ => True) (fun _ => .int .i64 0) (fun _ => [pt rb 31 [Value.pointer (some ⟨r, 0, none⟩)], pt nb 2 [v1], pt r 59 [Value.bool true, Value.string s, Value.int .i64 ((a : Nat) : Int)]]) := by
  refine Con.ofD (args := [Value.pointer (some ⟨r, 0, none⟩), Value.func (.func 46) #[] #[Value.pointer (some ⟨rb, 0, none⟩), Value.pointer (some ⟨nb, 0, none⟩)]]) Try.func43 rfl Try.ntmps43 rfl (fun F => ?_)
  show Wc _ W0 _ _ _ _ _ ((pt rb 31 [Value.pointer (some ⟨r, 0, none⟩)]) :: (pt nb 2 [v0]) :: (pt r 59 [Value.bool true, Value.string s, Value.int .i64 ((at_ : Nat) : Int)]) :: F)
  refine Wc.seq ?_
  refine Wc.region ?_
  refine Wl.e (e_box (x := .tmp 0) (vs := [Value.pointer (some ⟨r, 0, none⟩)]) rfl) (fun tb _ => ?_)
  refine Wl.imp (L' := (pt tb 31 [Value.pointer (some ⟨r, 0, none⟩)]) :: (pt rb 31 [Value.pointer (some ⟨r, 0, none⟩)]) :: (pt nb 2 [v0]) :: (pt r 59 [Value.bool true, Value.string s, Value.int .i64 ((at_ : Nat) : Int)]) :: F) (fun _ h => h) ?_
  refine Wl.e (e_alloc (vs := [Value.int .i64 0]) zo_24 rfl) (fun eb _ => ?_)
  refine Wl.imp (L' := (pt eb 24 [Value.int .i64 0]) :: (pt tb 31 [Value.pointer (some ⟨r, 0, none⟩)]) :: (pt rb 31 [Value.pointer (some ⟨r, 0, none⟩)]) :: (pt nb 2 [v0]) :: (pt r 59 [Value.bool true, Value.string s, Value.int .i64 ((at_ : Nat) : Int)]) :: F) (fun _ h => h) ?_
  refine Wl.done ?_
  refine Wx.go ?_
  refine Wc.seq ?_
  refine Wc.seq ?_
  refine Wc.region ?_
  refine Wl.q (v := Value.pointer (some ⟨r, 0, none⟩)) (q_load sc_31 rfl (.cel (i := 1) rfl rfl)) ?_
  refine Wl.q (v := Value.bool false) (q_eql_nil (r := false) rfl rfl Try.underlying31 rfl) ?_
  refine Wl.q (v := Value.bool false) (q_move rfl) ?_
  refine Wl.q (v := Value.pointer (some ⟨r, 0, none⟩)) (q_load sc_31 rfl (.cel (i := 1) rfl rfl)) ?_
  refine Wl.q (v := Value.pointer (some ⟨r, 0, none⟩)) (q_nil_ptr rfl) ?_
  refine Wl.q (v := Value.pointer (some ⟨r, 0, none⟩)) (q_field (m := 0) fo_59_0 rfl rfl) ?_
  refine Wl.q (v := Value.bool true) (q_load sc_4 rfl (.cel (i := 4) rfl rfl)) ?_
  refine Wl.q (v := Value.bool false) (q_not rfl rfl) ?_
  refine Wl.q (v := Value.bool false) (q_pick (t := false) rfl rfl) ?_
  refine Wl.done ?_
  refine Wx.go ?_
  refine Wc.no rfl ?_
  refine Wc.skip ?_
  refine Wx.go ?_
  refine Wc.seq ?_
  refine Wc.region ?_
  refine Wl.q (v := Value.pointer (some ⟨r, 0, none⟩)) (q_load sc_31 rfl (.cel (i := 1) rfl rfl)) ?_
  refine Wl.q (v := Value.pointer (some ⟨r, 0, none⟩)) (q_nil_ptr rfl) ?_
  refine Wl.q (v := Value.pointer (some ⟨r, 2, none⟩)) (q_field (m := 2) fo_59_2 rfl rfl) ?_
  refine Wl.q (v := Value.int .i64 ((at_ : Nat) : Int)) (q_load sc_3 rfl (.cel (i := 4) rfl rfl)) ?_
  refine Wl.e (e_alloc (vs := [Value.int .i64 0]) zo_3 rfl) (fun ab _ => ?_)
  refine Wl.imp (L' := (pt ab 3 [Value.int .i64 0]) :: (pt eb 24 [Value.int .i64 0]) :: (pt tb 31 [Value.pointer (some ⟨r, 0, none⟩)]) :: (pt rb 31 [Value.pointer (some ⟨r, 0, none⟩)]) :: (pt nb 2 [v0]) :: (pt r 59 [Value.bool true, Value.string s, Value.int .i64 ((at_ : Nat) : Int)]) :: F) (fun _ h => h) ?_
  refine Wl.e (e_store (i := 0) (v := Value.int .i64 ((at_ : Nat) : Int)) sz_3 rfl rfl (fun _ _ => rfl) rfl (by simp)) (fun _ _ => ?_)
  refine Wl.imp (L' := (pt ab 3 [Value.int .i64 ((at_ : Nat) : Int)]) :: (pt eb 24 [Value.int .i64 0]) :: (pt tb 31 [Value.pointer (some ⟨r, 0, none⟩)]) :: (pt rb 31 [Value.pointer (some ⟨r, 0, none⟩)]) :: (pt nb 2 [v0]) :: (pt r 59 [Value.bool true, Value.string s, Value.int .i64 ((at_ : Nat) : Int)]) :: F) (fun _ h => h) ?_
  refine Wl.done ?_
  refine Wx.go ?_
  refine Wc.seq ?_
  refine Wc.region ?_
  refine Wl.q (v := Value.func (.func 53) #[] #[Value.pointer (some ⟨eb, 0, none⟩), Value.pointer (some ⟨ab, 0, none⟩), Value.pointer (some ⟨tb, 0, none⟩)]) (q_makeFunc (us := []) (vs := [Value.pointer (some ⟨eb, 0, none⟩), Value.pointer (some ⟨ab, 0, none⟩), Value.pointer (some ⟨tb, 0, none⟩)]) rfl rfl) ?_
  refine Wl.defer rfl rfl ?_
  refine Wl.done ?_
  refine Wx.go ?_
  refine Wc.seq ?_
  refine Wc.region ?_
  refine Wl.q (v := Value.func (.func 46) #[] #[Value.pointer (some ⟨rb, 0, none⟩), Value.pointer (some ⟨nb, 0, none⟩)]) (q_move rfl) ?_
  refine Wl.imp (L' := (pt rb 31 [Value.pointer (some ⟨r, 0, none⟩)]) :: (pt nb 2 [v0]) :: (pt r 59 [Value.bool true, Value.string s, Value.int .i64 ((at_ : Nat) : Int)]) :: (pt ab 3 [Value.int .i64 ((at_ : Nat) : Int)]) :: (pt eb 24 [Value.int .i64 0]) :: (pt tb 31 [Value.pointer (some ⟨r, 0, none⟩)]) :: F) (fun _ h => st_pull [3, 3, 3] h) ?_
  refine Wl.e (e_callv (F := (pt ab 3 [Value.int .i64 ((at_ : Nat) : Int)]) :: (pt eb 24 [Value.int .i64 0]) :: (pt tb 31 [Value.pointer (some ⟨r, 0, none⟩)]) :: F) (args := [Value.pointer (some ⟨rb, 0, none⟩), Value.pointer (some ⟨nb, 0, none⟩)]) (mid := []) rfl Try.call46 rfl rfl (hcl)) (fun _ _ => ?_)
  refine Wl.imp (L' := (pt rb 31 [Value.pointer (some ⟨r, 0, none⟩)]) :: (pt nb 2 [v1]) :: (pt r 59 [Value.bool true, Value.string s, Value.int .i64 ((a : Nat) : Int)]) :: (pt ab 3 [Value.int .i64 ((at_ : Nat) : Int)]) :: (pt eb 24 [Value.int .i64 0]) :: (pt tb 31 [Value.pointer (some ⟨r, 0, none⟩)]) :: F) (fun _ h => h) ?_
  refine Wl.e (e_store (i := 4) (v := Value.int .i64 0) sz_24 rfl rfl (fun _ _ => rfl) rfl (by simp)) (fun _ _ => ?_)
  refine Wl.imp (L' := (pt rb 31 [Value.pointer (some ⟨r, 0, none⟩)]) :: (pt nb 2 [v1]) :: (pt r 59 [Value.bool true, Value.string s, Value.int .i64 ((a : Nat) : Int)]) :: (pt ab 3 [Value.int .i64 ((at_ : Nat) : Int)]) :: (pt eb 24 [Value.int .i64 0]) :: (pt tb 31 [Value.pointer (some ⟨r, 0, none⟩)]) :: F) (fun _ h => h) ?_
  refine Wl.done ?_
  refine Wx.go ?_
  refine Wc.ret ?_
  refine Wx.finD1 (args := [Value.pointer (some ⟨eb, 0, none⟩), Value.pointer (some ⟨ab, 0, none⟩), Value.pointer (some ⟨tb, 0, none⟩)]) (pre := [pt eb 24 [Value.int .i64 0]]) (R := (pt rb 31 [Value.pointer (some ⟨r, 0, none⟩)]) :: (pt nb 2 [v1]) :: (pt r 59 [Value.bool true, Value.string s, Value.int .i64 ((a : Nat) : Int)]) :: F) (post := fun _ => [pt eb 24 [Value.int .i64 0]]) (v := fun _ => Value.int .i64 0) rfl (.inl rfl) sc_24 rfl Try.call53 rfl (take1_ok W0 eb ab tb) (fun w hs => (st_pull [3, 0, 0, 0] (st_drop (st_drop (st_pull [3, 4] hs))))) (fun _ _ => .cel (i := 0) rfl rfl) (fun _ _ w hs => ?_)
  exact ⟨(), trivial, rfl, (st_drop (st_pull [0] hs))⟩

theorem take_Number_bad (W0 : World) (r rb nb : Nat) (s : ByteArray) (at_ : Nat) (v0 : Value) (hcl : Con Try.prog W0 46 #[Value.pointer (some ⟨rb, 0, none⟩), Value.pointer (some ⟨nb, 0, none⟩)] [pt rb 31 [Value.pointer (some ⟨r, 0, none⟩)], pt nb 2 [v0], pt r 59 [Value.bool true, Value.string s, Value.int .i64 ((at_ : Nat) : Int)]] (X := Nat) (fun _ => True) (fun _ => .int .i64 4) (fun a => [pt rb 31 [Value.pointer (some ⟨r, 0, none⟩)], pt nb 2 [v0], pt r 59 [Value.bool true, Value.string s, Value.int .i64 ((a : Nat) : Int)]])) :
    Con Try.prog W0 43 #[Value.pointer (some ⟨r, 0, none⟩), Value.func (.func 46) #[] #[Value.pointer (some ⟨rb, 0, none⟩), Value.pointer (some ⟨nb, 0, none⟩)]] [pt rb 31 [Value.pointer (some ⟨r, 0, none⟩)], pt nb 2 [v0], pt r 59 [Value.bool true, Value.string s, Value.int .i64 ((at_ : Nat) : Int)]] (X := Unit) (fun _ => True) (fun _ => .int .i64 4) (fun _ => [pt rb 31 [Value.pointer (some ⟨r, 0, none⟩)], pt nb 2 [v0], pt r 59 [Value.bool true, Value.string s, Value.int .i64 ((at_ : Nat) : Int)]]) := by
  refine Con.ofD (args := [Value.pointer (some ⟨r, 0, none⟩), Value.func (.func 46) #[] #[Value.pointer (some ⟨rb, 0, none⟩), Value.pointer (some ⟨nb, 0, none⟩)]]) Try.func43 rfl Try.ntmps43 rfl (fun F => ?_)
  show Wc _ W0 _ _ _ _ _ ((pt rb 31 [Value.pointer (some ⟨r, 0, none⟩)]) :: (pt nb 2 [v0]) :: (pt r 59 [Value.bool true, Value.string s, Value.int .i64 ((at_ : Nat) : Int)]) :: F)
  refine Wc.seq ?_
  refine Wc.region ?_
  refine Wl.e (e_box (x := .tmp 0) (vs := [Value.pointer (some ⟨r, 0, none⟩)]) rfl) (fun tb _ => ?_)
  refine Wl.imp (L' := (pt tb 31 [Value.pointer (some ⟨r, 0, none⟩)]) :: (pt rb 31 [Value.pointer (some ⟨r, 0, none⟩)]) :: (pt nb 2 [v0]) :: (pt r 59 [Value.bool true, Value.string s, Value.int .i64 ((at_ : Nat) : Int)]) :: F) (fun _ h => h) ?_
  refine Wl.e (e_alloc (vs := [Value.int .i64 0]) zo_24 rfl) (fun eb _ => ?_)
  refine Wl.imp (L' := (pt eb 24 [Value.int .i64 0]) :: (pt tb 31 [Value.pointer (some ⟨r, 0, none⟩)]) :: (pt rb 31 [Value.pointer (some ⟨r, 0, none⟩)]) :: (pt nb 2 [v0]) :: (pt r 59 [Value.bool true, Value.string s, Value.int .i64 ((at_ : Nat) : Int)]) :: F) (fun _ h => h) ?_
  refine Wl.done ?_
  refine Wx.go ?_
  refine Wc.seq ?_
  refine Wc.seq ?_
  refine Wc.region ?_
  refine Wl.q (v := Value.pointer (some ⟨r, 0, none⟩)) (q_load sc_31 rfl (.cel (i := 1) rfl rfl)) ?_
  refine Wl.q (v := Value.bool false) (q_eql_nil (r := false) rfl rfl Try.underlying31 rfl) ?_
  refine Wl.q (v := Value.bool false) (q_move rfl) ?_
  refine Wl.q (v := Value.pointer (some ⟨r, 0, none⟩)) (q_load sc_31 rfl (.cel (i := 1) rfl rfl)) ?_
  refine Wl.q (v := Value.pointer (some ⟨r, 0, none⟩)) (q_nil_ptr rfl) ?_
  refine Wl.q (v := Value.pointer (some ⟨r, 0, none⟩)) (q_field (m := 0) fo_59_0 rfl rfl) ?_
  refine Wl.q (v := Value.bool true) (q_load sc_4 rfl (.cel (i := 4) rfl rfl)) ?_
  refine Wl.q (v := Value.bool false) (q_not rfl rfl) ?_
  refine Wl.q (v := Value.bool false) (q_pick (t := false) rfl rfl) ?_
  refine Wl.done ?_
  refine Wx.go ?_
  refine Wc.no rfl ?_
  refine Wc.skip ?_
  refine Wx.go ?_
  refine Wc.seq ?_
  refine Wc.region ?_
  refine Wl.q (v := Value.pointer (some ⟨r, 0, none⟩)) (q_load sc_31 rfl (.cel (i := 1) rfl rfl)) ?_
  refine Wl.q (v := Value.pointer (some ⟨r, 0, none⟩)) (q_nil_ptr rfl) ?_
  refine Wl.q (v := Value.pointer (some ⟨r, 2, none⟩)) (q_field (m := 2) fo_59_2 rfl rfl) ?_
  refine Wl.q (v := Value.int .i64 ((at_ : Nat) : Int)) (q_load sc_3 rfl (.cel (i := 4) rfl rfl)) ?_
  refine Wl.e (e_alloc (vs := [Value.int .i64 0]) zo_3 rfl) (fun ab _ => ?_)
  refine Wl.imp (L' := (pt ab 3 [Value.int .i64 0]) :: (pt eb 24 [Value.int .i64 0]) :: (pt tb 31 [Value.pointer (some ⟨r, 0, none⟩)]) :: (pt rb 31 [Value.pointer (some ⟨r, 0, none⟩)]) :: (pt nb 2 [v0]) :: (pt r 59 [Value.bool true, Value.string s, Value.int .i64 ((at_ : Nat) : Int)]) :: F) (fun _ h => h) ?_
  refine Wl.e (e_store (i := 0) (v := Value.int .i64 ((at_ : Nat) : Int)) sz_3 rfl rfl (fun _ _ => rfl) rfl (by simp)) (fun _ _ => ?_)
  refine Wl.imp (L' := (pt ab 3 [Value.int .i64 ((at_ : Nat) : Int)]) :: (pt eb 24 [Value.int .i64 0]) :: (pt tb 31 [Value.pointer (some ⟨r, 0, none⟩)]) :: (pt rb 31 [Value.pointer (some ⟨r, 0, none⟩)]) :: (pt nb 2 [v0]) :: (pt r 59 [Value.bool true, Value.string s, Value.int .i64 ((at_ : Nat) : Int)]) :: F) (fun _ h => h) ?_
  refine Wl.done ?_
  refine Wx.go ?_
  refine Wc.seq ?_
  refine Wc.region ?_
  refine Wl.q (v := Value.func (.func 53) #[] #[Value.pointer (some ⟨eb, 0, none⟩), Value.pointer (some ⟨ab, 0, none⟩), Value.pointer (some ⟨tb, 0, none⟩)]) (q_makeFunc (us := []) (vs := [Value.pointer (some ⟨eb, 0, none⟩), Value.pointer (some ⟨ab, 0, none⟩), Value.pointer (some ⟨tb, 0, none⟩)]) rfl rfl) ?_
  refine Wl.defer rfl rfl ?_
  refine Wl.done ?_
  refine Wx.go ?_
  refine Wc.seq ?_
  refine Wc.region ?_
  refine Wl.q (v := Value.func (.func 46) #[] #[Value.pointer (some ⟨rb, 0, none⟩), Value.pointer (some ⟨nb, 0, none⟩)]) (q_move rfl) ?_
  refine Wl.imp (L' := (pt rb 31 [Value.pointer (some ⟨r, 0, none⟩)]) :: (pt nb 2 [v0]) :: (pt r 59 [Value.bool true, Value.string s, Value.int .i64 ((at_ : Nat) : Int)]) :: (pt ab 3 [Value.int .i64 ((at_ : Nat) : Int)]) :: (pt eb 24 [Value.int .i64 0]) :: (pt tb 31 [Value.pointer (some ⟨r, 0, none⟩)]) :: F) (fun _ h => st_pull [3, 3, 3] h) ?_
  refine Wl.e (e_callv (F := (pt ab 3 [Value.int .i64 ((at_ : Nat) : Int)]) :: (pt eb 24 [Value.int .i64 0]) :: (pt tb 31 [Value.pointer (some ⟨r, 0, none⟩)]) :: F) (args := [Value.pointer (some ⟨rb, 0, none⟩), Value.pointer (some ⟨nb, 0, none⟩)]) (mid := []) rfl Try.call46 rfl rfl (hcl)) (fun a _ => ?_)
  refine Wl.imp (L' := (pt rb 31 [Value.pointer (some ⟨r, 0, none⟩)]) :: (pt nb 2 [v0]) :: (pt r 59 [Value.bool true, Value.string s, Value.int .i64 ((a : Nat) : Int)]) :: (pt ab 3 [Value.int .i64 ((at_ : Nat) : Int)]) :: (pt eb 24 [Value.int .i64 0]) :: (pt tb 31 [Value.pointer (some ⟨r, 0, none⟩)]) :: F) (fun _ h => h) ?_
  refine Wl.e (e_store (i := 4) (v := Value.int .i64 4) sz_24 rfl rfl (fun _ _ => rfl) rfl (by simp)) (fun _ _ => ?_)
  refine Wl.imp (L' := (pt rb 31 [Value.pointer (some ⟨r, 0, none⟩)]) :: (pt nb 2 [v0]) :: (pt r 59 [Value.bool true, Value.string s, Value.int .i64 ((a : Nat) : Int)]) :: (pt ab 3 [Value.int .i64 ((at_ : Nat) : Int)]) :: (pt eb 24 [Value.int .i64 4]) :: (pt tb 31 [Value.pointer (some ⟨r, 0, none⟩)]) :: F) (fun _ h => h) ?_
  refine Wl.done ?_
  refine Wx.go ?_
  refine Wc.ret ?_
  refine Wx.finD1 (args := [Value.pointer (some ⟨eb, 0, none⟩), Value.pointer (some ⟨ab, 0, none⟩), Value.pointer (some ⟨tb, 0, none⟩)]) (pre := [pt eb 24 [Value.int .i64 4], pt ab 3 [Value.int .i64 ((at_ : Nat) : Int)], pt tb 31 [Value.pointer (some ⟨r, 0, none⟩)], pt r 59 [Value.bool true, Value.string s, Value.int .i64 ((a : Nat) : Int)]]) (R := (pt rb 31 [Value.pointer (some ⟨r, 0, none⟩)]) :: (pt nb 2 [v0]) :: F) (post := fun _ => [pt eb 24 [Value.int .i64 4], pt ab 3 [Value.int .i64 ((at_ : Nat) : Int)], pt tb 31 [Value.pointer (some ⟨r, 0, none⟩)], pt r 59 [Value.bool true, Value.string s, Value.int .i64 ((at_ : Nat) : Int)]]) (v := fun _ => Value.int .i64 4) rfl (.inl rfl) sc_24 rfl Try.call53 rfl (take1_bad W0 eb ab tb r s at_ a) (fun w hs => (st_pull [4, 3, 3, 2, 0, 0] (hs))) (fun _ _ => .cel (i := 0) rfl rfl) (fun _ _ w hs => ?_)
  exact ⟨(), trivial, rfl, (st_pull [1, 1, 0] (st_drop (st_drop (st_drop (st_pull [0, 0, 0] hs)))))⟩

theorem take_Flag_ok (W0 : World) (r rb nb : Nat) (s : ByteArray) (at_ a : Nat) (v0 v1 : Value) (hcl : Con Try.prog W0 48 #[Value.pointer (some ⟨rb, 0, none⟩), Value.pointer (some ⟨nb, 0, none⟩)] [pt rb 31 [Value.pointer (some ⟨r, 0, none⟩)], pt nb 4 [v0], pt r 59 [Value.bool true, Value.string s, Value.int .i64 ((at_ : Nat) : Int)]] (X := Unit) (fun _ => True) (fun _ => .int .i64 0) (fun _ => [pt rb 31 [Value.pointer (some ⟨r, 0, none⟩)], pt nb 4 [v1], pt r 59 [Value.bool true, Value.string s, Value.int .i64 ((a : Nat) : Int)]])) :
    Con Try.prog W0 43 #[Value.pointer (some ⟨r, 0, none⟩), Value.func (.func 48) #[] #[Value.pointer (some ⟨rb, 0, none⟩), Value.pointer (some ⟨nb, 0, none⟩)]] [pt rb 31 [Value.pointer (some ⟨r, 0, none⟩)], pt nb 4 [v0], pt r 59 [Value.bool true, Value.string s, Value.int .i64 ((at_ : Nat) : Int)]] (X := Unit) (fun _ => True) (fun _ => .int .i64 0) (fun _ => [pt rb 31 [Value.pointer (some ⟨r, 0, none⟩)], pt nb 4 [v1], pt r 59 [Value.bool true, Value.string s, Value.int .i64 ((a : Nat) : Int)]]) := by
  refine Con.ofD (args := [Value.pointer (some ⟨r, 0, none⟩), Value.func (.func 48) #[] #[Value.pointer (some ⟨rb, 0, none⟩), Value.pointer (some ⟨nb, 0, none⟩)]]) Try.func43 rfl Try.ntmps43 rfl (fun F => ?_)
  show Wc _ W0 _ _ _ _ _ ((pt rb 31 [Value.pointer (some ⟨r, 0, none⟩)]) :: (pt nb 4 [v0]) :: (pt r 59 [Value.bool true, Value.string s, Value.int .i64 ((at_ : Nat) : Int)]) :: F)
  refine Wc.seq ?_
  refine Wc.region ?_
  refine Wl.e (e_box (x := .tmp 0) (vs := [Value.pointer (some ⟨r, 0, none⟩)]) rfl) (fun tb _ => ?_)
  refine Wl.imp (L' := (pt tb 31 [Value.pointer (some ⟨r, 0, none⟩)]) :: (pt rb 31 [Value.pointer (some ⟨r, 0, none⟩)]) :: (pt nb 4 [v0]) :: (pt r 59 [Value.bool true, Value.string s, Value.int .i64 ((at_ : Nat) : Int)]) :: F) (fun _ h => h) ?_
  refine Wl.e (e_alloc (vs := [Value.int .i64 0]) zo_24 rfl) (fun eb _ => ?_)
  refine Wl.imp (L' := (pt eb 24 [Value.int .i64 0]) :: (pt tb 31 [Value.pointer (some ⟨r, 0, none⟩)]) :: (pt rb 31 [Value.pointer (some ⟨r, 0, none⟩)]) :: (pt nb 4 [v0]) :: (pt r 59 [Value.bool true, Value.string s, Value.int .i64 ((at_ : Nat) : Int)]) :: F) (fun _ h => h) ?_
  refine Wl.done ?_
  refine Wx.go ?_
  refine Wc.seq ?_
  refine Wc.seq ?_
  refine Wc.region ?_
  refine Wl.q (v := Value.pointer (some ⟨r, 0, none⟩)) (q_load sc_31 rfl (.cel (i := 1) rfl rfl)) ?_
  refine Wl.q (v := Value.bool false) (q_eql_nil (r := false) rfl rfl Try.underlying31 rfl) ?_
  refine Wl.q (v := Value.bool false) (q_move rfl) ?_
  refine Wl.q (v := Value.pointer (some ⟨r, 0, none⟩)) (q_load sc_31 rfl (.cel (i := 1) rfl rfl)) ?_
  refine Wl.q (v := Value.pointer (some ⟨r, 0, none⟩)) (q_nil_ptr rfl) ?_
  refine Wl.q (v := Value.pointer (some ⟨r, 0, none⟩)) (q_field (m := 0) fo_59_0 rfl rfl) ?_
  refine Wl.q (v := Value.bool true) (q_load sc_4 rfl (.cel (i := 4) rfl rfl)) ?_
  refine Wl.q (v := Value.bool false) (q_not rfl rfl) ?_
  refine Wl.q (v := Value.bool false) (q_pick (t := false) rfl rfl) ?_
  refine Wl.done ?_
  refine Wx.go ?_
  refine Wc.no rfl ?_
  refine Wc.skip ?_
  refine Wx.go ?_
  refine Wc.seq ?_
  refine Wc.region ?_
  refine Wl.q (v := Value.pointer (some ⟨r, 0, none⟩)) (q_load sc_31 rfl (.cel (i := 1) rfl rfl)) ?_
  refine Wl.q (v := Value.pointer (some ⟨r, 0, none⟩)) (q_nil_ptr rfl) ?_
  refine Wl.q (v := Value.pointer (some ⟨r, 2, none⟩)) (q_field (m := 2) fo_59_2 rfl rfl) ?_
  refine Wl.q (v := Value.int .i64 ((at_ : Nat) : Int)) (q_load sc_3 rfl (.cel (i := 4) rfl rfl)) ?_
  refine Wl.e (e_alloc (vs := [Value.int .i64 0]) zo_3 rfl) (fun ab _ => ?_)
  refine Wl.imp (L' := (pt ab 3 [Value.int .i64 0]) :: (pt eb 24 [Value.int .i64 0]) :: (pt tb 31 [Value.pointer (some ⟨r, 0, none⟩)]) :: (pt rb 31 [Value.pointer (some ⟨r, 0, none⟩)]) :: (pt nb 4 [v0]) :: (pt r 59 [Value.bool true, Value.string s, Value.int .i64 ((at_ : Nat) : Int)]) :: F) (fun _ h => h) ?_
  refine Wl.e (e_store (i := 0) (v := Value.int .i64 ((at_ : Nat) : Int)) sz_3 rfl rfl (fun _ _ => rfl) rfl (by simp)) (fun _ _ => ?_)
  refine Wl.imp (L' := (pt ab 3 [Value.int .i64 ((at_ : Nat) : Int)]) :: (pt eb 24 [Value.int .i64 0]) :: (pt tb 31 [Value.pointer (some ⟨r, 0, none⟩)]) :: (pt rb 31 [Value.pointer (some ⟨r, 0, none⟩)]) :: (pt nb 4 [v0]) :: (pt r 59 [Value.bool true, Value.string s, Value.int .i64 ((at_ : Nat) : Int)]) :: F) (fun _ h => h) ?_
  refine Wl.done ?_
  refine Wx.go ?_
  refine Wc.seq ?_
  refine Wc.region ?_
  refine Wl.q (v := Value.func (.func 53) #[] #[Value.pointer (some ⟨eb, 0, none⟩), Value.pointer (some ⟨ab, 0, none⟩), Value.pointer (some ⟨tb, 0, none⟩)]) (q_makeFunc (us := []) (vs := [Value.pointer (some ⟨eb, 0, none⟩), Value.pointer (some ⟨ab, 0, none⟩), Value.pointer (some ⟨tb, 0, none⟩)]) rfl rfl) ?_
  refine Wl.defer rfl rfl ?_
  refine Wl.done ?_
  refine Wx.go ?_
  refine Wc.seq ?_
  refine Wc.region ?_
  refine Wl.q (v := Value.func (.func 48) #[] #[Value.pointer (some ⟨rb, 0, none⟩), Value.pointer (some ⟨nb, 0, none⟩)]) (q_move rfl) ?_
  refine Wl.imp (L' := (pt rb 31 [Value.pointer (some ⟨r, 0, none⟩)]) :: (pt nb 4 [v0]) :: (pt r 59 [Value.bool true, Value.string s, Value.int .i64 ((at_ : Nat) : Int)]) :: (pt ab 3 [Value.int .i64 ((at_ : Nat) : Int)]) :: (pt eb 24 [Value.int .i64 0]) :: (pt tb 31 [Value.pointer (some ⟨r, 0, none⟩)]) :: F) (fun _ h => st_pull [3, 3, 3] h) ?_
  refine Wl.e (e_callv (F := (pt ab 3 [Value.int .i64 ((at_ : Nat) : Int)]) :: (pt eb 24 [Value.int .i64 0]) :: (pt tb 31 [Value.pointer (some ⟨r, 0, none⟩)]) :: F) (args := [Value.pointer (some ⟨rb, 0, none⟩), Value.pointer (some ⟨nb, 0, none⟩)]) (mid := []) rfl Try.call48 rfl rfl (hcl)) (fun _ _ => ?_)
  refine Wl.imp (L' := (pt rb 31 [Value.pointer (some ⟨r, 0, none⟩)]) :: (pt nb 4 [v1]) :: (pt r 59 [Value.bool true, Value.string s, Value.int .i64 ((a : Nat) : Int)]) :: (pt ab 3 [Value.int .i64 ((at_ : Nat) : Int)]) :: (pt eb 24 [Value.int .i64 0]) :: (pt tb 31 [Value.pointer (some ⟨r, 0, none⟩)]) :: F) (fun _ h => h) ?_
  refine Wl.e (e_store (i := 4) (v := Value.int .i64 0) sz_24 rfl rfl (fun _ _ => rfl) rfl (by simp)) (fun _ _ => ?_)
  refine Wl.imp (L' := (pt rb 31 [Value.pointer (some ⟨r, 0, none⟩)]) :: (pt nb 4 [v1]) :: (pt r 59 [Value.bool true, Value.string s, Value.int .i64 ((a : Nat) : Int)]) :: (pt ab 3 [Value.int .i64 ((at_ : Nat) : Int)]) :: (pt eb 24 [Value.int .i64 0]) :: (pt tb 31 [Value.pointer (some ⟨r, 0, none⟩)]) :: F) (fun _ h => h) ?_
  refine Wl.done ?_
  refine Wx.go ?_
  refine Wc.ret ?_
  refine Wx.finD1 (args := [Value.pointer (some ⟨eb, 0, none⟩), Value.pointer (some ⟨ab, 0, none⟩), Value.pointer (some ⟨tb, 0, none⟩)]) (pre := [pt eb 24 [Value.int .i64 0]]) (R := (pt rb 31 [Value.pointer (some ⟨r, 0, none⟩)]) :: (pt nb 4 [v1]) :: (pt r 59 [Value.bool true, Value.string s, Value.int .i64 ((a : Nat) : Int)]) :: F) (post := fun _ => [pt eb 24 [Value.int .i64 0]]) (v := fun _ => Value.int .i64 0) rfl (.inl rfl) sc_24 rfl Try.call53 rfl (take1_ok W0 eb ab tb) (fun w hs => (st_pull [3, 0, 0, 0] (st_drop (st_drop (st_pull [3, 4] hs))))) (fun _ _ => .cel (i := 0) rfl rfl) (fun _ _ w hs => ?_)
  exact ⟨(), trivial, rfl, (st_drop (st_pull [0] hs))⟩

theorem take_Flag_bad (W0 : World) (r rb nb : Nat) (s : ByteArray) (at_ : Nat) (v0 : Value) (hcl : Con Try.prog W0 48 #[Value.pointer (some ⟨rb, 0, none⟩), Value.pointer (some ⟨nb, 0, none⟩)] [pt rb 31 [Value.pointer (some ⟨r, 0, none⟩)], pt nb 4 [v0], pt r 59 [Value.bool true, Value.string s, Value.int .i64 ((at_ : Nat) : Int)]] (X := Nat) (fun _ => True) (fun _ => .int .i64 4) (fun a => [pt rb 31 [Value.pointer (some ⟨r, 0, none⟩)], pt nb 4 [v0], pt r 59 [Value.bool true, Value.string s, Value.int .i64 ((a : Nat) : Int)]])) :
    Con Try.prog W0 43 #[Value.pointer (some ⟨r, 0, none⟩), Value.func (.func 48) #[] #[Value.pointer (some ⟨rb, 0, none⟩), Value.pointer (some ⟨nb, 0, none⟩)]] [pt rb 31 [Value.pointer (some ⟨r, 0, none⟩)], pt nb 4 [v0], pt r 59 [Value.bool true, Value.string s, Value.int .i64 ((at_ : Nat) : Int)]] (X := Unit) (fun _ => True) (fun _ => .int .i64 4) (fun _ => [pt rb 31 [Value.pointer (some ⟨r, 0, none⟩)], pt nb 4 [v0], pt r 59 [Value.bool true, Value.string s, Value.int .i64 ((at_ : Nat) : Int)]]) := by
  refine Con.ofD (args := [Value.pointer (some ⟨r, 0, none⟩), Value.func (.func 48) #[] #[Value.pointer (some ⟨rb, 0, none⟩), Value.pointer (some ⟨nb, 0, none⟩)]]) Try.func43 rfl Try.ntmps43 rfl (fun F => ?_)
  show Wc _ W0 _ _ _ _ _ ((pt rb 31 [Value.pointer (some ⟨r, 0, none⟩)]) :: (pt nb 4 [v0]) :: (pt r 59 [Value.bool true, Value.string s, Value.int .i64 ((at_ : Nat) : Int)]) :: F)
  refine Wc.seq ?_
  refine Wc.region ?_
  refine Wl.e (e_box (x := .tmp 0) (vs := [Value.pointer (some ⟨r, 0, none⟩)]) rfl) (fun tb _ => ?_)
  refine Wl.imp (L' := (pt tb 31 [Value.pointer (some ⟨r, 0, none⟩)]) :: (pt rb 31 [Value.pointer (some ⟨r, 0, none⟩)]) :: (pt nb 4 [v0]) :: (pt r 59 [Value.bool true, Value.string s, Value.int .i64 ((at_ : Nat) : Int)]) :: F) (fun _ h => h) ?_
  refine Wl.e (e_alloc (vs := [Value.int .i64 0]) zo_24 rfl) (fun eb _ => ?_)
  refine Wl.imp (L' := (pt eb 24 [Value.int .i64 0]) :: (pt tb 31 [Value.pointer (some ⟨r, 0, none⟩)]) :: (pt rb 31 [Value.pointer (some ⟨r, 0, none⟩)]) :: (pt nb 4 [v0]) :: (pt r 59 [Value.bool true, Value.string s, Value.int .i64 ((at_ : Nat) : Int)]) :: F) (fun _ h => h) ?_
  refine Wl.done ?_
  refine Wx.go ?_
  refine Wc.seq ?_
  refine Wc.seq ?_
  refine Wc.region ?_
  refine Wl.q (v := Value.pointer (some ⟨r, 0, none⟩)) (q_load sc_31 rfl (.cel (i := 1) rfl rfl)) ?_
  refine Wl.q (v := Value.bool false) (q_eql_nil (r := false) rfl rfl Try.underlying31 rfl) ?_
  refine Wl.q (v := Value.bool false) (q_move rfl) ?_
  refine Wl.q (v := Value.pointer (some ⟨r, 0, none⟩)) (q_load sc_31 rfl (.cel (i := 1) rfl rfl)) ?_
  refine Wl.q (v := Value.pointer (some ⟨r, 0, none⟩)) (q_nil_ptr rfl) ?_
  refine Wl.q (v := Value.pointer (some ⟨r, 0, none⟩)) (q_field (m := 0) fo_59_0 rfl rfl) ?_
  refine Wl.q (v := Value.bool true) (q_load sc_4 rfl (.cel (i := 4) rfl rfl)) ?_
  refine Wl.q (v := Value.bool false) (q_not rfl rfl) ?_
  refine Wl.q (v := Value.bool false) (q_pick (t := false) rfl rfl) ?_
  refine Wl.done ?_
  refine Wx.go ?_
  refine Wc.no rfl ?_
  refine Wc.skip ?_
  refine Wx.go ?_
  refine Wc.seq ?_
  refine Wc.region ?_
  refine Wl.q (v := Value.pointer (some ⟨r, 0, none⟩)) (q_load sc_31 rfl (.cel (i := 1) rfl rfl)) ?_
  refine Wl.q (v := Value.pointer (some ⟨r, 0, none⟩)) (q_nil_ptr rfl) ?_
  refine Wl.q (v := Value.pointer (some ⟨r, 2, none⟩)) (q_field (m := 2) fo_59_2 rfl rfl) ?_
  refine Wl.q (v := Value.int .i64 ((at_ : Nat) : Int)) (q_load sc_3 rfl (.cel (i := 4) rfl rfl)) ?_
  refine Wl.e (e_alloc (vs := [Value.int .i64 0]) zo_3 rfl) (fun ab _ => ?_)
  refine Wl.imp (L' := (pt ab 3 [Value.int .i64 0]) :: (pt eb 24 [Value.int .i64 0]) :: (pt tb 31 [Value.pointer (some ⟨r, 0, none⟩)]) :: (pt rb 31 [Value.pointer (some ⟨r, 0, none⟩)]) :: (pt nb 4 [v0]) :: (pt r 59 [Value.bool true, Value.string s, Value.int .i64 ((at_ : Nat) : Int)]) :: F) (fun _ h => h) ?_
  refine Wl.e (e_store (i := 0) (v := Value.int .i64 ((at_ : Nat) : Int)) sz_3 rfl rfl (fun _ _ => rfl) rfl (by simp)) (fun _ _ => ?_)
  refine Wl.imp (L' := (pt ab 3 [Value.int .i64 ((at_ : Nat) : Int)]) :: (pt eb 24 [Value.int .i64 0]) :: (pt tb 31 [Value.pointer (some ⟨r, 0, none⟩)]) :: (pt rb 31 [Value.pointer (some ⟨r, 0, none⟩)]) :: (pt nb 4 [v0]) :: (pt r 59 [Value.bool true, Value.string s, Value.int .i64 ((at_ : Nat) : Int)]) :: F) (fun _ h => h) ?_
  refine Wl.done ?_
  refine Wx.go ?_
  refine Wc.seq ?_
  refine Wc.region ?_
  refine Wl.q (v := Value.func (.func 53) #[] #[Value.pointer (some ⟨eb, 0, none⟩), Value.pointer (some ⟨ab, 0, none⟩), Value.pointer (some ⟨tb, 0, none⟩)]) (q_makeFunc (us := []) (vs := [Value.pointer (some ⟨eb, 0, none⟩), Value.pointer (some ⟨ab, 0, none⟩), Value.pointer (some ⟨tb, 0, none⟩)]) rfl rfl) ?_
  refine Wl.defer rfl rfl ?_
  refine Wl.done ?_
  refine Wx.go ?_
  refine Wc.seq ?_
  refine Wc.region ?_
  refine Wl.q (v := Value.func (.func 48) #[] #[Value.pointer (some ⟨rb, 0, none⟩), Value.pointer (some ⟨nb, 0, none⟩)]) (q_move rfl) ?_
  refine Wl.imp (L' := (pt rb 31 [Value.pointer (some ⟨r, 0, none⟩)]) :: (pt nb 4 [v0]) :: (pt r 59 [Value.bool true, Value.string s, Value.int .i64 ((at_ : Nat) : Int)]) :: (pt ab 3 [Value.int .i64 ((at_ : Nat) : Int)]) :: (pt eb 24 [Value.int .i64 0]) :: (pt tb 31 [Value.pointer (some ⟨r, 0, none⟩)]) :: F) (fun _ h => st_pull [3, 3, 3] h) ?_
  refine Wl.e (e_callv (F := (pt ab 3 [Value.int .i64 ((at_ : Nat) : Int)]) :: (pt eb 24 [Value.int .i64 0]) :: (pt tb 31 [Value.pointer (some ⟨r, 0, none⟩)]) :: F) (args := [Value.pointer (some ⟨rb, 0, none⟩), Value.pointer (some ⟨nb, 0, none⟩)]) (mid := []) rfl Try.call48 rfl rfl (hcl)) (fun a _ => ?_)
  refine Wl.imp (L' := (pt rb 31 [Value.pointer (some ⟨r, 0, none⟩)]) :: (pt nb 4 [v0]) :: (pt r 59 [Value.bool true, Value.string s, Value.int .i64 ((a : Nat) : Int)]) :: (pt ab 3 [Value.int .i64 ((at_ : Nat) : Int)]) :: (pt eb 24 [Value.int .i64 0]) :: (pt tb 31 [Value.pointer (some ⟨r, 0, none⟩)]) :: F) (fun _ h => h) ?_
  refine Wl.e (e_store (i := 4) (v := Value.int .i64 4) sz_24 rfl rfl (fun _ _ => rfl) rfl (by simp)) (fun _ _ => ?_)
  refine Wl.imp (L' := (pt rb 31 [Value.pointer (some ⟨r, 0, none⟩)]) :: (pt nb 4 [v0]) :: (pt r 59 [Value.bool true, Value.string s, Value.int .i64 ((a : Nat) : Int)]) :: (pt ab 3 [Value.int .i64 ((at_ : Nat) : Int)]) :: (pt eb 24 [Value.int .i64 4]) :: (pt tb 31 [Value.pointer (some ⟨r, 0, none⟩)]) :: F) (fun _ h => h) ?_
  refine Wl.done ?_
  refine Wx.go ?_
  refine Wc.ret ?_
  refine Wx.finD1 (args := [Value.pointer (some ⟨eb, 0, none⟩), Value.pointer (some ⟨ab, 0, none⟩), Value.pointer (some ⟨tb, 0, none⟩)]) (pre := [pt eb 24 [Value.int .i64 4], pt ab 3 [Value.int .i64 ((at_ : Nat) : Int)], pt tb 31 [Value.pointer (some ⟨r, 0, none⟩)], pt r 59 [Value.bool true, Value.string s, Value.int .i64 ((a : Nat) : Int)]]) (R := (pt rb 31 [Value.pointer (some ⟨r, 0, none⟩)]) :: (pt nb 4 [v0]) :: F) (post := fun _ => [pt eb 24 [Value.int .i64 4], pt ab 3 [Value.int .i64 ((at_ : Nat) : Int)], pt tb 31 [Value.pointer (some ⟨r, 0, none⟩)], pt r 59 [Value.bool true, Value.string s, Value.int .i64 ((at_ : Nat) : Int)]]) (v := fun _ => Value.int .i64 4) rfl (.inl rfl) sc_24 rfl Try.call53 rfl (take1_bad W0 eb ab tb r s at_ a) (fun w hs => (st_pull [4, 3, 3, 2, 0, 0] (hs))) (fun _ _ => .cel (i := 0) rfl rfl) (fun _ _ w hs => ?_)
  exact ⟨(), trivial, rfl, (st_pull [1, 1, 0] (st_drop (st_drop (st_drop (st_pull [0, 0, 0] hs)))))⟩

theorem take_Text_ok (W0 : World) (r rb nb : Nat) (s : ByteArray) (at_ a : Nat) (v0 v1 : Value) (hcl : Con Try.prog W0 49 #[Value.pointer (some ⟨rb, 0, none⟩), Value.pointer (some ⟨nb, 0, none⟩)] [pt rb 31 [Value.pointer (some ⟨r, 0, none⟩)], pt nb 9 [v0], pt r 59 [Value.bool true, Value.string s, Value.int .i64 ((at_ : Nat) : Int)]] (X := Unit) (fun _ => True) (fun _ => .int .i64 0) (fun _ => [pt rb 31 [Value.pointer (some ⟨r, 0, none⟩)], pt nb 9 [v1], pt r 59 [Value.bool true, Value.string s, Value.int .i64 ((a : Nat) : Int)]])) :
    Con Try.prog W0 43 #[Value.pointer (some ⟨r, 0, none⟩), Value.func (.func 49) #[] #[Value.pointer (some ⟨rb, 0, none⟩), Value.pointer (some ⟨nb, 0, none⟩)]] [pt rb 31 [Value.pointer (some ⟨r, 0, none⟩)], pt nb 9 [v0], pt r 59 [Value.bool true, Value.string s, Value.int .i64 ((at_ : Nat) : Int)]] (X := Unit) (fun _ => True) (fun _ => .int .i64 0) (fun _ => [pt rb 31 [Value.pointer (some ⟨r, 0, none⟩)], pt nb 9 [v1], pt r 59 [Value.bool true, Value.string s, Value.int .i64 ((a : Nat) : Int)]]) := by
  refine Con.ofD (args := [Value.pointer (some ⟨r, 0, none⟩), Value.func (.func 49) #[] #[Value.pointer (some ⟨rb, 0, none⟩), Value.pointer (some ⟨nb, 0, none⟩)]]) Try.func43 rfl Try.ntmps43 rfl (fun F => ?_)
  show Wc _ W0 _ _ _ _ _ ((pt rb 31 [Value.pointer (some ⟨r, 0, none⟩)]) :: (pt nb 9 [v0]) :: (pt r 59 [Value.bool true, Value.string s, Value.int .i64 ((at_ : Nat) : Int)]) :: F)
  refine Wc.seq ?_
  refine Wc.region ?_
  refine Wl.e (e_box (x := .tmp 0) (vs := [Value.pointer (some ⟨r, 0, none⟩)]) rfl) (fun tb _ => ?_)
  refine Wl.imp (L' := (pt tb 31 [Value.pointer (some ⟨r, 0, none⟩)]) :: (pt rb 31 [Value.pointer (some ⟨r, 0, none⟩)]) :: (pt nb 9 [v0]) :: (pt r 59 [Value.bool true, Value.string s, Value.int .i64 ((at_ : Nat) : Int)]) :: F) (fun _ h => h) ?_
  refine Wl.e (e_alloc (vs := [Value.int .i64 0]) zo_24 rfl) (fun eb _ => ?_)
  refine Wl.imp (L' := (pt eb 24 [Value.int .i64 0]) :: (pt tb 31 [Value.pointer (some ⟨r, 0, none⟩)]) :: (pt rb 31 [Value.pointer (some ⟨r, 0, none⟩)]) :: (pt nb 9 [v0]) :: (pt r 59 [Value.bool true, Value.string s, Value.int .i64 ((at_ : Nat) : Int)]) :: F) (fun _ h => h) ?_
  refine Wl.done ?_
  refine Wx.go ?_
  refine Wc.seq ?_
  refine Wc.seq ?_
  refine Wc.region ?_
  refine Wl.q (v := Value.pointer (some ⟨r, 0, none⟩)) (q_load sc_31 rfl (.cel (i := 1) rfl rfl)) ?_
  refine Wl.q (v := Value.bool false) (q_eql_nil (r := false) rfl rfl Try.underlying31 rfl) ?_
  refine Wl.q (v := Value.bool false) (q_move rfl) ?_
  refine Wl.q (v := Value.pointer (some ⟨r, 0, none⟩)) (q_load sc_31 rfl (.cel (i := 1) rfl rfl)) ?_
  refine Wl.q (v := Value.pointer (some ⟨r, 0, none⟩)) (q_nil_ptr rfl) ?_
  refine Wl.q (v := Value.pointer (some ⟨r, 0, none⟩)) (q_field (m := 0) fo_59_0 rfl rfl) ?_
  refine Wl.q (v := Value.bool true) (q_load sc_4 rfl (.cel (i := 4) rfl rfl)) ?_
  refine Wl.q (v := Value.bool false) (q_not rfl rfl) ?_
  refine Wl.q (v := Value.bool false) (q_pick (t := false) rfl rfl) ?_
  refine Wl.done ?_
  refine Wx.go ?_
  refine Wc.no rfl ?_
  refine Wc.skip ?_
  refine Wx.go ?_
  refine Wc.seq ?_
  refine Wc.region ?_
  refine Wl.q (v := Value.pointer (some ⟨r, 0, none⟩)) (q_load sc_31 rfl (.cel (i := 1) rfl rfl)) ?_
  refine Wl.q (v := Value.pointer (some ⟨r, 0, none⟩)) (q_nil_ptr rfl) ?_
  refine Wl.q (v := Value.pointer (some ⟨r, 2, none⟩)) (q_field (m := 2) fo_59_2 rfl rfl) ?_
  refine Wl.q (v := Value.int .i64 ((at_ : Nat) : Int)) (q_load sc_3 rfl (.cel (i := 4) rfl rfl)) ?_
  refine Wl.e (e_alloc (vs := [Value.int .i64 0]) zo_3 rfl) (fun ab _ => ?_)
  refine Wl.imp (L' := (pt ab 3 [Value.int .i64 0]) :: (pt eb 24 [Value.int .i64 0]) :: (pt tb 31 [Value.pointer (some ⟨r, 0, none⟩)]) :: (pt rb 31 [Value.pointer (some ⟨r, 0, none⟩)]) :: (pt nb 9 [v0]) :: (pt r 59 [Value.bool true, Value.string s, Value.int .i64 ((at_ : Nat) : Int)]) :: F) (fun _ h => h) ?_
  refine Wl.e (e_store (i := 0) (v := Value.int .i64 ((at_ : Nat) : Int)) sz_3 rfl rfl (fun _ _ => rfl) rfl (by simp)) (fun _ _ => ?_)
  refine Wl.imp (L' := (pt ab 3 [Value.int .i64 ((at_ : Nat) : Int)]) :: (pt eb 24 [Value.int .i64 0]) :: (pt tb 31 [Value.pointer (some ⟨r, 0, none⟩)]) :: (pt rb 31 [Value.pointer (some ⟨r, 0, none⟩)]) :: (pt nb 9 [v0]) :: (pt r 59 [Value.bool true, Value.string s, Value.int .i64 ((at_ : Nat) : Int)]) :: F) (fun _ h => h) ?_
  refine Wl.done ?_
  refine Wx.go ?_
  refine Wc.seq ?_
  refine Wc.region ?_
  refine Wl.q (v := Value.func (.func 53) #[] #[Value.pointer (some ⟨eb, 0, none⟩), Value.pointer (some ⟨ab, 0, none⟩), Value.pointer (some ⟨tb, 0, none⟩)]) (q_makeFunc (us := []) (vs := [Value.pointer (some ⟨eb, 0, none⟩), Value.pointer (some ⟨ab, 0, none⟩), Value.pointer (some ⟨tb, 0, none⟩)]) rfl rfl) ?_
  refine Wl.defer rfl rfl ?_
  refine Wl.done ?_
  refine Wx.go ?_
  refine Wc.seq ?_
  refine Wc.region ?_
  refine Wl.q (v := Value.func (.func 49) #[] #[Value.pointer (some ⟨rb, 0, none⟩), Value.pointer (some ⟨nb, 0, none⟩)]) (q_move rfl) ?_
  refine Wl.imp (L' := (pt rb 31 [Value.pointer (some ⟨r, 0, none⟩)]) :: (pt nb 9 [v0]) :: (pt r 59 [Value.bool true, Value.string s, Value.int .i64 ((at_ : Nat) : Int)]) :: (pt ab 3 [Value.int .i64 ((at_ : Nat) : Int)]) :: (pt eb 24 [Value.int .i64 0]) :: (pt tb 31 [Value.pointer (some ⟨r, 0, none⟩)]) :: F) (fun _ h => st_pull [3, 3, 3] h) ?_
  refine Wl.e (e_callv (F := (pt ab 3 [Value.int .i64 ((at_ : Nat) : Int)]) :: (pt eb 24 [Value.int .i64 0]) :: (pt tb 31 [Value.pointer (some ⟨r, 0, none⟩)]) :: F) (args := [Value.pointer (some ⟨rb, 0, none⟩), Value.pointer (some ⟨nb, 0, none⟩)]) (mid := []) rfl Try.call49 rfl rfl (hcl)) (fun _ _ => ?_)
  refine Wl.imp (L' := (pt rb 31 [Value.pointer (some ⟨r, 0, none⟩)]) :: (pt nb 9 [v1]) :: (pt r 59 [Value.bool true, Value.string s, Value.int .i64 ((a : Nat) : Int)]) :: (pt ab 3 [Value.int .i64 ((at_ : Nat) : Int)]) :: (pt eb 24 [Value.int .i64 0]) :: (pt tb 31 [Value.pointer (some ⟨r, 0, none⟩)]) :: F) (fun _ h => h) ?_
  refine Wl.e (e_store (i := 4) (v := Value.int .i64 0) sz_24 rfl rfl (fun _ _ => rfl) rfl (by simp)) (fun _ _ => ?_)
  refine Wl.imp (L' := (pt rb 31 [Value.pointer (some ⟨r, 0, none⟩)]) :: (pt nb 9 [v1]) :: (pt r 59 [Value.bool true, Value.string s, Value.int .i64 ((a : Nat) : Int)]) :: (pt ab 3 [Value.int .i64 ((at_ : Nat) : Int)]) :: (pt eb 24 [Value.int .i64 0]) :: (pt tb 31 [Value.pointer (some ⟨r, 0, none⟩)]) :: F) (fun _ h => h) ?_
  refine Wl.done ?_
  refine Wx.go ?_
  refine Wc.ret ?_
  refine Wx.finD1 (args := [Value.pointer (some ⟨eb, 0, none⟩), Value.pointer (some ⟨ab, 0, none⟩), Value.pointer (some ⟨tb, 0, none⟩)]) (pre := [pt eb 24 [Value.int .i64 0]]) (R := (pt rb 31 [Value.pointer (some ⟨r, 0, none⟩)]) :: (pt nb 9 [v1]) :: (pt r 59 [Value.bool true, Value.string s, Value.int .i64 ((a : Nat) : Int)]) :: F) (post := fun _ => [pt eb 24 [Value.int .i64 0]]) (v := fun _ => Value.int .i64 0) rfl (.inl rfl) sc_24 rfl Try.call53 rfl (take1_ok W0 eb ab tb) (fun w hs => (st_pull [3, 0, 0, 0] (st_drop (st_drop (st_pull [3, 4] hs))))) (fun _ _ => .cel (i := 0) rfl rfl) (fun _ _ w hs => ?_)
  exact ⟨(), trivial, rfl, (st_drop (st_pull [0] hs))⟩

theorem take_Text_bad (W0 : World) (r rb nb : Nat) (s : ByteArray) (at_ : Nat) (v0 : Value) (hcl : Con Try.prog W0 49 #[Value.pointer (some ⟨rb, 0, none⟩), Value.pointer (some ⟨nb, 0, none⟩)] [pt rb 31 [Value.pointer (some ⟨r, 0, none⟩)], pt nb 9 [v0], pt r 59 [Value.bool true, Value.string s, Value.int .i64 ((at_ : Nat) : Int)]] (X := Nat) (fun _ => True) (fun _ => .int .i64 4) (fun a => [pt rb 31 [Value.pointer (some ⟨r, 0, none⟩)], pt nb 9 [v0], pt r 59 [Value.bool true, Value.string s, Value.int .i64 ((a : Nat) : Int)]])) :
    Con Try.prog W0 43 #[Value.pointer (some ⟨r, 0, none⟩), Value.func (.func 49) #[] #[Value.pointer (some ⟨rb, 0, none⟩), Value.pointer (some ⟨nb, 0, none⟩)]] [pt rb 31 [Value.pointer (some ⟨r, 0, none⟩)], pt nb 9 [v0], pt r 59 [Value.bool true, Value.string s, Value.int .i64 ((at_ : Nat) : Int)]] (X := Unit) (fun _ => True) (fun _ => .int .i64 4) (fun _ => [pt rb 31 [Value.pointer (some ⟨r, 0, none⟩)], pt nb 9 [v0], pt r 59 [Value.bool true, Value.string s, Value.int .i64 ((at_ : Nat) : Int)]]) := by
  refine Con.ofD (args := [Value.pointer (some ⟨r, 0, none⟩), Value.func (.func 49) #[] #[Value.pointer (some ⟨rb, 0, none⟩), Value.pointer (some ⟨nb, 0, none⟩)]]) Try.func43 rfl Try.ntmps43 rfl (fun F => ?_)
  show Wc _ W0 _ _ _ _ _ ((pt rb 31 [Value.pointer (some ⟨r, 0, none⟩)]) :: (pt nb 9 [v0]) :: (pt r 59 [Value.bool true, Value.string s, Value.int .i64 ((at_ : Nat) : Int)]) :: F)
  refine Wc.seq ?_
  refine Wc.region ?_
  refine Wl.e (e_box (x := .tmp 0) (vs := [Value.pointer (some ⟨r, 0, none⟩)]) rfl) (fun tb _ => ?_)
  refine Wl.imp (L' := (pt tb 31 [Value.pointer (some ⟨r, 0, none⟩)]) :: (pt rb 31 [Value.pointer (some ⟨r, 0, none⟩)]) :: (pt nb 9 [v0]) :: (pt r 59 [Value.bool true, Value.string s, Value.int .i64 ((at_ : Nat) : Int)]) :: F) (fun _ h => h) ?_
  refine Wl.e (e_alloc (vs := [Value.int .i64 0]) zo_24 rfl) (fun eb _ => ?_)
  refine Wl.imp (L' := (pt eb 24 [Value.int .i64 0]) :: (pt tb 31 [Value.pointer (some ⟨r, 0, none⟩)]) :: (pt rb 31 [Value.pointer (some ⟨r, 0, none⟩)]) :: (pt nb 9 [v0]) :: (pt r 59 [Value.bool true, Value.string s, Value.int .i64 ((at_ : Nat) : Int)]) :: F) (fun _ h => h) ?_
  refine Wl.done ?_
  refine Wx.go ?_
  refine Wc.seq ?_
  refine Wc.seq ?_
  refine Wc.region ?_
  refine Wl.q (v := Value.pointer (some ⟨r, 0, none⟩)) (q_load sc_31 rfl (.cel (i := 1) rfl rfl)) ?_
  refine Wl.q (v := Value.bool false) (q_eql_nil (r := false) rfl rfl Try.underlying31 rfl) ?_
  refine Wl.q (v := Value.bool false) (q_move rfl) ?_
  refine Wl.q (v := Value.pointer (some ⟨r, 0, none⟩)) (q_load sc_31 rfl (.cel (i := 1) rfl rfl)) ?_
  refine Wl.q (v := Value.pointer (some ⟨r, 0, none⟩)) (q_nil_ptr rfl) ?_
  refine Wl.q (v := Value.pointer (some ⟨r, 0, none⟩)) (q_field (m := 0) fo_59_0 rfl rfl) ?_
  refine Wl.q (v := Value.bool true) (q_load sc_4 rfl (.cel (i := 4) rfl rfl)) ?_
  refine Wl.q (v := Value.bool false) (q_not rfl rfl) ?_
  refine Wl.q (v := Value.bool false) (q_pick (t := false) rfl rfl) ?_
  refine Wl.done ?_
  refine Wx.go ?_
  refine Wc.no rfl ?_
  refine Wc.skip ?_
  refine Wx.go ?_
  refine Wc.seq ?_
  refine Wc.region ?_
  refine Wl.q (v := Value.pointer (some ⟨r, 0, none⟩)) (q_load sc_31 rfl (.cel (i := 1) rfl rfl)) ?_
  refine Wl.q (v := Value.pointer (some ⟨r, 0, none⟩)) (q_nil_ptr rfl) ?_
  refine Wl.q (v := Value.pointer (some ⟨r, 2, none⟩)) (q_field (m := 2) fo_59_2 rfl rfl) ?_
  refine Wl.q (v := Value.int .i64 ((at_ : Nat) : Int)) (q_load sc_3 rfl (.cel (i := 4) rfl rfl)) ?_
  refine Wl.e (e_alloc (vs := [Value.int .i64 0]) zo_3 rfl) (fun ab _ => ?_)
  refine Wl.imp (L' := (pt ab 3 [Value.int .i64 0]) :: (pt eb 24 [Value.int .i64 0]) :: (pt tb 31 [Value.pointer (some ⟨r, 0, none⟩)]) :: (pt rb 31 [Value.pointer (some ⟨r, 0, none⟩)]) :: (pt nb 9 [v0]) :: (pt r 59 [Value.bool true, Value.string s, Value.int .i64 ((at_ : Nat) : Int)]) :: F) (fun _ h => h) ?_
  refine Wl.e (e_store (i := 0) (v := Value.int .i64 ((at_ : Nat) : Int)) sz_3 rfl rfl (fun _ _ => rfl) rfl (by simp)) (fun _ _ => ?_)
  refine Wl.imp (L' := (pt ab 3 [Value.int .i64 ((at_ : Nat) : Int)]) :: (pt eb 24 [Value.int .i64 0]) :: (pt tb 31 [Value.pointer (some ⟨r, 0, none⟩)]) :: (pt rb 31 [Value.pointer (some ⟨r, 0, none⟩)]) :: (pt nb 9 [v0]) :: (pt r 59 [Value.bool true, Value.string s, Value.int .i64 ((at_ : Nat) : Int)]) :: F) (fun _ h => h) ?_
  refine Wl.done ?_
  refine Wx.go ?_
  refine Wc.seq ?_
  refine Wc.region ?_
  refine Wl.q (v := Value.func (.func 53) #[] #[Value.pointer (some ⟨eb, 0, none⟩), Value.pointer (some ⟨ab, 0, none⟩), Value.pointer (some ⟨tb, 0, none⟩)]) (q_makeFunc (us := []) (vs := [Value.pointer (some ⟨eb, 0, none⟩), Value.pointer (some ⟨ab, 0, none⟩), Value.pointer (some ⟨tb, 0, none⟩)]) rfl rfl) ?_
  refine Wl.defer rfl rfl ?_
  refine Wl.done ?_
  refine Wx.go ?_
  refine Wc.seq ?_
  refine Wc.region ?_
  refine Wl.q (v := Value.func (.func 49) #[] #[Value.pointer (some ⟨rb, 0, none⟩), Value.pointer (some ⟨nb, 0, none⟩)]) (q_move rfl) ?_
  refine Wl.imp (L' := (pt rb 31 [Value.pointer (some ⟨r, 0, none⟩)]) :: (pt nb 9 [v0]) :: (pt r 59 [Value.bool true, Value.string s, Value.int .i64 ((at_ : Nat) : Int)]) :: (pt ab 3 [Value.int .i64 ((at_ : Nat) : Int)]) :: (pt eb 24 [Value.int .i64 0]) :: (pt tb 31 [Value.pointer (some ⟨r, 0, none⟩)]) :: F) (fun _ h => st_pull [3, 3, 3] h) ?_
  refine Wl.e (e_callv (F := (pt ab 3 [Value.int .i64 ((at_ : Nat) : Int)]) :: (pt eb 24 [Value.int .i64 0]) :: (pt tb 31 [Value.pointer (some ⟨r, 0, none⟩)]) :: F) (args := [Value.pointer (some ⟨rb, 0, none⟩), Value.pointer (some ⟨nb, 0, none⟩)]) (mid := []) rfl Try.call49 rfl rfl (hcl)) (fun a _ => ?_)
  refine Wl.imp (L' := (pt rb 31 [Value.pointer (some ⟨r, 0, none⟩)]) :: (pt nb 9 [v0]) :: (pt r 59 [Value.bool true, Value.string s, Value.int .i64 ((a : Nat) : Int)]) :: (pt ab 3 [Value.int .i64 ((at_ : Nat) : Int)]) :: (pt eb 24 [Value.int .i64 0]) :: (pt tb 31 [Value.pointer (some ⟨r, 0, none⟩)]) :: F) (fun _ h => h) ?_
  refine Wl.e (e_store (i := 4) (v := Value.int .i64 4) sz_24 rfl rfl (fun _ _ => rfl) rfl (by simp)) (fun _ _ => ?_)
  refine Wl.imp (L' := (pt rb 31 [Value.pointer (some ⟨r, 0, none⟩)]) :: (pt nb 9 [v0]) :: (pt r 59 [Value.bool true, Value.string s, Value.int .i64 ((a : Nat) : Int)]) :: (pt ab 3 [Value.int .i64 ((at_ : Nat) : Int)]) :: (pt eb 24 [Value.int .i64 4]) :: (pt tb 31 [Value.pointer (some ⟨r, 0, none⟩)]) :: F) (fun _ h => h) ?_
  refine Wl.done ?_
  refine Wx.go ?_
  refine Wc.ret ?_
  refine Wx.finD1 (args := [Value.pointer (some ⟨eb, 0, none⟩), Value.pointer (some ⟨ab, 0, none⟩), Value.pointer (some ⟨tb, 0, none⟩)]) (pre := [pt eb 24 [Value.int .i64 4], pt ab 3 [Value.int .i64 ((at_ : Nat) : Int)], pt tb 31 [Value.pointer (some ⟨r, 0, none⟩)], pt r 59 [Value.bool true, Value.string s, Value.int .i64 ((a : Nat) : Int)]]) (R := (pt rb 31 [Value.pointer (some ⟨r, 0, none⟩)]) :: (pt nb 9 [v0]) :: F) (post := fun _ => [pt eb 24 [Value.int .i64 4], pt ab 3 [Value.int .i64 ((at_ : Nat) : Int)], pt tb 31 [Value.pointer (some ⟨r, 0, none⟩)], pt r 59 [Value.bool true, Value.string s, Value.int .i64 ((at_ : Nat) : Int)]]) (v := fun _ => Value.int .i64 4) rfl (.inl rfl) sc_24 rfl Try.call53 rfl (take1_bad W0 eb ab tb r s at_ a) (fun w hs => (st_pull [4, 3, 3, 2, 0, 0] (hs))) (fun _ _ => .cel (i := 0) rfl rfl) (fun _ _ w hs => ?_)
  exact ⟨(), trivial, rfl, (st_pull [1, 1, 0] (st_drop (st_drop (st_drop (st_pull [0, 0, 0] hs)))))⟩

theorem take_List_ok (W0 : World) (r rb nb : Nat) (s : ByteArray) (at_ a : Nat) (v0 v1 : Value) (hcl : Con Try.prog W0 50 #[Value.pointer (some ⟨rb, 0, none⟩), Value.pointer (some ⟨nb, 0, none⟩)] [pt rb 31 [Value.pointer (some ⟨r, 0, none⟩)], pt nb 3 [v0], pt r 59 [Value.bool true, Value.string s, Value.int .i64 ((at_ : Nat) : Int)]] (X := Unit) (fun _ => True) (fun _ => .int .i64 0) (fun _ => [pt rb 31 [Value.pointer (some ⟨r, 0, none⟩)], pt nb 3 [v1], pt r 59 [Value.bool true, Value.string s, Value.int .i64 ((a : Nat) : Int)]])) :
    Con Try.prog W0 43 #[Value.pointer (some ⟨r, 0, none⟩), Value.func (.func 50) #[] #[Value.pointer (some ⟨rb, 0, none⟩), Value.pointer (some ⟨nb, 0, none⟩)]] [pt rb 31 [Value.pointer (some ⟨r, 0, none⟩)], pt nb 3 [v0], pt r 59 [Value.bool true, Value.string s, Value.int .i64 ((at_ : Nat) : Int)]] (X := Unit) (fun _ => True) (fun _ => .int .i64 0) (fun _ => [pt rb 31 [Value.pointer (some ⟨r, 0, none⟩)], pt nb 3 [v1], pt r 59 [Value.bool true, Value.string s, Value.int .i64 ((a : Nat) : Int)]]) := by
  refine Con.ofD (args := [Value.pointer (some ⟨r, 0, none⟩), Value.func (.func 50) #[] #[Value.pointer (some ⟨rb, 0, none⟩), Value.pointer (some ⟨nb, 0, none⟩)]]) Try.func43 rfl Try.ntmps43 rfl (fun F => ?_)
  show Wc _ W0 _ _ _ _ _ ((pt rb 31 [Value.pointer (some ⟨r, 0, none⟩)]) :: (pt nb 3 [v0]) :: (pt r 59 [Value.bool true, Value.string s, Value.int .i64 ((at_ : Nat) : Int)]) :: F)
  refine Wc.seq ?_
  refine Wc.region ?_
  refine Wl.e (e_box (x := .tmp 0) (vs := [Value.pointer (some ⟨r, 0, none⟩)]) rfl) (fun tb _ => ?_)
  refine Wl.imp (L' := (pt tb 31 [Value.pointer (some ⟨r, 0, none⟩)]) :: (pt rb 31 [Value.pointer (some ⟨r, 0, none⟩)]) :: (pt nb 3 [v0]) :: (pt r 59 [Value.bool true, Value.string s, Value.int .i64 ((at_ : Nat) : Int)]) :: F) (fun _ h => h) ?_
  refine Wl.e (e_alloc (vs := [Value.int .i64 0]) zo_24 rfl) (fun eb _ => ?_)
  refine Wl.imp (L' := (pt eb 24 [Value.int .i64 0]) :: (pt tb 31 [Value.pointer (some ⟨r, 0, none⟩)]) :: (pt rb 31 [Value.pointer (some ⟨r, 0, none⟩)]) :: (pt nb 3 [v0]) :: (pt r 59 [Value.bool true, Value.string s, Value.int .i64 ((at_ : Nat) : Int)]) :: F) (fun _ h => h) ?_
  refine Wl.done ?_
  refine Wx.go ?_
  refine Wc.seq ?_
  refine Wc.seq ?_
  refine Wc.region ?_
  refine Wl.q (v := Value.pointer (some ⟨r, 0, none⟩)) (q_load sc_31 rfl (.cel (i := 1) rfl rfl)) ?_
  refine Wl.q (v := Value.bool false) (q_eql_nil (r := false) rfl rfl Try.underlying31 rfl) ?_
  refine Wl.q (v := Value.bool false) (q_move rfl) ?_
  refine Wl.q (v := Value.pointer (some ⟨r, 0, none⟩)) (q_load sc_31 rfl (.cel (i := 1) rfl rfl)) ?_
  refine Wl.q (v := Value.pointer (some ⟨r, 0, none⟩)) (q_nil_ptr rfl) ?_
  refine Wl.q (v := Value.pointer (some ⟨r, 0, none⟩)) (q_field (m := 0) fo_59_0 rfl rfl) ?_
  refine Wl.q (v := Value.bool true) (q_load sc_4 rfl (.cel (i := 4) rfl rfl)) ?_
  refine Wl.q (v := Value.bool false) (q_not rfl rfl) ?_
  refine Wl.q (v := Value.bool false) (q_pick (t := false) rfl rfl) ?_
  refine Wl.done ?_
  refine Wx.go ?_
  refine Wc.no rfl ?_
  refine Wc.skip ?_
  refine Wx.go ?_
  refine Wc.seq ?_
  refine Wc.region ?_
  refine Wl.q (v := Value.pointer (some ⟨r, 0, none⟩)) (q_load sc_31 rfl (.cel (i := 1) rfl rfl)) ?_
  refine Wl.q (v := Value.pointer (some ⟨r, 0, none⟩)) (q_nil_ptr rfl) ?_
  refine Wl.q (v := Value.pointer (some ⟨r, 2, none⟩)) (q_field (m := 2) fo_59_2 rfl rfl) ?_
  refine Wl.q (v := Value.int .i64 ((at_ : Nat) : Int)) (q_load sc_3 rfl (.cel (i := 4) rfl rfl)) ?_
  refine Wl.e (e_alloc (vs := [Value.int .i64 0]) zo_3 rfl) (fun ab _ => ?_)
  refine Wl.imp (L' := (pt ab 3 [Value.int .i64 0]) :: (pt eb 24 [Value.int .i64 0]) :: (pt tb 31 [Value.pointer (some ⟨r, 0, none⟩)]) :: (pt rb 31 [Value.pointer (some ⟨r, 0, none⟩)]) :: (pt nb 3 [v0]) :: (pt r 59 [Value.bool true, Value.string s, Value.int .i64 ((at_ : Nat) : Int)]) :: F) (fun _ h => h) ?_
  refine Wl.e (e_store (i := 0) (v := Value.int .i64 ((at_ : Nat) : Int)) sz_3 rfl rfl (fun _ _ => rfl) rfl (by simp)) (fun _ _ => ?_)
  refine Wl.imp (L' := (pt ab 3 [Value.int .i64 ((at_ : Nat) : Int)]) :: (pt eb 24 [Value.int .i64 0]) :: (pt tb 31 [Value.pointer (some ⟨r, 0, none⟩)]) :: (pt rb 31 [Value.pointer (some ⟨r, 0, none⟩)]) :: (pt nb 3 [v0]) :: (pt r 59 [Value.bool true, Value.string s, Value.int .i64 ((at_ : Nat) : Int)]) :: F) (fun _ h => h) ?_
  refine Wl.done ?_
  refine Wx.go ?_
  refine Wc.seq ?_
  refine Wc.region ?_
  refine Wl.q (v := Value.func (.func 53) #[] #[Value.pointer (some ⟨eb, 0, none⟩), Value.pointer (some ⟨ab, 0, none⟩), Value.pointer (some ⟨tb, 0, none⟩)]) (q_makeFunc (us := []) (vs := [Value.pointer (some ⟨eb, 0, none⟩), Value.pointer (some ⟨ab, 0, none⟩), Value.pointer (some ⟨tb, 0, none⟩)]) rfl rfl) ?_
  refine Wl.defer rfl rfl ?_
  refine Wl.done ?_
  refine Wx.go ?_
  refine Wc.seq ?_
  refine Wc.region ?_
  refine Wl.q (v := Value.func (.func 50) #[] #[Value.pointer (some ⟨rb, 0, none⟩), Value.pointer (some ⟨nb, 0, none⟩)]) (q_move rfl) ?_
  refine Wl.imp (L' := (pt rb 31 [Value.pointer (some ⟨r, 0, none⟩)]) :: (pt nb 3 [v0]) :: (pt r 59 [Value.bool true, Value.string s, Value.int .i64 ((at_ : Nat) : Int)]) :: (pt ab 3 [Value.int .i64 ((at_ : Nat) : Int)]) :: (pt eb 24 [Value.int .i64 0]) :: (pt tb 31 [Value.pointer (some ⟨r, 0, none⟩)]) :: F) (fun _ h => st_pull [3, 3, 3] h) ?_
  refine Wl.e (e_callv (F := (pt ab 3 [Value.int .i64 ((at_ : Nat) : Int)]) :: (pt eb 24 [Value.int .i64 0]) :: (pt tb 31 [Value.pointer (some ⟨r, 0, none⟩)]) :: F) (args := [Value.pointer (some ⟨rb, 0, none⟩), Value.pointer (some ⟨nb, 0, none⟩)]) (mid := []) rfl Try.call50 rfl rfl (hcl)) (fun _ _ => ?_)
  refine Wl.imp (L' := (pt rb 31 [Value.pointer (some ⟨r, 0, none⟩)]) :: (pt nb 3 [v1]) :: (pt r 59 [Value.bool true, Value.string s, Value.int .i64 ((a : Nat) : Int)]) :: (pt ab 3 [Value.int .i64 ((at_ : Nat) : Int)]) :: (pt eb 24 [Value.int .i64 0]) :: (pt tb 31 [Value.pointer (some ⟨r, 0, none⟩)]) :: F) (fun _ h => h) ?_
  refine Wl.e (e_store (i := 4) (v := Value.int .i64 0) sz_24 rfl rfl (fun _ _ => rfl) rfl (by simp)) (fun _ _ => ?_)
  refine Wl.imp (L' := (pt rb 31 [Value.pointer (some ⟨r, 0, none⟩)]) :: (pt nb 3 [v1]) :: (pt r 59 [Value.bool true, Value.string s, Value.int .i64 ((a : Nat) : Int)]) :: (pt ab 3 [Value.int .i64 ((at_ : Nat) : Int)]) :: (pt eb 24 [Value.int .i64 0]) :: (pt tb 31 [Value.pointer (some ⟨r, 0, none⟩)]) :: F) (fun _ h => h) ?_
  refine Wl.done ?_
  refine Wx.go ?_
  refine Wc.ret ?_
  refine Wx.finD1 (args := [Value.pointer (some ⟨eb, 0, none⟩), Value.pointer (some ⟨ab, 0, none⟩), Value.pointer (some ⟨tb, 0, none⟩)]) (pre := [pt eb 24 [Value.int .i64 0]]) (R := (pt rb 31 [Value.pointer (some ⟨r, 0, none⟩)]) :: (pt nb 3 [v1]) :: (pt r 59 [Value.bool true, Value.string s, Value.int .i64 ((a : Nat) : Int)]) :: F) (post := fun _ => [pt eb 24 [Value.int .i64 0]]) (v := fun _ => Value.int .i64 0) rfl (.inl rfl) sc_24 rfl Try.call53 rfl (take1_ok W0 eb ab tb) (fun w hs => (st_pull [3, 0, 0, 0] (st_drop (st_drop (st_pull [3, 4] hs))))) (fun _ _ => .cel (i := 0) rfl rfl) (fun _ _ w hs => ?_)
  exact ⟨(), trivial, rfl, (st_drop (st_pull [0] hs))⟩

theorem take_List_bad (W0 : World) (r rb nb : Nat) (s : ByteArray) (at_ : Nat) (v0 : Value) (hcl : Con Try.prog W0 50 #[Value.pointer (some ⟨rb, 0, none⟩), Value.pointer (some ⟨nb, 0, none⟩)] [pt rb 31 [Value.pointer (some ⟨r, 0, none⟩)], pt nb 3 [v0], pt r 59 [Value.bool true, Value.string s, Value.int .i64 ((at_ : Nat) : Int)]] (X := Nat) (fun _ => True) (fun _ => .int .i64 4) (fun a => [pt rb 31 [Value.pointer (some ⟨r, 0, none⟩)], pt nb 3 [v0], pt r 59 [Value.bool true, Value.string s, Value.int .i64 ((a : Nat) : Int)]])) :
    Con Try.prog W0 43 #[Value.pointer (some ⟨r, 0, none⟩), Value.func (.func 50) #[] #[Value.pointer (some ⟨rb, 0, none⟩), Value.pointer (some ⟨nb, 0, none⟩)]] [pt rb 31 [Value.pointer (some ⟨r, 0, none⟩)], pt nb 3 [v0], pt r 59 [Value.bool true, Value.string s, Value.int .i64 ((at_ : Nat) : Int)]] (X := Unit) (fun _ => True) (fun _ => .int .i64 4) (fun _ => [pt rb 31 [Value.pointer (some ⟨r, 0, none⟩)], pt nb 3 [v0], pt r 59 [Value.bool true, Value.string s, Value.int .i64 ((at_ : Nat) : Int)]]) := by
  refine Con.ofD (args := [Value.pointer (some ⟨r, 0, none⟩), Value.func (.func 50) #[] #[Value.pointer (some ⟨rb, 0, none⟩), Value.pointer (some ⟨nb, 0, none⟩)]]) Try.func43 rfl Try.ntmps43 rfl (fun F => ?_)
  show Wc _ W0 _ _ _ _ _ ((pt rb 31 [Value.pointer (some ⟨r, 0, none⟩)]) :: (pt nb 3 [v0]) :: (pt r 59 [Value.bool true, Value.string s, Value.int .i64 ((at_ : Nat) : Int)]) :: F)
  refine Wc.seq ?_
  refine Wc.region ?_
  refine Wl.e (e_box (x := .tmp 0) (vs := [Value.pointer (some ⟨r, 0, none⟩)]) rfl) (fun tb _ => ?_)
  refine Wl.imp (L' := (pt tb 31 [Value.pointer (some ⟨r, 0, none⟩)]) :: (pt rb 31 [Value.pointer (some ⟨r, 0, none⟩)]) :: (pt nb 3 [v0]) :: (pt r 59 [Value.bool true, Value.string s, Value.int .i64 ((at_ : Nat) : Int)]) :: F) (fun _ h => h) ?_
  refine Wl.e (e_alloc (vs := [Value.int .i64 0]) zo_24 rfl) (fun eb _ => ?_)
  refine Wl.imp (L' := (pt eb 24 [Value.int .i64 0]) :: (pt tb 31 [Value.pointer (some ⟨r, 0, none⟩)]) :: (pt rb 31 [Value.pointer (some ⟨r, 0, none⟩)]) :: (pt nb 3 [v0]) :: (pt r 59 [Value.bool true, Value.string s, Value.int .i64 ((at_ : Nat) : Int)]) :: F) (fun _ h => h) ?_
  refine Wl.done ?_
  refine Wx.go ?_
  refine Wc.seq ?_
  refine Wc.seq ?_
  refine Wc.region ?_
  refine Wl.q (v := Value.pointer (some ⟨r, 0, none⟩)) (q_load sc_31 rfl (.cel (i := 1) rfl rfl)) ?_
  refine Wl.q (v := Value.bool false) (q_eql_nil (r := false) rfl rfl Try.underlying31 rfl) ?_
  refine Wl.q (v := Value.bool false) (q_move rfl) ?_
  refine Wl.q (v := Value.pointer (some ⟨r, 0, none⟩)) (q_load sc_31 rfl (.cel (i := 1) rfl rfl)) ?_
  refine Wl.q (v := Value.pointer (some ⟨r, 0, none⟩)) (q_nil_ptr rfl) ?_
  refine Wl.q (v := Value.pointer (some ⟨r, 0, none⟩)) (q_field (m := 0) fo_59_0 rfl rfl) ?_
  refine Wl.q (v := Value.bool true) (q_load sc_4 rfl (.cel (i := 4) rfl rfl)) ?_
  refine Wl.q (v := Value.bool false) (q_not rfl rfl) ?_
  refine Wl.q (v := Value.bool false) (q_pick (t := false) rfl rfl) ?_
  refine Wl.done ?_
  refine Wx.go ?_
  refine Wc.no rfl ?_
  refine Wc.skip ?_
  refine Wx.go ?_
  refine Wc.seq ?_
  refine Wc.region ?_
  refine Wl.q (v := Value.pointer (some ⟨r, 0, none⟩)) (q_load sc_31 rfl (.cel (i := 1) rfl rfl)) ?_
  refine Wl.q (v := Value.pointer (some ⟨r, 0, none⟩)) (q_nil_ptr rfl) ?_
  refine Wl.q (v := Value.pointer (some ⟨r, 2, none⟩)) (q_field (m := 2) fo_59_2 rfl rfl) ?_
  refine Wl.q (v := Value.int .i64 ((at_ : Nat) : Int)) (q_load sc_3 rfl (.cel (i := 4) rfl rfl)) ?_
  refine Wl.e (e_alloc (vs := [Value.int .i64 0]) zo_3 rfl) (fun ab _ => ?_)
  refine Wl.imp (L' := (pt ab 3 [Value.int .i64 0]) :: (pt eb 24 [Value.int .i64 0]) :: (pt tb 31 [Value.pointer (some ⟨r, 0, none⟩)]) :: (pt rb 31 [Value.pointer (some ⟨r, 0, none⟩)]) :: (pt nb 3 [v0]) :: (pt r 59 [Value.bool true, Value.string s, Value.int .i64 ((at_ : Nat) : Int)]) :: F) (fun _ h => h) ?_
  refine Wl.e (e_store (i := 0) (v := Value.int .i64 ((at_ : Nat) : Int)) sz_3 rfl rfl (fun _ _ => rfl) rfl (by simp)) (fun _ _ => ?_)
  refine Wl.imp (L' := (pt ab 3 [Value.int .i64 ((at_ : Nat) : Int)]) :: (pt eb 24 [Value.int .i64 0]) :: (pt tb 31 [Value.pointer (some ⟨r, 0, none⟩)]) :: (pt rb 31 [Value.pointer (some ⟨r, 0, none⟩)]) :: (pt nb 3 [v0]) :: (pt r 59 [Value.bool true, Value.string s, Value.int .i64 ((at_ : Nat) : Int)]) :: F) (fun _ h => h) ?_
  refine Wl.done ?_
  refine Wx.go ?_
  refine Wc.seq ?_
  refine Wc.region ?_
  refine Wl.q (v := Value.func (.func 53) #[] #[Value.pointer (some ⟨eb, 0, none⟩), Value.pointer (some ⟨ab, 0, none⟩), Value.pointer (some ⟨tb, 0, none⟩)]) (q_makeFunc (us := []) (vs := [Value.pointer (some ⟨eb, 0, none⟩), Value.pointer (some ⟨ab, 0, none⟩), Value.pointer (some ⟨tb, 0, none⟩)]) rfl rfl) ?_
  refine Wl.defer rfl rfl ?_
  refine Wl.done ?_
  refine Wx.go ?_
  refine Wc.seq ?_
  refine Wc.region ?_
  refine Wl.q (v := Value.func (.func 50) #[] #[Value.pointer (some ⟨rb, 0, none⟩), Value.pointer (some ⟨nb, 0, none⟩)]) (q_move rfl) ?_
  refine Wl.imp (L' := (pt rb 31 [Value.pointer (some ⟨r, 0, none⟩)]) :: (pt nb 3 [v0]) :: (pt r 59 [Value.bool true, Value.string s, Value.int .i64 ((at_ : Nat) : Int)]) :: (pt ab 3 [Value.int .i64 ((at_ : Nat) : Int)]) :: (pt eb 24 [Value.int .i64 0]) :: (pt tb 31 [Value.pointer (some ⟨r, 0, none⟩)]) :: F) (fun _ h => st_pull [3, 3, 3] h) ?_
  refine Wl.e (e_callv (F := (pt ab 3 [Value.int .i64 ((at_ : Nat) : Int)]) :: (pt eb 24 [Value.int .i64 0]) :: (pt tb 31 [Value.pointer (some ⟨r, 0, none⟩)]) :: F) (args := [Value.pointer (some ⟨rb, 0, none⟩), Value.pointer (some ⟨nb, 0, none⟩)]) (mid := []) rfl Try.call50 rfl rfl (hcl)) (fun a _ => ?_)
  refine Wl.imp (L' := (pt rb 31 [Value.pointer (some ⟨r, 0, none⟩)]) :: (pt nb 3 [v0]) :: (pt r 59 [Value.bool true, Value.string s, Value.int .i64 ((a : Nat) : Int)]) :: (pt ab 3 [Value.int .i64 ((at_ : Nat) : Int)]) :: (pt eb 24 [Value.int .i64 0]) :: (pt tb 31 [Value.pointer (some ⟨r, 0, none⟩)]) :: F) (fun _ h => h) ?_
  refine Wl.e (e_store (i := 4) (v := Value.int .i64 4) sz_24 rfl rfl (fun _ _ => rfl) rfl (by simp)) (fun _ _ => ?_)
  refine Wl.imp (L' := (pt rb 31 [Value.pointer (some ⟨r, 0, none⟩)]) :: (pt nb 3 [v0]) :: (pt r 59 [Value.bool true, Value.string s, Value.int .i64 ((a : Nat) : Int)]) :: (pt ab 3 [Value.int .i64 ((at_ : Nat) : Int)]) :: (pt eb 24 [Value.int .i64 4]) :: (pt tb 31 [Value.pointer (some ⟨r, 0, none⟩)]) :: F) (fun _ h => h) ?_
  refine Wl.done ?_
  refine Wx.go ?_
  refine Wc.ret ?_
  refine Wx.finD1 (args := [Value.pointer (some ⟨eb, 0, none⟩), Value.pointer (some ⟨ab, 0, none⟩), Value.pointer (some ⟨tb, 0, none⟩)]) (pre := [pt eb 24 [Value.int .i64 4], pt ab 3 [Value.int .i64 ((at_ : Nat) : Int)], pt tb 31 [Value.pointer (some ⟨r, 0, none⟩)], pt r 59 [Value.bool true, Value.string s, Value.int .i64 ((a : Nat) : Int)]]) (R := (pt rb 31 [Value.pointer (some ⟨r, 0, none⟩)]) :: (pt nb 3 [v0]) :: F) (post := fun _ => [pt eb 24 [Value.int .i64 4], pt ab 3 [Value.int .i64 ((at_ : Nat) : Int)], pt tb 31 [Value.pointer (some ⟨r, 0, none⟩)], pt r 59 [Value.bool true, Value.string s, Value.int .i64 ((at_ : Nat) : Int)]]) (v := fun _ => Value.int .i64 4) rfl (.inl rfl) sc_24 rfl Try.call53 rfl (take1_bad W0 eb ab tb r s at_ a) (fun w hs => (st_pull [4, 3, 3, 2, 0, 0] (hs))) (fun _ _ => .cel (i := 0) rfl rfl) (fun _ _ w hs => ?_)
  exact ⟨(), trivial, rfl, (st_pull [1, 1, 0] (st_drop (st_drop (st_drop (st_pull [0, 0, 0] hs)))))⟩

end Go.Proofs.Ytlbanhhdoiidnaa
