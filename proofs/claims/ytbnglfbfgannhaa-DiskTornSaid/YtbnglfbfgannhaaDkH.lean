/- The disk in memory, and contracts of its calls. -/
import Derived.Test.YtbnglfbfgannhaaDkG
import Derived.Test.YtbnglfbfgannhaaDkL
namespace Go.Proofs.Ytbnglfbfgannhaa
open Go Go.SL Go.Dk Go.RowKit
set_option linter.unusedVariables false
theorem zo_3 : zeroOf Try.prog 3 = some (Value.int .i64 0) := by kernel_rfl
theorem torn_low (W0 : World) (n : Int) (vl : Value) (l : List (Int × ByteArray)) (hl : Rd W0 vl l.length (flatI l)) (bits : Int) (hn : n < 1) :
    Con Try.prog W0 3 #[Value.int .i64 n, vl, Value.int .i64 bits] [] (X := Unit) (fun _ => True) (fun _ => .bool true) (fun _ => []) := by
  refine Con.of (args := [Value.int .i64 n, vl, Value.int .i64 bits]) Try.func3 rfl Try.ntmps3 rfl (fun F => ?_)
  show Wc _ W0 _ _ _ _ _ (F)
  refine Wc.seq ?_
  refine Wc.region ?_
  refine Wl.q (v := Value.bool false) (q_assign rfl) ?_
  refine Wl.done ?_
  refine Wx.go ?_
  refine Wc.seq ?_
  refine Wc.region ?_
  refine Wl.q (v := Value.int .i64 n) (q_move rfl) ?_
  refine Wl.e (e_call (F := F) (args := [Value.int .i64 n]) Try.call10 rfl (new_low W0 n (by omega))) (fun _ _ => ?_)
  refine Wl.imp (L' := F) (fun _ h => h) ?_
  refine Wl.q (v := Value.tuple #[Value.pointer none, Value.int .i64 1]) (q_move rfl) ?_
  refine Wl.q (v := Value.pointer none) (q_extract (i := 0) rfl rfl) ?_
  refine Wl.q (v := Value.int .i64 1) (q_extract (i := 1) rfl rfl) ?_
  refine Wl.q (v := Value.pointer none) (q_assign rfl) ?_
  refine Wl.q (v := Value.int .i64 1) (q_assign rfl) ?_
  refine Wl.done ?_
  refine Wx.go ?_
  refine Wc.seq ?_
  refine Wc.seq ?_
  refine Wc.region ?_
  refine Wl.q (v := Value.int .i64 1) (q_move rfl) ?_
  refine Wl.q (v := Value.bool true) (q_neq (r := false) rfl rfl (decide_eq_false (by decide))) ?_
  refine Wl.q (v := Value.bool true) (q_move rfl) ?_
  refine Wl.no ?_
  refine Wl.no ?_
  refine Wl.no ?_
  refine Wl.no ?_
  refine Wl.q (v := Value.bool true) (q_pick (t := true) rfl rfl) ?_
  refine Wl.done ?_
  refine Wx.go ?_
  refine Wc.yes rfl ?_
  refine Wc.seq ?_
  refine Wc.region ?_
  refine Wl.e (e_call (F := F) (args := []) Try.call12 rfl (alive_c W0)) (fun _ _ => ?_)
  refine Wl.imp (L' := F) (fun _ h => h) ?_
  refine Wl.q (v := Value.bool true) (q_assign rfl) ?_
  refine Wl.done ?_
  refine Wx.go ?_
  refine Wc.ret ?_
  refine Wx.thenRet ?_
  refine Wx.fin1 rfl (.inl rfl) (fun w hs => ?_)
  exact ⟨(), trivial, rfl, hs⟩

theorem torn_high (W0 : World) (n : Int) (vl : Value) (l : List (Int × ByteArray)) (hl : Rd W0 vl l.length (flatI l)) (bits : Int) (hn : n > 4096) :
    Con Try.prog W0 3 #[Value.int .i64 n, vl, Value.int .i64 bits] [] (X := Unit) (fun _ => True) (fun _ => .bool true) (fun _ => []) := by
  refine Con.of (args := [Value.int .i64 n, vl, Value.int .i64 bits]) Try.func3 rfl Try.ntmps3 rfl (fun F => ?_)
  show Wc _ W0 _ _ _ _ _ (F)
  refine Wc.seq ?_
  refine Wc.region ?_
  refine Wl.q (v := Value.bool false) (q_assign rfl) ?_
  refine Wl.done ?_
  refine Wx.go ?_
  refine Wc.seq ?_
  refine Wc.region ?_
  refine Wl.q (v := Value.int .i64 n) (q_move rfl) ?_
  refine Wl.e (e_call (F := F) (args := [Value.int .i64 n]) Try.call10 rfl (new_high W0 n (by omega))) (fun _ _ => ?_)
  refine Wl.imp (L' := F) (fun _ h => h) ?_
  refine Wl.q (v := Value.tuple #[Value.pointer none, Value.int .i64 3]) (q_move rfl) ?_
  refine Wl.q (v := Value.pointer none) (q_extract (i := 0) rfl rfl) ?_
  refine Wl.q (v := Value.int .i64 3) (q_extract (i := 1) rfl rfl) ?_
  refine Wl.q (v := Value.pointer none) (q_assign rfl) ?_
  refine Wl.q (v := Value.int .i64 3) (q_assign rfl) ?_
  refine Wl.done ?_
  refine Wx.go ?_
  refine Wc.seq ?_
  refine Wc.seq ?_
  refine Wc.region ?_
  refine Wl.q (v := Value.int .i64 3) (q_move rfl) ?_
  refine Wl.q (v := Value.bool true) (q_neq (r := false) rfl rfl (decide_eq_false (by decide))) ?_
  refine Wl.q (v := Value.bool true) (q_move rfl) ?_
  refine Wl.no ?_
  refine Wl.no ?_
  refine Wl.no ?_
  refine Wl.no ?_
  refine Wl.q (v := Value.bool true) (q_pick (t := true) rfl rfl) ?_
  refine Wl.done ?_
  refine Wx.go ?_
  refine Wc.yes rfl ?_
  refine Wc.seq ?_
  refine Wc.region ?_
  refine Wl.e (e_call (F := F) (args := []) Try.call12 rfl (alive_c W0)) (fun _ _ => ?_)
  refine Wl.imp (L' := F) (fun _ h => h) ?_
  refine Wl.q (v := Value.bool true) (q_assign rfl) ?_
  refine Wl.done ?_
  refine Wx.go ?_
  refine Wc.ret ?_
  refine Wx.thenRet ?_
  refine Wx.fin1 rfl (.inl rfl) (fun w hs => ?_)
  exact ⟨(), trivial, rfl, hs⟩

theorem torn_beyond (W0 : World) (n : Nat) (h1 : 1 ≤ n) (h2 : n ≤ 4096) (vl : Value) (l : List (Int × ByteArray)) (hl : Rd W0 vl l.length (flatI l)) (bits : Int) (hb0 : beyondB [(l.length : Int)] = true) (hlen : l.length ≤ 9223372036854775807) :
    Con Try.prog W0 3 #[Value.int .i64 ((n : Nat) : Int), vl, Value.int .i64 bits] [] (X := Unit) (fun _ => True) (fun _ => .bool true) (fun _ => []) := by
  refine Con.of (args := [Value.int .i64 ((n : Nat) : Int), vl, Value.int .i64 bits]) Try.func3 rfl Try.ntmps3 rfl (fun F => ?_)
  show Wc _ W0 _ _ _ _ _ (F)
  refine Wc.seq ?_
  refine Wc.region ?_
  refine Wl.q (v := Value.bool false) (q_assign rfl) ?_
  refine Wl.done ?_
  refine Wx.go ?_
  refine Wc.seq ?_
  refine Wc.region ?_
  refine Wl.q (v := Value.int .i64 ((n : Nat) : Int)) (q_move rfl) ?_
  refine Wl.e (e_call (F := F) (args := [Value.int .i64 ((n : Nat) : Int)]) Try.call10 rfl (new_ok W0 n (by omega) (by omega))) (fun pp _ => ?_)
  refine Wl.imp (L' := (isDisk pp (DS.new n)) :: F) (fun _ h => h) ?_
  refine Wl.q (v := Value.tuple #[Value.pointer (some ⟨pp, 0, none⟩), Value.int .i64 0]) (q_move rfl) ?_
  refine Wl.q (v := Value.pointer (some ⟨pp, 0, none⟩)) (q_extract (i := 0) rfl rfl) ?_
  refine Wl.q (v := Value.int .i64 0) (q_extract (i := 1) rfl rfl) ?_
  refine Wl.q (v := Value.pointer (some ⟨pp, 0, none⟩)) (q_assign rfl) ?_
  refine Wl.q (v := Value.int .i64 0) (q_assign rfl) ?_
  refine Wl.done ?_
  refine Wx.go ?_
  refine Wc.seq ?_
  refine Wc.seq ?_
  refine Wc.region ?_
  refine Wl.q (v := Value.int .i64 0) (q_move rfl) ?_
  refine Wl.q (v := Value.bool false) (q_neq (r := true) rfl rfl (decide_eq_true (by decide))) ?_
  refine Wl.q (v := Value.bool false) (q_move rfl) ?_
  refine Wl.q (v := vl) (q_move rfl) ?_
  refine Wl.q (v := Value.int .i64 ((l.length : Nat) : Int)) (q_len_is Try.underlying22 rfl hl.shape) ?_
  refine Wl.e (e_buildSlice (cs := [Value.int .i64 ((l.length : Nat) : Int)]) se_58 zo_3 (by decide) (by decide) (by kernel_rfl)) (fun b1 _ => ?_)
  refine Wl.imp (L' := (pt b1 3 [Value.int .i64 ((l.length : Nat) : Int)]) :: (isDisk pp (DS.new n)) :: F) (fun _ h => h) ?_
  refine Wl.e (e_call (F := (isDisk pp (DS.new n)) :: F) (args := [Value.slice (some ⟨b1, 0, none⟩) 1 1]) Try.call11 rfl (Con.eqs (val' := fun _ => Value.bool true) (post' := fun _ => [pt b1 3 [Value.int .i64 ((l.length : Nat) : Int)]]) (beyond_c W0 b1 ([((l.length : Nat) : Int)] : List Int) (by simp) (by simp; omega)) (fun _ => congrArg Value.bool hb0) (fun _ => rfl))) (fun _ _ => ?_)
  refine Wl.imp (L' := (pt b1 3 [Value.int .i64 ((l.length : Nat) : Int)]) :: (isDisk pp (DS.new n)) :: F) (fun _ h => h) ?_
  refine Wl.q (v := Value.bool true) (q_pick (t := false) rfl rfl) ?_
  refine Wl.done ?_
  refine Wx.go ?_
  refine Wc.yes rfl ?_
  refine Wc.seq ?_
  refine Wc.region ?_
  refine Wl.e (e_call (F := (pt b1 3 [Value.int .i64 ((l.length : Nat) : Int)]) :: (isDisk pp (DS.new n)) :: F) (args := []) Try.call12 rfl (alive_c W0)) (fun _ _ => ?_)
  refine Wl.imp (L' := (pt b1 3 [Value.int .i64 ((l.length : Nat) : Int)]) :: (isDisk pp (DS.new n)) :: F) (fun _ h => h) ?_
  refine Wl.q (v := Value.bool true) (q_assign rfl) ?_
  refine Wl.done ?_
  refine Wx.go ?_
  refine Wc.ret ?_
  refine Wx.thenRet ?_
  refine Wx.fin1 rfl (.inl rfl) (fun w hs => ?_)
  exact ⟨(), trivial, rfl, (st_drop (st_drop (st_pull [0, 0] hs)))⟩

set_option maxRecDepth 4000 in
set_option maxHeartbeats 4000000 in
theorem torn_law (W0 : World) (n : Nat) (h1 : 1 ≤ n) (h2 : n ≤ 4096) (vl : Value) (l : List (Int × ByteArray)) (hl : Rd W0 vl l.length (flatI l)) (bits : Int) (hb0 : beyondB [(l.length : Int)] = false) :
    Con Try.prog W0 3 #[Value.int .i64 ((n : Nat) : Int), vl, Value.int .i64 bits] [] (X := Unit) (fun _ => True) (fun _ => .bool true) (fun _ => []) := by
  refine Con.of (args := [Value.int .i64 ((n : Nat) : Int), vl, Value.int .i64 bits]) Try.func3 rfl Try.ntmps3 rfl (fun F => ?_)
  have hlen := beyond_one hb0
  show Wc _ W0 _ _ _ _ _ (F)
  refine Wc.seq ?_
  refine Wc.region ?_
  refine Wl.q (v := Value.bool false) (q_assign rfl) ?_
  refine Wl.done ?_
  refine Wx.go ?_
  refine Wc.seq ?_
  refine Wc.region ?_
  refine Wl.q (v := Value.int .i64 ((n : Nat) : Int)) (q_move rfl) ?_
  refine Wl.e (e_call (F := F) (args := [Value.int .i64 ((n : Nat) : Int)]) Try.call10 rfl (new_ok W0 n (by omega) (by omega))) (fun pp _ => ?_)
  refine Wl.imp (L' := (isDisk pp (DS.new n)) :: F) (fun _ h => h) ?_
  refine Wl.q (v := Value.tuple #[Value.pointer (some ⟨pp, 0, none⟩), Value.int .i64 0]) (q_move rfl) ?_
  refine Wl.q (v := Value.pointer (some ⟨pp, 0, none⟩)) (q_extract (i := 0) rfl rfl) ?_
  refine Wl.q (v := Value.int .i64 0) (q_extract (i := 1) rfl rfl) ?_
  refine Wl.q (v := Value.pointer (some ⟨pp, 0, none⟩)) (q_assign rfl) ?_
  refine Wl.q (v := Value.int .i64 0) (q_assign rfl) ?_
  refine Wl.done ?_
  refine Wx.go ?_
  refine Wc.seq ?_
  refine Wc.seq ?_
  refine Wc.region ?_
  refine Wl.q (v := Value.int .i64 0) (q_move rfl) ?_
  refine Wl.q (v := Value.bool false) (q_neq (r := true) rfl rfl (decide_eq_true (by decide))) ?_
  refine Wl.q (v := Value.bool false) (q_move rfl) ?_
  refine Wl.q (v := vl) (q_move rfl) ?_
  refine Wl.q (v := Value.int .i64 ((l.length : Nat) : Int)) (q_len_is Try.underlying22 rfl hl.shape) ?_
  refine Wl.e (e_buildSlice (cs := [Value.int .i64 ((l.length : Nat) : Int)]) se_58 zo_3 (by decide) (by decide) (by kernel_rfl)) (fun b1 _ => ?_)
  refine Wl.imp (L' := (pt b1 3 [Value.int .i64 ((l.length : Nat) : Int)]) :: (isDisk pp (DS.new n)) :: F) (fun _ h => h) ?_
  refine Wl.e (e_call (F := (isDisk pp (DS.new n)) :: F) (args := [Value.slice (some ⟨b1, 0, none⟩) 1 1]) Try.call11 rfl (Con.eqs (val' := fun _ => Value.bool false) (post' := fun _ => [pt b1 3 [Value.int .i64 ((l.length : Nat) : Int)]]) (beyond_c W0 b1 ([((l.length : Nat) : Int)] : List Int) (by simp) (by simp; omega)) (fun _ => congrArg Value.bool hb0) (fun _ => rfl))) (fun _ _ => ?_)
  refine Wl.imp (L' := (pt b1 3 [Value.int .i64 ((l.length : Nat) : Int)]) :: (isDisk pp (DS.new n)) :: F) (fun _ h => h) ?_
  refine Wl.q (v := Value.bool false) (q_pick (t := false) rfl rfl) ?_
  refine Wl.done ?_
  refine Wx.go ?_
  refine Wc.no rfl ?_
  refine Wc.skip ?_
  refine Wx.go ?_
  refine Wc.seq ?_
  refine Wc.seq ?_
  refine Wc.region ?_
  refine Wl.q (v := Value.int .i64 0) (q_assign rfl) ?_
  refine Wl.done ?_
  refine Wx.go ?_
  refine Wc.block ?_
  refine Wc.loop (X := Nat) (fun k E => E 9 = Value.int .i64 ((k : Nat) : Int) ∧ E 0 = Value.int .i64 ((n : Nat) : Int) ∧ E 1 = vl ∧ E 2 = Value.int .i64 bits ∧ E 7 = Value.pointer (some ⟨pp, 0, none⟩) ∧ k ≤ l.length) (fun k => (isDisk pp (wr n (l.take k))) :: F) (fun k => l.length - k) 0 ?_ ?_ ?_
  · exact ⟨rfl, rfl, rfl, rfl, rfl, (by omega)⟩
  · exact fun w hs => (st_drop (st_pull [0] hs))
  · rintro k E3 ⟨hE9_1, hE0_1, hE1_1, hE2_1, hE7_1, hp0⟩
    refine Wc.seq ?_
    refine Wc.seq ?_
    refine Wc.region ?_
    refine Wl.q (v := Value.int .i64 ((k : Nat) : Int)) (q_move hE9_1) ?_
    refine Wl.q (v := vl) (q_move hE1_1) ?_
    refine Wl.q (v := Value.int .i64 ((l.length : Nat) : Int)) (q_len_is Try.underlying22 rfl hl.shape) ?_
    by_cases hlt : ((k : Nat) : Int) < ((l.length : Nat) : Int)
    ·
      obtain ⟨q, hget⟩ : ∃ q, l[k]? = some q := ⟨l[k]'(by omega), by simp [List.getElem?_eq_getElem (show k < l.length by omega)]⟩
      refine Wl.q (v := Value.bool true) (q_lss (r := true) rfl rfl (decide_eq_true hlt)) ?_
      refine Wl.done ?_
      refine Wx.go ?_
      refine Wc.yes rfl ?_
      refine Wc.skip ?_
      refine Wx.go ?_
      refine Wc.seq ?_
      refine Wc.block ?_
      refine Wc.drawsS [11] ((isDisk pp (wr n (l.take k))) :: []) (by kernel_rfl) ?_
      refine Wr.pure (v := Value.pointer (some ⟨pp, 0, none⟩)) 0 rfl (by kernel_rfl) (.inr (fun _ h => st_take [0] h)) (.inl ⟨rfl, fun _ => q_move hE7_1⟩) ?_
      refine Wr.pure (v := vl) 1 rfl (by kernel_rfl) (.inr (fun _ h => st_take [0] h)) (.inl ⟨rfl, fun _ => q_move hE1_1⟩) ?_
      refine Wr.pure (v := Value.int .i64 ((k : Nat) : Int)) 2 rfl (by kernel_rfl) (.inr (fun _ h => st_take [0] h)) (.inl ⟨rfl, fun _ => q_move hE9_1⟩) ?_
      refine Wr.pure (v := Value.pointer (some ⟨(rb vl), ro vl + k * 2, none⟩)) 3 rfl (by kernel_rfl) (.inr (fun _ h => st_take [0] h)) (.inl ⟨rfl, fun _ => q_idx_is (m := ro vl + k * 2) se_22 rfl (hl.some_ (by omega)) rfl (by omega) (by omega) rfl⟩) ?_
      refine Wr.pure (v := Value.pointer (some ⟨(rb vl), ro vl + k * 2, none⟩)) 4 rfl (by kernel_rfl) (.inr (fun _ h => st_take [0] h)) (.inl ⟨rfl, fun _ => q_field (m := ro vl + k * 2) fo_31_0 rfl rfl⟩) ?_
      refine Wr.take (v := Value.int .i64 q.1) 5 rfl (by kernel_rfl) (fun _ h => st_take [0] h) (.inl ⟨rfl, q_load sc_3 rfl (.old ((rdW hl hget).1))⟩) ?_
      refine Wr.pure (v := vl) 6 rfl (by kernel_rfl) (.inr (fun _ h => st_take [0] h)) (.inl ⟨rfl, fun _ => q_move hE1_1⟩) ?_
      refine Wr.pure (v := Value.int .i64 ((k : Nat) : Int)) 7 rfl (by kernel_rfl) (.inr (fun _ h => st_take [0] h)) (.inl ⟨rfl, fun _ => q_move hE9_1⟩) ?_
      refine Wr.pure (v := Value.pointer (some ⟨(rb vl), ro vl + k * 2, none⟩)) 8 rfl (by kernel_rfl) (.inr (fun _ h => st_take [0] h)) (.inl ⟨rfl, fun _ => q_idx_is (m := ro vl + k * 2) se_22 rfl (hl.some_ (by omega)) rfl (by omega) (by omega) rfl⟩) ?_
      refine Wr.pure (v := Value.pointer (some ⟨(rb vl), ro vl + k * 2 + 1, none⟩)) 9 rfl (by kernel_rfl) (.inr (fun _ h => st_take [0] h)) (.inl ⟨rfl, fun _ => q_field (m := ro vl + k * 2 + 1) fo_31_1 rfl rfl⟩) ?_
      refine Wr.take (v := Value.string q.2) 10 rfl (by kernel_rfl) (fun _ h => st_take [0] h) (.inl ⟨rfl, q_load sc_9 rfl (.old ((rdW hl hget).2))⟩) ?_
      refine Wr.e 11 (by kernel_rfl) rfl (e_call (F := F) (args := [Value.pointer (some ⟨pp, 0, none⟩), Value.int .i64 q.1, Value.string q.2]) Try.call13 rfl (Con.eqs (val' := fun _ => Value.int .i64 (((wr n (l.take k)).write q.1 q.2).1)) (post' := fun _ => [isDisk pp (wr n (l.take (k + 1)))]) (write_c W0 pp (wr n (l.take k)) q.1 q.2 (wf_wr h2 _) (by have := goods_len n (l.take k); simp only [wr, upD, List.length_take] at *; omega) (by have := goods_len n (l.take k); simp only [wr, upD, List.length_take] at *; omega)) (fun _ => rfl) (fun _ => (by rw [wr_snoc, ← take_snoc' hget])))) (.inl (by kernel_rfl)) (fun _ _ => ?_)
      refine Wr.imp (L' := (isDisk pp (wr n (l.take (k + 1)))) :: F) (fun _ h => h) ?_
      refine Wr.rebaseS [] ((isDisk pp (wr n (l.take (k + 1)))) :: []) (by kernel_rfl) ?_
      refine Wr.done (by kernel_rfl) ?_
      refine Wx.blockEnd ?_
      refine Wx.go ?_
      refine Wc.region ?_
      refine Wl.q (v := Value.int .i64 ((k : Nat) : Int)) (q_move hE9_1) ?_
      refine Wl.q (v := Value.int .i64 ((k + 1 : Nat) : Int)) (q_add (c := ((k + 1 : Nat) : Int)) rfl rfl (by rw [wrap_i64] <;> omega)) ?_
      refine Wl.q (v := Value.int .i64 ((k + 1 : Nat) : Int)) (q_assign rfl) ?_
      refine Wl.done ?_
      refine Wx.at (k + 1) ⟨(by omega), rfl, hE0_1, hE1_1, hE2_1, hE7_1, (by omega)⟩ (fun w hs => hs)
    ·
      have hend : k = l.length := by omega
      refine Wl.q (v := Value.bool false) (q_lss (r := false) rfl rfl (decide_eq_false hlt)) ?_
      refine Wl.done ?_
      refine Wx.go ?_
      refine Wc.no rfl ?_
      refine Wc.exit ?_
      refine Wx.thenExit ?_
      refine Wx.thenExit ?_
      refine Wx.out ?_
      refine Wx.go ?_
      refine Wc.seq ?_
      refine Wc.seq ?_
      refine Wc.region ?_
      refine Wl.q (v := Value.pointer (some ⟨pp, 0, none⟩)) (q_move hE7_1) ?_
      refine Wl.q (v := Value.int .i64 bits) (q_move hE2_1) ?_
      refine Wl.e (e_call (F := F) (args := [Value.pointer (some ⟨pp, 0, none⟩), Value.int .i64 bits]) Try.call14 rfl (Con.eqs (val' := fun _ => Value.int .i64 0) (post' := fun _ => [isDisk pp (((wr n (l.take k)).crash bits).2)]) (crash_c W0 pp (wr n (l.take k)) bits (wf_wr h2 _)) (fun _ => rfl) (fun _ => rfl))) (fun _ _ => ?_)
      refine Wl.imp (L' := (isDisk pp (((wr n (l.take k)).crash bits).2)) :: F) (fun _ h => h) ?_
      refine Wl.q (v := Value.bool false) (q_neq (r := true) rfl rfl (decide_eq_true (by decide))) ?_
      refine Wl.q (v := Value.bool false) (q_move rfl) ?_
      refine Wl.q (v := Value.pointer (some ⟨pp, 0, none⟩)) (q_move hE7_1) ?_
      refine Wl.e (e_call (F := F) (args := [Value.pointer (some ⟨pp, 0, none⟩)]) Try.call15 rfl (Con.eqs (val' := fun _ => Value.int .i64 0) (post' := fun _ => [isDisk pp (((((wr n (l.take k)).crash bits).2).start).2)]) (start_c W0 pp (((wr n (l.take k)).crash bits).2) ) (fun _ => rfl) (fun _ => rfl))) (fun _ _ => ?_)
      refine Wl.imp (L' := (isDisk pp (((((wr n (l.take k)).crash bits).2).start).2)) :: F) (fun _ h => h) ?_
      refine Wl.q (v := Value.bool false) (q_neq (r := true) rfl rfl (decide_eq_true (by decide))) ?_
      refine Wl.q (v := Value.bool false) (q_pick (t := false) rfl rfl) ?_
      refine Wl.done ?_
      refine Wx.go ?_
      refine Wc.no rfl ?_
      refine Wc.skip ?_
      refine Wx.go ?_
      refine Wc.seq ?_
      refine Wc.seq ?_
      refine Wc.region ?_
      refine Wl.q (v := Value.int .i64 0) (q_assign rfl) ?_
      refine Wl.done ?_
      refine Wx.go ?_
      refine Wc.block ?_
      refine Wc.loop (X := Nat) (fun i E => E 10 = Value.int .i64 ((i : Nat) : Int) ∧ E 0 = Value.int .i64 ((n : Nat) : Int) ∧ E 1 = vl ∧ E 7 = Value.pointer (some ⟨pp, 0, none⟩) ∧ i ≤ n) (fun i => (isDisk pp (tornD n l bits)) :: F) (fun i => n - i) 0 ?_ ?_ ?_
      · exact ⟨rfl, hE0_1, hE1_1, hE7_1, (by omega)⟩
      · exact fun w hs => by rw [wr_all hend] at hs; exact hs
      · rintro i E5 ⟨hE10_3, hE0_3, hE1_3, hE7_3, hi0⟩
        refine Wc.seq ?_
        refine Wc.seq ?_
        refine Wc.region ?_
        refine Wl.q (v := Value.int .i64 ((i : Nat) : Int)) (q_move hE10_3) ?_
        refine Wl.q (v := Value.int .i64 ((n : Nat) : Int)) (q_move hE0_3) ?_
        by_cases hilt : ((i : Nat) : Int) < ((n : Nat) : Int)
        ·
          obtain ⟨s, hsd⟩ : ∃ s, s = ((fallL (List.replicate n noughts) ((goods n l).take 31) bits).getD i default) := ⟨_, rfl⟩
          have hs64 : s.size = 64 := by rw [hsd]; exact tornD_size h2 l bits (by omega)
          have hrd : (tornD n l bits).read (i : Int) = (s, 0) := by rw [hsd]; exact tornD_read (by omega)
          have hta : Half lo s i l := by rw [hsd]; exact torn_half lo (fun _ _ k => torn_lo k) h2 l bits (by omega)
          have htb : Half hi s i l := by rw [hsd]; exact torn_half hi (fun _ _ k => torn_hi k) h2 l bits (by omega)
          clear hsd
          refine Wl.q (v := Value.bool true) (q_lss (r := true) rfl rfl (decide_eq_true hilt)) ?_
          refine Wl.done ?_
          refine Wx.go ?_
          refine Wc.yes rfl ?_
          refine Wc.skip ?_
          refine Wx.go ?_
          refine Wc.seq ?_
          refine Wc.block ?_
          refine Wc.seq ?_
          refine Wc.region ?_
          refine Wl.q (v := Value.pointer (some ⟨pp, 0, none⟩)) (q_move hE7_3) ?_
          refine Wl.q (v := Value.int .i64 ((i : Nat) : Int)) (q_move hE10_3) ?_
          refine Wl.e (e_call (F := F) (args := [Value.pointer (some ⟨pp, 0, none⟩), Value.int .i64 ((i : Nat) : Int)]) Try.call16 rfl (Con.eqs (val' := fun _ => Value.tuple #[Value.string s, Value.int .i64 0]) (post' := fun _ => [isDisk pp (tornD n l bits)]) (read_c W0 pp (tornD n l bits) ((i : Nat) : Int) (by simp only [tornD]; decide)) (fun _ => (by rw [hrd])) (fun _ => rfl))) (fun _ _ => ?_)
          refine Wl.imp (L' := (isDisk pp (tornD n l bits)) :: F) (fun _ h => h) ?_
          refine Wl.q (v := Value.tuple #[Value.string s, Value.int .i64 0]) (q_move rfl) ?_
          refine Wl.q (v := Value.string s) (q_extract (i := 0) rfl rfl) ?_
          refine Wl.q (v := Value.int .i64 0) (q_extract (i := 1) rfl rfl) ?_
          refine Wl.q (v := Value.string s) (q_assign rfl) ?_
          refine Wl.q (v := Value.int .i64 0) (q_assign rfl) ?_
          refine Wl.done ?_
          refine Wx.go ?_
          refine Wc.seq ?_
          refine Wc.seq ?_
          refine Wc.region ?_
          refine Wl.q (v := Value.int .i64 0) (q_move rfl) ?_
          refine Wl.q (v := Value.bool false) (q_neq (r := true) rfl rfl (decide_eq_true (by decide))) ?_
          refine Wl.q (v := Value.bool false) (q_move rfl) ?_
          refine Wl.q (v := Value.string s) (q_move rfl) ?_
          refine Wl.q (v := Value.int .i64 ((s.size : Nat) : Int)) (q_len_str Try.underlying9 rfl) ?_
          refine Wl.q (v := Value.bool false) (q_neq (r := true) rfl rfl (decide_eq_true (by rw [hs64]; rfl))) ?_
          refine Wl.q (v := Value.bool false) (q_pick (t := false) rfl rfl) ?_
          refine Wl.done ?_
          refine Wx.go ?_
          refine Wc.no rfl ?_
          refine Wc.skip ?_
          refine Wx.go ?_
          refine Wc.seq ?_
          refine Wc.drawsS [2] ((isDisk pp (tornD n l bits)) :: []) (by kernel_rfl) ?_
          refine Wr.pure (v := Value.string s) 0 rfl (by kernel_rfl) (.inr (fun _ h => st_take [0] h)) (.inl ⟨rfl, fun _ => q_move rfl⟩) ?_
          refine Wr.pure (v := Value.string (s.extract 0 32)) 1 rfl (by kernel_rfl) (.inr (fun _ h => st_take [0] h)) (.inl ⟨rfl, fun _ => q_slice_str (l := 0) (h := 32) Try.underlying9 rfl rfl ⟨_, rfl⟩ (by omega) (by omega) rfl⟩) ?_
          refine Wr.e 2 (by kernel_rfl) rfl (e_call (F := (isDisk pp (tornD n l bits)) :: F) (args := []) Try.call17 rfl (noughts_c W0)) (.inl (by kernel_rfl)) (fun _ _ => ?_)
          refine Wr.imp (L' := (isDisk pp (tornD n l bits)) :: F) (fun _ h => h) ?_
          refine Wr.rebaseS [] ((isDisk pp (tornD n l bits)) :: []) (by kernel_rfl) ?_
          refine Wr.pure (v := Value.string (noughts.extract 0 32)) 3 rfl (by kernel_rfl) (.inr (fun _ h => st_take [0] h)) (.inl ⟨rfl, fun _ => q_slice_str (l := 0) (h := 32) Try.underlying9 rfl rfl ⟨_, rfl⟩ (by omega) (by rw [noughts_size]; omega) rfl⟩) ?_
          by_cases hLo0 : (s.extract 0 32) = (noughts.extract 0 32)
          ·
            refine Wr.pure (v := Value.bool true) 4 rfl (by kernel_rfl) (.inr (fun _ h => st_take [0] h)) (.inl ⟨rfl, fun _ => q_eql_str (r := true) rfl rfl (text_true hLo0)⟩) ?_
            refine Wr.pure (v := Value.bool true) 5 rfl (by kernel_rfl) (.inr (fun _ h => st_take [0] h)) (.inl ⟨rfl, fun _ => q_assign rfl⟩) ?_
            refine Wr.done (by kernel_rfl) ?_
            refine Wx.go ?_
            refine Wc.seq ?_
            refine Wc.drawsS [2] ((isDisk pp (tornD n l bits)) :: []) (by kernel_rfl) ?_
            refine Wr.pure (v := Value.string s) 0 rfl (by kernel_rfl) (.inr (fun _ h => st_take [0] h)) (.inl ⟨rfl, fun _ => q_move rfl⟩) ?_
            refine Wr.pure (v := Value.string (s.extract 32 s.size)) 1 rfl (by kernel_rfl) (.inr (fun _ h => st_take [0] h)) (.inl ⟨rfl, fun _ => q_slice_str (l := 32) (h := s.size) Try.underlying9 rfl ⟨_, rfl⟩ rfl (by omega) (by omega) rfl⟩) ?_
            refine Wr.e 2 (by kernel_rfl) rfl (e_call (F := (isDisk pp (tornD n l bits)) :: F) (args := []) Try.call17 rfl (noughts_c W0)) (.inl (by kernel_rfl)) (fun _ _ => ?_)
            refine Wr.imp (L' := (isDisk pp (tornD n l bits)) :: F) (fun _ h => h) ?_
            refine Wr.rebaseS [] ((isDisk pp (tornD n l bits)) :: []) (by kernel_rfl) ?_
            refine Wr.pure (v := Value.string (noughts.extract 32 noughts.size)) 3 rfl (by kernel_rfl) (.inr (fun _ h => st_take [0] h)) (.inl ⟨rfl, fun _ => q_slice_str (l := 32) (h := noughts.size) Try.underlying9 rfl ⟨_, rfl⟩ rfl (by rw [noughts_size]; omega) (by omega) rfl⟩) ?_
            by_cases hHi0 : (s.extract 32 s.size) = (noughts.extract 32 noughts.size)
            ·
              refine Wr.pure (v := Value.bool true) 4 rfl (by kernel_rfl) (.inr (fun _ h => st_take [0] h)) (.inl ⟨rfl, fun _ => q_eql_str (r := true) rfl rfl (text_true hHi0)⟩) ?_
              refine Wr.pure (v := Value.bool true) 5 rfl (by kernel_rfl) (.inr (fun _ h => st_take [0] h)) (.inl ⟨rfl, fun _ => q_assign rfl⟩) ?_
              refine Wr.done (by kernel_rfl) ?_
              refine Wx.go ?_
              refine Wc.seq ?_
              refine Wc.seq ?_
              refine Wc.region ?_
              refine Wl.q (v := Value.int .i64 0) (q_assign rfl) ?_
              refine Wl.done ?_
              refine Wx.go ?_
              refine Wc.block ?_
              refine Wc.loop (X := Nat × Bool × Bool) (fun (k, a, b) E => E 15 = Value.int .i64 ((k : Nat) : Int) ∧ E 13 = Value.bool a ∧ E 14 = Value.bool b ∧ E 0 = Value.int .i64 ((n : Nat) : Int) ∧ E 1 = vl ∧ E 7 = Value.pointer (some ⟨pp, 0, none⟩) ∧ E 10 = Value.int .i64 ((i : Nat) : Int) ∧ E 11 = Value.string s ∧ (a = true ↔ Half lo s i (l.take k)) ∧ (b = true ↔ Half hi s i (l.take k)) ∧ k ≤ l.length) (fun (k, a, b) => (isDisk pp (tornD n l bits)) :: F) (fun (k, a, b) => l.length - k) (0, true, true) ?_ ?_ ?_
              · exact ⟨rfl, rfl, rfl, hE0_3, hE1_3, hE7_3, hE10_3, rfl, (Half.atNought hLo0), (Half.atNought hHi0), (by omega)⟩
              · exact fun w hs => hs
              · rintro ⟨k, a, b⟩ E7 ⟨hE15_5, hE13_5, hE14_5, hE0_5, hE1_5, hE7_5, hE10_5, hE11_5, hpa, hpb, hp0⟩
                dsimp only at *
                rcases a with _ | _ <;> rcases b with _ | _
                ·
                  refine Wc.seq ?_
                  refine Wc.seq ?_
                  refine Wc.region ?_
                  refine Wl.q (v := Value.int .i64 ((k : Nat) : Int)) (q_move hE15_5) ?_
                  refine Wl.q (v := vl) (q_move hE1_5) ?_
                  refine Wl.q (v := Value.int .i64 ((l.length : Nat) : Int)) (q_len_is Try.underlying22 rfl hl.shape) ?_
                  by_cases hklt : ((k : Nat) : Int) < ((l.length : Nat) : Int)
                  ·
                    obtain ⟨q, hget⟩ : ∃ q, l[k]? = some q := ⟨l[k]'(by omega), by simp [List.getElem?_eq_getElem (show k < l.length by omega)]⟩
                    refine Wl.q (v := Value.bool true) (q_lss (r := true) rfl rfl (decide_eq_true hklt)) ?_
                    refine Wl.done ?_
                    refine Wx.go ?_
                    refine Wc.yes rfl ?_
                    refine Wc.skip ?_
                    refine Wx.go ?_
                    refine Wc.seq ?_
                    refine Wc.block ?_
                    refine Wc.seq ?_
                    refine Wc.region ?_
                    refine Wl.q (v := vl) (q_move hE1_5) ?_
                    refine Wl.q (v := Value.int .i64 ((k : Nat) : Int)) (q_move hE15_5) ?_
                    refine Wl.q (v := Value.pointer (some ⟨(rb vl), ro vl + k * 2, none⟩)) (q_idx_is (m := ro vl + k * 2) se_22 rfl (hl.some_ (by omega)) rfl (by omega) (by omega) rfl) ?_
                    refine Wl.q (v := Value.pointer (some ⟨(rb vl), ro vl + k * 2, none⟩)) (q_field (m := ro vl + k * 2) fo_31_0 rfl rfl) ?_
                    refine Wl.q (v := Value.int .i64 q.1) (q_load sc_3 rfl (.old ((rdW hl hget).1))) ?_
                    refine Wl.q (v := Value.int .i64 ((i : Nat) : Int)) (q_move hE10_5) ?_
                    by_cases hAt : q.1 = ((i : Nat) : Int)
                    ·
                      refine Wl.q (v := Value.bool true) (q_eql (r := true) rfl rfl (decide_eq_true hAt)) ?_
                      refine Wl.q (v := Value.bool true) (q_move rfl) ?_
                      refine Wl.q (v := vl) (q_move hE1_5) ?_
                      refine Wl.q (v := Value.int .i64 ((k : Nat) : Int)) (q_move hE15_5) ?_
                      refine Wl.q (v := Value.pointer (some ⟨(rb vl), ro vl + k * 2, none⟩)) (q_idx_is (m := ro vl + k * 2) se_22 rfl (hl.some_ (by omega)) rfl (by omega) (by omega) rfl) ?_
                      refine Wl.q (v := Value.pointer (some ⟨(rb vl), ro vl + k * 2 + 1, none⟩)) (q_field (m := ro vl + k * 2 + 1) fo_31_1 rfl rfl) ?_
                      refine Wl.q (v := Value.string q.2) (q_load sc_9 rfl (.old ((rdW hl hget).2))) ?_
                      refine Wl.q (v := Value.int .i64 ((q.2.size : Nat) : Int)) (q_len_str Try.underlying9 rfl) ?_
                      by_cases hSz : ((q.2.size : Nat) : Int) = 64
                      ·
                        refine Wl.q (v := Value.bool true) (q_eql (r := true) rfl rfl (decide_eq_true hSz)) ?_
                        refine Wl.q (v := Value.bool true) (q_pick (t := true) rfl rfl) ?_
                        refine Wl.done ?_
                        refine Wx.go ?_
                        refine Wc.yes rfl ?_
                        refine Wc.seq ?_
                        refine Wc.drawsS [] ((isDisk pp (tornD n l bits)) :: []) (by kernel_rfl) ?_
                        refine Wr.pure (v := Value.bool false) 0 rfl (by kernel_rfl) (.inr (fun _ h => st_take [0] h)) (.inl ⟨rfl, fun _ => q_move hE13_5⟩) ?_
                        refine Wr.pure (v := Value.bool false) 1 rfl (by kernel_rfl) (.inr (fun _ h => st_take [0] h)) (.inl ⟨rfl, fun _ => q_move rfl⟩) ?_
                        refine Wr.pure (v := Value.string s) 2 rfl (by kernel_rfl) (.inr (fun _ h => st_take [0] h)) (.inl ⟨rfl, fun _ => q_move hE11_5⟩) ?_
                        refine Wr.pure (v := Value.string (s.extract 0 32)) 3 rfl (by kernel_rfl) (.inr (fun _ h => st_take [0] h)) (.inl ⟨rfl, fun _ => q_slice_str (l := 0) (h := 32) Try.underlying9 rfl rfl ⟨_, rfl⟩ (by omega) (by omega) rfl⟩) ?_
                        refine Wr.pure (v := vl) 4 rfl (by kernel_rfl) (.inr (fun _ h => st_take [0] h)) (.inl ⟨rfl, fun _ => q_move hE1_5⟩) ?_
                        refine Wr.pure (v := Value.int .i64 ((k : Nat) : Int)) 5 rfl (by kernel_rfl) (.inr (fun _ h => st_take [0] h)) (.inl ⟨rfl, fun _ => q_move hE15_5⟩) ?_
                        refine Wr.pure (v := Value.pointer (some ⟨(rb vl), ro vl + k * 2, none⟩)) 6 rfl (by kernel_rfl) (.inr (fun _ h => st_take [0] h)) (.inl ⟨rfl, fun _ => q_idx_is (m := ro vl + k * 2) se_22 rfl (hl.some_ (by omega)) rfl (by omega) (by omega) rfl⟩) ?_
                        refine Wr.pure (v := Value.pointer (some ⟨(rb vl), ro vl + k * 2 + 1, none⟩)) 7 rfl (by kernel_rfl) (.inr (fun _ h => st_take [0] h)) (.inl ⟨rfl, fun _ => q_field (m := ro vl + k * 2 + 1) fo_31_1 rfl rfl⟩) ?_
                        refine Wr.take (v := Value.string q.2) 8 rfl (by kernel_rfl) (fun _ h => st_take [0] h) (.inl ⟨rfl, q_load sc_9 rfl (.old ((rdW hl hget).2))⟩) ?_
                        refine Wr.pure (v := Value.string (q.2.extract 0 32)) 9 rfl (by kernel_rfl) (.inr (fun _ h => st_take [0] h)) (.inl ⟨rfl, fun _ => q_slice_str (l := 0) (h := 32) Try.underlying9 rfl rfl ⟨_, rfl⟩ (by omega) (by omega) rfl⟩) ?_
                        by_cases hLo : (s.extract 0 32) = (q.2.extract 0 32)
                        ·
                          refine Wr.pure (v := Value.bool true) 10 rfl (by kernel_rfl) (.inr (fun _ h => st_take [0] h)) (.inl ⟨rfl, fun _ => q_eql_str (r := true) rfl rfl (text_true hLo)⟩) ?_
                          refine Wr.pure (v := Value.bool true) 11 rfl (by kernel_rfl) (.inr (fun _ h => st_take [0] h)) (.inl ⟨rfl, fun _ => q_pick (t := false) rfl rfl⟩) ?_
                          refine Wr.pure (v := Value.bool true) 12 rfl (by kernel_rfl) (.inr (fun _ h => st_take [0] h)) (.inl ⟨rfl, fun _ => q_assign rfl⟩) ?_
                          refine Wr.done (by kernel_rfl) ?_
                          refine Wx.go ?_
                          refine Wc.drawsS [] ((isDisk pp (tornD n l bits)) :: []) (by kernel_rfl) ?_
                          refine Wr.pure (v := Value.bool false) 0 rfl (by kernel_rfl) (.inr (fun _ h => st_take [0] h)) (.inl ⟨rfl, fun _ => q_move hE14_5⟩) ?_
                          refine Wr.pure (v := Value.bool false) 1 rfl (by kernel_rfl) (.inr (fun _ h => st_take [0] h)) (.inl ⟨rfl, fun _ => q_move rfl⟩) ?_
                          refine Wr.pure (v := Value.string s) 2 rfl (by kernel_rfl) (.inr (fun _ h => st_take [0] h)) (.inl ⟨rfl, fun _ => q_move hE11_5⟩) ?_
                          refine Wr.pure (v := Value.string (s.extract 32 s.size)) 3 rfl (by kernel_rfl) (.inr (fun _ h => st_take [0] h)) (.inl ⟨rfl, fun _ => q_slice_str (l := 32) (h := s.size) Try.underlying9 rfl ⟨_, rfl⟩ rfl (by omega) (by omega) rfl⟩) ?_
                          refine Wr.pure (v := vl) 4 rfl (by kernel_rfl) (.inr (fun _ h => st_take [0] h)) (.inl ⟨rfl, fun _ => q_move hE1_5⟩) ?_
                          refine Wr.pure (v := Value.int .i64 ((k : Nat) : Int)) 5 rfl (by kernel_rfl) (.inr (fun _ h => st_take [0] h)) (.inl ⟨rfl, fun _ => q_move hE15_5⟩) ?_
                          refine Wr.pure (v := Value.pointer (some ⟨(rb vl), ro vl + k * 2, none⟩)) 6 rfl (by kernel_rfl) (.inr (fun _ h => st_take [0] h)) (.inl ⟨rfl, fun _ => q_idx_is (m := ro vl + k * 2) se_22 rfl (hl.some_ (by omega)) rfl (by omega) (by omega) rfl⟩) ?_
                          refine Wr.pure (v := Value.pointer (some ⟨(rb vl), ro vl + k * 2 + 1, none⟩)) 7 rfl (by kernel_rfl) (.inr (fun _ h => st_take [0] h)) (.inl ⟨rfl, fun _ => q_field (m := ro vl + k * 2 + 1) fo_31_1 rfl rfl⟩) ?_
                          refine Wr.take (v := Value.string q.2) 8 rfl (by kernel_rfl) (fun _ h => st_take [0] h) (.inl ⟨rfl, q_load sc_9 rfl (.old ((rdW hl hget).2))⟩) ?_
                          refine Wr.pure (v := Value.string (q.2.extract 32 q.2.size)) 9 rfl (by kernel_rfl) (.inr (fun _ h => st_take [0] h)) (.inl ⟨rfl, fun _ => q_slice_str (l := 32) (h := q.2.size) Try.underlying9 rfl ⟨_, rfl⟩ rfl (by omega) (by omega) rfl⟩) ?_
                          by_cases hHi : (s.extract 32 s.size) = (q.2.extract 32 q.2.size)
                          ·
                            refine Wr.pure (v := Value.bool true) 10 rfl (by kernel_rfl) (.inr (fun _ h => st_take [0] h)) (.inl ⟨rfl, fun _ => q_eql_str (r := true) rfl rfl (text_true hHi)⟩) ?_
                            refine Wr.pure (v := Value.bool true) 11 rfl (by kernel_rfl) (.inr (fun _ h => st_take [0] h)) (.inl ⟨rfl, fun _ => q_pick (t := false) rfl rfl⟩) ?_
                            refine Wr.pure (v := Value.bool true) 12 rfl (by kernel_rfl) (.inr (fun _ h => st_take [0] h)) (.inl ⟨rfl, fun _ => q_assign rfl⟩) ?_
                            refine Wr.done (by kernel_rfl) ?_
                            refine Wx.blockEnd ?_
                            refine Wx.go ?_
                            refine Wc.region ?_
                            refine Wl.q (v := Value.int .i64 ((k : Nat) : Int)) (q_move hE15_5) ?_
                            refine Wl.q (v := Value.int .i64 ((k + 1 : Nat) : Int)) (q_add (c := ((k + 1 : Nat) : Int)) rfl rfl (by rw [wrap_i64] <;> omega)) ?_
                            refine Wl.q (v := Value.int .i64 ((k + 1 : Nat) : Int)) (q_assign rfl) ?_
                            refine Wl.done ?_
                            refine Wx.at (k + 1, true, true) ⟨(by simp only; omega), rfl, rfl, rfl, hE0_5, hE1_5, hE7_5, hE10_5, hE11_5, (Half.new hget hAt hSz hLo), (Half.new hget hAt hSz hHi), (by omega)⟩ (fun w hs => hs)
                          ·
                            refine Wr.pure (v := Value.bool false) 10 rfl (by kernel_rfl) (.inr (fun _ h => st_take [0] h)) (.inl ⟨rfl, fun _ => q_eql_str (r := false) rfl rfl (text_false hHi)⟩) ?_
                            refine Wr.pure (v := Value.bool false) 11 rfl (by kernel_rfl) (.inr (fun _ h => st_take [0] h)) (.inl ⟨rfl, fun _ => q_pick (t := false) rfl rfl⟩) ?_
                            refine Wr.pure (v := Value.bool false) 12 rfl (by kernel_rfl) (.inr (fun _ h => st_take [0] h)) (.inl ⟨rfl, fun _ => q_assign rfl⟩) ?_
                            refine Wr.done (by kernel_rfl) ?_
                            refine Wx.blockEnd ?_
                            refine Wx.go ?_
                            refine Wc.region ?_
                            refine Wl.q (v := Value.int .i64 ((k : Nat) : Int)) (q_move hE15_5) ?_
                            refine Wl.q (v := Value.int .i64 ((k + 1 : Nat) : Int)) (q_add (c := ((k + 1 : Nat) : Int)) rfl rfl (by rw [wrap_i64] <;> omega)) ?_
                            refine Wl.q (v := Value.int .i64 ((k + 1 : Nat) : Int)) (q_assign rfl) ?_
                            refine Wl.done ?_
                            refine Wx.at (k + 1, true, false) ⟨(by simp only; omega), rfl, rfl, rfl, hE0_5, hE1_5, hE7_5, hE10_5, hE11_5, (Half.new hget hAt hSz hLo), (Half.none hget hpb (fun e => hHi e.2.2)), (by omega)⟩ (fun w hs => hs)
                        ·
                          refine Wr.pure (v := Value.bool false) 10 rfl (by kernel_rfl) (.inr (fun _ h => st_take [0] h)) (.inl ⟨rfl, fun _ => q_eql_str (r := false) rfl rfl (text_false hLo)⟩) ?_
                          refine Wr.pure (v := Value.bool false) 11 rfl (by kernel_rfl) (.inr (fun _ h => st_take [0] h)) (.inl ⟨rfl, fun _ => q_pick (t := false) rfl rfl⟩) ?_
                          refine Wr.pure (v := Value.bool false) 12 rfl (by kernel_rfl) (.inr (fun _ h => st_take [0] h)) (.inl ⟨rfl, fun _ => q_assign rfl⟩) ?_
                          refine Wr.done (by kernel_rfl) ?_
                          refine Wx.go ?_
                          refine Wc.drawsS [] ((isDisk pp (tornD n l bits)) :: []) (by kernel_rfl) ?_
                          refine Wr.pure (v := Value.bool false) 0 rfl (by kernel_rfl) (.inr (fun _ h => st_take [0] h)) (.inl ⟨rfl, fun _ => q_move hE14_5⟩) ?_
                          refine Wr.pure (v := Value.bool false) 1 rfl (by kernel_rfl) (.inr (fun _ h => st_take [0] h)) (.inl ⟨rfl, fun _ => q_move rfl⟩) ?_
                          refine Wr.pure (v := Value.string s) 2 rfl (by kernel_rfl) (.inr (fun _ h => st_take [0] h)) (.inl ⟨rfl, fun _ => q_move hE11_5⟩) ?_
                          refine Wr.pure (v := Value.string (s.extract 32 s.size)) 3 rfl (by kernel_rfl) (.inr (fun _ h => st_take [0] h)) (.inl ⟨rfl, fun _ => q_slice_str (l := 32) (h := s.size) Try.underlying9 rfl ⟨_, rfl⟩ rfl (by omega) (by omega) rfl⟩) ?_
                          refine Wr.pure (v := vl) 4 rfl (by kernel_rfl) (.inr (fun _ h => st_take [0] h)) (.inl ⟨rfl, fun _ => q_move hE1_5⟩) ?_
                          refine Wr.pure (v := Value.int .i64 ((k : Nat) : Int)) 5 rfl (by kernel_rfl) (.inr (fun _ h => st_take [0] h)) (.inl ⟨rfl, fun _ => q_move hE15_5⟩) ?_
                          refine Wr.pure (v := Value.pointer (some ⟨(rb vl), ro vl + k * 2, none⟩)) 6 rfl (by kernel_rfl) (.inr (fun _ h => st_take [0] h)) (.inl ⟨rfl, fun _ => q_idx_is (m := ro vl + k * 2) se_22 rfl (hl.some_ (by omega)) rfl (by omega) (by omega) rfl⟩) ?_
                          refine Wr.pure (v := Value.pointer (some ⟨(rb vl), ro vl + k * 2 + 1, none⟩)) 7 rfl (by kernel_rfl) (.inr (fun _ h => st_take [0] h)) (.inl ⟨rfl, fun _ => q_field (m := ro vl + k * 2 + 1) fo_31_1 rfl rfl⟩) ?_
                          refine Wr.take (v := Value.string q.2) 8 rfl (by kernel_rfl) (fun _ h => st_take [0] h) (.inl ⟨rfl, q_load sc_9 rfl (.old ((rdW hl hget).2))⟩) ?_
                          refine Wr.pure (v := Value.string (q.2.extract 32 q.2.size)) 9 rfl (by kernel_rfl) (.inr (fun _ h => st_take [0] h)) (.inl ⟨rfl, fun _ => q_slice_str (l := 32) (h := q.2.size) Try.underlying9 rfl ⟨_, rfl⟩ rfl (by omega) (by omega) rfl⟩) ?_
                          by_cases hHi : (s.extract 32 s.size) = (q.2.extract 32 q.2.size)
                          ·
                            refine Wr.pure (v := Value.bool true) 10 rfl (by kernel_rfl) (.inr (fun _ h => st_take [0] h)) (.inl ⟨rfl, fun _ => q_eql_str (r := true) rfl rfl (text_true hHi)⟩) ?_
                            refine Wr.pure (v := Value.bool true) 11 rfl (by kernel_rfl) (.inr (fun _ h => st_take [0] h)) (.inl ⟨rfl, fun _ => q_pick (t := false) rfl rfl⟩) ?_
                            refine Wr.pure (v := Value.bool true) 12 rfl (by kernel_rfl) (.inr (fun _ h => st_take [0] h)) (.inl ⟨rfl, fun _ => q_assign rfl⟩) ?_
                            refine Wr.done (by kernel_rfl) ?_
                            refine Wx.blockEnd ?_
                            refine Wx.go ?_
                            refine Wc.region ?_
                            refine Wl.q (v := Value.int .i64 ((k : Nat) : Int)) (q_move hE15_5) ?_
                            refine Wl.q (v := Value.int .i64 ((k + 1 : Nat) : Int)) (q_add (c := ((k + 1 : Nat) : Int)) rfl rfl (by rw [wrap_i64] <;> omega)) ?_
                            refine Wl.q (v := Value.int .i64 ((k + 1 : Nat) : Int)) (q_assign rfl) ?_
                            refine Wl.done ?_
                            refine Wx.at (k + 1, false, true) ⟨(by simp only; omega), rfl, rfl, rfl, hE0_5, hE1_5, hE7_5, hE10_5, hE11_5, (Half.none hget hpa (fun e => hLo e.2.2)), (Half.new hget hAt hSz hHi), (by omega)⟩ (fun w hs => hs)
                          ·
                            refine Wr.pure (v := Value.bool false) 10 rfl (by kernel_rfl) (.inr (fun _ h => st_take [0] h)) (.inl ⟨rfl, fun _ => q_eql_str (r := false) rfl rfl (text_false hHi)⟩) ?_
                            refine Wr.pure (v := Value.bool false) 11 rfl (by kernel_rfl) (.inr (fun _ h => st_take [0] h)) (.inl ⟨rfl, fun _ => q_pick (t := false) rfl rfl⟩) ?_
                            refine Wr.pure (v := Value.bool false) 12 rfl (by kernel_rfl) (.inr (fun _ h => st_take [0] h)) (.inl ⟨rfl, fun _ => q_assign rfl⟩) ?_
                            refine Wr.done (by kernel_rfl) ?_
                            refine Wx.blockEnd ?_
                            refine Wx.go ?_
                            refine Wc.region ?_
                            refine Wl.q (v := Value.int .i64 ((k : Nat) : Int)) (q_move hE15_5) ?_
                            refine Wl.q (v := Value.int .i64 ((k + 1 : Nat) : Int)) (q_add (c := ((k + 1 : Nat) : Int)) rfl rfl (by rw [wrap_i64] <;> omega)) ?_
                            refine Wl.q (v := Value.int .i64 ((k + 1 : Nat) : Int)) (q_assign rfl) ?_
                            refine Wl.done ?_
                            refine Wx.at (k + 1, false, false) ⟨(by simp only; omega), rfl, rfl, rfl, hE0_5, hE1_5, hE7_5, hE10_5, hE11_5, (Half.none hget hpa (fun e => hLo e.2.2)), (Half.none hget hpb (fun e => hHi e.2.2)), (by omega)⟩ (fun w hs => hs)
                      ·
                        refine Wl.q (v := Value.bool false) (q_eql (r := false) rfl rfl (decide_eq_false hSz)) ?_
                        refine Wl.q (v := Value.bool false) (q_pick (t := true) rfl rfl) ?_
                        refine Wl.done ?_
                        refine Wx.go ?_
                        refine Wc.no rfl ?_
                        refine Wc.skip ?_
                        refine Wx.blockEnd ?_
                        refine Wx.go ?_
                        refine Wc.region ?_
                        refine Wl.q (v := Value.int .i64 ((k : Nat) : Int)) (q_move hE15_5) ?_
                        refine Wl.q (v := Value.int .i64 ((k + 1 : Nat) : Int)) (q_add (c := ((k + 1 : Nat) : Int)) rfl rfl (by rw [wrap_i64] <;> omega)) ?_
                        refine Wl.q (v := Value.int .i64 ((k + 1 : Nat) : Int)) (q_assign rfl) ?_
                        refine Wl.done ?_
                        refine Wx.at (k + 1, false, false) ⟨(by simp only; omega), rfl, hE13_5, hE14_5, hE0_5, hE1_5, hE7_5, hE10_5, hE11_5, (Half.none hget hpa (fun e => hSz e.2.1)), (Half.none hget hpb (fun e => hSz e.2.1)), (by omega)⟩ (fun w hs => hs)
                    ·
                      refine Wl.q (v := Value.bool false) (q_eql (r := false) rfl rfl (decide_eq_false hAt)) ?_
                      refine Wl.q (v := Value.bool false) (q_move rfl) ?_
                      refine Wl.no ?_
                      refine Wl.no ?_
                      refine Wl.no ?_
                      refine Wl.no ?_
                      refine Wl.no ?_
                      refine Wl.no ?_
                      refine Wl.no ?_
                      refine Wl.q (v := Value.bool false) (q_pick (t := false) rfl rfl) ?_
                      refine Wl.done ?_
                      refine Wx.go ?_
                      refine Wc.no rfl ?_
                      refine Wc.skip ?_
                      refine Wx.blockEnd ?_
                      refine Wx.go ?_
                      refine Wc.region ?_
                      refine Wl.q (v := Value.int .i64 ((k : Nat) : Int)) (q_move hE15_5) ?_
                      refine Wl.q (v := Value.int .i64 ((k + 1 : Nat) : Int)) (q_add (c := ((k + 1 : Nat) : Int)) rfl rfl (by rw [wrap_i64] <;> omega)) ?_
                      refine Wl.q (v := Value.int .i64 ((k + 1 : Nat) : Int)) (q_assign rfl) ?_
                      refine Wl.done ?_
                      refine Wx.at (k + 1, false, false) ⟨(by simp only; omega), rfl, hE13_5, hE14_5, hE0_5, hE1_5, hE7_5, hE10_5, hE11_5, (Half.none hget hpa (fun e => hAt e.1)), (Half.none hget hpb (fun e => hAt e.1)), (by omega)⟩ (fun w hs => hs)
                  ·
                    have hend2 : k = l.length := by omega
                    refine Wl.q (v := Value.bool false) (q_lss (r := false) rfl rfl (decide_eq_false hklt)) ?_
                    refine Wl.done ?_
                    refine Wx.go ?_
                    refine Wc.no rfl ?_
                    refine Wc.exit ?_
                    refine Wx.thenExit ?_
                    refine Wx.thenExit ?_
                    refine Wx.out ?_
                    refine Wx.go ?_
                    refine Wc.seq ?_
                    refine Wc.region ?_
                    refine Wl.q (v := Value.bool false) (q_move hE13_5) ?_
                    refine Wl.q (v := Value.bool true) (q_not rfl rfl) ?_
                    refine Wl.q (v := Value.bool true) (q_move rfl) ?_
                    refine Wl.no ?_
                    refine Wl.no ?_
                    refine Wl.q (v := Value.bool true) (q_pick (t := true) rfl rfl) ?_
                    refine Wl.done ?_
                    refine Wx.go ?_
                    refine Wc.yes rfl ?_
                    refine Wc.seq ?_
                    refine Wc.region ?_
                    refine Wl.q (v := Value.bool false) (q_assign rfl) ?_
                    refine Wl.done ?_
                    refine Wx.go ?_
                    refine Wc.ret ?_
                    refine Wx.blockRet ?_
                    refine Wx.thenRet ?_
                    refine Wx.thenRet ?_
                    refine Wx.blockRet ?_
                    refine Wx.thenRet ?_
                    refine Wx.fin1 rfl (.inl rfl) (fun w hs => ?_)
                    exfalso
                    rw [hend2, List.take_length] at hpa hpb
                    cases hpa.2 hta
                ·
                  refine Wc.seq ?_
                  refine Wc.seq ?_
                  refine Wc.region ?_
                  refine Wl.q (v := Value.int .i64 ((k : Nat) : Int)) (q_move hE15_5) ?_
                  refine Wl.q (v := vl) (q_move hE1_5) ?_
                  refine Wl.q (v := Value.int .i64 ((l.length : Nat) : Int)) (q_len_is Try.underlying22 rfl hl.shape) ?_
                  by_cases hklt : ((k : Nat) : Int) < ((l.length : Nat) : Int)
                  ·
                    obtain ⟨q, hget⟩ : ∃ q, l[k]? = some q := ⟨l[k]'(by omega), by simp [List.getElem?_eq_getElem (show k < l.length by omega)]⟩
                    refine Wl.q (v := Value.bool true) (q_lss (r := true) rfl rfl (decide_eq_true hklt)) ?_
                    refine Wl.done ?_
                    refine Wx.go ?_
                    refine Wc.yes rfl ?_
                    refine Wc.skip ?_
                    refine Wx.go ?_
                    refine Wc.seq ?_
                    refine Wc.block ?_
                    refine Wc.seq ?_
                    refine Wc.region ?_
                    refine Wl.q (v := vl) (q_move hE1_5) ?_
                    refine Wl.q (v := Value.int .i64 ((k : Nat) : Int)) (q_move hE15_5) ?_
                    refine Wl.q (v := Value.pointer (some ⟨(rb vl), ro vl + k * 2, none⟩)) (q_idx_is (m := ro vl + k * 2) se_22 rfl (hl.some_ (by omega)) rfl (by omega) (by omega) rfl) ?_
                    refine Wl.q (v := Value.pointer (some ⟨(rb vl), ro vl + k * 2, none⟩)) (q_field (m := ro vl + k * 2) fo_31_0 rfl rfl) ?_
                    refine Wl.q (v := Value.int .i64 q.1) (q_load sc_3 rfl (.old ((rdW hl hget).1))) ?_
                    refine Wl.q (v := Value.int .i64 ((i : Nat) : Int)) (q_move hE10_5) ?_
                    by_cases hAt : q.1 = ((i : Nat) : Int)
                    ·
                      refine Wl.q (v := Value.bool true) (q_eql (r := true) rfl rfl (decide_eq_true hAt)) ?_
                      refine Wl.q (v := Value.bool true) (q_move rfl) ?_
                      refine Wl.q (v := vl) (q_move hE1_5) ?_
                      refine Wl.q (v := Value.int .i64 ((k : Nat) : Int)) (q_move hE15_5) ?_
                      refine Wl.q (v := Value.pointer (some ⟨(rb vl), ro vl + k * 2, none⟩)) (q_idx_is (m := ro vl + k * 2) se_22 rfl (hl.some_ (by omega)) rfl (by omega) (by omega) rfl) ?_
                      refine Wl.q (v := Value.pointer (some ⟨(rb vl), ro vl + k * 2 + 1, none⟩)) (q_field (m := ro vl + k * 2 + 1) fo_31_1 rfl rfl) ?_
                      refine Wl.q (v := Value.string q.2) (q_load sc_9 rfl (.old ((rdW hl hget).2))) ?_
                      refine Wl.q (v := Value.int .i64 ((q.2.size : Nat) : Int)) (q_len_str Try.underlying9 rfl) ?_
                      by_cases hSz : ((q.2.size : Nat) : Int) = 64
                      ·
                        refine Wl.q (v := Value.bool true) (q_eql (r := true) rfl rfl (decide_eq_true hSz)) ?_
                        refine Wl.q (v := Value.bool true) (q_pick (t := true) rfl rfl) ?_
                        refine Wl.done ?_
                        refine Wx.go ?_
                        refine Wc.yes rfl ?_
                        refine Wc.seq ?_
                        refine Wc.drawsS [] ((isDisk pp (tornD n l bits)) :: []) (by kernel_rfl) ?_
                        refine Wr.pure (v := Value.bool false) 0 rfl (by kernel_rfl) (.inr (fun _ h => st_take [0] h)) (.inl ⟨rfl, fun _ => q_move hE13_5⟩) ?_
                        refine Wr.pure (v := Value.bool false) 1 rfl (by kernel_rfl) (.inr (fun _ h => st_take [0] h)) (.inl ⟨rfl, fun _ => q_move rfl⟩) ?_
                        refine Wr.pure (v := Value.string s) 2 rfl (by kernel_rfl) (.inr (fun _ h => st_take [0] h)) (.inl ⟨rfl, fun _ => q_move hE11_5⟩) ?_
                        refine Wr.pure (v := Value.string (s.extract 0 32)) 3 rfl (by kernel_rfl) (.inr (fun _ h => st_take [0] h)) (.inl ⟨rfl, fun _ => q_slice_str (l := 0) (h := 32) Try.underlying9 rfl rfl ⟨_, rfl⟩ (by omega) (by omega) rfl⟩) ?_
                        refine Wr.pure (v := vl) 4 rfl (by kernel_rfl) (.inr (fun _ h => st_take [0] h)) (.inl ⟨rfl, fun _ => q_move hE1_5⟩) ?_
                        refine Wr.pure (v := Value.int .i64 ((k : Nat) : Int)) 5 rfl (by kernel_rfl) (.inr (fun _ h => st_take [0] h)) (.inl ⟨rfl, fun _ => q_move hE15_5⟩) ?_
                        refine Wr.pure (v := Value.pointer (some ⟨(rb vl), ro vl + k * 2, none⟩)) 6 rfl (by kernel_rfl) (.inr (fun _ h => st_take [0] h)) (.inl ⟨rfl, fun _ => q_idx_is (m := ro vl + k * 2) se_22 rfl (hl.some_ (by omega)) rfl (by omega) (by omega) rfl⟩) ?_
                        refine Wr.pure (v := Value.pointer (some ⟨(rb vl), ro vl + k * 2 + 1, none⟩)) 7 rfl (by kernel_rfl) (.inr (fun _ h => st_take [0] h)) (.inl ⟨rfl, fun _ => q_field (m := ro vl + k * 2 + 1) fo_31_1 rfl rfl⟩) ?_
                        refine Wr.take (v := Value.string q.2) 8 rfl (by kernel_rfl) (fun _ h => st_take [0] h) (.inl ⟨rfl, q_load sc_9 rfl (.old ((rdW hl hget).2))⟩) ?_
                        refine Wr.pure (v := Value.string (q.2.extract 0 32)) 9 rfl (by kernel_rfl) (.inr (fun _ h => st_take [0] h)) (.inl ⟨rfl, fun _ => q_slice_str (l := 0) (h := 32) Try.underlying9 rfl rfl ⟨_, rfl⟩ (by omega) (by omega) rfl⟩) ?_
                        by_cases hLo : (s.extract 0 32) = (q.2.extract 0 32)
                        ·
                          refine Wr.pure (v := Value.bool true) 10 rfl (by kernel_rfl) (.inr (fun _ h => st_take [0] h)) (.inl ⟨rfl, fun _ => q_eql_str (r := true) rfl rfl (text_true hLo)⟩) ?_
                          refine Wr.pure (v := Value.bool true) 11 rfl (by kernel_rfl) (.inr (fun _ h => st_take [0] h)) (.inl ⟨rfl, fun _ => q_pick (t := false) rfl rfl⟩) ?_
                          refine Wr.pure (v := Value.bool true) 12 rfl (by kernel_rfl) (.inr (fun _ h => st_take [0] h)) (.inl ⟨rfl, fun _ => q_assign rfl⟩) ?_
                          refine Wr.done (by kernel_rfl) ?_
                          refine Wx.go ?_
                          refine Wc.drawsS [] ((isDisk pp (tornD n l bits)) :: []) (by kernel_rfl) ?_
                          refine Wr.pure (v := Value.bool true) 0 rfl (by kernel_rfl) (.inr (fun _ h => st_take [0] h)) (.inl ⟨rfl, fun _ => q_move hE14_5⟩) ?_
                          refine Wr.pure (v := Value.bool true) 1 rfl (by kernel_rfl) (.inr (fun _ h => st_take [0] h)) (.inl ⟨rfl, fun _ => q_move rfl⟩) ?_
                          refine Wr.pure (v := undef) 2 rfl (by kernel_rfl) (.inr (fun _ h => st_take [0] h)) (.inr ⟨rfl, rfl⟩) ?_
                          refine Wr.pure (v := undef) 3 rfl (by kernel_rfl) (.inr (fun _ h => st_take [0] h)) (.inr ⟨rfl, rfl⟩) ?_
                          refine Wr.pure (v := undef) 4 rfl (by kernel_rfl) (.inr (fun _ h => st_take [0] h)) (.inr ⟨rfl, rfl⟩) ?_
                          refine Wr.pure (v := undef) 5 rfl (by kernel_rfl) (.inr (fun _ h => st_take [0] h)) (.inr ⟨rfl, rfl⟩) ?_
                          refine Wr.pure (v := undef) 6 rfl (by kernel_rfl) (.inr (fun _ h => st_take [0] h)) (.inr ⟨rfl, rfl⟩) ?_
                          refine Wr.pure (v := undef) 7 rfl (by kernel_rfl) (.inr (fun _ h => st_take [0] h)) (.inr ⟨rfl, rfl⟩) ?_
                          refine Wr.pure (v := undef) 8 rfl (by kernel_rfl) (.inr (fun _ h => st_take [0] h)) (.inr ⟨rfl, rfl⟩) ?_
                          refine Wr.pure (v := undef) 9 rfl (by kernel_rfl) (.inr (fun _ h => st_take [0] h)) (.inr ⟨rfl, rfl⟩) ?_
                          refine Wr.pure (v := undef) 10 rfl (by kernel_rfl) (.inr (fun _ h => st_take [0] h)) (.inr ⟨rfl, rfl⟩) ?_
                          refine Wr.pure (v := Value.bool true) 11 rfl (by kernel_rfl) (.inr (fun _ h => st_take [0] h)) (.inl ⟨rfl, fun _ => q_pick (t := true) rfl rfl⟩) ?_
                          refine Wr.pure (v := Value.bool true) 12 rfl (by kernel_rfl) (.inr (fun _ h => st_take [0] h)) (.inl ⟨rfl, fun _ => q_assign rfl⟩) ?_
                          refine Wr.done (by kernel_rfl) ?_
                          refine Wx.blockEnd ?_
                          refine Wx.go ?_
                          refine Wc.region ?_
                          refine Wl.q (v := Value.int .i64 ((k : Nat) : Int)) (q_move hE15_5) ?_
                          refine Wl.q (v := Value.int .i64 ((k + 1 : Nat) : Int)) (q_add (c := ((k + 1 : Nat) : Int)) rfl rfl (by rw [wrap_i64] <;> omega)) ?_
                          refine Wl.q (v := Value.int .i64 ((k + 1 : Nat) : Int)) (q_assign rfl) ?_
                          refine Wl.done ?_
                          refine Wx.at (k + 1, true, true) ⟨(by simp only; omega), rfl, rfl, rfl, hE0_5, hE1_5, hE7_5, hE10_5, hE11_5, (Half.new hget hAt hSz hLo), (Half.old hget hpb), (by omega)⟩ (fun w hs => hs)
                        ·
                          refine Wr.pure (v := Value.bool false) 10 rfl (by kernel_rfl) (.inr (fun _ h => st_take [0] h)) (.inl ⟨rfl, fun _ => q_eql_str (r := false) rfl rfl (text_false hLo)⟩) ?_
                          refine Wr.pure (v := Value.bool false) 11 rfl (by kernel_rfl) (.inr (fun _ h => st_take [0] h)) (.inl ⟨rfl, fun _ => q_pick (t := false) rfl rfl⟩) ?_
                          refine Wr.pure (v := Value.bool false) 12 rfl (by kernel_rfl) (.inr (fun _ h => st_take [0] h)) (.inl ⟨rfl, fun _ => q_assign rfl⟩) ?_
                          refine Wr.done (by kernel_rfl) ?_
                          refine Wx.go ?_
                          refine Wc.drawsS [] ((isDisk pp (tornD n l bits)) :: []) (by kernel_rfl) ?_
                          refine Wr.pure (v := Value.bool true) 0 rfl (by kernel_rfl) (.inr (fun _ h => st_take [0] h)) (.inl ⟨rfl, fun _ => q_move hE14_5⟩) ?_
                          refine Wr.pure (v := Value.bool true) 1 rfl (by kernel_rfl) (.inr (fun _ h => st_take [0] h)) (.inl ⟨rfl, fun _ => q_move rfl⟩) ?_
                          refine Wr.pure (v := undef) 2 rfl (by kernel_rfl) (.inr (fun _ h => st_take [0] h)) (.inr ⟨rfl, rfl⟩) ?_
                          refine Wr.pure (v := undef) 3 rfl (by kernel_rfl) (.inr (fun _ h => st_take [0] h)) (.inr ⟨rfl, rfl⟩) ?_
                          refine Wr.pure (v := undef) 4 rfl (by kernel_rfl) (.inr (fun _ h => st_take [0] h)) (.inr ⟨rfl, rfl⟩) ?_
                          refine Wr.pure (v := undef) 5 rfl (by kernel_rfl) (.inr (fun _ h => st_take [0] h)) (.inr ⟨rfl, rfl⟩) ?_
                          refine Wr.pure (v := undef) 6 rfl (by kernel_rfl) (.inr (fun _ h => st_take [0] h)) (.inr ⟨rfl, rfl⟩) ?_
                          refine Wr.pure (v := undef) 7 rfl (by kernel_rfl) (.inr (fun _ h => st_take [0] h)) (.inr ⟨rfl, rfl⟩) ?_
                          refine Wr.pure (v := undef) 8 rfl (by kernel_rfl) (.inr (fun _ h => st_take [0] h)) (.inr ⟨rfl, rfl⟩) ?_
                          refine Wr.pure (v := undef) 9 rfl (by kernel_rfl) (.inr (fun _ h => st_take [0] h)) (.inr ⟨rfl, rfl⟩) ?_
                          refine Wr.pure (v := undef) 10 rfl (by kernel_rfl) (.inr (fun _ h => st_take [0] h)) (.inr ⟨rfl, rfl⟩) ?_
                          refine Wr.pure (v := Value.bool true) 11 rfl (by kernel_rfl) (.inr (fun _ h => st_take [0] h)) (.inl ⟨rfl, fun _ => q_pick (t := true) rfl rfl⟩) ?_
                          refine Wr.pure (v := Value.bool true) 12 rfl (by kernel_rfl) (.inr (fun _ h => st_take [0] h)) (.inl ⟨rfl, fun _ => q_assign rfl⟩) ?_
                          refine Wr.done (by kernel_rfl) ?_
                          refine Wx.blockEnd ?_
                          refine Wx.go ?_
                          refine Wc.region ?_
                          refine Wl.q (v := Value.int .i64 ((k : Nat) : Int)) (q_move hE15_5) ?_
                          refine Wl.q (v := Value.int .i64 ((k + 1 : Nat) : Int)) (q_add (c := ((k + 1 : Nat) : Int)) rfl rfl (by rw [wrap_i64] <;> omega)) ?_
                          refine Wl.q (v := Value.int .i64 ((k + 1 : Nat) : Int)) (q_assign rfl) ?_
                          refine Wl.done ?_
                          refine Wx.at (k + 1, false, true) ⟨(by simp only; omega), rfl, rfl, rfl, hE0_5, hE1_5, hE7_5, hE10_5, hE11_5, (Half.none hget hpa (fun e => hLo e.2.2)), (Half.old hget hpb), (by omega)⟩ (fun w hs => hs)
                      ·
                        refine Wl.q (v := Value.bool false) (q_eql (r := false) rfl rfl (decide_eq_false hSz)) ?_
                        refine Wl.q (v := Value.bool false) (q_pick (t := true) rfl rfl) ?_
                        refine Wl.done ?_
                        refine Wx.go ?_
                        refine Wc.no rfl ?_
                        refine Wc.skip ?_
                        refine Wx.blockEnd ?_
                        refine Wx.go ?_
                        refine Wc.region ?_
                        refine Wl.q (v := Value.int .i64 ((k : Nat) : Int)) (q_move hE15_5) ?_
                        refine Wl.q (v := Value.int .i64 ((k + 1 : Nat) : Int)) (q_add (c := ((k + 1 : Nat) : Int)) rfl rfl (by rw [wrap_i64] <;> omega)) ?_
                        refine Wl.q (v := Value.int .i64 ((k + 1 : Nat) : Int)) (q_assign rfl) ?_
                        refine Wl.done ?_
                        refine Wx.at (k + 1, false, true) ⟨(by simp only; omega), rfl, hE13_5, hE14_5, hE0_5, hE1_5, hE7_5, hE10_5, hE11_5, (Half.none hget hpa (fun e => hSz e.2.1)), (Half.old hget hpb), (by omega)⟩ (fun w hs => hs)
                    ·
                      refine Wl.q (v := Value.bool false) (q_eql (r := false) rfl rfl (decide_eq_false hAt)) ?_
                      refine Wl.q (v := Value.bool false) (q_move rfl) ?_
                      refine Wl.no ?_
                      refine Wl.no ?_
                      refine Wl.no ?_
                      refine Wl.no ?_
                      refine Wl.no ?_
                      refine Wl.no ?_
                      refine Wl.no ?_
                      refine Wl.q (v := Value.bool false) (q_pick (t := false) rfl rfl) ?_
                      refine Wl.done ?_
                      refine Wx.go ?_
                      refine Wc.no rfl ?_
                      refine Wc.skip ?_
                      refine Wx.blockEnd ?_
                      refine Wx.go ?_
                      refine Wc.region ?_
                      refine Wl.q (v := Value.int .i64 ((k : Nat) : Int)) (q_move hE15_5) ?_
                      refine Wl.q (v := Value.int .i64 ((k + 1 : Nat) : Int)) (q_add (c := ((k + 1 : Nat) : Int)) rfl rfl (by rw [wrap_i64] <;> omega)) ?_
                      refine Wl.q (v := Value.int .i64 ((k + 1 : Nat) : Int)) (q_assign rfl) ?_
                      refine Wl.done ?_
                      refine Wx.at (k + 1, false, true) ⟨(by simp only; omega), rfl, hE13_5, hE14_5, hE0_5, hE1_5, hE7_5, hE10_5, hE11_5, (Half.none hget hpa (fun e => hAt e.1)), (Half.old hget hpb), (by omega)⟩ (fun w hs => hs)
                  ·
                    have hend2 : k = l.length := by omega
                    refine Wl.q (v := Value.bool false) (q_lss (r := false) rfl rfl (decide_eq_false hklt)) ?_
                    refine Wl.done ?_
                    refine Wx.go ?_
                    refine Wc.no rfl ?_
                    refine Wc.exit ?_
                    refine Wx.thenExit ?_
                    refine Wx.thenExit ?_
                    refine Wx.out ?_
                    refine Wx.go ?_
                    refine Wc.seq ?_
                    refine Wc.region ?_
                    refine Wl.q (v := Value.bool false) (q_move hE13_5) ?_
                    refine Wl.q (v := Value.bool true) (q_not rfl rfl) ?_
                    refine Wl.q (v := Value.bool true) (q_move rfl) ?_
                    refine Wl.no ?_
                    refine Wl.no ?_
                    refine Wl.q (v := Value.bool true) (q_pick (t := true) rfl rfl) ?_
                    refine Wl.done ?_
                    refine Wx.go ?_
                    refine Wc.yes rfl ?_
                    refine Wc.seq ?_
                    refine Wc.region ?_
                    refine Wl.q (v := Value.bool false) (q_assign rfl) ?_
                    refine Wl.done ?_
                    refine Wx.go ?_
                    refine Wc.ret ?_
                    refine Wx.blockRet ?_
                    refine Wx.thenRet ?_
                    refine Wx.thenRet ?_
                    refine Wx.blockRet ?_
                    refine Wx.thenRet ?_
                    refine Wx.fin1 rfl (.inl rfl) (fun w hs => ?_)
                    exfalso
                    rw [hend2, List.take_length] at hpa hpb
                    cases hpa.2 hta
                ·
                  refine Wc.seq ?_
                  refine Wc.seq ?_
                  refine Wc.region ?_
                  refine Wl.q (v := Value.int .i64 ((k : Nat) : Int)) (q_move hE15_5) ?_
                  refine Wl.q (v := vl) (q_move hE1_5) ?_
                  refine Wl.q (v := Value.int .i64 ((l.length : Nat) : Int)) (q_len_is Try.underlying22 rfl hl.shape) ?_
                  by_cases hklt : ((k : Nat) : Int) < ((l.length : Nat) : Int)
                  ·
                    obtain ⟨q, hget⟩ : ∃ q, l[k]? = some q := ⟨l[k]'(by omega), by simp [List.getElem?_eq_getElem (show k < l.length by omega)]⟩
                    refine Wl.q (v := Value.bool true) (q_lss (r := true) rfl rfl (decide_eq_true hklt)) ?_
                    refine Wl.done ?_
                    refine Wx.go ?_
                    refine Wc.yes rfl ?_
                    refine Wc.skip ?_
                    refine Wx.go ?_
                    refine Wc.seq ?_
                    refine Wc.block ?_
                    refine Wc.seq ?_
                    refine Wc.region ?_
                    refine Wl.q (v := vl) (q_move hE1_5) ?_
                    refine Wl.q (v := Value.int .i64 ((k : Nat) : Int)) (q_move hE15_5) ?_
                    refine Wl.q (v := Value.pointer (some ⟨(rb vl), ro vl + k * 2, none⟩)) (q_idx_is (m := ro vl + k * 2) se_22 rfl (hl.some_ (by omega)) rfl (by omega) (by omega) rfl) ?_
                    refine Wl.q (v := Value.pointer (some ⟨(rb vl), ro vl + k * 2, none⟩)) (q_field (m := ro vl + k * 2) fo_31_0 rfl rfl) ?_
                    refine Wl.q (v := Value.int .i64 q.1) (q_load sc_3 rfl (.old ((rdW hl hget).1))) ?_
                    refine Wl.q (v := Value.int .i64 ((i : Nat) : Int)) (q_move hE10_5) ?_
                    by_cases hAt : q.1 = ((i : Nat) : Int)
                    ·
                      refine Wl.q (v := Value.bool true) (q_eql (r := true) rfl rfl (decide_eq_true hAt)) ?_
                      refine Wl.q (v := Value.bool true) (q_move rfl) ?_
                      refine Wl.q (v := vl) (q_move hE1_5) ?_
                      refine Wl.q (v := Value.int .i64 ((k : Nat) : Int)) (q_move hE15_5) ?_
                      refine Wl.q (v := Value.pointer (some ⟨(rb vl), ro vl + k * 2, none⟩)) (q_idx_is (m := ro vl + k * 2) se_22 rfl (hl.some_ (by omega)) rfl (by omega) (by omega) rfl) ?_
                      refine Wl.q (v := Value.pointer (some ⟨(rb vl), ro vl + k * 2 + 1, none⟩)) (q_field (m := ro vl + k * 2 + 1) fo_31_1 rfl rfl) ?_
                      refine Wl.q (v := Value.string q.2) (q_load sc_9 rfl (.old ((rdW hl hget).2))) ?_
                      refine Wl.q (v := Value.int .i64 ((q.2.size : Nat) : Int)) (q_len_str Try.underlying9 rfl) ?_
                      by_cases hSz : ((q.2.size : Nat) : Int) = 64
                      ·
                        refine Wl.q (v := Value.bool true) (q_eql (r := true) rfl rfl (decide_eq_true hSz)) ?_
                        refine Wl.q (v := Value.bool true) (q_pick (t := true) rfl rfl) ?_
                        refine Wl.done ?_
                        refine Wx.go ?_
                        refine Wc.yes rfl ?_
                        refine Wc.seq ?_
                        refine Wc.drawsS [] ((isDisk pp (tornD n l bits)) :: []) (by kernel_rfl) ?_
                        refine Wr.pure (v := Value.bool true) 0 rfl (by kernel_rfl) (.inr (fun _ h => st_take [0] h)) (.inl ⟨rfl, fun _ => q_move hE13_5⟩) ?_
                        refine Wr.pure (v := Value.bool true) 1 rfl (by kernel_rfl) (.inr (fun _ h => st_take [0] h)) (.inl ⟨rfl, fun _ => q_move rfl⟩) ?_
                        refine Wr.pure (v := undef) 2 rfl (by kernel_rfl) (.inr (fun _ h => st_take [0] h)) (.inr ⟨rfl, rfl⟩) ?_
                        refine Wr.pure (v := undef) 3 rfl (by kernel_rfl) (.inr (fun _ h => st_take [0] h)) (.inr ⟨rfl, rfl⟩) ?_
                        refine Wr.pure (v := undef) 4 rfl (by kernel_rfl) (.inr (fun _ h => st_take [0] h)) (.inr ⟨rfl, rfl⟩) ?_
                        refine Wr.pure (v := undef) 5 rfl (by kernel_rfl) (.inr (fun _ h => st_take [0] h)) (.inr ⟨rfl, rfl⟩) ?_
                        refine Wr.pure (v := undef) 6 rfl (by kernel_rfl) (.inr (fun _ h => st_take [0] h)) (.inr ⟨rfl, rfl⟩) ?_
                        refine Wr.pure (v := undef) 7 rfl (by kernel_rfl) (.inr (fun _ h => st_take [0] h)) (.inr ⟨rfl, rfl⟩) ?_
                        refine Wr.pure (v := undef) 8 rfl (by kernel_rfl) (.inr (fun _ h => st_take [0] h)) (.inr ⟨rfl, rfl⟩) ?_
                        refine Wr.pure (v := undef) 9 rfl (by kernel_rfl) (.inr (fun _ h => st_take [0] h)) (.inr ⟨rfl, rfl⟩) ?_
                        refine Wr.pure (v := undef) 10 rfl (by kernel_rfl) (.inr (fun _ h => st_take [0] h)) (.inr ⟨rfl, rfl⟩) ?_
                        refine Wr.pure (v := Value.bool true) 11 rfl (by kernel_rfl) (.inr (fun _ h => st_take [0] h)) (.inl ⟨rfl, fun _ => q_pick (t := true) rfl rfl⟩) ?_
                        refine Wr.pure (v := Value.bool true) 12 rfl (by kernel_rfl) (.inr (fun _ h => st_take [0] h)) (.inl ⟨rfl, fun _ => q_assign rfl⟩) ?_
                        refine Wr.done (by kernel_rfl) ?_
                        refine Wx.go ?_
                        refine Wc.drawsS [] ((isDisk pp (tornD n l bits)) :: []) (by kernel_rfl) ?_
                        refine Wr.pure (v := Value.bool false) 0 rfl (by kernel_rfl) (.inr (fun _ h => st_take [0] h)) (.inl ⟨rfl, fun _ => q_move hE14_5⟩) ?_
                        refine Wr.pure (v := Value.bool false) 1 rfl (by kernel_rfl) (.inr (fun _ h => st_take [0] h)) (.inl ⟨rfl, fun _ => q_move rfl⟩) ?_
                        refine Wr.pure (v := Value.string s) 2 rfl (by kernel_rfl) (.inr (fun _ h => st_take [0] h)) (.inl ⟨rfl, fun _ => q_move hE11_5⟩) ?_
                        refine Wr.pure (v := Value.string (s.extract 32 s.size)) 3 rfl (by kernel_rfl) (.inr (fun _ h => st_take [0] h)) (.inl ⟨rfl, fun _ => q_slice_str (l := 32) (h := s.size) Try.underlying9 rfl ⟨_, rfl⟩ rfl (by omega) (by omega) rfl⟩) ?_
                        refine Wr.pure (v := vl) 4 rfl (by kernel_rfl) (.inr (fun _ h => st_take [0] h)) (.inl ⟨rfl, fun _ => q_move hE1_5⟩) ?_
                        refine Wr.pure (v := Value.int .i64 ((k : Nat) : Int)) 5 rfl (by kernel_rfl) (.inr (fun _ h => st_take [0] h)) (.inl ⟨rfl, fun _ => q_move hE15_5⟩) ?_
                        refine Wr.pure (v := Value.pointer (some ⟨(rb vl), ro vl + k * 2, none⟩)) 6 rfl (by kernel_rfl) (.inr (fun _ h => st_take [0] h)) (.inl ⟨rfl, fun _ => q_idx_is (m := ro vl + k * 2) se_22 rfl (hl.some_ (by omega)) rfl (by omega) (by omega) rfl⟩) ?_
                        refine Wr.pure (v := Value.pointer (some ⟨(rb vl), ro vl + k * 2 + 1, none⟩)) 7 rfl (by kernel_rfl) (.inr (fun _ h => st_take [0] h)) (.inl ⟨rfl, fun _ => q_field (m := ro vl + k * 2 + 1) fo_31_1 rfl rfl⟩) ?_
                        refine Wr.take (v := Value.string q.2) 8 rfl (by kernel_rfl) (fun _ h => st_take [0] h) (.inl ⟨rfl, q_load sc_9 rfl (.old ((rdW hl hget).2))⟩) ?_
                        refine Wr.pure (v := Value.string (q.2.extract 32 q.2.size)) 9 rfl (by kernel_rfl) (.inr (fun _ h => st_take [0] h)) (.inl ⟨rfl, fun _ => q_slice_str (l := 32) (h := q.2.size) Try.underlying9 rfl ⟨_, rfl⟩ rfl (by omega) (by omega) rfl⟩) ?_
                        by_cases hHi : (s.extract 32 s.size) = (q.2.extract 32 q.2.size)
                        ·
                          refine Wr.pure (v := Value.bool true) 10 rfl (by kernel_rfl) (.inr (fun _ h => st_take [0] h)) (.inl ⟨rfl, fun _ => q_eql_str (r := true) rfl rfl (text_true hHi)⟩) ?_
                          refine Wr.pure (v := Value.bool true) 11 rfl (by kernel_rfl) (.inr (fun _ h => st_take [0] h)) (.inl ⟨rfl, fun _ => q_pick (t := false) rfl rfl⟩) ?_
                          refine Wr.pure (v := Value.bool true) 12 rfl (by kernel_rfl) (.inr (fun _ h => st_take [0] h)) (.inl ⟨rfl, fun _ => q_assign rfl⟩) ?_
                          refine Wr.done (by kernel_rfl) ?_
                          refine Wx.blockEnd ?_
                          refine Wx.go ?_
                          refine Wc.region ?_
                          refine Wl.q (v := Value.int .i64 ((k : Nat) : Int)) (q_move hE15_5) ?_
                          refine Wl.q (v := Value.int .i64 ((k + 1 : Nat) : Int)) (q_add (c := ((k + 1 : Nat) : Int)) rfl rfl (by rw [wrap_i64] <;> omega)) ?_
                          refine Wl.q (v := Value.int .i64 ((k + 1 : Nat) : Int)) (q_assign rfl) ?_
                          refine Wl.done ?_
                          refine Wx.at (k + 1, true, true) ⟨(by simp only; omega), rfl, rfl, rfl, hE0_5, hE1_5, hE7_5, hE10_5, hE11_5, (Half.old hget hpa), (Half.new hget hAt hSz hHi), (by omega)⟩ (fun w hs => hs)
                        ·
                          refine Wr.pure (v := Value.bool false) 10 rfl (by kernel_rfl) (.inr (fun _ h => st_take [0] h)) (.inl ⟨rfl, fun _ => q_eql_str (r := false) rfl rfl (text_false hHi)⟩) ?_
                          refine Wr.pure (v := Value.bool false) 11 rfl (by kernel_rfl) (.inr (fun _ h => st_take [0] h)) (.inl ⟨rfl, fun _ => q_pick (t := false) rfl rfl⟩) ?_
                          refine Wr.pure (v := Value.bool false) 12 rfl (by kernel_rfl) (.inr (fun _ h => st_take [0] h)) (.inl ⟨rfl, fun _ => q_assign rfl⟩) ?_
                          refine Wr.done (by kernel_rfl) ?_
                          refine Wx.blockEnd ?_
                          refine Wx.go ?_
                          refine Wc.region ?_
                          refine Wl.q (v := Value.int .i64 ((k : Nat) : Int)) (q_move hE15_5) ?_
                          refine Wl.q (v := Value.int .i64 ((k + 1 : Nat) : Int)) (q_add (c := ((k + 1 : Nat) : Int)) rfl rfl (by rw [wrap_i64] <;> omega)) ?_
                          refine Wl.q (v := Value.int .i64 ((k + 1 : Nat) : Int)) (q_assign rfl) ?_
                          refine Wl.done ?_
                          refine Wx.at (k + 1, true, false) ⟨(by simp only; omega), rfl, rfl, rfl, hE0_5, hE1_5, hE7_5, hE10_5, hE11_5, (Half.old hget hpa), (Half.none hget hpb (fun e => hHi e.2.2)), (by omega)⟩ (fun w hs => hs)
                      ·
                        refine Wl.q (v := Value.bool false) (q_eql (r := false) rfl rfl (decide_eq_false hSz)) ?_
                        refine Wl.q (v := Value.bool false) (q_pick (t := true) rfl rfl) ?_
                        refine Wl.done ?_
                        refine Wx.go ?_
                        refine Wc.no rfl ?_
                        refine Wc.skip ?_
                        refine Wx.blockEnd ?_
                        refine Wx.go ?_
                        refine Wc.region ?_
                        refine Wl.q (v := Value.int .i64 ((k : Nat) : Int)) (q_move hE15_5) ?_
                        refine Wl.q (v := Value.int .i64 ((k + 1 : Nat) : Int)) (q_add (c := ((k + 1 : Nat) : Int)) rfl rfl (by rw [wrap_i64] <;> omega)) ?_
                        refine Wl.q (v := Value.int .i64 ((k + 1 : Nat) : Int)) (q_assign rfl) ?_
                        refine Wl.done ?_
                        refine Wx.at (k + 1, true, false) ⟨(by simp only; omega), rfl, hE13_5, hE14_5, hE0_5, hE1_5, hE7_5, hE10_5, hE11_5, (Half.old hget hpa), (Half.none hget hpb (fun e => hSz e.2.1)), (by omega)⟩ (fun w hs => hs)
                    ·
                      refine Wl.q (v := Value.bool false) (q_eql (r := false) rfl rfl (decide_eq_false hAt)) ?_
                      refine Wl.q (v := Value.bool false) (q_move rfl) ?_
                      refine Wl.no ?_
                      refine Wl.no ?_
                      refine Wl.no ?_
                      refine Wl.no ?_
                      refine Wl.no ?_
                      refine Wl.no ?_
                      refine Wl.no ?_
                      refine Wl.q (v := Value.bool false) (q_pick (t := false) rfl rfl) ?_
                      refine Wl.done ?_
                      refine Wx.go ?_
                      refine Wc.no rfl ?_
                      refine Wc.skip ?_
                      refine Wx.blockEnd ?_
                      refine Wx.go ?_
                      refine Wc.region ?_
                      refine Wl.q (v := Value.int .i64 ((k : Nat) : Int)) (q_move hE15_5) ?_
                      refine Wl.q (v := Value.int .i64 ((k + 1 : Nat) : Int)) (q_add (c := ((k + 1 : Nat) : Int)) rfl rfl (by rw [wrap_i64] <;> omega)) ?_
                      refine Wl.q (v := Value.int .i64 ((k + 1 : Nat) : Int)) (q_assign rfl) ?_
                      refine Wl.done ?_
                      refine Wx.at (k + 1, true, false) ⟨(by simp only; omega), rfl, hE13_5, hE14_5, hE0_5, hE1_5, hE7_5, hE10_5, hE11_5, (Half.old hget hpa), (Half.none hget hpb (fun e => hAt e.1)), (by omega)⟩ (fun w hs => hs)
                  ·
                    have hend2 : k = l.length := by omega
                    refine Wl.q (v := Value.bool false) (q_lss (r := false) rfl rfl (decide_eq_false hklt)) ?_
                    refine Wl.done ?_
                    refine Wx.go ?_
                    refine Wc.no rfl ?_
                    refine Wc.exit ?_
                    refine Wx.thenExit ?_
                    refine Wx.thenExit ?_
                    refine Wx.out ?_
                    refine Wx.go ?_
                    refine Wc.seq ?_
                    refine Wc.region ?_
                    refine Wl.q (v := Value.bool true) (q_move hE13_5) ?_
                    refine Wl.q (v := Value.bool false) (q_not rfl rfl) ?_
                    refine Wl.q (v := Value.bool false) (q_move rfl) ?_
                    refine Wl.q (v := Value.bool false) (q_move hE14_5) ?_
                    refine Wl.q (v := Value.bool true) (q_not rfl rfl) ?_
                    refine Wl.q (v := Value.bool true) (q_pick (t := false) rfl rfl) ?_
                    refine Wl.done ?_
                    refine Wx.go ?_
                    refine Wc.yes rfl ?_
                    refine Wc.seq ?_
                    refine Wc.region ?_
                    refine Wl.q (v := Value.bool false) (q_assign rfl) ?_
                    refine Wl.done ?_
                    refine Wx.go ?_
                    refine Wc.ret ?_
                    refine Wx.blockRet ?_
                    refine Wx.thenRet ?_
                    refine Wx.thenRet ?_
                    refine Wx.blockRet ?_
                    refine Wx.thenRet ?_
                    refine Wx.fin1 rfl (.inl rfl) (fun w hs => ?_)
                    exfalso
                    rw [hend2, List.take_length] at hpa hpb
                    cases hpb.2 htb
                ·
                  refine Wc.seq ?_
                  refine Wc.seq ?_
                  refine Wc.region ?_
                  refine Wl.q (v := Value.int .i64 ((k : Nat) : Int)) (q_move hE15_5) ?_
                  refine Wl.q (v := vl) (q_move hE1_5) ?_
                  refine Wl.q (v := Value.int .i64 ((l.length : Nat) : Int)) (q_len_is Try.underlying22 rfl hl.shape) ?_
                  by_cases hklt : ((k : Nat) : Int) < ((l.length : Nat) : Int)
                  ·
                    obtain ⟨q, hget⟩ : ∃ q, l[k]? = some q := ⟨l[k]'(by omega), by simp [List.getElem?_eq_getElem (show k < l.length by omega)]⟩
                    refine Wl.q (v := Value.bool true) (q_lss (r := true) rfl rfl (decide_eq_true hklt)) ?_
                    refine Wl.done ?_
                    refine Wx.go ?_
                    refine Wc.yes rfl ?_
                    refine Wc.skip ?_
                    refine Wx.go ?_
                    refine Wc.seq ?_
                    refine Wc.block ?_
                    refine Wc.seq ?_
                    refine Wc.region ?_
                    refine Wl.q (v := vl) (q_move hE1_5) ?_
                    refine Wl.q (v := Value.int .i64 ((k : Nat) : Int)) (q_move hE15_5) ?_
                    refine Wl.q (v := Value.pointer (some ⟨(rb vl), ro vl + k * 2, none⟩)) (q_idx_is (m := ro vl + k * 2) se_22 rfl (hl.some_ (by omega)) rfl (by omega) (by omega) rfl) ?_
                    refine Wl.q (v := Value.pointer (some ⟨(rb vl), ro vl + k * 2, none⟩)) (q_field (m := ro vl + k * 2) fo_31_0 rfl rfl) ?_
                    refine Wl.q (v := Value.int .i64 q.1) (q_load sc_3 rfl (.old ((rdW hl hget).1))) ?_
                    refine Wl.q (v := Value.int .i64 ((i : Nat) : Int)) (q_move hE10_5) ?_
                    by_cases hAt : q.1 = ((i : Nat) : Int)
                    ·
                      refine Wl.q (v := Value.bool true) (q_eql (r := true) rfl rfl (decide_eq_true hAt)) ?_
                      refine Wl.q (v := Value.bool true) (q_move rfl) ?_
                      refine Wl.q (v := vl) (q_move hE1_5) ?_
                      refine Wl.q (v := Value.int .i64 ((k : Nat) : Int)) (q_move hE15_5) ?_
                      refine Wl.q (v := Value.pointer (some ⟨(rb vl), ro vl + k * 2, none⟩)) (q_idx_is (m := ro vl + k * 2) se_22 rfl (hl.some_ (by omega)) rfl (by omega) (by omega) rfl) ?_
                      refine Wl.q (v := Value.pointer (some ⟨(rb vl), ro vl + k * 2 + 1, none⟩)) (q_field (m := ro vl + k * 2 + 1) fo_31_1 rfl rfl) ?_
                      refine Wl.q (v := Value.string q.2) (q_load sc_9 rfl (.old ((rdW hl hget).2))) ?_
                      refine Wl.q (v := Value.int .i64 ((q.2.size : Nat) : Int)) (q_len_str Try.underlying9 rfl) ?_
                      by_cases hSz : ((q.2.size : Nat) : Int) = 64
                      ·
                        refine Wl.q (v := Value.bool true) (q_eql (r := true) rfl rfl (decide_eq_true hSz)) ?_
                        refine Wl.q (v := Value.bool true) (q_pick (t := true) rfl rfl) ?_
                        refine Wl.done ?_
                        refine Wx.go ?_
                        refine Wc.yes rfl ?_
                        refine Wc.seq ?_
                        refine Wc.drawsS [] ((isDisk pp (tornD n l bits)) :: []) (by kernel_rfl) ?_
                        refine Wr.pure (v := Value.bool true) 0 rfl (by kernel_rfl) (.inr (fun _ h => st_take [0] h)) (.inl ⟨rfl, fun _ => q_move hE13_5⟩) ?_
                        refine Wr.pure (v := Value.bool true) 1 rfl (by kernel_rfl) (.inr (fun _ h => st_take [0] h)) (.inl ⟨rfl, fun _ => q_move rfl⟩) ?_
                        refine Wr.pure (v := undef) 2 rfl (by kernel_rfl) (.inr (fun _ h => st_take [0] h)) (.inr ⟨rfl, rfl⟩) ?_
                        refine Wr.pure (v := undef) 3 rfl (by kernel_rfl) (.inr (fun _ h => st_take [0] h)) (.inr ⟨rfl, rfl⟩) ?_
                        refine Wr.pure (v := undef) 4 rfl (by kernel_rfl) (.inr (fun _ h => st_take [0] h)) (.inr ⟨rfl, rfl⟩) ?_
                        refine Wr.pure (v := undef) 5 rfl (by kernel_rfl) (.inr (fun _ h => st_take [0] h)) (.inr ⟨rfl, rfl⟩) ?_
                        refine Wr.pure (v := undef) 6 rfl (by kernel_rfl) (.inr (fun _ h => st_take [0] h)) (.inr ⟨rfl, rfl⟩) ?_
                        refine Wr.pure (v := undef) 7 rfl (by kernel_rfl) (.inr (fun _ h => st_take [0] h)) (.inr ⟨rfl, rfl⟩) ?_
                        refine Wr.pure (v := undef) 8 rfl (by kernel_rfl) (.inr (fun _ h => st_take [0] h)) (.inr ⟨rfl, rfl⟩) ?_
                        refine Wr.pure (v := undef) 9 rfl (by kernel_rfl) (.inr (fun _ h => st_take [0] h)) (.inr ⟨rfl, rfl⟩) ?_
                        refine Wr.pure (v := undef) 10 rfl (by kernel_rfl) (.inr (fun _ h => st_take [0] h)) (.inr ⟨rfl, rfl⟩) ?_
                        refine Wr.pure (v := Value.bool true) 11 rfl (by kernel_rfl) (.inr (fun _ h => st_take [0] h)) (.inl ⟨rfl, fun _ => q_pick (t := true) rfl rfl⟩) ?_
                        refine Wr.pure (v := Value.bool true) 12 rfl (by kernel_rfl) (.inr (fun _ h => st_take [0] h)) (.inl ⟨rfl, fun _ => q_assign rfl⟩) ?_
                        refine Wr.done (by kernel_rfl) ?_
                        refine Wx.go ?_
                        refine Wc.drawsS [] ((isDisk pp (tornD n l bits)) :: []) (by kernel_rfl) ?_
                        refine Wr.pure (v := Value.bool true) 0 rfl (by kernel_rfl) (.inr (fun _ h => st_take [0] h)) (.inl ⟨rfl, fun _ => q_move hE14_5⟩) ?_
                        refine Wr.pure (v := Value.bool true) 1 rfl (by kernel_rfl) (.inr (fun _ h => st_take [0] h)) (.inl ⟨rfl, fun _ => q_move rfl⟩) ?_
                        refine Wr.pure (v := undef) 2 rfl (by kernel_rfl) (.inr (fun _ h => st_take [0] h)) (.inr ⟨rfl, rfl⟩) ?_
                        refine Wr.pure (v := undef) 3 rfl (by kernel_rfl) (.inr (fun _ h => st_take [0] h)) (.inr ⟨rfl, rfl⟩) ?_
                        refine Wr.pure (v := undef) 4 rfl (by kernel_rfl) (.inr (fun _ h => st_take [0] h)) (.inr ⟨rfl, rfl⟩) ?_
                        refine Wr.pure (v := undef) 5 rfl (by kernel_rfl) (.inr (fun _ h => st_take [0] h)) (.inr ⟨rfl, rfl⟩) ?_
                        refine Wr.pure (v := undef) 6 rfl (by kernel_rfl) (.inr (fun _ h => st_take [0] h)) (.inr ⟨rfl, rfl⟩) ?_
                        refine Wr.pure (v := undef) 7 rfl (by kernel_rfl) (.inr (fun _ h => st_take [0] h)) (.inr ⟨rfl, rfl⟩) ?_
                        refine Wr.pure (v := undef) 8 rfl (by kernel_rfl) (.inr (fun _ h => st_take [0] h)) (.inr ⟨rfl, rfl⟩) ?_
                        refine Wr.pure (v := undef) 9 rfl (by kernel_rfl) (.inr (fun _ h => st_take [0] h)) (.inr ⟨rfl, rfl⟩) ?_
                        refine Wr.pure (v := undef) 10 rfl (by kernel_rfl) (.inr (fun _ h => st_take [0] h)) (.inr ⟨rfl, rfl⟩) ?_
                        refine Wr.pure (v := Value.bool true) 11 rfl (by kernel_rfl) (.inr (fun _ h => st_take [0] h)) (.inl ⟨rfl, fun _ => q_pick (t := true) rfl rfl⟩) ?_
                        refine Wr.pure (v := Value.bool true) 12 rfl (by kernel_rfl) (.inr (fun _ h => st_take [0] h)) (.inl ⟨rfl, fun _ => q_assign rfl⟩) ?_
                        refine Wr.done (by kernel_rfl) ?_
                        refine Wx.blockEnd ?_
                        refine Wx.go ?_
                        refine Wc.region ?_
                        refine Wl.q (v := Value.int .i64 ((k : Nat) : Int)) (q_move hE15_5) ?_
                        refine Wl.q (v := Value.int .i64 ((k + 1 : Nat) : Int)) (q_add (c := ((k + 1 : Nat) : Int)) rfl rfl (by rw [wrap_i64] <;> omega)) ?_
                        refine Wl.q (v := Value.int .i64 ((k + 1 : Nat) : Int)) (q_assign rfl) ?_
                        refine Wl.done ?_
                        refine Wx.at (k + 1, true, true) ⟨(by simp only; omega), rfl, rfl, rfl, hE0_5, hE1_5, hE7_5, hE10_5, hE11_5, (Half.old hget hpa), (Half.old hget hpb), (by omega)⟩ (fun w hs => hs)
                      ·
                        refine Wl.q (v := Value.bool false) (q_eql (r := false) rfl rfl (decide_eq_false hSz)) ?_
                        refine Wl.q (v := Value.bool false) (q_pick (t := true) rfl rfl) ?_
                        refine Wl.done ?_
                        refine Wx.go ?_
                        refine Wc.no rfl ?_
                        refine Wc.skip ?_
                        refine Wx.blockEnd ?_
                        refine Wx.go ?_
                        refine Wc.region ?_
                        refine Wl.q (v := Value.int .i64 ((k : Nat) : Int)) (q_move hE15_5) ?_
                        refine Wl.q (v := Value.int .i64 ((k + 1 : Nat) : Int)) (q_add (c := ((k + 1 : Nat) : Int)) rfl rfl (by rw [wrap_i64] <;> omega)) ?_
                        refine Wl.q (v := Value.int .i64 ((k + 1 : Nat) : Int)) (q_assign rfl) ?_
                        refine Wl.done ?_
                        refine Wx.at (k + 1, true, true) ⟨(by simp only; omega), rfl, hE13_5, hE14_5, hE0_5, hE1_5, hE7_5, hE10_5, hE11_5, (Half.old hget hpa), (Half.old hget hpb), (by omega)⟩ (fun w hs => hs)
                    ·
                      refine Wl.q (v := Value.bool false) (q_eql (r := false) rfl rfl (decide_eq_false hAt)) ?_
                      refine Wl.q (v := Value.bool false) (q_move rfl) ?_
                      refine Wl.no ?_
                      refine Wl.no ?_
                      refine Wl.no ?_
                      refine Wl.no ?_
                      refine Wl.no ?_
                      refine Wl.no ?_
                      refine Wl.no ?_
                      refine Wl.q (v := Value.bool false) (q_pick (t := false) rfl rfl) ?_
                      refine Wl.done ?_
                      refine Wx.go ?_
                      refine Wc.no rfl ?_
                      refine Wc.skip ?_
                      refine Wx.blockEnd ?_
                      refine Wx.go ?_
                      refine Wc.region ?_
                      refine Wl.q (v := Value.int .i64 ((k : Nat) : Int)) (q_move hE15_5) ?_
                      refine Wl.q (v := Value.int .i64 ((k + 1 : Nat) : Int)) (q_add (c := ((k + 1 : Nat) : Int)) rfl rfl (by rw [wrap_i64] <;> omega)) ?_
                      refine Wl.q (v := Value.int .i64 ((k + 1 : Nat) : Int)) (q_assign rfl) ?_
                      refine Wl.done ?_
                      refine Wx.at (k + 1, true, true) ⟨(by simp only; omega), rfl, hE13_5, hE14_5, hE0_5, hE1_5, hE7_5, hE10_5, hE11_5, (Half.old hget hpa), (Half.old hget hpb), (by omega)⟩ (fun w hs => hs)
                  ·
                    have hend2 : k = l.length := by omega
                    refine Wl.q (v := Value.bool false) (q_lss (r := false) rfl rfl (decide_eq_false hklt)) ?_
                    refine Wl.done ?_
                    refine Wx.go ?_
                    refine Wc.no rfl ?_
                    refine Wc.exit ?_
                    refine Wx.thenExit ?_
                    refine Wx.thenExit ?_
                    refine Wx.out ?_
                    refine Wx.go ?_
                    refine Wc.seq ?_
                    refine Wc.region ?_
                    refine Wl.q (v := Value.bool true) (q_move hE13_5) ?_
                    refine Wl.q (v := Value.bool false) (q_not rfl rfl) ?_
                    refine Wl.q (v := Value.bool false) (q_move rfl) ?_
                    refine Wl.q (v := Value.bool true) (q_move hE14_5) ?_
                    refine Wl.q (v := Value.bool false) (q_not rfl rfl) ?_
                    refine Wl.q (v := Value.bool false) (q_pick (t := false) rfl rfl) ?_
                    refine Wl.done ?_
                    refine Wx.go ?_
                    refine Wc.no rfl ?_
                    refine Wc.skip ?_
                    refine Wx.blockEnd ?_
                    refine Wx.go ?_
                    refine Wc.region ?_
                    refine Wl.q (v := Value.int .i64 ((i : Nat) : Int)) (q_move hE10_5) ?_
                    refine Wl.q (v := Value.int .i64 ((i + 1 : Nat) : Int)) (q_add (c := ((i + 1 : Nat) : Int)) rfl rfl (by rw [wrap_i64] <;> omega)) ?_
                    refine Wl.q (v := Value.int .i64 ((i + 1 : Nat) : Int)) (q_assign rfl) ?_
                    refine Wl.done ?_
                    refine Wx.at (i + 1) ⟨(by omega), rfl, hE0_5, hE1_5, hE7_5, (by omega)⟩ (fun w hs => hs)
            ·
              refine Wr.pure (v := Value.bool false) 4 rfl (by kernel_rfl) (.inr (fun _ h => st_take [0] h)) (.inl ⟨rfl, fun _ => q_eql_str (r := false) rfl rfl (text_false hHi0)⟩) ?_
              refine Wr.pure (v := Value.bool false) 5 rfl (by kernel_rfl) (.inr (fun _ h => st_take [0] h)) (.inl ⟨rfl, fun _ => q_assign rfl⟩) ?_
              refine Wr.done (by kernel_rfl) ?_
              refine Wx.go ?_
              refine Wc.seq ?_
              refine Wc.seq ?_
              refine Wc.region ?_
              refine Wl.q (v := Value.int .i64 0) (q_assign rfl) ?_
              refine Wl.done ?_
              refine Wx.go ?_
              refine Wc.block ?_
              refine Wc.loop (X := Nat × Bool × Bool) (fun (k, a, b) E => E 15 = Value.int .i64 ((k : Nat) : Int) ∧ E 13 = Value.bool a ∧ E 14 = Value.bool b ∧ E 0 = Value.int .i64 ((n : Nat) : Int) ∧ E 1 = vl ∧ E 7 = Value.pointer (some ⟨pp, 0, none⟩) ∧ E 10 = Value.int .i64 ((i : Nat) : Int) ∧ E 11 = Value.string s ∧ (a = true ↔ Half lo s i (l.take k)) ∧ (b = true ↔ Half hi s i (l.take k)) ∧ k ≤ l.length) (fun (k, a, b) => (isDisk pp (tornD n l bits)) :: F) (fun (k, a, b) => l.length - k) (0, true, false) ?_ ?_ ?_
              · exact ⟨rfl, rfl, rfl, hE0_3, hE1_3, hE7_3, hE10_3, rfl, (Half.atNought hLo0), (Half.atOther hHi0), (by omega)⟩
              · exact fun w hs => hs
              · rintro ⟨k, a, b⟩ E9 ⟨hE15_7, hE13_7, hE14_7, hE0_7, hE1_7, hE7_7, hE10_7, hE11_7, hpa, hpb, hp0⟩
                dsimp only at *
                rcases a with _ | _ <;> rcases b with _ | _
                ·
                  refine Wc.seq ?_
                  refine Wc.seq ?_
                  refine Wc.region ?_
                  refine Wl.q (v := Value.int .i64 ((k : Nat) : Int)) (q_move hE15_7) ?_
                  refine Wl.q (v := vl) (q_move hE1_7) ?_
                  refine Wl.q (v := Value.int .i64 ((l.length : Nat) : Int)) (q_len_is Try.underlying22 rfl hl.shape) ?_
                  by_cases hklt : ((k : Nat) : Int) < ((l.length : Nat) : Int)
                  ·
                    obtain ⟨q, hget⟩ : ∃ q, l[k]? = some q := ⟨l[k]'(by omega), by simp [List.getElem?_eq_getElem (show k < l.length by omega)]⟩
                    refine Wl.q (v := Value.bool true) (q_lss (r := true) rfl rfl (decide_eq_true hklt)) ?_
                    refine Wl.done ?_
                    refine Wx.go ?_
                    refine Wc.yes rfl ?_
                    refine Wc.skip ?_
                    refine Wx.go ?_
                    refine Wc.seq ?_
                    refine Wc.block ?_
                    refine Wc.seq ?_
                    refine Wc.region ?_
                    refine Wl.q (v := vl) (q_move hE1_7) ?_
                    refine Wl.q (v := Value.int .i64 ((k : Nat) : Int)) (q_move hE15_7) ?_
                    refine Wl.q (v := Value.pointer (some ⟨(rb vl), ro vl + k * 2, none⟩)) (q_idx_is (m := ro vl + k * 2) se_22 rfl (hl.some_ (by omega)) rfl (by omega) (by omega) rfl) ?_
                    refine Wl.q (v := Value.pointer (some ⟨(rb vl), ro vl + k * 2, none⟩)) (q_field (m := ro vl + k * 2) fo_31_0 rfl rfl) ?_
                    refine Wl.q (v := Value.int .i64 q.1) (q_load sc_3 rfl (.old ((rdW hl hget).1))) ?_
                    refine Wl.q (v := Value.int .i64 ((i : Nat) : Int)) (q_move hE10_7) ?_
                    by_cases hAt : q.1 = ((i : Nat) : Int)
                    ·
                      refine Wl.q (v := Value.bool true) (q_eql (r := true) rfl rfl (decide_eq_true hAt)) ?_
                      refine Wl.q (v := Value.bool true) (q_move rfl) ?_
                      refine Wl.q (v := vl) (q_move hE1_7) ?_
                      refine Wl.q (v := Value.int .i64 ((k : Nat) : Int)) (q_move hE15_7) ?_
                      refine Wl.q (v := Value.pointer (some ⟨(rb vl), ro vl + k * 2, none⟩)) (q_idx_is (m := ro vl + k * 2) se_22 rfl (hl.some_ (by omega)) rfl (by omega) (by omega) rfl) ?_
                      refine Wl.q (v := Value.pointer (some ⟨(rb vl), ro vl + k * 2 + 1, none⟩)) (q_field (m := ro vl + k * 2 + 1) fo_31_1 rfl rfl) ?_
                      refine Wl.q (v := Value.string q.2) (q_load sc_9 rfl (.old ((rdW hl hget).2))) ?_
                      refine Wl.q (v := Value.int .i64 ((q.2.size : Nat) : Int)) (q_len_str Try.underlying9 rfl) ?_
                      by_cases hSz : ((q.2.size : Nat) : Int) = 64
                      ·
                        refine Wl.q (v := Value.bool true) (q_eql (r := true) rfl rfl (decide_eq_true hSz)) ?_
                        refine Wl.q (v := Value.bool true) (q_pick (t := true) rfl rfl) ?_
                        refine Wl.done ?_
                        refine Wx.go ?_
                        refine Wc.yes rfl ?_
                        refine Wc.seq ?_
                        refine Wc.drawsS [] ((isDisk pp (tornD n l bits)) :: []) (by kernel_rfl) ?_
                        refine Wr.pure (v := Value.bool false) 0 rfl (by kernel_rfl) (.inr (fun _ h => st_take [0] h)) (.inl ⟨rfl, fun _ => q_move hE13_7⟩) ?_
                        refine Wr.pure (v := Value.bool false) 1 rfl (by kernel_rfl) (.inr (fun _ h => st_take [0] h)) (.inl ⟨rfl, fun _ => q_move rfl⟩) ?_
                        refine Wr.pure (v := Value.string s) 2 rfl (by kernel_rfl) (.inr (fun _ h => st_take [0] h)) (.inl ⟨rfl, fun _ => q_move hE11_7⟩) ?_
                        refine Wr.pure (v := Value.string (s.extract 0 32)) 3 rfl (by kernel_rfl) (.inr (fun _ h => st_take [0] h)) (.inl ⟨rfl, fun _ => q_slice_str (l := 0) (h := 32) Try.underlying9 rfl rfl ⟨_, rfl⟩ (by omega) (by omega) rfl⟩) ?_
                        refine Wr.pure (v := vl) 4 rfl (by kernel_rfl) (.inr (fun _ h => st_take [0] h)) (.inl ⟨rfl, fun _ => q_move hE1_7⟩) ?_
                        refine Wr.pure (v := Value.int .i64 ((k : Nat) : Int)) 5 rfl (by kernel_rfl) (.inr (fun _ h => st_take [0] h)) (.inl ⟨rfl, fun _ => q_move hE15_7⟩) ?_
                        refine Wr.pure (v := Value.pointer (some ⟨(rb vl), ro vl + k * 2, none⟩)) 6 rfl (by kernel_rfl) (.inr (fun _ h => st_take [0] h)) (.inl ⟨rfl, fun _ => q_idx_is (m := ro vl + k * 2) se_22 rfl (hl.some_ (by omega)) rfl (by omega) (by omega) rfl⟩) ?_
                        refine Wr.pure (v := Value.pointer (some ⟨(rb vl), ro vl + k * 2 + 1, none⟩)) 7 rfl (by kernel_rfl) (.inr (fun _ h => st_take [0] h)) (.inl ⟨rfl, fun _ => q_field (m := ro vl + k * 2 + 1) fo_31_1 rfl rfl⟩) ?_
                        refine Wr.take (v := Value.string q.2) 8 rfl (by kernel_rfl) (fun _ h => st_take [0] h) (.inl ⟨rfl, q_load sc_9 rfl (.old ((rdW hl hget).2))⟩) ?_
                        refine Wr.pure (v := Value.string (q.2.extract 0 32)) 9 rfl (by kernel_rfl) (.inr (fun _ h => st_take [0] h)) (.inl ⟨rfl, fun _ => q_slice_str (l := 0) (h := 32) Try.underlying9 rfl rfl ⟨_, rfl⟩ (by omega) (by omega) rfl⟩) ?_
                        by_cases hLo : (s.extract 0 32) = (q.2.extract 0 32)
                        ·
                          refine Wr.pure (v := Value.bool true) 10 rfl (by kernel_rfl) (.inr (fun _ h => st_take [0] h)) (.inl ⟨rfl, fun _ => q_eql_str (r := true) rfl rfl (text_true hLo)⟩) ?_
                          refine Wr.pure (v := Value.bool true) 11 rfl (by kernel_rfl) (.inr (fun _ h => st_take [0] h)) (.inl ⟨rfl, fun _ => q_pick (t := false) rfl rfl⟩) ?_
                          refine Wr.pure (v := Value.bool true) 12 rfl (by kernel_rfl) (.inr (fun _ h => st_take [0] h)) (.inl ⟨rfl, fun _ => q_assign rfl⟩) ?_
                          refine Wr.done (by kernel_rfl) ?_
                          refine Wx.go ?_
                          refine Wc.drawsS [] ((isDisk pp (tornD n l bits)) :: []) (by kernel_rfl) ?_
                          refine Wr.pure (v := Value.bool false) 0 rfl (by kernel_rfl) (.inr (fun _ h => st_take [0] h)) (.inl ⟨rfl, fun _ => q_move hE14_7⟩) ?_
                          refine Wr.pure (v := Value.bool false) 1 rfl (by kernel_rfl) (.inr (fun _ h => st_take [0] h)) (.inl ⟨rfl, fun _ => q_move rfl⟩) ?_
                          refine Wr.pure (v := Value.string s) 2 rfl (by kernel_rfl) (.inr (fun _ h => st_take [0] h)) (.inl ⟨rfl, fun _ => q_move hE11_7⟩) ?_
                          refine Wr.pure (v := Value.string (s.extract 32 s.size)) 3 rfl (by kernel_rfl) (.inr (fun _ h => st_take [0] h)) (.inl ⟨rfl, fun _ => q_slice_str (l := 32) (h := s.size) Try.underlying9 rfl ⟨_, rfl⟩ rfl (by omega) (by omega) rfl⟩) ?_
                          refine Wr.pure (v := vl) 4 rfl (by kernel_rfl) (.inr (fun _ h => st_take [0] h)) (.inl ⟨rfl, fun _ => q_move hE1_7⟩) ?_
                          refine Wr.pure (v := Value.int .i64 ((k : Nat) : Int)) 5 rfl (by kernel_rfl) (.inr (fun _ h => st_take [0] h)) (.inl ⟨rfl, fun _ => q_move hE15_7⟩) ?_
                          refine Wr.pure (v := Value.pointer (some ⟨(rb vl), ro vl + k * 2, none⟩)) 6 rfl (by kernel_rfl) (.inr (fun _ h => st_take [0] h)) (.inl ⟨rfl, fun _ => q_idx_is (m := ro vl + k * 2) se_22 rfl (hl.some_ (by omega)) rfl (by omega) (by omega) rfl⟩) ?_
                          refine Wr.pure (v := Value.pointer (some ⟨(rb vl), ro vl + k * 2 + 1, none⟩)) 7 rfl (by kernel_rfl) (.inr (fun _ h => st_take [0] h)) (.inl ⟨rfl, fun _ => q_field (m := ro vl + k * 2 + 1) fo_31_1 rfl rfl⟩) ?_
                          refine Wr.take (v := Value.string q.2) 8 rfl (by kernel_rfl) (fun _ h => st_take [0] h) (.inl ⟨rfl, q_load sc_9 rfl (.old ((rdW hl hget).2))⟩) ?_
                          refine Wr.pure (v := Value.string (q.2.extract 32 q.2.size)) 9 rfl (by kernel_rfl) (.inr (fun _ h => st_take [0] h)) (.inl ⟨rfl, fun _ => q_slice_str (l := 32) (h := q.2.size) Try.underlying9 rfl ⟨_, rfl⟩ rfl (by omega) (by omega) rfl⟩) ?_
                          by_cases hHi : (s.extract 32 s.size) = (q.2.extract 32 q.2.size)
                          ·
                            refine Wr.pure (v := Value.bool true) 10 rfl (by kernel_rfl) (.inr (fun _ h => st_take [0] h)) (.inl ⟨rfl, fun _ => q_eql_str (r := true) rfl rfl (text_true hHi)⟩) ?_
                            refine Wr.pure (v := Value.bool true) 11 rfl (by kernel_rfl) (.inr (fun _ h => st_take [0] h)) (.inl ⟨rfl, fun _ => q_pick (t := false) rfl rfl⟩) ?_
                            refine Wr.pure (v := Value.bool true) 12 rfl (by kernel_rfl) (.inr (fun _ h => st_take [0] h)) (.inl ⟨rfl, fun _ => q_assign rfl⟩) ?_
                            refine Wr.done (by kernel_rfl) ?_
                            refine Wx.blockEnd ?_
                            refine Wx.go ?_
                            refine Wc.region ?_
                            refine Wl.q (v := Value.int .i64 ((k : Nat) : Int)) (q_move hE15_7) ?_
                            refine Wl.q (v := Value.int .i64 ((k + 1 : Nat) : Int)) (q_add (c := ((k + 1 : Nat) : Int)) rfl rfl (by rw [wrap_i64] <;> omega)) ?_
                            refine Wl.q (v := Value.int .i64 ((k + 1 : Nat) : Int)) (q_assign rfl) ?_
                            refine Wl.done ?_
                            refine Wx.at (k + 1, true, true) ⟨(by simp only; omega), rfl, rfl, rfl, hE0_7, hE1_7, hE7_7, hE10_7, hE11_7, (Half.new hget hAt hSz hLo), (Half.new hget hAt hSz hHi), (by omega)⟩ (fun w hs => hs)
                          ·
                            refine Wr.pure (v := Value.bool false) 10 rfl (by kernel_rfl) (.inr (fun _ h => st_take [0] h)) (.inl ⟨rfl, fun _ => q_eql_str (r := false) rfl rfl (text_false hHi)⟩) ?_
                            refine Wr.pure (v := Value.bool false) 11 rfl (by kernel_rfl) (.inr (fun _ h => st_take [0] h)) (.inl ⟨rfl, fun _ => q_pick (t := false) rfl rfl⟩) ?_
                            refine Wr.pure (v := Value.bool false) 12 rfl (by kernel_rfl) (.inr (fun _ h => st_take [0] h)) (.inl ⟨rfl, fun _ => q_assign rfl⟩) ?_
                            refine Wr.done (by kernel_rfl) ?_
                            refine Wx.blockEnd ?_
                            refine Wx.go ?_
                            refine Wc.region ?_
                            refine Wl.q (v := Value.int .i64 ((k : Nat) : Int)) (q_move hE15_7) ?_
                            refine Wl.q (v := Value.int .i64 ((k + 1 : Nat) : Int)) (q_add (c := ((k + 1 : Nat) : Int)) rfl rfl (by rw [wrap_i64] <;> omega)) ?_
                            refine Wl.q (v := Value.int .i64 ((k + 1 : Nat) : Int)) (q_assign rfl) ?_
                            refine Wl.done ?_
                            refine Wx.at (k + 1, true, false) ⟨(by simp only; omega), rfl, rfl, rfl, hE0_7, hE1_7, hE7_7, hE10_7, hE11_7, (Half.new hget hAt hSz hLo), (Half.none hget hpb (fun e => hHi e.2.2)), (by omega)⟩ (fun w hs => hs)
                        ·
                          refine Wr.pure (v := Value.bool false) 10 rfl (by kernel_rfl) (.inr (fun _ h => st_take [0] h)) (.inl ⟨rfl, fun _ => q_eql_str (r := false) rfl rfl (text_false hLo)⟩) ?_
                          refine Wr.pure (v := Value.bool false) 11 rfl (by kernel_rfl) (.inr (fun _ h => st_take [0] h)) (.inl ⟨rfl, fun _ => q_pick (t := false) rfl rfl⟩) ?_
                          refine Wr.pure (v := Value.bool false) 12 rfl (by kernel_rfl) (.inr (fun _ h => st_take [0] h)) (.inl ⟨rfl, fun _ => q_assign rfl⟩) ?_
                          refine Wr.done (by kernel_rfl) ?_
                          refine Wx.go ?_
                          refine Wc.drawsS [] ((isDisk pp (tornD n l bits)) :: []) (by kernel_rfl) ?_
                          refine Wr.pure (v := Value.bool false) 0 rfl (by kernel_rfl) (.inr (fun _ h => st_take [0] h)) (.inl ⟨rfl, fun _ => q_move hE14_7⟩) ?_
                          refine Wr.pure (v := Value.bool false) 1 rfl (by kernel_rfl) (.inr (fun _ h => st_take [0] h)) (.inl ⟨rfl, fun _ => q_move rfl⟩) ?_
                          refine Wr.pure (v := Value.string s) 2 rfl (by kernel_rfl) (.inr (fun _ h => st_take [0] h)) (.inl ⟨rfl, fun _ => q_move hE11_7⟩) ?_
                          refine Wr.pure (v := Value.string (s.extract 32 s.size)) 3 rfl (by kernel_rfl) (.inr (fun _ h => st_take [0] h)) (.inl ⟨rfl, fun _ => q_slice_str (l := 32) (h := s.size) Try.underlying9 rfl ⟨_, rfl⟩ rfl (by omega) (by omega) rfl⟩) ?_
                          refine Wr.pure (v := vl) 4 rfl (by kernel_rfl) (.inr (fun _ h => st_take [0] h)) (.inl ⟨rfl, fun _ => q_move hE1_7⟩) ?_
                          refine Wr.pure (v := Value.int .i64 ((k : Nat) : Int)) 5 rfl (by kernel_rfl) (.inr (fun _ h => st_take [0] h)) (.inl ⟨rfl, fun _ => q_move hE15_7⟩) ?_
                          refine Wr.pure (v := Value.pointer (some ⟨(rb vl), ro vl + k * 2, none⟩)) 6 rfl (by kernel_rfl) (.inr (fun _ h => st_take [0] h)) (.inl ⟨rfl, fun _ => q_idx_is (m := ro vl + k * 2) se_22 rfl (hl.some_ (by omega)) rfl (by omega) (by omega) rfl⟩) ?_
                          refine Wr.pure (v := Value.pointer (some ⟨(rb vl), ro vl + k * 2 + 1, none⟩)) 7 rfl (by kernel_rfl) (.inr (fun _ h => st_take [0] h)) (.inl ⟨rfl, fun _ => q_field (m := ro vl + k * 2 + 1) fo_31_1 rfl rfl⟩) ?_
                          refine Wr.take (v := Value.string q.2) 8 rfl (by kernel_rfl) (fun _ h => st_take [0] h) (.inl ⟨rfl, q_load sc_9 rfl (.old ((rdW hl hget).2))⟩) ?_
                          refine Wr.pure (v := Value.string (q.2.extract 32 q.2.size)) 9 rfl (by kernel_rfl) (.inr (fun _ h => st_take [0] h)) (.inl ⟨rfl, fun _ => q_slice_str (l := 32) (h := q.2.size) Try.underlying9 rfl ⟨_, rfl⟩ rfl (by omega) (by omega) rfl⟩) ?_
                          by_cases hHi : (s.extract 32 s.size) = (q.2.extract 32 q.2.size)
                          ·
                            refine Wr.pure (v := Value.bool true) 10 rfl (by kernel_rfl) (.inr (fun _ h => st_take [0] h)) (.inl ⟨rfl, fun _ => q_eql_str (r := true) rfl rfl (text_true hHi)⟩) ?_
                            refine Wr.pure (v := Value.bool true) 11 rfl (by kernel_rfl) (.inr (fun _ h => st_take [0] h)) (.inl ⟨rfl, fun _ => q_pick (t := false) rfl rfl⟩) ?_
                            refine Wr.pure (v := Value.bool true) 12 rfl (by kernel_rfl) (.inr (fun _ h => st_take [0] h)) (.inl ⟨rfl, fun _ => q_assign rfl⟩) ?_
                            refine Wr.done (by kernel_rfl) ?_
                            refine Wx.blockEnd ?_
                            refine Wx.go ?_
                            refine Wc.region ?_
                            refine Wl.q (v := Value.int .i64 ((k : Nat) : Int)) (q_move hE15_7) ?_
                            refine Wl.q (v := Value.int .i64 ((k + 1 : Nat) : Int)) (q_add (c := ((k + 1 : Nat) : Int)) rfl rfl (by rw [wrap_i64] <;> omega)) ?_
                            refine Wl.q (v := Value.int .i64 ((k + 1 : Nat) : Int)) (q_assign rfl) ?_
                            refine Wl.done ?_
                            refine Wx.at (k + 1, false, true) ⟨(by simp only; omega), rfl, rfl, rfl, hE0_7, hE1_7, hE7_7, hE10_7, hE11_7, (Half.none hget hpa (fun e => hLo e.2.2)), (Half.new hget hAt hSz hHi), (by omega)⟩ (fun w hs => hs)
                          ·
                            refine Wr.pure (v := Value.bool false) 10 rfl (by kernel_rfl) (.inr (fun _ h => st_take [0] h)) (.inl ⟨rfl, fun _ => q_eql_str (r := false) rfl rfl (text_false hHi)⟩) ?_
                            refine Wr.pure (v := Value.bool false) 11 rfl (by kernel_rfl) (.inr (fun _ h => st_take [0] h)) (.inl ⟨rfl, fun _ => q_pick (t := false) rfl rfl⟩) ?_
                            refine Wr.pure (v := Value.bool false) 12 rfl (by kernel_rfl) (.inr (fun _ h => st_take [0] h)) (.inl ⟨rfl, fun _ => q_assign rfl⟩) ?_
                            refine Wr.done (by kernel_rfl) ?_
                            refine Wx.blockEnd ?_
                            refine Wx.go ?_
                            refine Wc.region ?_
                            refine Wl.q (v := Value.int .i64 ((k : Nat) : Int)) (q_move hE15_7) ?_
                            refine Wl.q (v := Value.int .i64 ((k + 1 : Nat) : Int)) (q_add (c := ((k + 1 : Nat) : Int)) rfl rfl (by rw [wrap_i64] <;> omega)) ?_
                            refine Wl.q (v := Value.int .i64 ((k + 1 : Nat) : Int)) (q_assign rfl) ?_
                            refine Wl.done ?_
                            refine Wx.at (k + 1, false, false) ⟨(by simp only; omega), rfl, rfl, rfl, hE0_7, hE1_7, hE7_7, hE10_7, hE11_7, (Half.none hget hpa (fun e => hLo e.2.2)), (Half.none hget hpb (fun e => hHi e.2.2)), (by omega)⟩ (fun w hs => hs)
                      ·
                        refine Wl.q (v := Value.bool false) (q_eql (r := false) rfl rfl (decide_eq_false hSz)) ?_
                        refine Wl.q (v := Value.bool false) (q_pick (t := true) rfl rfl) ?_
                        refine Wl.done ?_
                        refine Wx.go ?_
                        refine Wc.no rfl ?_
                        refine Wc.skip ?_
                        refine Wx.blockEnd ?_
                        refine Wx.go ?_
                        refine Wc.region ?_
                        refine Wl.q (v := Value.int .i64 ((k : Nat) : Int)) (q_move hE15_7) ?_
                        refine Wl.q (v := Value.int .i64 ((k + 1 : Nat) : Int)) (q_add (c := ((k + 1 : Nat) : Int)) rfl rfl (by rw [wrap_i64] <;> omega)) ?_
                        refine Wl.q (v := Value.int .i64 ((k + 1 : Nat) : Int)) (q_assign rfl) ?_
                        refine Wl.done ?_
                        refine Wx.at (k + 1, false, false) ⟨(by simp only; omega), rfl, hE13_7, hE14_7, hE0_7, hE1_7, hE7_7, hE10_7, hE11_7, (Half.none hget hpa (fun e => hSz e.2.1)), (Half.none hget hpb (fun e => hSz e.2.1)), (by omega)⟩ (fun w hs => hs)
                    ·
                      refine Wl.q (v := Value.bool false) (q_eql (r := false) rfl rfl (decide_eq_false hAt)) ?_
                      refine Wl.q (v := Value.bool false) (q_move rfl) ?_
                      refine Wl.no ?_
                      refine Wl.no ?_
                      refine Wl.no ?_
                      refine Wl.no ?_
                      refine Wl.no ?_
                      refine Wl.no ?_
                      refine Wl.no ?_
                      refine Wl.q (v := Value.bool false) (q_pick (t := false) rfl rfl) ?_
                      refine Wl.done ?_
                      refine Wx.go ?_
                      refine Wc.no rfl ?_
                      refine Wc.skip ?_
                      refine Wx.blockEnd ?_
                      refine Wx.go ?_
                      refine Wc.region ?_
                      refine Wl.q (v := Value.int .i64 ((k : Nat) : Int)) (q_move hE15_7) ?_
                      refine Wl.q (v := Value.int .i64 ((k + 1 : Nat) : Int)) (q_add (c := ((k + 1 : Nat) : Int)) rfl rfl (by rw [wrap_i64] <;> omega)) ?_
                      refine Wl.q (v := Value.int .i64 ((k + 1 : Nat) : Int)) (q_assign rfl) ?_
                      refine Wl.done ?_
                      refine Wx.at (k + 1, false, false) ⟨(by simp only; omega), rfl, hE13_7, hE14_7, hE0_7, hE1_7, hE7_7, hE10_7, hE11_7, (Half.none hget hpa (fun e => hAt e.1)), (Half.none hget hpb (fun e => hAt e.1)), (by omega)⟩ (fun w hs => hs)
                  ·
                    have hend2 : k = l.length := by omega
                    refine Wl.q (v := Value.bool false) (q_lss (r := false) rfl rfl (decide_eq_false hklt)) ?_
                    refine Wl.done ?_
                    refine Wx.go ?_
                    refine Wc.no rfl ?_
                    refine Wc.exit ?_
                    refine Wx.thenExit ?_
                    refine Wx.thenExit ?_
                    refine Wx.out ?_
                    refine Wx.go ?_
                    refine Wc.seq ?_
                    refine Wc.region ?_
                    refine Wl.q (v := Value.bool false) (q_move hE13_7) ?_
                    refine Wl.q (v := Value.bool true) (q_not rfl rfl) ?_
                    refine Wl.q (v := Value.bool true) (q_move rfl) ?_
                    refine Wl.no ?_
                    refine Wl.no ?_
                    refine Wl.q (v := Value.bool true) (q_pick (t := true) rfl rfl) ?_
                    refine Wl.done ?_
                    refine Wx.go ?_
                    refine Wc.yes rfl ?_
                    refine Wc.seq ?_
                    refine Wc.region ?_
                    refine Wl.q (v := Value.bool false) (q_assign rfl) ?_
                    refine Wl.done ?_
                    refine Wx.go ?_
                    refine Wc.ret ?_
                    refine Wx.blockRet ?_
                    refine Wx.thenRet ?_
                    refine Wx.thenRet ?_
                    refine Wx.blockRet ?_
                    refine Wx.thenRet ?_
                    refine Wx.fin1 rfl (.inl rfl) (fun w hs => ?_)
                    exfalso
                    rw [hend2, List.take_length] at hpa hpb
                    cases hpa.2 hta
                ·
                  refine Wc.seq ?_
                  refine Wc.seq ?_
                  refine Wc.region ?_
                  refine Wl.q (v := Value.int .i64 ((k : Nat) : Int)) (q_move hE15_7) ?_
                  refine Wl.q (v := vl) (q_move hE1_7) ?_
                  refine Wl.q (v := Value.int .i64 ((l.length : Nat) : Int)) (q_len_is Try.underlying22 rfl hl.shape) ?_
                  by_cases hklt : ((k : Nat) : Int) < ((l.length : Nat) : Int)
                  ·
                    obtain ⟨q, hget⟩ : ∃ q, l[k]? = some q := ⟨l[k]'(by omega), by simp [List.getElem?_eq_getElem (show k < l.length by omega)]⟩
                    refine Wl.q (v := Value.bool true) (q_lss (r := true) rfl rfl (decide_eq_true hklt)) ?_
                    refine Wl.done ?_
                    refine Wx.go ?_
                    refine Wc.yes rfl ?_
                    refine Wc.skip ?_
                    refine Wx.go ?_
                    refine Wc.seq ?_
                    refine Wc.block ?_
                    refine Wc.seq ?_
                    refine Wc.region ?_
                    refine Wl.q (v := vl) (q_move hE1_7) ?_
                    refine Wl.q (v := Value.int .i64 ((k : Nat) : Int)) (q_move hE15_7) ?_
                    refine Wl.q (v := Value.pointer (some ⟨(rb vl), ro vl + k * 2, none⟩)) (q_idx_is (m := ro vl + k * 2) se_22 rfl (hl.some_ (by omega)) rfl (by omega) (by omega) rfl) ?_
                    refine Wl.q (v := Value.pointer (some ⟨(rb vl), ro vl + k * 2, none⟩)) (q_field (m := ro vl + k * 2) fo_31_0 rfl rfl) ?_
                    refine Wl.q (v := Value.int .i64 q.1) (q_load sc_3 rfl (.old ((rdW hl hget).1))) ?_
                    refine Wl.q (v := Value.int .i64 ((i : Nat) : Int)) (q_move hE10_7) ?_
                    by_cases hAt : q.1 = ((i : Nat) : Int)
                    ·
                      refine Wl.q (v := Value.bool true) (q_eql (r := true) rfl rfl (decide_eq_true hAt)) ?_
                      refine Wl.q (v := Value.bool true) (q_move rfl) ?_
                      refine Wl.q (v := vl) (q_move hE1_7) ?_
                      refine Wl.q (v := Value.int .i64 ((k : Nat) : Int)) (q_move hE15_7) ?_
                      refine Wl.q (v := Value.pointer (some ⟨(rb vl), ro vl + k * 2, none⟩)) (q_idx_is (m := ro vl + k * 2) se_22 rfl (hl.some_ (by omega)) rfl (by omega) (by omega) rfl) ?_
                      refine Wl.q (v := Value.pointer (some ⟨(rb vl), ro vl + k * 2 + 1, none⟩)) (q_field (m := ro vl + k * 2 + 1) fo_31_1 rfl rfl) ?_
                      refine Wl.q (v := Value.string q.2) (q_load sc_9 rfl (.old ((rdW hl hget).2))) ?_
                      refine Wl.q (v := Value.int .i64 ((q.2.size : Nat) : Int)) (q_len_str Try.underlying9 rfl) ?_
                      by_cases hSz : ((q.2.size : Nat) : Int) = 64
                      ·
                        refine Wl.q (v := Value.bool true) (q_eql (r := true) rfl rfl (decide_eq_true hSz)) ?_
                        refine Wl.q (v := Value.bool true) (q_pick (t := true) rfl rfl) ?_
                        refine Wl.done ?_
                        refine Wx.go ?_
                        refine Wc.yes rfl ?_
                        refine Wc.seq ?_
                        refine Wc.drawsS [] ((isDisk pp (tornD n l bits)) :: []) (by kernel_rfl) ?_
                        refine Wr.pure (v := Value.bool false) 0 rfl (by kernel_rfl) (.inr (fun _ h => st_take [0] h)) (.inl ⟨rfl, fun _ => q_move hE13_7⟩) ?_
                        refine Wr.pure (v := Value.bool false) 1 rfl (by kernel_rfl) (.inr (fun _ h => st_take [0] h)) (.inl ⟨rfl, fun _ => q_move rfl⟩) ?_
                        refine Wr.pure (v := Value.string s) 2 rfl (by kernel_rfl) (.inr (fun _ h => st_take [0] h)) (.inl ⟨rfl, fun _ => q_move hE11_7⟩) ?_
                        refine Wr.pure (v := Value.string (s.extract 0 32)) 3 rfl (by kernel_rfl) (.inr (fun _ h => st_take [0] h)) (.inl ⟨rfl, fun _ => q_slice_str (l := 0) (h := 32) Try.underlying9 rfl rfl ⟨_, rfl⟩ (by omega) (by omega) rfl⟩) ?_
                        refine Wr.pure (v := vl) 4 rfl (by kernel_rfl) (.inr (fun _ h => st_take [0] h)) (.inl ⟨rfl, fun _ => q_move hE1_7⟩) ?_
                        refine Wr.pure (v := Value.int .i64 ((k : Nat) : Int)) 5 rfl (by kernel_rfl) (.inr (fun _ h => st_take [0] h)) (.inl ⟨rfl, fun _ => q_move hE15_7⟩) ?_
                        refine Wr.pure (v := Value.pointer (some ⟨(rb vl), ro vl + k * 2, none⟩)) 6 rfl (by kernel_rfl) (.inr (fun _ h => st_take [0] h)) (.inl ⟨rfl, fun _ => q_idx_is (m := ro vl + k * 2) se_22 rfl (hl.some_ (by omega)) rfl (by omega) (by omega) rfl⟩) ?_
                        refine Wr.pure (v := Value.pointer (some ⟨(rb vl), ro vl + k * 2 + 1, none⟩)) 7 rfl (by kernel_rfl) (.inr (fun _ h => st_take [0] h)) (.inl ⟨rfl, fun _ => q_field (m := ro vl + k * 2 + 1) fo_31_1 rfl rfl⟩) ?_
                        refine Wr.take (v := Value.string q.2) 8 rfl (by kernel_rfl) (fun _ h => st_take [0] h) (.inl ⟨rfl, q_load sc_9 rfl (.old ((rdW hl hget).2))⟩) ?_
                        refine Wr.pure (v := Value.string (q.2.extract 0 32)) 9 rfl (by kernel_rfl) (.inr (fun _ h => st_take [0] h)) (.inl ⟨rfl, fun _ => q_slice_str (l := 0) (h := 32) Try.underlying9 rfl rfl ⟨_, rfl⟩ (by omega) (by omega) rfl⟩) ?_
                        by_cases hLo : (s.extract 0 32) = (q.2.extract 0 32)
                        ·
                          refine Wr.pure (v := Value.bool true) 10 rfl (by kernel_rfl) (.inr (fun _ h => st_take [0] h)) (.inl ⟨rfl, fun _ => q_eql_str (r := true) rfl rfl (text_true hLo)⟩) ?_
                          refine Wr.pure (v := Value.bool true) 11 rfl (by kernel_rfl) (.inr (fun _ h => st_take [0] h)) (.inl ⟨rfl, fun _ => q_pick (t := false) rfl rfl⟩) ?_
                          refine Wr.pure (v := Value.bool true) 12 rfl (by kernel_rfl) (.inr (fun _ h => st_take [0] h)) (.inl ⟨rfl, fun _ => q_assign rfl⟩) ?_
                          refine Wr.done (by kernel_rfl) ?_
                          refine Wx.go ?_
                          refine Wc.drawsS [] ((isDisk pp (tornD n l bits)) :: []) (by kernel_rfl) ?_
                          refine Wr.pure (v := Value.bool true) 0 rfl (by kernel_rfl) (.inr (fun _ h => st_take [0] h)) (.inl ⟨rfl, fun _ => q_move hE14_7⟩) ?_
                          refine Wr.pure (v := Value.bool true) 1 rfl (by kernel_rfl) (.inr (fun _ h => st_take [0] h)) (.inl ⟨rfl, fun _ => q_move rfl⟩) ?_
                          refine Wr.pure (v := undef) 2 rfl (by kernel_rfl) (.inr (fun _ h => st_take [0] h)) (.inr ⟨rfl, rfl⟩) ?_
                          refine Wr.pure (v := undef) 3 rfl (by kernel_rfl) (.inr (fun _ h => st_take [0] h)) (.inr ⟨rfl, rfl⟩) ?_
                          refine Wr.pure (v := undef) 4 rfl (by kernel_rfl) (.inr (fun _ h => st_take [0] h)) (.inr ⟨rfl, rfl⟩) ?_
                          refine Wr.pure (v := undef) 5 rfl (by kernel_rfl) (.inr (fun _ h => st_take [0] h)) (.inr ⟨rfl, rfl⟩) ?_
                          refine Wr.pure (v := undef) 6 rfl (by kernel_rfl) (.inr (fun _ h => st_take [0] h)) (.inr ⟨rfl, rfl⟩) ?_
                          refine Wr.pure (v := undef) 7 rfl (by kernel_rfl) (.inr (fun _ h => st_take [0] h)) (.inr ⟨rfl, rfl⟩) ?_
                          refine Wr.pure (v := undef) 8 rfl (by kernel_rfl) (.inr (fun _ h => st_take [0] h)) (.inr ⟨rfl, rfl⟩) ?_
                          refine Wr.pure (v := undef) 9 rfl (by kernel_rfl) (.inr (fun _ h => st_take [0] h)) (.inr ⟨rfl, rfl⟩) ?_
                          refine Wr.pure (v := undef) 10 rfl (by kernel_rfl) (.inr (fun _ h => st_take [0] h)) (.inr ⟨rfl, rfl⟩) ?_
                          refine Wr.pure (v := Value.bool true) 11 rfl (by kernel_rfl) (.inr (fun _ h => st_take [0] h)) (.inl ⟨rfl, fun _ => q_pick (t := true) rfl rfl⟩) ?_
                          refine Wr.pure (v := Value.bool true) 12 rfl (by kernel_rfl) (.inr (fun _ h => st_take [0] h)) (.inl ⟨rfl, fun _ => q_assign rfl⟩) ?_
                          refine Wr.done (by kernel_rfl) ?_
                          refine Wx.blockEnd ?_
                          refine Wx.go ?_
                          refine Wc.region ?_
                          refine Wl.q (v := Value.int .i64 ((k : Nat) : Int)) (q_move hE15_7) ?_
                          refine Wl.q (v := Value.int .i64 ((k + 1 : Nat) : Int)) (q_add (c := ((k + 1 : Nat) : Int)) rfl rfl (by rw [wrap_i64] <;> omega)) ?_
                          refine Wl.q (v := Value.int .i64 ((k + 1 : Nat) : Int)) (q_assign rfl) ?_
                          refine Wl.done ?_
                          refine Wx.at (k + 1, true, true) ⟨(by simp only; omega), rfl, rfl, rfl, hE0_7, hE1_7, hE7_7, hE10_7, hE11_7, (Half.new hget hAt hSz hLo), (Half.old hget hpb), (by omega)⟩ (fun w hs => hs)
                        ·
                          refine Wr.pure (v := Value.bool false) 10 rfl (by kernel_rfl) (.inr (fun _ h => st_take [0] h)) (.inl ⟨rfl, fun _ => q_eql_str (r := false) rfl rfl (text_false hLo)⟩) ?_
                          refine Wr.pure (v := Value.bool false) 11 rfl (by kernel_rfl) (.inr (fun _ h => st_take [0] h)) (.inl ⟨rfl, fun _ => q_pick (t := false) rfl rfl⟩) ?_
                          refine Wr.pure (v := Value.bool false) 12 rfl (by kernel_rfl) (.inr (fun _ h => st_take [0] h)) (.inl ⟨rfl, fun _ => q_assign rfl⟩) ?_
                          refine Wr.done (by kernel_rfl) ?_
                          refine Wx.go ?_
                          refine Wc.drawsS [] ((isDisk pp (tornD n l bits)) :: []) (by kernel_rfl) ?_
                          refine Wr.pure (v := Value.bool true) 0 rfl (by kernel_rfl) (.inr (fun _ h => st_take [0] h)) (.inl ⟨rfl, fun _ => q_move hE14_7⟩) ?_
                          refine Wr.pure (v := Value.bool true) 1 rfl (by kernel_rfl) (.inr (fun _ h => st_take [0] h)) (.inl ⟨rfl, fun _ => q_move rfl⟩) ?_
                          refine Wr.pure (v := undef) 2 rfl (by kernel_rfl) (.inr (fun _ h => st_take [0] h)) (.inr ⟨rfl, rfl⟩) ?_
                          refine Wr.pure (v := undef) 3 rfl (by kernel_rfl) (.inr (fun _ h => st_take [0] h)) (.inr ⟨rfl, rfl⟩) ?_
                          refine Wr.pure (v := undef) 4 rfl (by kernel_rfl) (.inr (fun _ h => st_take [0] h)) (.inr ⟨rfl, rfl⟩) ?_
                          refine Wr.pure (v := undef) 5 rfl (by kernel_rfl) (.inr (fun _ h => st_take [0] h)) (.inr ⟨rfl, rfl⟩) ?_
                          refine Wr.pure (v := undef) 6 rfl (by kernel_rfl) (.inr (fun _ h => st_take [0] h)) (.inr ⟨rfl, rfl⟩) ?_
                          refine Wr.pure (v := undef) 7 rfl (by kernel_rfl) (.inr (fun _ h => st_take [0] h)) (.inr ⟨rfl, rfl⟩) ?_
                          refine Wr.pure (v := undef) 8 rfl (by kernel_rfl) (.inr (fun _ h => st_take [0] h)) (.inr ⟨rfl, rfl⟩) ?_
                          refine Wr.pure (v := undef) 9 rfl (by kernel_rfl) (.inr (fun _ h => st_take [0] h)) (.inr ⟨rfl, rfl⟩) ?_
                          refine Wr.pure (v := undef) 10 rfl (by kernel_rfl) (.inr (fun _ h => st_take [0] h)) (.inr ⟨rfl, rfl⟩) ?_
                          refine Wr.pure (v := Value.bool true) 11 rfl (by kernel_rfl) (.inr (fun _ h => st_take [0] h)) (.inl ⟨rfl, fun _ => q_pick (t := true) rfl rfl⟩) ?_
                          refine Wr.pure (v := Value.bool true) 12 rfl (by kernel_rfl) (.inr (fun _ h => st_take [0] h)) (.inl ⟨rfl, fun _ => q_assign rfl⟩) ?_
                          refine Wr.done (by kernel_rfl) ?_
                          refine Wx.blockEnd ?_
                          refine Wx.go ?_
                          refine Wc.region ?_
                          refine Wl.q (v := Value.int .i64 ((k : Nat) : Int)) (q_move hE15_7) ?_
                          refine Wl.q (v := Value.int .i64 ((k + 1 : Nat) : Int)) (q_add (c := ((k + 1 : Nat) : Int)) rfl rfl (by rw [wrap_i64] <;> omega)) ?_
                          refine Wl.q (v := Value.int .i64 ((k + 1 : Nat) : Int)) (q_assign rfl) ?_
                          refine Wl.done ?_
                          refine Wx.at (k + 1, false, true) ⟨(by simp only; omega), rfl, rfl, rfl, hE0_7, hE1_7, hE7_7, hE10_7, hE11_7, (Half.none hget hpa (fun e => hLo e.2.2)), (Half.old hget hpb), (by omega)⟩ (fun w hs => hs)
                      ·
                        refine Wl.q (v := Value.bool false) (q_eql (r := false) rfl rfl (decide_eq_false hSz)) ?_
                        refine Wl.q (v := Value.bool false) (q_pick (t := true) rfl rfl) ?_
                        refine Wl.done ?_
                        refine Wx.go ?_
                        refine Wc.no rfl ?_
                        refine Wc.skip ?_
                        refine Wx.blockEnd ?_
                        refine Wx.go ?_
                        refine Wc.region ?_
                        refine Wl.q (v := Value.int .i64 ((k : Nat) : Int)) (q_move hE15_7) ?_
                        refine Wl.q (v := Value.int .i64 ((k + 1 : Nat) : Int)) (q_add (c := ((k + 1 : Nat) : Int)) rfl rfl (by rw [wrap_i64] <;> omega)) ?_
                        refine Wl.q (v := Value.int .i64 ((k + 1 : Nat) : Int)) (q_assign rfl) ?_
                        refine Wl.done ?_
                        refine Wx.at (k + 1, false, true) ⟨(by simp only; omega), rfl, hE13_7, hE14_7, hE0_7, hE1_7, hE7_7, hE10_7, hE11_7, (Half.none hget hpa (fun e => hSz e.2.1)), (Half.old hget hpb), (by omega)⟩ (fun w hs => hs)
                    ·
                      refine Wl.q (v := Value.bool false) (q_eql (r := false) rfl rfl (decide_eq_false hAt)) ?_
                      refine Wl.q (v := Value.bool false) (q_move rfl) ?_
                      refine Wl.no ?_
                      refine Wl.no ?_
                      refine Wl.no ?_
                      refine Wl.no ?_
                      refine Wl.no ?_
                      refine Wl.no ?_
                      refine Wl.no ?_
                      refine Wl.q (v := Value.bool false) (q_pick (t := false) rfl rfl) ?_
                      refine Wl.done ?_
                      refine Wx.go ?_
                      refine Wc.no rfl ?_
                      refine Wc.skip ?_
                      refine Wx.blockEnd ?_
                      refine Wx.go ?_
                      refine Wc.region ?_
                      refine Wl.q (v := Value.int .i64 ((k : Nat) : Int)) (q_move hE15_7) ?_
                      refine Wl.q (v := Value.int .i64 ((k + 1 : Nat) : Int)) (q_add (c := ((k + 1 : Nat) : Int)) rfl rfl (by rw [wrap_i64] <;> omega)) ?_
                      refine Wl.q (v := Value.int .i64 ((k + 1 : Nat) : Int)) (q_assign rfl) ?_
                      refine Wl.done ?_
                      refine Wx.at (k + 1, false, true) ⟨(by simp only; omega), rfl, hE13_7, hE14_7, hE0_7, hE1_7, hE7_7, hE10_7, hE11_7, (Half.none hget hpa (fun e => hAt e.1)), (Half.old hget hpb), (by omega)⟩ (fun w hs => hs)
                  ·
                    have hend2 : k = l.length := by omega
                    refine Wl.q (v := Value.bool false) (q_lss (r := false) rfl rfl (decide_eq_false hklt)) ?_
                    refine Wl.done ?_
                    refine Wx.go ?_
                    refine Wc.no rfl ?_
                    refine Wc.exit ?_
                    refine Wx.thenExit ?_
                    refine Wx.thenExit ?_
                    refine Wx.out ?_
                    refine Wx.go ?_
                    refine Wc.seq ?_
                    refine Wc.region ?_
                    refine Wl.q (v := Value.bool false) (q_move hE13_7) ?_
                    refine Wl.q (v := Value.bool true) (q_not rfl rfl) ?_
                    refine Wl.q (v := Value.bool true) (q_move rfl) ?_
                    refine Wl.no ?_
                    refine Wl.no ?_
                    refine Wl.q (v := Value.bool true) (q_pick (t := true) rfl rfl) ?_
                    refine Wl.done ?_
                    refine Wx.go ?_
                    refine Wc.yes rfl ?_
                    refine Wc.seq ?_
                    refine Wc.region ?_
                    refine Wl.q (v := Value.bool false) (q_assign rfl) ?_
                    refine Wl.done ?_
                    refine Wx.go ?_
                    refine Wc.ret ?_
                    refine Wx.blockRet ?_
                    refine Wx.thenRet ?_
                    refine Wx.thenRet ?_
                    refine Wx.blockRet ?_
                    refine Wx.thenRet ?_
                    refine Wx.fin1 rfl (.inl rfl) (fun w hs => ?_)
                    exfalso
                    rw [hend2, List.take_length] at hpa hpb
                    cases hpa.2 hta
                ·
                  refine Wc.seq ?_
                  refine Wc.seq ?_
                  refine Wc.region ?_
                  refine Wl.q (v := Value.int .i64 ((k : Nat) : Int)) (q_move hE15_7) ?_
                  refine Wl.q (v := vl) (q_move hE1_7) ?_
                  refine Wl.q (v := Value.int .i64 ((l.length : Nat) : Int)) (q_len_is Try.underlying22 rfl hl.shape) ?_
                  by_cases hklt : ((k : Nat) : Int) < ((l.length : Nat) : Int)
                  ·
                    obtain ⟨q, hget⟩ : ∃ q, l[k]? = some q := ⟨l[k]'(by omega), by simp [List.getElem?_eq_getElem (show k < l.length by omega)]⟩
                    refine Wl.q (v := Value.bool true) (q_lss (r := true) rfl rfl (decide_eq_true hklt)) ?_
                    refine Wl.done ?_
                    refine Wx.go ?_
                    refine Wc.yes rfl ?_
                    refine Wc.skip ?_
                    refine Wx.go ?_
                    refine Wc.seq ?_
                    refine Wc.block ?_
                    refine Wc.seq ?_
                    refine Wc.region ?_
                    refine Wl.q (v := vl) (q_move hE1_7) ?_
                    refine Wl.q (v := Value.int .i64 ((k : Nat) : Int)) (q_move hE15_7) ?_
                    refine Wl.q (v := Value.pointer (some ⟨(rb vl), ro vl + k * 2, none⟩)) (q_idx_is (m := ro vl + k * 2) se_22 rfl (hl.some_ (by omega)) rfl (by omega) (by omega) rfl) ?_
                    refine Wl.q (v := Value.pointer (some ⟨(rb vl), ro vl + k * 2, none⟩)) (q_field (m := ro vl + k * 2) fo_31_0 rfl rfl) ?_
                    refine Wl.q (v := Value.int .i64 q.1) (q_load sc_3 rfl (.old ((rdW hl hget).1))) ?_
                    refine Wl.q (v := Value.int .i64 ((i : Nat) : Int)) (q_move hE10_7) ?_
                    by_cases hAt : q.1 = ((i : Nat) : Int)
                    ·
                      refine Wl.q (v := Value.bool true) (q_eql (r := true) rfl rfl (decide_eq_true hAt)) ?_
                      refine Wl.q (v := Value.bool true) (q_move rfl) ?_
                      refine Wl.q (v := vl) (q_move hE1_7) ?_
                      refine Wl.q (v := Value.int .i64 ((k : Nat) : Int)) (q_move hE15_7) ?_
                      refine Wl.q (v := Value.pointer (some ⟨(rb vl), ro vl + k * 2, none⟩)) (q_idx_is (m := ro vl + k * 2) se_22 rfl (hl.some_ (by omega)) rfl (by omega) (by omega) rfl) ?_
                      refine Wl.q (v := Value.pointer (some ⟨(rb vl), ro vl + k * 2 + 1, none⟩)) (q_field (m := ro vl + k * 2 + 1) fo_31_1 rfl rfl) ?_
                      refine Wl.q (v := Value.string q.2) (q_load sc_9 rfl (.old ((rdW hl hget).2))) ?_
                      refine Wl.q (v := Value.int .i64 ((q.2.size : Nat) : Int)) (q_len_str Try.underlying9 rfl) ?_
                      by_cases hSz : ((q.2.size : Nat) : Int) = 64
                      ·
                        refine Wl.q (v := Value.bool true) (q_eql (r := true) rfl rfl (decide_eq_true hSz)) ?_
                        refine Wl.q (v := Value.bool true) (q_pick (t := true) rfl rfl) ?_
                        refine Wl.done ?_
                        refine Wx.go ?_
                        refine Wc.yes rfl ?_
                        refine Wc.seq ?_
                        refine Wc.drawsS [] ((isDisk pp (tornD n l bits)) :: []) (by kernel_rfl) ?_
                        refine Wr.pure (v := Value.bool true) 0 rfl (by kernel_rfl) (.inr (fun _ h => st_take [0] h)) (.inl ⟨rfl, fun _ => q_move hE13_7⟩) ?_
                        refine Wr.pure (v := Value.bool true) 1 rfl (by kernel_rfl) (.inr (fun _ h => st_take [0] h)) (.inl ⟨rfl, fun _ => q_move rfl⟩) ?_
                        refine Wr.pure (v := undef) 2 rfl (by kernel_rfl) (.inr (fun _ h => st_take [0] h)) (.inr ⟨rfl, rfl⟩) ?_
                        refine Wr.pure (v := undef) 3 rfl (by kernel_rfl) (.inr (fun _ h => st_take [0] h)) (.inr ⟨rfl, rfl⟩) ?_
                        refine Wr.pure (v := undef) 4 rfl (by kernel_rfl) (.inr (fun _ h => st_take [0] h)) (.inr ⟨rfl, rfl⟩) ?_
                        refine Wr.pure (v := undef) 5 rfl (by kernel_rfl) (.inr (fun _ h => st_take [0] h)) (.inr ⟨rfl, rfl⟩) ?_
                        refine Wr.pure (v := undef) 6 rfl (by kernel_rfl) (.inr (fun _ h => st_take [0] h)) (.inr ⟨rfl, rfl⟩) ?_
                        refine Wr.pure (v := undef) 7 rfl (by kernel_rfl) (.inr (fun _ h => st_take [0] h)) (.inr ⟨rfl, rfl⟩) ?_
                        refine Wr.pure (v := undef) 8 rfl (by kernel_rfl) (.inr (fun _ h => st_take [0] h)) (.inr ⟨rfl, rfl⟩) ?_
                        refine Wr.pure (v := undef) 9 rfl (by kernel_rfl) (.inr (fun _ h => st_take [0] h)) (.inr ⟨rfl, rfl⟩) ?_
                        refine Wr.pure (v := undef) 10 rfl (by kernel_rfl) (.inr (fun _ h => st_take [0] h)) (.inr ⟨rfl, rfl⟩) ?_
                        refine Wr.pure (v := Value.bool true) 11 rfl (by kernel_rfl) (.inr (fun _ h => st_take [0] h)) (.inl ⟨rfl, fun _ => q_pick (t := true) rfl rfl⟩) ?_
                        refine Wr.pure (v := Value.bool true) 12 rfl (by kernel_rfl) (.inr (fun _ h => st_take [0] h)) (.inl ⟨rfl, fun _ => q_assign rfl⟩) ?_
                        refine Wr.done (by kernel_rfl) ?_
                        refine Wx.go ?_
                        refine Wc.drawsS [] ((isDisk pp (tornD n l bits)) :: []) (by kernel_rfl) ?_
                        refine Wr.pure (v := Value.bool false) 0 rfl (by kernel_rfl) (.inr (fun _ h => st_take [0] h)) (.inl ⟨rfl, fun _ => q_move hE14_7⟩) ?_
                        refine Wr.pure (v := Value.bool false) 1 rfl (by kernel_rfl) (.inr (fun _ h => st_take [0] h)) (.inl ⟨rfl, fun _ => q_move rfl⟩) ?_
                        refine Wr.pure (v := Value.string s) 2 rfl (by kernel_rfl) (.inr (fun _ h => st_take [0] h)) (.inl ⟨rfl, fun _ => q_move hE11_7⟩) ?_
                        refine Wr.pure (v := Value.string (s.extract 32 s.size)) 3 rfl (by kernel_rfl) (.inr (fun _ h => st_take [0] h)) (.inl ⟨rfl, fun _ => q_slice_str (l := 32) (h := s.size) Try.underlying9 rfl ⟨_, rfl⟩ rfl (by omega) (by omega) rfl⟩) ?_
                        refine Wr.pure (v := vl) 4 rfl (by kernel_rfl) (.inr (fun _ h => st_take [0] h)) (.inl ⟨rfl, fun _ => q_move hE1_7⟩) ?_
                        refine Wr.pure (v := Value.int .i64 ((k : Nat) : Int)) 5 rfl (by kernel_rfl) (.inr (fun _ h => st_take [0] h)) (.inl ⟨rfl, fun _ => q_move hE15_7⟩) ?_
                        refine Wr.pure (v := Value.pointer (some ⟨(rb vl), ro vl + k * 2, none⟩)) 6 rfl (by kernel_rfl) (.inr (fun _ h => st_take [0] h)) (.inl ⟨rfl, fun _ => q_idx_is (m := ro vl + k * 2) se_22 rfl (hl.some_ (by omega)) rfl (by omega) (by omega) rfl⟩) ?_
                        refine Wr.pure (v := Value.pointer (some ⟨(rb vl), ro vl + k * 2 + 1, none⟩)) 7 rfl (by kernel_rfl) (.inr (fun _ h => st_take [0] h)) (.inl ⟨rfl, fun _ => q_field (m := ro vl + k * 2 + 1) fo_31_1 rfl rfl⟩) ?_
                        refine Wr.take (v := Value.string q.2) 8 rfl (by kernel_rfl) (fun _ h => st_take [0] h) (.inl ⟨rfl, q_load sc_9 rfl (.old ((rdW hl hget).2))⟩) ?_
                        refine Wr.pure (v := Value.string (q.2.extract 32 q.2.size)) 9 rfl (by kernel_rfl) (.inr (fun _ h => st_take [0] h)) (.inl ⟨rfl, fun _ => q_slice_str (l := 32) (h := q.2.size) Try.underlying9 rfl ⟨_, rfl⟩ rfl (by omega) (by omega) rfl⟩) ?_
                        by_cases hHi : (s.extract 32 s.size) = (q.2.extract 32 q.2.size)
                        ·
                          refine Wr.pure (v := Value.bool true) 10 rfl (by kernel_rfl) (.inr (fun _ h => st_take [0] h)) (.inl ⟨rfl, fun _ => q_eql_str (r := true) rfl rfl (text_true hHi)⟩) ?_
                          refine Wr.pure (v := Value.bool true) 11 rfl (by kernel_rfl) (.inr (fun _ h => st_take [0] h)) (.inl ⟨rfl, fun _ => q_pick (t := false) rfl rfl⟩) ?_
                          refine Wr.pure (v := Value.bool true) 12 rfl (by kernel_rfl) (.inr (fun _ h => st_take [0] h)) (.inl ⟨rfl, fun _ => q_assign rfl⟩) ?_
                          refine Wr.done (by kernel_rfl) ?_
                          refine Wx.blockEnd ?_
                          refine Wx.go ?_
                          refine Wc.region ?_
                          refine Wl.q (v := Value.int .i64 ((k : Nat) : Int)) (q_move hE15_7) ?_
                          refine Wl.q (v := Value.int .i64 ((k + 1 : Nat) : Int)) (q_add (c := ((k + 1 : Nat) : Int)) rfl rfl (by rw [wrap_i64] <;> omega)) ?_
                          refine Wl.q (v := Value.int .i64 ((k + 1 : Nat) : Int)) (q_assign rfl) ?_
                          refine Wl.done ?_
                          refine Wx.at (k + 1, true, true) ⟨(by simp only; omega), rfl, rfl, rfl, hE0_7, hE1_7, hE7_7, hE10_7, hE11_7, (Half.old hget hpa), (Half.new hget hAt hSz hHi), (by omega)⟩ (fun w hs => hs)
                        ·
                          refine Wr.pure (v := Value.bool false) 10 rfl (by kernel_rfl) (.inr (fun _ h => st_take [0] h)) (.inl ⟨rfl, fun _ => q_eql_str (r := false) rfl rfl (text_false hHi)⟩) ?_
                          refine Wr.pure (v := Value.bool false) 11 rfl (by kernel_rfl) (.inr (fun _ h => st_take [0] h)) (.inl ⟨rfl, fun _ => q_pick (t := false) rfl rfl⟩) ?_
                          refine Wr.pure (v := Value.bool false) 12 rfl (by kernel_rfl) (.inr (fun _ h => st_take [0] h)) (.inl ⟨rfl, fun _ => q_assign rfl⟩) ?_
                          refine Wr.done (by kernel_rfl) ?_
                          refine Wx.blockEnd ?_
                          refine Wx.go ?_
                          refine Wc.region ?_
                          refine Wl.q (v := Value.int .i64 ((k : Nat) : Int)) (q_move hE15_7) ?_
                          refine Wl.q (v := Value.int .i64 ((k + 1 : Nat) : Int)) (q_add (c := ((k + 1 : Nat) : Int)) rfl rfl (by rw [wrap_i64] <;> omega)) ?_
                          refine Wl.q (v := Value.int .i64 ((k + 1 : Nat) : Int)) (q_assign rfl) ?_
                          refine Wl.done ?_
                          refine Wx.at (k + 1, true, false) ⟨(by simp only; omega), rfl, rfl, rfl, hE0_7, hE1_7, hE7_7, hE10_7, hE11_7, (Half.old hget hpa), (Half.none hget hpb (fun e => hHi e.2.2)), (by omega)⟩ (fun w hs => hs)
                      ·
                        refine Wl.q (v := Value.bool false) (q_eql (r := false) rfl rfl (decide_eq_false hSz)) ?_
                        refine Wl.q (v := Value.bool false) (q_pick (t := true) rfl rfl) ?_
                        refine Wl.done ?_
                        refine Wx.go ?_
                        refine Wc.no rfl ?_
                        refine Wc.skip ?_
                        refine Wx.blockEnd ?_
                        refine Wx.go ?_
                        refine Wc.region ?_
                        refine Wl.q (v := Value.int .i64 ((k : Nat) : Int)) (q_move hE15_7) ?_
                        refine Wl.q (v := Value.int .i64 ((k + 1 : Nat) : Int)) (q_add (c := ((k + 1 : Nat) : Int)) rfl rfl (by rw [wrap_i64] <;> omega)) ?_
                        refine Wl.q (v := Value.int .i64 ((k + 1 : Nat) : Int)) (q_assign rfl) ?_
                        refine Wl.done ?_
                        refine Wx.at (k + 1, true, false) ⟨(by simp only; omega), rfl, hE13_7, hE14_7, hE0_7, hE1_7, hE7_7, hE10_7, hE11_7, (Half.old hget hpa), (Half.none hget hpb (fun e => hSz e.2.1)), (by omega)⟩ (fun w hs => hs)
                    ·
                      refine Wl.q (v := Value.bool false) (q_eql (r := false) rfl rfl (decide_eq_false hAt)) ?_
                      refine Wl.q (v := Value.bool false) (q_move rfl) ?_
                      refine Wl.no ?_
                      refine Wl.no ?_
                      refine Wl.no ?_
                      refine Wl.no ?_
                      refine Wl.no ?_
                      refine Wl.no ?_
                      refine Wl.no ?_
                      refine Wl.q (v := Value.bool false) (q_pick (t := false) rfl rfl) ?_
                      refine Wl.done ?_
                      refine Wx.go ?_
                      refine Wc.no rfl ?_
                      refine Wc.skip ?_
                      refine Wx.blockEnd ?_
                      refine Wx.go ?_
                      refine Wc.region ?_
                      refine Wl.q (v := Value.int .i64 ((k : Nat) : Int)) (q_move hE15_7) ?_
                      refine Wl.q (v := Value.int .i64 ((k + 1 : Nat) : Int)) (q_add (c := ((k + 1 : Nat) : Int)) rfl rfl (by rw [wrap_i64] <;> omega)) ?_
                      refine Wl.q (v := Value.int .i64 ((k + 1 : Nat) : Int)) (q_assign rfl) ?_
                      refine Wl.done ?_
                      refine Wx.at (k + 1, true, false) ⟨(by simp only; omega), rfl, hE13_7, hE14_7, hE0_7, hE1_7, hE7_7, hE10_7, hE11_7, (Half.old hget hpa), (Half.none hget hpb (fun e => hAt e.1)), (by omega)⟩ (fun w hs => hs)
                  ·
                    have hend2 : k = l.length := by omega
                    refine Wl.q (v := Value.bool false) (q_lss (r := false) rfl rfl (decide_eq_false hklt)) ?_
                    refine Wl.done ?_
                    refine Wx.go ?_
                    refine Wc.no rfl ?_
                    refine Wc.exit ?_
                    refine Wx.thenExit ?_
                    refine Wx.thenExit ?_
                    refine Wx.out ?_
                    refine Wx.go ?_
                    refine Wc.seq ?_
                    refine Wc.region ?_
                    refine Wl.q (v := Value.bool true) (q_move hE13_7) ?_
                    refine Wl.q (v := Value.bool false) (q_not rfl rfl) ?_
                    refine Wl.q (v := Value.bool false) (q_move rfl) ?_
                    refine Wl.q (v := Value.bool false) (q_move hE14_7) ?_
                    refine Wl.q (v := Value.bool true) (q_not rfl rfl) ?_
                    refine Wl.q (v := Value.bool true) (q_pick (t := false) rfl rfl) ?_
                    refine Wl.done ?_
                    refine Wx.go ?_
                    refine Wc.yes rfl ?_
                    refine Wc.seq ?_
                    refine Wc.region ?_
                    refine Wl.q (v := Value.bool false) (q_assign rfl) ?_
                    refine Wl.done ?_
                    refine Wx.go ?_
                    refine Wc.ret ?_
                    refine Wx.blockRet ?_
                    refine Wx.thenRet ?_
                    refine Wx.thenRet ?_
                    refine Wx.blockRet ?_
                    refine Wx.thenRet ?_
                    refine Wx.fin1 rfl (.inl rfl) (fun w hs => ?_)
                    exfalso
                    rw [hend2, List.take_length] at hpa hpb
                    cases hpb.2 htb
                ·
                  refine Wc.seq ?_
                  refine Wc.seq ?_
                  refine Wc.region ?_
                  refine Wl.q (v := Value.int .i64 ((k : Nat) : Int)) (q_move hE15_7) ?_
                  refine Wl.q (v := vl) (q_move hE1_7) ?_
                  refine Wl.q (v := Value.int .i64 ((l.length : Nat) : Int)) (q_len_is Try.underlying22 rfl hl.shape) ?_
                  by_cases hklt : ((k : Nat) : Int) < ((l.length : Nat) : Int)
                  ·
                    obtain ⟨q, hget⟩ : ∃ q, l[k]? = some q := ⟨l[k]'(by omega), by simp [List.getElem?_eq_getElem (show k < l.length by omega)]⟩
                    refine Wl.q (v := Value.bool true) (q_lss (r := true) rfl rfl (decide_eq_true hklt)) ?_
                    refine Wl.done ?_
                    refine Wx.go ?_
                    refine Wc.yes rfl ?_
                    refine Wc.skip ?_
                    refine Wx.go ?_
                    refine Wc.seq ?_
                    refine Wc.block ?_
                    refine Wc.seq ?_
                    refine Wc.region ?_
                    refine Wl.q (v := vl) (q_move hE1_7) ?_
                    refine Wl.q (v := Value.int .i64 ((k : Nat) : Int)) (q_move hE15_7) ?_
                    refine Wl.q (v := Value.pointer (some ⟨(rb vl), ro vl + k * 2, none⟩)) (q_idx_is (m := ro vl + k * 2) se_22 rfl (hl.some_ (by omega)) rfl (by omega) (by omega) rfl) ?_
                    refine Wl.q (v := Value.pointer (some ⟨(rb vl), ro vl + k * 2, none⟩)) (q_field (m := ro vl + k * 2) fo_31_0 rfl rfl) ?_
                    refine Wl.q (v := Value.int .i64 q.1) (q_load sc_3 rfl (.old ((rdW hl hget).1))) ?_
                    refine Wl.q (v := Value.int .i64 ((i : Nat) : Int)) (q_move hE10_7) ?_
                    by_cases hAt : q.1 = ((i : Nat) : Int)
                    ·
                      refine Wl.q (v := Value.bool true) (q_eql (r := true) rfl rfl (decide_eq_true hAt)) ?_
                      refine Wl.q (v := Value.bool true) (q_move rfl) ?_
                      refine Wl.q (v := vl) (q_move hE1_7) ?_
                      refine Wl.q (v := Value.int .i64 ((k : Nat) : Int)) (q_move hE15_7) ?_
                      refine Wl.q (v := Value.pointer (some ⟨(rb vl), ro vl + k * 2, none⟩)) (q_idx_is (m := ro vl + k * 2) se_22 rfl (hl.some_ (by omega)) rfl (by omega) (by omega) rfl) ?_
                      refine Wl.q (v := Value.pointer (some ⟨(rb vl), ro vl + k * 2 + 1, none⟩)) (q_field (m := ro vl + k * 2 + 1) fo_31_1 rfl rfl) ?_
                      refine Wl.q (v := Value.string q.2) (q_load sc_9 rfl (.old ((rdW hl hget).2))) ?_
                      refine Wl.q (v := Value.int .i64 ((q.2.size : Nat) : Int)) (q_len_str Try.underlying9 rfl) ?_
                      by_cases hSz : ((q.2.size : Nat) : Int) = 64
                      ·
                        refine Wl.q (v := Value.bool true) (q_eql (r := true) rfl rfl (decide_eq_true hSz)) ?_
                        refine Wl.q (v := Value.bool true) (q_pick (t := true) rfl rfl) ?_
                        refine Wl.done ?_
                        refine Wx.go ?_
                        refine Wc.yes rfl ?_
                        refine Wc.seq ?_
                        refine Wc.drawsS [] ((isDisk pp (tornD n l bits)) :: []) (by kernel_rfl) ?_
                        refine Wr.pure (v := Value.bool true) 0 rfl (by kernel_rfl) (.inr (fun _ h => st_take [0] h)) (.inl ⟨rfl, fun _ => q_move hE13_7⟩) ?_
                        refine Wr.pure (v := Value.bool true) 1 rfl (by kernel_rfl) (.inr (fun _ h => st_take [0] h)) (.inl ⟨rfl, fun _ => q_move rfl⟩) ?_
                        refine Wr.pure (v := undef) 2 rfl (by kernel_rfl) (.inr (fun _ h => st_take [0] h)) (.inr ⟨rfl, rfl⟩) ?_
                        refine Wr.pure (v := undef) 3 rfl (by kernel_rfl) (.inr (fun _ h => st_take [0] h)) (.inr ⟨rfl, rfl⟩) ?_
                        refine Wr.pure (v := undef) 4 rfl (by kernel_rfl) (.inr (fun _ h => st_take [0] h)) (.inr ⟨rfl, rfl⟩) ?_
                        refine Wr.pure (v := undef) 5 rfl (by kernel_rfl) (.inr (fun _ h => st_take [0] h)) (.inr ⟨rfl, rfl⟩) ?_
                        refine Wr.pure (v := undef) 6 rfl (by kernel_rfl) (.inr (fun _ h => st_take [0] h)) (.inr ⟨rfl, rfl⟩) ?_
                        refine Wr.pure (v := undef) 7 rfl (by kernel_rfl) (.inr (fun _ h => st_take [0] h)) (.inr ⟨rfl, rfl⟩) ?_
                        refine Wr.pure (v := undef) 8 rfl (by kernel_rfl) (.inr (fun _ h => st_take [0] h)) (.inr ⟨rfl, rfl⟩) ?_
                        refine Wr.pure (v := undef) 9 rfl (by kernel_rfl) (.inr (fun _ h => st_take [0] h)) (.inr ⟨rfl, rfl⟩) ?_
                        refine Wr.pure (v := undef) 10 rfl (by kernel_rfl) (.inr (fun _ h => st_take [0] h)) (.inr ⟨rfl, rfl⟩) ?_
                        refine Wr.pure (v := Value.bool true) 11 rfl (by kernel_rfl) (.inr (fun _ h => st_take [0] h)) (.inl ⟨rfl, fun _ => q_pick (t := true) rfl rfl⟩) ?_
                        refine Wr.pure (v := Value.bool true) 12 rfl (by kernel_rfl) (.inr (fun _ h => st_take [0] h)) (.inl ⟨rfl, fun _ => q_assign rfl⟩) ?_
                        refine Wr.done (by kernel_rfl) ?_
                        refine Wx.go ?_
                        refine Wc.drawsS [] ((isDisk pp (tornD n l bits)) :: []) (by kernel_rfl) ?_
                        refine Wr.pure (v := Value.bool true) 0 rfl (by kernel_rfl) (.inr (fun _ h => st_take [0] h)) (.inl ⟨rfl, fun _ => q_move hE14_7⟩) ?_
                        refine Wr.pure (v := Value.bool true) 1 rfl (by kernel_rfl) (.inr (fun _ h => st_take [0] h)) (.inl ⟨rfl, fun _ => q_move rfl⟩) ?_
                        refine Wr.pure (v := undef) 2 rfl (by kernel_rfl) (.inr (fun _ h => st_take [0] h)) (.inr ⟨rfl, rfl⟩) ?_
                        refine Wr.pure (v := undef) 3 rfl (by kernel_rfl) (.inr (fun _ h => st_take [0] h)) (.inr ⟨rfl, rfl⟩) ?_
                        refine Wr.pure (v := undef) 4 rfl (by kernel_rfl) (.inr (fun _ h => st_take [0] h)) (.inr ⟨rfl, rfl⟩) ?_
                        refine Wr.pure (v := undef) 5 rfl (by kernel_rfl) (.inr (fun _ h => st_take [0] h)) (.inr ⟨rfl, rfl⟩) ?_
                        refine Wr.pure (v := undef) 6 rfl (by kernel_rfl) (.inr (fun _ h => st_take [0] h)) (.inr ⟨rfl, rfl⟩) ?_
                        refine Wr.pure (v := undef) 7 rfl (by kernel_rfl) (.inr (fun _ h => st_take [0] h)) (.inr ⟨rfl, rfl⟩) ?_
                        refine Wr.pure (v := undef) 8 rfl (by kernel_rfl) (.inr (fun _ h => st_take [0] h)) (.inr ⟨rfl, rfl⟩) ?_
                        refine Wr.pure (v := undef) 9 rfl (by kernel_rfl) (.inr (fun _ h => st_take [0] h)) (.inr ⟨rfl, rfl⟩) ?_
                        refine Wr.pure (v := undef) 10 rfl (by kernel_rfl) (.inr (fun _ h => st_take [0] h)) (.inr ⟨rfl, rfl⟩) ?_
                        refine Wr.pure (v := Value.bool true) 11 rfl (by kernel_rfl) (.inr (fun _ h => st_take [0] h)) (.inl ⟨rfl, fun _ => q_pick (t := true) rfl rfl⟩) ?_
                        refine Wr.pure (v := Value.bool true) 12 rfl (by kernel_rfl) (.inr (fun _ h => st_take [0] h)) (.inl ⟨rfl, fun _ => q_assign rfl⟩) ?_
                        refine Wr.done (by kernel_rfl) ?_
                        refine Wx.blockEnd ?_
                        refine Wx.go ?_
                        refine Wc.region ?_
                        refine Wl.q (v := Value.int .i64 ((k : Nat) : Int)) (q_move hE15_7) ?_
                        refine Wl.q (v := Value.int .i64 ((k + 1 : Nat) : Int)) (q_add (c := ((k + 1 : Nat) : Int)) rfl rfl (by rw [wrap_i64] <;> omega)) ?_
                        refine Wl.q (v := Value.int .i64 ((k + 1 : Nat) : Int)) (q_assign rfl) ?_
                        refine Wl.done ?_
                        refine Wx.at (k + 1, true, true) ⟨(by simp only; omega), rfl, rfl, rfl, hE0_7, hE1_7, hE7_7, hE10_7, hE11_7, (Half.old hget hpa), (Half.old hget hpb), (by omega)⟩ (fun w hs => hs)
                      ·
                        refine Wl.q (v := Value.bool false) (q_eql (r := false) rfl rfl (decide_eq_false hSz)) ?_
                        refine Wl.q (v := Value.bool false) (q_pick (t := true) rfl rfl) ?_
                        refine Wl.done ?_
                        refine Wx.go ?_
                        refine Wc.no rfl ?_
                        refine Wc.skip ?_
                        refine Wx.blockEnd ?_
                        refine Wx.go ?_
                        refine Wc.region ?_
                        refine Wl.q (v := Value.int .i64 ((k : Nat) : Int)) (q_move hE15_7) ?_
                        refine Wl.q (v := Value.int .i64 ((k + 1 : Nat) : Int)) (q_add (c := ((k + 1 : Nat) : Int)) rfl rfl (by rw [wrap_i64] <;> omega)) ?_
                        refine Wl.q (v := Value.int .i64 ((k + 1 : Nat) : Int)) (q_assign rfl) ?_
                        refine Wl.done ?_
                        refine Wx.at (k + 1, true, true) ⟨(by simp only; omega), rfl, hE13_7, hE14_7, hE0_7, hE1_7, hE7_7, hE10_7, hE11_7, (Half.old hget hpa), (Half.old hget hpb), (by omega)⟩ (fun w hs => hs)
                    ·
                      refine Wl.q (v := Value.bool false) (q_eql (r := false) rfl rfl (decide_eq_false hAt)) ?_
                      refine Wl.q (v := Value.bool false) (q_move rfl) ?_
                      refine Wl.no ?_
                      refine Wl.no ?_
                      refine Wl.no ?_
                      refine Wl.no ?_
                      refine Wl.no ?_
                      refine Wl.no ?_
                      refine Wl.no ?_
                      refine Wl.q (v := Value.bool false) (q_pick (t := false) rfl rfl) ?_
                      refine Wl.done ?_
                      refine Wx.go ?_
                      refine Wc.no rfl ?_
                      refine Wc.skip ?_
                      refine Wx.blockEnd ?_
                      refine Wx.go ?_
                      refine Wc.region ?_
                      refine Wl.q (v := Value.int .i64 ((k : Nat) : Int)) (q_move hE15_7) ?_
                      refine Wl.q (v := Value.int .i64 ((k + 1 : Nat) : Int)) (q_add (c := ((k + 1 : Nat) : Int)) rfl rfl (by rw [wrap_i64] <;> omega)) ?_
                      refine Wl.q (v := Value.int .i64 ((k + 1 : Nat) : Int)) (q_assign rfl) ?_
                      refine Wl.done ?_
                      refine Wx.at (k + 1, true, true) ⟨(by simp only; omega), rfl, hE13_7, hE14_7, hE0_7, hE1_7, hE7_7, hE10_7, hE11_7, (Half.old hget hpa), (Half.old hget hpb), (by omega)⟩ (fun w hs => hs)
                  ·
                    have hend2 : k = l.length := by omega
                    refine Wl.q (v := Value.bool false) (q_lss (r := false) rfl rfl (decide_eq_false hklt)) ?_
                    refine Wl.done ?_
                    refine Wx.go ?_
                    refine Wc.no rfl ?_
                    refine Wc.exit ?_
                    refine Wx.thenExit ?_
                    refine Wx.thenExit ?_
                    refine Wx.out ?_
                    refine Wx.go ?_
                    refine Wc.seq ?_
                    refine Wc.region ?_
                    refine Wl.q (v := Value.bool true) (q_move hE13_7) ?_
                    refine Wl.q (v := Value.bool false) (q_not rfl rfl) ?_
                    refine Wl.q (v := Value.bool false) (q_move rfl) ?_
                    refine Wl.q (v := Value.bool true) (q_move hE14_7) ?_
                    refine Wl.q (v := Value.bool false) (q_not rfl rfl) ?_
                    refine Wl.q (v := Value.bool false) (q_pick (t := false) rfl rfl) ?_
                    refine Wl.done ?_
                    refine Wx.go ?_
                    refine Wc.no rfl ?_
                    refine Wc.skip ?_
                    refine Wx.blockEnd ?_
                    refine Wx.go ?_
                    refine Wc.region ?_
                    refine Wl.q (v := Value.int .i64 ((i : Nat) : Int)) (q_move hE10_7) ?_
                    refine Wl.q (v := Value.int .i64 ((i + 1 : Nat) : Int)) (q_add (c := ((i + 1 : Nat) : Int)) rfl rfl (by rw [wrap_i64] <;> omega)) ?_
                    refine Wl.q (v := Value.int .i64 ((i + 1 : Nat) : Int)) (q_assign rfl) ?_
                    refine Wl.done ?_
                    refine Wx.at (i + 1) ⟨(by omega), rfl, hE0_7, hE1_7, hE7_7, (by omega)⟩ (fun w hs => hs)
          ·
            refine Wr.pure (v := Value.bool false) 4 rfl (by kernel_rfl) (.inr (fun _ h => st_take [0] h)) (.inl ⟨rfl, fun _ => q_eql_str (r := false) rfl rfl (text_false hLo0)⟩) ?_
            refine Wr.pure (v := Value.bool false) 5 rfl (by kernel_rfl) (.inr (fun _ h => st_take [0] h)) (.inl ⟨rfl, fun _ => q_assign rfl⟩) ?_
            refine Wr.done (by kernel_rfl) ?_
            refine Wx.go ?_
            refine Wc.seq ?_
            refine Wc.drawsS [2] ((isDisk pp (tornD n l bits)) :: []) (by kernel_rfl) ?_
            refine Wr.pure (v := Value.string s) 0 rfl (by kernel_rfl) (.inr (fun _ h => st_take [0] h)) (.inl ⟨rfl, fun _ => q_move rfl⟩) ?_
            refine Wr.pure (v := Value.string (s.extract 32 s.size)) 1 rfl (by kernel_rfl) (.inr (fun _ h => st_take [0] h)) (.inl ⟨rfl, fun _ => q_slice_str (l := 32) (h := s.size) Try.underlying9 rfl ⟨_, rfl⟩ rfl (by omega) (by omega) rfl⟩) ?_
            refine Wr.e 2 (by kernel_rfl) rfl (e_call (F := (isDisk pp (tornD n l bits)) :: F) (args := []) Try.call17 rfl (noughts_c W0)) (.inl (by kernel_rfl)) (fun _ _ => ?_)
            refine Wr.imp (L' := (isDisk pp (tornD n l bits)) :: F) (fun _ h => h) ?_
            refine Wr.rebaseS [] ((isDisk pp (tornD n l bits)) :: []) (by kernel_rfl) ?_
            refine Wr.pure (v := Value.string (noughts.extract 32 noughts.size)) 3 rfl (by kernel_rfl) (.inr (fun _ h => st_take [0] h)) (.inl ⟨rfl, fun _ => q_slice_str (l := 32) (h := noughts.size) Try.underlying9 rfl ⟨_, rfl⟩ rfl (by rw [noughts_size]; omega) (by omega) rfl⟩) ?_
            by_cases hHi0 : (s.extract 32 s.size) = (noughts.extract 32 noughts.size)
            ·
              refine Wr.pure (v := Value.bool true) 4 rfl (by kernel_rfl) (.inr (fun _ h => st_take [0] h)) (.inl ⟨rfl, fun _ => q_eql_str (r := true) rfl rfl (text_true hHi0)⟩) ?_
              refine Wr.pure (v := Value.bool true) 5 rfl (by kernel_rfl) (.inr (fun _ h => st_take [0] h)) (.inl ⟨rfl, fun _ => q_assign rfl⟩) ?_
              refine Wr.done (by kernel_rfl) ?_
              refine Wx.go ?_
              refine Wc.seq ?_
              refine Wc.seq ?_
              refine Wc.region ?_
              refine Wl.q (v := Value.int .i64 0) (q_assign rfl) ?_
              refine Wl.done ?_
              refine Wx.go ?_
              refine Wc.block ?_
              refine Wc.loop (X := Nat × Bool × Bool) (fun (k, a, b) E => E 15 = Value.int .i64 ((k : Nat) : Int) ∧ E 13 = Value.bool a ∧ E 14 = Value.bool b ∧ E 0 = Value.int .i64 ((n : Nat) : Int) ∧ E 1 = vl ∧ E 7 = Value.pointer (some ⟨pp, 0, none⟩) ∧ E 10 = Value.int .i64 ((i : Nat) : Int) ∧ E 11 = Value.string s ∧ (a = true ↔ Half lo s i (l.take k)) ∧ (b = true ↔ Half hi s i (l.take k)) ∧ k ≤ l.length) (fun (k, a, b) => (isDisk pp (tornD n l bits)) :: F) (fun (k, a, b) => l.length - k) (0, false, true) ?_ ?_ ?_
              · exact ⟨rfl, rfl, rfl, hE0_3, hE1_3, hE7_3, hE10_3, rfl, (Half.atOther hLo0), (Half.atNought hHi0), (by omega)⟩
              · exact fun w hs => hs
              · rintro ⟨k, a, b⟩ E11 ⟨hE15_9, hE13_9, hE14_9, hE0_9, hE1_9, hE7_9, hE10_9, hE11_9, hpa, hpb, hp0⟩
                dsimp only at *
                rcases a with _ | _ <;> rcases b with _ | _
                ·
                  refine Wc.seq ?_
                  refine Wc.seq ?_
                  refine Wc.region ?_
                  refine Wl.q (v := Value.int .i64 ((k : Nat) : Int)) (q_move hE15_9) ?_
                  refine Wl.q (v := vl) (q_move hE1_9) ?_
                  refine Wl.q (v := Value.int .i64 ((l.length : Nat) : Int)) (q_len_is Try.underlying22 rfl hl.shape) ?_
                  by_cases hklt : ((k : Nat) : Int) < ((l.length : Nat) : Int)
                  ·
                    obtain ⟨q, hget⟩ : ∃ q, l[k]? = some q := ⟨l[k]'(by omega), by simp [List.getElem?_eq_getElem (show k < l.length by omega)]⟩
                    refine Wl.q (v := Value.bool true) (q_lss (r := true) rfl rfl (decide_eq_true hklt)) ?_
                    refine Wl.done ?_
                    refine Wx.go ?_
                    refine Wc.yes rfl ?_
                    refine Wc.skip ?_
                    refine Wx.go ?_
                    refine Wc.seq ?_
                    refine Wc.block ?_
                    refine Wc.seq ?_
                    refine Wc.region ?_
                    refine Wl.q (v := vl) (q_move hE1_9) ?_
                    refine Wl.q (v := Value.int .i64 ((k : Nat) : Int)) (q_move hE15_9) ?_
                    refine Wl.q (v := Value.pointer (some ⟨(rb vl), ro vl + k * 2, none⟩)) (q_idx_is (m := ro vl + k * 2) se_22 rfl (hl.some_ (by omega)) rfl (by omega) (by omega) rfl) ?_
                    refine Wl.q (v := Value.pointer (some ⟨(rb vl), ro vl + k * 2, none⟩)) (q_field (m := ro vl + k * 2) fo_31_0 rfl rfl) ?_
                    refine Wl.q (v := Value.int .i64 q.1) (q_load sc_3 rfl (.old ((rdW hl hget).1))) ?_
                    refine Wl.q (v := Value.int .i64 ((i : Nat) : Int)) (q_move hE10_9) ?_
                    by_cases hAt : q.1 = ((i : Nat) : Int)
                    ·
                      refine Wl.q (v := Value.bool true) (q_eql (r := true) rfl rfl (decide_eq_true hAt)) ?_
                      refine Wl.q (v := Value.bool true) (q_move rfl) ?_
                      refine Wl.q (v := vl) (q_move hE1_9) ?_
                      refine Wl.q (v := Value.int .i64 ((k : Nat) : Int)) (q_move hE15_9) ?_
                      refine Wl.q (v := Value.pointer (some ⟨(rb vl), ro vl + k * 2, none⟩)) (q_idx_is (m := ro vl + k * 2) se_22 rfl (hl.some_ (by omega)) rfl (by omega) (by omega) rfl) ?_
                      refine Wl.q (v := Value.pointer (some ⟨(rb vl), ro vl + k * 2 + 1, none⟩)) (q_field (m := ro vl + k * 2 + 1) fo_31_1 rfl rfl) ?_
                      refine Wl.q (v := Value.string q.2) (q_load sc_9 rfl (.old ((rdW hl hget).2))) ?_
                      refine Wl.q (v := Value.int .i64 ((q.2.size : Nat) : Int)) (q_len_str Try.underlying9 rfl) ?_
                      by_cases hSz : ((q.2.size : Nat) : Int) = 64
                      ·
                        refine Wl.q (v := Value.bool true) (q_eql (r := true) rfl rfl (decide_eq_true hSz)) ?_
                        refine Wl.q (v := Value.bool true) (q_pick (t := true) rfl rfl) ?_
                        refine Wl.done ?_
                        refine Wx.go ?_
                        refine Wc.yes rfl ?_
                        refine Wc.seq ?_
                        refine Wc.drawsS [] ((isDisk pp (tornD n l bits)) :: []) (by kernel_rfl) ?_
                        refine Wr.pure (v := Value.bool false) 0 rfl (by kernel_rfl) (.inr (fun _ h => st_take [0] h)) (.inl ⟨rfl, fun _ => q_move hE13_9⟩) ?_
                        refine Wr.pure (v := Value.bool false) 1 rfl (by kernel_rfl) (.inr (fun _ h => st_take [0] h)) (.inl ⟨rfl, fun _ => q_move rfl⟩) ?_
                        refine Wr.pure (v := Value.string s) 2 rfl (by kernel_rfl) (.inr (fun _ h => st_take [0] h)) (.inl ⟨rfl, fun _ => q_move hE11_9⟩) ?_
                        refine Wr.pure (v := Value.string (s.extract 0 32)) 3 rfl (by kernel_rfl) (.inr (fun _ h => st_take [0] h)) (.inl ⟨rfl, fun _ => q_slice_str (l := 0) (h := 32) Try.underlying9 rfl rfl ⟨_, rfl⟩ (by omega) (by omega) rfl⟩) ?_
                        refine Wr.pure (v := vl) 4 rfl (by kernel_rfl) (.inr (fun _ h => st_take [0] h)) (.inl ⟨rfl, fun _ => q_move hE1_9⟩) ?_
                        refine Wr.pure (v := Value.int .i64 ((k : Nat) : Int)) 5 rfl (by kernel_rfl) (.inr (fun _ h => st_take [0] h)) (.inl ⟨rfl, fun _ => q_move hE15_9⟩) ?_
                        refine Wr.pure (v := Value.pointer (some ⟨(rb vl), ro vl + k * 2, none⟩)) 6 rfl (by kernel_rfl) (.inr (fun _ h => st_take [0] h)) (.inl ⟨rfl, fun _ => q_idx_is (m := ro vl + k * 2) se_22 rfl (hl.some_ (by omega)) rfl (by omega) (by omega) rfl⟩) ?_
                        refine Wr.pure (v := Value.pointer (some ⟨(rb vl), ro vl + k * 2 + 1, none⟩)) 7 rfl (by kernel_rfl) (.inr (fun _ h => st_take [0] h)) (.inl ⟨rfl, fun _ => q_field (m := ro vl + k * 2 + 1) fo_31_1 rfl rfl⟩) ?_
                        refine Wr.take (v := Value.string q.2) 8 rfl (by kernel_rfl) (fun _ h => st_take [0] h) (.inl ⟨rfl, q_load sc_9 rfl (.old ((rdW hl hget).2))⟩) ?_
                        refine Wr.pure (v := Value.string (q.2.extract 0 32)) 9 rfl (by kernel_rfl) (.inr (fun _ h => st_take [0] h)) (.inl ⟨rfl, fun _ => q_slice_str (l := 0) (h := 32) Try.underlying9 rfl rfl ⟨_, rfl⟩ (by omega) (by omega) rfl⟩) ?_
                        by_cases hLo : (s.extract 0 32) = (q.2.extract 0 32)
                        ·
                          refine Wr.pure (v := Value.bool true) 10 rfl (by kernel_rfl) (.inr (fun _ h => st_take [0] h)) (.inl ⟨rfl, fun _ => q_eql_str (r := true) rfl rfl (text_true hLo)⟩) ?_
                          refine Wr.pure (v := Value.bool true) 11 rfl (by kernel_rfl) (.inr (fun _ h => st_take [0] h)) (.inl ⟨rfl, fun _ => q_pick (t := false) rfl rfl⟩) ?_
                          refine Wr.pure (v := Value.bool true) 12 rfl (by kernel_rfl) (.inr (fun _ h => st_take [0] h)) (.inl ⟨rfl, fun _ => q_assign rfl⟩) ?_
                          refine Wr.done (by kernel_rfl) ?_
                          refine Wx.go ?_
                          refine Wc.drawsS [] ((isDisk pp (tornD n l bits)) :: []) (by kernel_rfl) ?_
                          refine Wr.pure (v := Value.bool false) 0 rfl (by kernel_rfl) (.inr (fun _ h => st_take [0] h)) (.inl ⟨rfl, fun _ => q_move hE14_9⟩) ?_
                          refine Wr.pure (v := Value.bool false) 1 rfl (by kernel_rfl) (.inr (fun _ h => st_take [0] h)) (.inl ⟨rfl, fun _ => q_move rfl⟩) ?_
                          refine Wr.pure (v := Value.string s) 2 rfl (by kernel_rfl) (.inr (fun _ h => st_take [0] h)) (.inl ⟨rfl, fun _ => q_move hE11_9⟩) ?_
                          refine Wr.pure (v := Value.string (s.extract 32 s.size)) 3 rfl (by kernel_rfl) (.inr (fun _ h => st_take [0] h)) (.inl ⟨rfl, fun _ => q_slice_str (l := 32) (h := s.size) Try.underlying9 rfl ⟨_, rfl⟩ rfl (by omega) (by omega) rfl⟩) ?_
                          refine Wr.pure (v := vl) 4 rfl (by kernel_rfl) (.inr (fun _ h => st_take [0] h)) (.inl ⟨rfl, fun _ => q_move hE1_9⟩) ?_
                          refine Wr.pure (v := Value.int .i64 ((k : Nat) : Int)) 5 rfl (by kernel_rfl) (.inr (fun _ h => st_take [0] h)) (.inl ⟨rfl, fun _ => q_move hE15_9⟩) ?_
                          refine Wr.pure (v := Value.pointer (some ⟨(rb vl), ro vl + k * 2, none⟩)) 6 rfl (by kernel_rfl) (.inr (fun _ h => st_take [0] h)) (.inl ⟨rfl, fun _ => q_idx_is (m := ro vl + k * 2) se_22 rfl (hl.some_ (by omega)) rfl (by omega) (by omega) rfl⟩) ?_
                          refine Wr.pure (v := Value.pointer (some ⟨(rb vl), ro vl + k * 2 + 1, none⟩)) 7 rfl (by kernel_rfl) (.inr (fun _ h => st_take [0] h)) (.inl ⟨rfl, fun _ => q_field (m := ro vl + k * 2 + 1) fo_31_1 rfl rfl⟩) ?_
                          refine Wr.take (v := Value.string q.2) 8 rfl (by kernel_rfl) (fun _ h => st_take [0] h) (.inl ⟨rfl, q_load sc_9 rfl (.old ((rdW hl hget).2))⟩) ?_
                          refine Wr.pure (v := Value.string (q.2.extract 32 q.2.size)) 9 rfl (by kernel_rfl) (.inr (fun _ h => st_take [0] h)) (.inl ⟨rfl, fun _ => q_slice_str (l := 32) (h := q.2.size) Try.underlying9 rfl ⟨_, rfl⟩ rfl (by omega) (by omega) rfl⟩) ?_
                          by_cases hHi : (s.extract 32 s.size) = (q.2.extract 32 q.2.size)
                          ·
                            refine Wr.pure (v := Value.bool true) 10 rfl (by kernel_rfl) (.inr (fun _ h => st_take [0] h)) (.inl ⟨rfl, fun _ => q_eql_str (r := true) rfl rfl (text_true hHi)⟩) ?_
                            refine Wr.pure (v := Value.bool true) 11 rfl (by kernel_rfl) (.inr (fun _ h => st_take [0] h)) (.inl ⟨rfl, fun _ => q_pick (t := false) rfl rfl⟩) ?_
                            refine Wr.pure (v := Value.bool true) 12 rfl (by kernel_rfl) (.inr (fun _ h => st_take [0] h)) (.inl ⟨rfl, fun _ => q_assign rfl⟩) ?_
                            refine Wr.done (by kernel_rfl) ?_
                            refine Wx.blockEnd ?_
                            refine Wx.go ?_
                            refine Wc.region ?_
                            refine Wl.q (v := Value.int .i64 ((k : Nat) : Int)) (q_move hE15_9) ?_
                            refine Wl.q (v := Value.int .i64 ((k + 1 : Nat) : Int)) (q_add (c := ((k + 1 : Nat) : Int)) rfl rfl (by rw [wrap_i64] <;> omega)) ?_
                            refine Wl.q (v := Value.int .i64 ((k + 1 : Nat) : Int)) (q_assign rfl) ?_
                            refine Wl.done ?_
                            refine Wx.at (k + 1, true, true) ⟨(by simp only; omega), rfl, rfl, rfl, hE0_9, hE1_9, hE7_9, hE10_9, hE11_9, (Half.new hget hAt hSz hLo), (Half.new hget hAt hSz hHi), (by omega)⟩ (fun w hs => hs)
                          ·
                            refine Wr.pure (v := Value.bool false) 10 rfl (by kernel_rfl) (.inr (fun _ h => st_take [0] h)) (.inl ⟨rfl, fun _ => q_eql_str (r := false) rfl rfl (text_false hHi)⟩) ?_
                            refine Wr.pure (v := Value.bool false) 11 rfl (by kernel_rfl) (.inr (fun _ h => st_take [0] h)) (.inl ⟨rfl, fun _ => q_pick (t := false) rfl rfl⟩) ?_
                            refine Wr.pure (v := Value.bool false) 12 rfl (by kernel_rfl) (.inr (fun _ h => st_take [0] h)) (.inl ⟨rfl, fun _ => q_assign rfl⟩) ?_
                            refine Wr.done (by kernel_rfl) ?_
                            refine Wx.blockEnd ?_
                            refine Wx.go ?_
                            refine Wc.region ?_
                            refine Wl.q (v := Value.int .i64 ((k : Nat) : Int)) (q_move hE15_9) ?_
                            refine Wl.q (v := Value.int .i64 ((k + 1 : Nat) : Int)) (q_add (c := ((k + 1 : Nat) : Int)) rfl rfl (by rw [wrap_i64] <;> omega)) ?_
                            refine Wl.q (v := Value.int .i64 ((k + 1 : Nat) : Int)) (q_assign rfl) ?_
                            refine Wl.done ?_
                            refine Wx.at (k + 1, true, false) ⟨(by simp only; omega), rfl, rfl, rfl, hE0_9, hE1_9, hE7_9, hE10_9, hE11_9, (Half.new hget hAt hSz hLo), (Half.none hget hpb (fun e => hHi e.2.2)), (by omega)⟩ (fun w hs => hs)
                        ·
                          refine Wr.pure (v := Value.bool false) 10 rfl (by kernel_rfl) (.inr (fun _ h => st_take [0] h)) (.inl ⟨rfl, fun _ => q_eql_str (r := false) rfl rfl (text_false hLo)⟩) ?_
                          refine Wr.pure (v := Value.bool false) 11 rfl (by kernel_rfl) (.inr (fun _ h => st_take [0] h)) (.inl ⟨rfl, fun _ => q_pick (t := false) rfl rfl⟩) ?_
                          refine Wr.pure (v := Value.bool false) 12 rfl (by kernel_rfl) (.inr (fun _ h => st_take [0] h)) (.inl ⟨rfl, fun _ => q_assign rfl⟩) ?_
                          refine Wr.done (by kernel_rfl) ?_
                          refine Wx.go ?_
                          refine Wc.drawsS [] ((isDisk pp (tornD n l bits)) :: []) (by kernel_rfl) ?_
                          refine Wr.pure (v := Value.bool false) 0 rfl (by kernel_rfl) (.inr (fun _ h => st_take [0] h)) (.inl ⟨rfl, fun _ => q_move hE14_9⟩) ?_
                          refine Wr.pure (v := Value.bool false) 1 rfl (by kernel_rfl) (.inr (fun _ h => st_take [0] h)) (.inl ⟨rfl, fun _ => q_move rfl⟩) ?_
                          refine Wr.pure (v := Value.string s) 2 rfl (by kernel_rfl) (.inr (fun _ h => st_take [0] h)) (.inl ⟨rfl, fun _ => q_move hE11_9⟩) ?_
                          refine Wr.pure (v := Value.string (s.extract 32 s.size)) 3 rfl (by kernel_rfl) (.inr (fun _ h => st_take [0] h)) (.inl ⟨rfl, fun _ => q_slice_str (l := 32) (h := s.size) Try.underlying9 rfl ⟨_, rfl⟩ rfl (by omega) (by omega) rfl⟩) ?_
                          refine Wr.pure (v := vl) 4 rfl (by kernel_rfl) (.inr (fun _ h => st_take [0] h)) (.inl ⟨rfl, fun _ => q_move hE1_9⟩) ?_
                          refine Wr.pure (v := Value.int .i64 ((k : Nat) : Int)) 5 rfl (by kernel_rfl) (.inr (fun _ h => st_take [0] h)) (.inl ⟨rfl, fun _ => q_move hE15_9⟩) ?_
                          refine Wr.pure (v := Value.pointer (some ⟨(rb vl), ro vl + k * 2, none⟩)) 6 rfl (by kernel_rfl) (.inr (fun _ h => st_take [0] h)) (.inl ⟨rfl, fun _ => q_idx_is (m := ro vl + k * 2) se_22 rfl (hl.some_ (by omega)) rfl (by omega) (by omega) rfl⟩) ?_
                          refine Wr.pure (v := Value.pointer (some ⟨(rb vl), ro vl + k * 2 + 1, none⟩)) 7 rfl (by kernel_rfl) (.inr (fun _ h => st_take [0] h)) (.inl ⟨rfl, fun _ => q_field (m := ro vl + k * 2 + 1) fo_31_1 rfl rfl⟩) ?_
                          refine Wr.take (v := Value.string q.2) 8 rfl (by kernel_rfl) (fun _ h => st_take [0] h) (.inl ⟨rfl, q_load sc_9 rfl (.old ((rdW hl hget).2))⟩) ?_
                          refine Wr.pure (v := Value.string (q.2.extract 32 q.2.size)) 9 rfl (by kernel_rfl) (.inr (fun _ h => st_take [0] h)) (.inl ⟨rfl, fun _ => q_slice_str (l := 32) (h := q.2.size) Try.underlying9 rfl ⟨_, rfl⟩ rfl (by omega) (by omega) rfl⟩) ?_
                          by_cases hHi : (s.extract 32 s.size) = (q.2.extract 32 q.2.size)
                          ·
                            refine Wr.pure (v := Value.bool true) 10 rfl (by kernel_rfl) (.inr (fun _ h => st_take [0] h)) (.inl ⟨rfl, fun _ => q_eql_str (r := true) rfl rfl (text_true hHi)⟩) ?_
                            refine Wr.pure (v := Value.bool true) 11 rfl (by kernel_rfl) (.inr (fun _ h => st_take [0] h)) (.inl ⟨rfl, fun _ => q_pick (t := false) rfl rfl⟩) ?_
                            refine Wr.pure (v := Value.bool true) 12 rfl (by kernel_rfl) (.inr (fun _ h => st_take [0] h)) (.inl ⟨rfl, fun _ => q_assign rfl⟩) ?_
                            refine Wr.done (by kernel_rfl) ?_
                            refine Wx.blockEnd ?_
                            refine Wx.go ?_
                            refine Wc.region ?_
                            refine Wl.q (v := Value.int .i64 ((k : Nat) : Int)) (q_move hE15_9) ?_
                            refine Wl.q (v := Value.int .i64 ((k + 1 : Nat) : Int)) (q_add (c := ((k + 1 : Nat) : Int)) rfl rfl (by rw [wrap_i64] <;> omega)) ?_
                            refine Wl.q (v := Value.int .i64 ((k + 1 : Nat) : Int)) (q_assign rfl) ?_
                            refine Wl.done ?_
                            refine Wx.at (k + 1, false, true) ⟨(by simp only; omega), rfl, rfl, rfl, hE0_9, hE1_9, hE7_9, hE10_9, hE11_9, (Half.none hget hpa (fun e => hLo e.2.2)), (Half.new hget hAt hSz hHi), (by omega)⟩ (fun w hs => hs)
                          ·
                            refine Wr.pure (v := Value.bool false) 10 rfl (by kernel_rfl) (.inr (fun _ h => st_take [0] h)) (.inl ⟨rfl, fun _ => q_eql_str (r := false) rfl rfl (text_false hHi)⟩) ?_
                            refine Wr.pure (v := Value.bool false) 11 rfl (by kernel_rfl) (.inr (fun _ h => st_take [0] h)) (.inl ⟨rfl, fun _ => q_pick (t := false) rfl rfl⟩) ?_
                            refine Wr.pure (v := Value.bool false) 12 rfl (by kernel_rfl) (.inr (fun _ h => st_take [0] h)) (.inl ⟨rfl, fun _ => q_assign rfl⟩) ?_
                            refine Wr.done (by kernel_rfl) ?_
                            refine Wx.blockEnd ?_
                            refine Wx.go ?_
                            refine Wc.region ?_
                            refine Wl.q (v := Value.int .i64 ((k : Nat) : Int)) (q_move hE15_9) ?_
                            refine Wl.q (v := Value.int .i64 ((k + 1 : Nat) : Int)) (q_add (c := ((k + 1 : Nat) : Int)) rfl rfl (by rw [wrap_i64] <;> omega)) ?_
                            refine Wl.q (v := Value.int .i64 ((k + 1 : Nat) : Int)) (q_assign rfl) ?_
                            refine Wl.done ?_
                            refine Wx.at (k + 1, false, false) ⟨(by simp only; omega), rfl, rfl, rfl, hE0_9, hE1_9, hE7_9, hE10_9, hE11_9, (Half.none hget hpa (fun e => hLo e.2.2)), (Half.none hget hpb (fun e => hHi e.2.2)), (by omega)⟩ (fun w hs => hs)
                      ·
                        refine Wl.q (v := Value.bool false) (q_eql (r := false) rfl rfl (decide_eq_false hSz)) ?_
                        refine Wl.q (v := Value.bool false) (q_pick (t := true) rfl rfl) ?_
                        refine Wl.done ?_
                        refine Wx.go ?_
                        refine Wc.no rfl ?_
                        refine Wc.skip ?_
                        refine Wx.blockEnd ?_
                        refine Wx.go ?_
                        refine Wc.region ?_
                        refine Wl.q (v := Value.int .i64 ((k : Nat) : Int)) (q_move hE15_9) ?_
                        refine Wl.q (v := Value.int .i64 ((k + 1 : Nat) : Int)) (q_add (c := ((k + 1 : Nat) : Int)) rfl rfl (by rw [wrap_i64] <;> omega)) ?_
                        refine Wl.q (v := Value.int .i64 ((k + 1 : Nat) : Int)) (q_assign rfl) ?_
                        refine Wl.done ?_
                        refine Wx.at (k + 1, false, false) ⟨(by simp only; omega), rfl, hE13_9, hE14_9, hE0_9, hE1_9, hE7_9, hE10_9, hE11_9, (Half.none hget hpa (fun e => hSz e.2.1)), (Half.none hget hpb (fun e => hSz e.2.1)), (by omega)⟩ (fun w hs => hs)
                    ·
                      refine Wl.q (v := Value.bool false) (q_eql (r := false) rfl rfl (decide_eq_false hAt)) ?_
                      refine Wl.q (v := Value.bool false) (q_move rfl) ?_
                      refine Wl.no ?_
                      refine Wl.no ?_
                      refine Wl.no ?_
                      refine Wl.no ?_
                      refine Wl.no ?_
                      refine Wl.no ?_
                      refine Wl.no ?_
                      refine Wl.q (v := Value.bool false) (q_pick (t := false) rfl rfl) ?_
                      refine Wl.done ?_
                      refine Wx.go ?_
                      refine Wc.no rfl ?_
                      refine Wc.skip ?_
                      refine Wx.blockEnd ?_
                      refine Wx.go ?_
                      refine Wc.region ?_
                      refine Wl.q (v := Value.int .i64 ((k : Nat) : Int)) (q_move hE15_9) ?_
                      refine Wl.q (v := Value.int .i64 ((k + 1 : Nat) : Int)) (q_add (c := ((k + 1 : Nat) : Int)) rfl rfl (by rw [wrap_i64] <;> omega)) ?_
                      refine Wl.q (v := Value.int .i64 ((k + 1 : Nat) : Int)) (q_assign rfl) ?_
                      refine Wl.done ?_
                      refine Wx.at (k + 1, false, false) ⟨(by simp only; omega), rfl, hE13_9, hE14_9, hE0_9, hE1_9, hE7_9, hE10_9, hE11_9, (Half.none hget hpa (fun e => hAt e.1)), (Half.none hget hpb (fun e => hAt e.1)), (by omega)⟩ (fun w hs => hs)
                  ·
                    have hend2 : k = l.length := by omega
                    refine Wl.q (v := Value.bool false) (q_lss (r := false) rfl rfl (decide_eq_false hklt)) ?_
                    refine Wl.done ?_
                    refine Wx.go ?_
                    refine Wc.no rfl ?_
                    refine Wc.exit ?_
                    refine Wx.thenExit ?_
                    refine Wx.thenExit ?_
                    refine Wx.out ?_
                    refine Wx.go ?_
                    refine Wc.seq ?_
                    refine Wc.region ?_
                    refine Wl.q (v := Value.bool false) (q_move hE13_9) ?_
                    refine Wl.q (v := Value.bool true) (q_not rfl rfl) ?_
                    refine Wl.q (v := Value.bool true) (q_move rfl) ?_
                    refine Wl.no ?_
                    refine Wl.no ?_
                    refine Wl.q (v := Value.bool true) (q_pick (t := true) rfl rfl) ?_
                    refine Wl.done ?_
                    refine Wx.go ?_
                    refine Wc.yes rfl ?_
                    refine Wc.seq ?_
                    refine Wc.region ?_
                    refine Wl.q (v := Value.bool false) (q_assign rfl) ?_
                    refine Wl.done ?_
                    refine Wx.go ?_
                    refine Wc.ret ?_
                    refine Wx.blockRet ?_
                    refine Wx.thenRet ?_
                    refine Wx.thenRet ?_
                    refine Wx.blockRet ?_
                    refine Wx.thenRet ?_
                    refine Wx.fin1 rfl (.inl rfl) (fun w hs => ?_)
                    exfalso
                    rw [hend2, List.take_length] at hpa hpb
                    cases hpa.2 hta
                ·
                  refine Wc.seq ?_
                  refine Wc.seq ?_
                  refine Wc.region ?_
                  refine Wl.q (v := Value.int .i64 ((k : Nat) : Int)) (q_move hE15_9) ?_
                  refine Wl.q (v := vl) (q_move hE1_9) ?_
                  refine Wl.q (v := Value.int .i64 ((l.length : Nat) : Int)) (q_len_is Try.underlying22 rfl hl.shape) ?_
                  by_cases hklt : ((k : Nat) : Int) < ((l.length : Nat) : Int)
                  ·
                    obtain ⟨q, hget⟩ : ∃ q, l[k]? = some q := ⟨l[k]'(by omega), by simp [List.getElem?_eq_getElem (show k < l.length by omega)]⟩
                    refine Wl.q (v := Value.bool true) (q_lss (r := true) rfl rfl (decide_eq_true hklt)) ?_
                    refine Wl.done ?_
                    refine Wx.go ?_
                    refine Wc.yes rfl ?_
                    refine Wc.skip ?_
                    refine Wx.go ?_
                    refine Wc.seq ?_
                    refine Wc.block ?_
                    refine Wc.seq ?_
                    refine Wc.region ?_
                    refine Wl.q (v := vl) (q_move hE1_9) ?_
                    refine Wl.q (v := Value.int .i64 ((k : Nat) : Int)) (q_move hE15_9) ?_
                    refine Wl.q (v := Value.pointer (some ⟨(rb vl), ro vl + k * 2, none⟩)) (q_idx_is (m := ro vl + k * 2) se_22 rfl (hl.some_ (by omega)) rfl (by omega) (by omega) rfl) ?_
                    refine Wl.q (v := Value.pointer (some ⟨(rb vl), ro vl + k * 2, none⟩)) (q_field (m := ro vl + k * 2) fo_31_0 rfl rfl) ?_
                    refine Wl.q (v := Value.int .i64 q.1) (q_load sc_3 rfl (.old ((rdW hl hget).1))) ?_
                    refine Wl.q (v := Value.int .i64 ((i : Nat) : Int)) (q_move hE10_9) ?_
                    by_cases hAt : q.1 = ((i : Nat) : Int)
                    ·
                      refine Wl.q (v := Value.bool true) (q_eql (r := true) rfl rfl (decide_eq_true hAt)) ?_
                      refine Wl.q (v := Value.bool true) (q_move rfl) ?_
                      refine Wl.q (v := vl) (q_move hE1_9) ?_
                      refine Wl.q (v := Value.int .i64 ((k : Nat) : Int)) (q_move hE15_9) ?_
                      refine Wl.q (v := Value.pointer (some ⟨(rb vl), ro vl + k * 2, none⟩)) (q_idx_is (m := ro vl + k * 2) se_22 rfl (hl.some_ (by omega)) rfl (by omega) (by omega) rfl) ?_
                      refine Wl.q (v := Value.pointer (some ⟨(rb vl), ro vl + k * 2 + 1, none⟩)) (q_field (m := ro vl + k * 2 + 1) fo_31_1 rfl rfl) ?_
                      refine Wl.q (v := Value.string q.2) (q_load sc_9 rfl (.old ((rdW hl hget).2))) ?_
                      refine Wl.q (v := Value.int .i64 ((q.2.size : Nat) : Int)) (q_len_str Try.underlying9 rfl) ?_
                      by_cases hSz : ((q.2.size : Nat) : Int) = 64
                      ·
                        refine Wl.q (v := Value.bool true) (q_eql (r := true) rfl rfl (decide_eq_true hSz)) ?_
                        refine Wl.q (v := Value.bool true) (q_pick (t := true) rfl rfl) ?_
                        refine Wl.done ?_
                        refine Wx.go ?_
                        refine Wc.yes rfl ?_
                        refine Wc.seq ?_
                        refine Wc.drawsS [] ((isDisk pp (tornD n l bits)) :: []) (by kernel_rfl) ?_
                        refine Wr.pure (v := Value.bool false) 0 rfl (by kernel_rfl) (.inr (fun _ h => st_take [0] h)) (.inl ⟨rfl, fun _ => q_move hE13_9⟩) ?_
                        refine Wr.pure (v := Value.bool false) 1 rfl (by kernel_rfl) (.inr (fun _ h => st_take [0] h)) (.inl ⟨rfl, fun _ => q_move rfl⟩) ?_
                        refine Wr.pure (v := Value.string s) 2 rfl (by kernel_rfl) (.inr (fun _ h => st_take [0] h)) (.inl ⟨rfl, fun _ => q_move hE11_9⟩) ?_
                        refine Wr.pure (v := Value.string (s.extract 0 32)) 3 rfl (by kernel_rfl) (.inr (fun _ h => st_take [0] h)) (.inl ⟨rfl, fun _ => q_slice_str (l := 0) (h := 32) Try.underlying9 rfl rfl ⟨_, rfl⟩ (by omega) (by omega) rfl⟩) ?_
                        refine Wr.pure (v := vl) 4 rfl (by kernel_rfl) (.inr (fun _ h => st_take [0] h)) (.inl ⟨rfl, fun _ => q_move hE1_9⟩) ?_
                        refine Wr.pure (v := Value.int .i64 ((k : Nat) : Int)) 5 rfl (by kernel_rfl) (.inr (fun _ h => st_take [0] h)) (.inl ⟨rfl, fun _ => q_move hE15_9⟩) ?_
                        refine Wr.pure (v := Value.pointer (some ⟨(rb vl), ro vl + k * 2, none⟩)) 6 rfl (by kernel_rfl) (.inr (fun _ h => st_take [0] h)) (.inl ⟨rfl, fun _ => q_idx_is (m := ro vl + k * 2) se_22 rfl (hl.some_ (by omega)) rfl (by omega) (by omega) rfl⟩) ?_
                        refine Wr.pure (v := Value.pointer (some ⟨(rb vl), ro vl + k * 2 + 1, none⟩)) 7 rfl (by kernel_rfl) (.inr (fun _ h => st_take [0] h)) (.inl ⟨rfl, fun _ => q_field (m := ro vl + k * 2 + 1) fo_31_1 rfl rfl⟩) ?_
                        refine Wr.take (v := Value.string q.2) 8 rfl (by kernel_rfl) (fun _ h => st_take [0] h) (.inl ⟨rfl, q_load sc_9 rfl (.old ((rdW hl hget).2))⟩) ?_
                        refine Wr.pure (v := Value.string (q.2.extract 0 32)) 9 rfl (by kernel_rfl) (.inr (fun _ h => st_take [0] h)) (.inl ⟨rfl, fun _ => q_slice_str (l := 0) (h := 32) Try.underlying9 rfl rfl ⟨_, rfl⟩ (by omega) (by omega) rfl⟩) ?_
                        by_cases hLo : (s.extract 0 32) = (q.2.extract 0 32)
                        ·
                          refine Wr.pure (v := Value.bool true) 10 rfl (by kernel_rfl) (.inr (fun _ h => st_take [0] h)) (.inl ⟨rfl, fun _ => q_eql_str (r := true) rfl rfl (text_true hLo)⟩) ?_
                          refine Wr.pure (v := Value.bool true) 11 rfl (by kernel_rfl) (.inr (fun _ h => st_take [0] h)) (.inl ⟨rfl, fun _ => q_pick (t := false) rfl rfl⟩) ?_
                          refine Wr.pure (v := Value.bool true) 12 rfl (by kernel_rfl) (.inr (fun _ h => st_take [0] h)) (.inl ⟨rfl, fun _ => q_assign rfl⟩) ?_
                          refine Wr.done (by kernel_rfl) ?_
                          refine Wx.go ?_
                          refine Wc.drawsS [] ((isDisk pp (tornD n l bits)) :: []) (by kernel_rfl) ?_
                          refine Wr.pure (v := Value.bool true) 0 rfl (by kernel_rfl) (.inr (fun _ h => st_take [0] h)) (.inl ⟨rfl, fun _ => q_move hE14_9⟩) ?_
                          refine Wr.pure (v := Value.bool true) 1 rfl (by kernel_rfl) (.inr (fun _ h => st_take [0] h)) (.inl ⟨rfl, fun _ => q_move rfl⟩) ?_
                          refine Wr.pure (v := undef) 2 rfl (by kernel_rfl) (.inr (fun _ h => st_take [0] h)) (.inr ⟨rfl, rfl⟩) ?_
                          refine Wr.pure (v := undef) 3 rfl (by kernel_rfl) (.inr (fun _ h => st_take [0] h)) (.inr ⟨rfl, rfl⟩) ?_
                          refine Wr.pure (v := undef) 4 rfl (by kernel_rfl) (.inr (fun _ h => st_take [0] h)) (.inr ⟨rfl, rfl⟩) ?_
                          refine Wr.pure (v := undef) 5 rfl (by kernel_rfl) (.inr (fun _ h => st_take [0] h)) (.inr ⟨rfl, rfl⟩) ?_
                          refine Wr.pure (v := undef) 6 rfl (by kernel_rfl) (.inr (fun _ h => st_take [0] h)) (.inr ⟨rfl, rfl⟩) ?_
                          refine Wr.pure (v := undef) 7 rfl (by kernel_rfl) (.inr (fun _ h => st_take [0] h)) (.inr ⟨rfl, rfl⟩) ?_
                          refine Wr.pure (v := undef) 8 rfl (by kernel_rfl) (.inr (fun _ h => st_take [0] h)) (.inr ⟨rfl, rfl⟩) ?_
                          refine Wr.pure (v := undef) 9 rfl (by kernel_rfl) (.inr (fun _ h => st_take [0] h)) (.inr ⟨rfl, rfl⟩) ?_
                          refine Wr.pure (v := undef) 10 rfl (by kernel_rfl) (.inr (fun _ h => st_take [0] h)) (.inr ⟨rfl, rfl⟩) ?_
                          refine Wr.pure (v := Value.bool true) 11 rfl (by kernel_rfl) (.inr (fun _ h => st_take [0] h)) (.inl ⟨rfl, fun _ => q_pick (t := true) rfl rfl⟩) ?_
                          refine Wr.pure (v := Value.bool true) 12 rfl (by kernel_rfl) (.inr (fun _ h => st_take [0] h)) (.inl ⟨rfl, fun _ => q_assign rfl⟩) ?_
                          refine Wr.done (by kernel_rfl) ?_
                          refine Wx.blockEnd ?_
                          refine Wx.go ?_
                          refine Wc.region ?_
                          refine Wl.q (v := Value.int .i64 ((k : Nat) : Int)) (q_move hE15_9) ?_
                          refine Wl.q (v := Value.int .i64 ((k + 1 : Nat) : Int)) (q_add (c := ((k + 1 : Nat) : Int)) rfl rfl (by rw [wrap_i64] <;> omega)) ?_
                          refine Wl.q (v := Value.int .i64 ((k + 1 : Nat) : Int)) (q_assign rfl) ?_
                          refine Wl.done ?_
                          refine Wx.at (k + 1, true, true) ⟨(by simp only; omega), rfl, rfl, rfl, hE0_9, hE1_9, hE7_9, hE10_9, hE11_9, (Half.new hget hAt hSz hLo), (Half.old hget hpb), (by omega)⟩ (fun w hs => hs)
                        ·
                          refine Wr.pure (v := Value.bool false) 10 rfl (by kernel_rfl) (.inr (fun _ h => st_take [0] h)) (.inl ⟨rfl, fun _ => q_eql_str (r := false) rfl rfl (text_false hLo)⟩) ?_
                          refine Wr.pure (v := Value.bool false) 11 rfl (by kernel_rfl) (.inr (fun _ h => st_take [0] h)) (.inl ⟨rfl, fun _ => q_pick (t := false) rfl rfl⟩) ?_
                          refine Wr.pure (v := Value.bool false) 12 rfl (by kernel_rfl) (.inr (fun _ h => st_take [0] h)) (.inl ⟨rfl, fun _ => q_assign rfl⟩) ?_
                          refine Wr.done (by kernel_rfl) ?_
                          refine Wx.go ?_
                          refine Wc.drawsS [] ((isDisk pp (tornD n l bits)) :: []) (by kernel_rfl) ?_
                          refine Wr.pure (v := Value.bool true) 0 rfl (by kernel_rfl) (.inr (fun _ h => st_take [0] h)) (.inl ⟨rfl, fun _ => q_move hE14_9⟩) ?_
                          refine Wr.pure (v := Value.bool true) 1 rfl (by kernel_rfl) (.inr (fun _ h => st_take [0] h)) (.inl ⟨rfl, fun _ => q_move rfl⟩) ?_
                          refine Wr.pure (v := undef) 2 rfl (by kernel_rfl) (.inr (fun _ h => st_take [0] h)) (.inr ⟨rfl, rfl⟩) ?_
                          refine Wr.pure (v := undef) 3 rfl (by kernel_rfl) (.inr (fun _ h => st_take [0] h)) (.inr ⟨rfl, rfl⟩) ?_
                          refine Wr.pure (v := undef) 4 rfl (by kernel_rfl) (.inr (fun _ h => st_take [0] h)) (.inr ⟨rfl, rfl⟩) ?_
                          refine Wr.pure (v := undef) 5 rfl (by kernel_rfl) (.inr (fun _ h => st_take [0] h)) (.inr ⟨rfl, rfl⟩) ?_
                          refine Wr.pure (v := undef) 6 rfl (by kernel_rfl) (.inr (fun _ h => st_take [0] h)) (.inr ⟨rfl, rfl⟩) ?_
                          refine Wr.pure (v := undef) 7 rfl (by kernel_rfl) (.inr (fun _ h => st_take [0] h)) (.inr ⟨rfl, rfl⟩) ?_
                          refine Wr.pure (v := undef) 8 rfl (by kernel_rfl) (.inr (fun _ h => st_take [0] h)) (.inr ⟨rfl, rfl⟩) ?_
                          refine Wr.pure (v := undef) 9 rfl (by kernel_rfl) (.inr (fun _ h => st_take [0] h)) (.inr ⟨rfl, rfl⟩) ?_
                          refine Wr.pure (v := undef) 10 rfl (by kernel_rfl) (.inr (fun _ h => st_take [0] h)) (.inr ⟨rfl, rfl⟩) ?_
                          refine Wr.pure (v := Value.bool true) 11 rfl (by kernel_rfl) (.inr (fun _ h => st_take [0] h)) (.inl ⟨rfl, fun _ => q_pick (t := true) rfl rfl⟩) ?_
                          refine Wr.pure (v := Value.bool true) 12 rfl (by kernel_rfl) (.inr (fun _ h => st_take [0] h)) (.inl ⟨rfl, fun _ => q_assign rfl⟩) ?_
                          refine Wr.done (by kernel_rfl) ?_
                          refine Wx.blockEnd ?_
                          refine Wx.go ?_
                          refine Wc.region ?_
                          refine Wl.q (v := Value.int .i64 ((k : Nat) : Int)) (q_move hE15_9) ?_
                          refine Wl.q (v := Value.int .i64 ((k + 1 : Nat) : Int)) (q_add (c := ((k + 1 : Nat) : Int)) rfl rfl (by rw [wrap_i64] <;> omega)) ?_
                          refine Wl.q (v := Value.int .i64 ((k + 1 : Nat) : Int)) (q_assign rfl) ?_
                          refine Wl.done ?_
                          refine Wx.at (k + 1, false, true) ⟨(by simp only; omega), rfl, rfl, rfl, hE0_9, hE1_9, hE7_9, hE10_9, hE11_9, (Half.none hget hpa (fun e => hLo e.2.2)), (Half.old hget hpb), (by omega)⟩ (fun w hs => hs)
                      ·
                        refine Wl.q (v := Value.bool false) (q_eql (r := false) rfl rfl (decide_eq_false hSz)) ?_
                        refine Wl.q (v := Value.bool false) (q_pick (t := true) rfl rfl) ?_
                        refine Wl.done ?_
                        refine Wx.go ?_
                        refine Wc.no rfl ?_
                        refine Wc.skip ?_
                        refine Wx.blockEnd ?_
                        refine Wx.go ?_
                        refine Wc.region ?_
                        refine Wl.q (v := Value.int .i64 ((k : Nat) : Int)) (q_move hE15_9) ?_
                        refine Wl.q (v := Value.int .i64 ((k + 1 : Nat) : Int)) (q_add (c := ((k + 1 : Nat) : Int)) rfl rfl (by rw [wrap_i64] <;> omega)) ?_
                        refine Wl.q (v := Value.int .i64 ((k + 1 : Nat) : Int)) (q_assign rfl) ?_
                        refine Wl.done ?_
                        refine Wx.at (k + 1, false, true) ⟨(by simp only; omega), rfl, hE13_9, hE14_9, hE0_9, hE1_9, hE7_9, hE10_9, hE11_9, (Half.none hget hpa (fun e => hSz e.2.1)), (Half.old hget hpb), (by omega)⟩ (fun w hs => hs)
                    ·
                      refine Wl.q (v := Value.bool false) (q_eql (r := false) rfl rfl (decide_eq_false hAt)) ?_
                      refine Wl.q (v := Value.bool false) (q_move rfl) ?_
                      refine Wl.no ?_
                      refine Wl.no ?_
                      refine Wl.no ?_
                      refine Wl.no ?_
                      refine Wl.no ?_
                      refine Wl.no ?_
                      refine Wl.no ?_
                      refine Wl.q (v := Value.bool false) (q_pick (t := false) rfl rfl) ?_
                      refine Wl.done ?_
                      refine Wx.go ?_
                      refine Wc.no rfl ?_
                      refine Wc.skip ?_
                      refine Wx.blockEnd ?_
                      refine Wx.go ?_
                      refine Wc.region ?_
                      refine Wl.q (v := Value.int .i64 ((k : Nat) : Int)) (q_move hE15_9) ?_
                      refine Wl.q (v := Value.int .i64 ((k + 1 : Nat) : Int)) (q_add (c := ((k + 1 : Nat) : Int)) rfl rfl (by rw [wrap_i64] <;> omega)) ?_
                      refine Wl.q (v := Value.int .i64 ((k + 1 : Nat) : Int)) (q_assign rfl) ?_
                      refine Wl.done ?_
                      refine Wx.at (k + 1, false, true) ⟨(by simp only; omega), rfl, hE13_9, hE14_9, hE0_9, hE1_9, hE7_9, hE10_9, hE11_9, (Half.none hget hpa (fun e => hAt e.1)), (Half.old hget hpb), (by omega)⟩ (fun w hs => hs)
                  ·
                    have hend2 : k = l.length := by omega
                    refine Wl.q (v := Value.bool false) (q_lss (r := false) rfl rfl (decide_eq_false hklt)) ?_
                    refine Wl.done ?_
                    refine Wx.go ?_
                    refine Wc.no rfl ?_
                    refine Wc.exit ?_
                    refine Wx.thenExit ?_
                    refine Wx.thenExit ?_
                    refine Wx.out ?_
                    refine Wx.go ?_
                    refine Wc.seq ?_
                    refine Wc.region ?_
                    refine Wl.q (v := Value.bool false) (q_move hE13_9) ?_
                    refine Wl.q (v := Value.bool true) (q_not rfl rfl) ?_
                    refine Wl.q (v := Value.bool true) (q_move rfl) ?_
                    refine Wl.no ?_
                    refine Wl.no ?_
                    refine Wl.q (v := Value.bool true) (q_pick (t := true) rfl rfl) ?_
                    refine Wl.done ?_
                    refine Wx.go ?_
                    refine Wc.yes rfl ?_
                    refine Wc.seq ?_
                    refine Wc.region ?_
                    refine Wl.q (v := Value.bool false) (q_assign rfl) ?_
                    refine Wl.done ?_
                    refine Wx.go ?_
                    refine Wc.ret ?_
                    refine Wx.blockRet ?_
                    refine Wx.thenRet ?_
                    refine Wx.thenRet ?_
                    refine Wx.blockRet ?_
                    refine Wx.thenRet ?_
                    refine Wx.fin1 rfl (.inl rfl) (fun w hs => ?_)
                    exfalso
                    rw [hend2, List.take_length] at hpa hpb
                    cases hpa.2 hta
                ·
                  refine Wc.seq ?_
                  refine Wc.seq ?_
                  refine Wc.region ?_
                  refine Wl.q (v := Value.int .i64 ((k : Nat) : Int)) (q_move hE15_9) ?_
                  refine Wl.q (v := vl) (q_move hE1_9) ?_
                  refine Wl.q (v := Value.int .i64 ((l.length : Nat) : Int)) (q_len_is Try.underlying22 rfl hl.shape) ?_
                  by_cases hklt : ((k : Nat) : Int) < ((l.length : Nat) : Int)
                  ·
                    obtain ⟨q, hget⟩ : ∃ q, l[k]? = some q := ⟨l[k]'(by omega), by simp [List.getElem?_eq_getElem (show k < l.length by omega)]⟩
                    refine Wl.q (v := Value.bool true) (q_lss (r := true) rfl rfl (decide_eq_true hklt)) ?_
                    refine Wl.done ?_
                    refine Wx.go ?_
                    refine Wc.yes rfl ?_
                    refine Wc.skip ?_
                    refine Wx.go ?_
                    refine Wc.seq ?_
                    refine Wc.block ?_
                    refine Wc.seq ?_
                    refine Wc.region ?_
                    refine Wl.q (v := vl) (q_move hE1_9) ?_
                    refine Wl.q (v := Value.int .i64 ((k : Nat) : Int)) (q_move hE15_9) ?_
                    refine Wl.q (v := Value.pointer (some ⟨(rb vl), ro vl + k * 2, none⟩)) (q_idx_is (m := ro vl + k * 2) se_22 rfl (hl.some_ (by omega)) rfl (by omega) (by omega) rfl) ?_
                    refine Wl.q (v := Value.pointer (some ⟨(rb vl), ro vl + k * 2, none⟩)) (q_field (m := ro vl + k * 2) fo_31_0 rfl rfl) ?_
                    refine Wl.q (v := Value.int .i64 q.1) (q_load sc_3 rfl (.old ((rdW hl hget).1))) ?_
                    refine Wl.q (v := Value.int .i64 ((i : Nat) : Int)) (q_move hE10_9) ?_
                    by_cases hAt : q.1 = ((i : Nat) : Int)
                    ·
                      refine Wl.q (v := Value.bool true) (q_eql (r := true) rfl rfl (decide_eq_true hAt)) ?_
                      refine Wl.q (v := Value.bool true) (q_move rfl) ?_
                      refine Wl.q (v := vl) (q_move hE1_9) ?_
                      refine Wl.q (v := Value.int .i64 ((k : Nat) : Int)) (q_move hE15_9) ?_
                      refine Wl.q (v := Value.pointer (some ⟨(rb vl), ro vl + k * 2, none⟩)) (q_idx_is (m := ro vl + k * 2) se_22 rfl (hl.some_ (by omega)) rfl (by omega) (by omega) rfl) ?_
                      refine Wl.q (v := Value.pointer (some ⟨(rb vl), ro vl + k * 2 + 1, none⟩)) (q_field (m := ro vl + k * 2 + 1) fo_31_1 rfl rfl) ?_
                      refine Wl.q (v := Value.string q.2) (q_load sc_9 rfl (.old ((rdW hl hget).2))) ?_
                      refine Wl.q (v := Value.int .i64 ((q.2.size : Nat) : Int)) (q_len_str Try.underlying9 rfl) ?_
                      by_cases hSz : ((q.2.size : Nat) : Int) = 64
                      ·
                        refine Wl.q (v := Value.bool true) (q_eql (r := true) rfl rfl (decide_eq_true hSz)) ?_
                        refine Wl.q (v := Value.bool true) (q_pick (t := true) rfl rfl) ?_
                        refine Wl.done ?_
                        refine Wx.go ?_
                        refine Wc.yes rfl ?_
                        refine Wc.seq ?_
                        refine Wc.drawsS [] ((isDisk pp (tornD n l bits)) :: []) (by kernel_rfl) ?_
                        refine Wr.pure (v := Value.bool true) 0 rfl (by kernel_rfl) (.inr (fun _ h => st_take [0] h)) (.inl ⟨rfl, fun _ => q_move hE13_9⟩) ?_
                        refine Wr.pure (v := Value.bool true) 1 rfl (by kernel_rfl) (.inr (fun _ h => st_take [0] h)) (.inl ⟨rfl, fun _ => q_move rfl⟩) ?_
                        refine Wr.pure (v := undef) 2 rfl (by kernel_rfl) (.inr (fun _ h => st_take [0] h)) (.inr ⟨rfl, rfl⟩) ?_
                        refine Wr.pure (v := undef) 3 rfl (by kernel_rfl) (.inr (fun _ h => st_take [0] h)) (.inr ⟨rfl, rfl⟩) ?_
                        refine Wr.pure (v := undef) 4 rfl (by kernel_rfl) (.inr (fun _ h => st_take [0] h)) (.inr ⟨rfl, rfl⟩) ?_
                        refine Wr.pure (v := undef) 5 rfl (by kernel_rfl) (.inr (fun _ h => st_take [0] h)) (.inr ⟨rfl, rfl⟩) ?_
                        refine Wr.pure (v := undef) 6 rfl (by kernel_rfl) (.inr (fun _ h => st_take [0] h)) (.inr ⟨rfl, rfl⟩) ?_
                        refine Wr.pure (v := undef) 7 rfl (by kernel_rfl) (.inr (fun _ h => st_take [0] h)) (.inr ⟨rfl, rfl⟩) ?_
                        refine Wr.pure (v := undef) 8 rfl (by kernel_rfl) (.inr (fun _ h => st_take [0] h)) (.inr ⟨rfl, rfl⟩) ?_
                        refine Wr.pure (v := undef) 9 rfl (by kernel_rfl) (.inr (fun _ h => st_take [0] h)) (.inr ⟨rfl, rfl⟩) ?_
                        refine Wr.pure (v := undef) 10 rfl (by kernel_rfl) (.inr (fun _ h => st_take [0] h)) (.inr ⟨rfl, rfl⟩) ?_
                        refine Wr.pure (v := Value.bool true) 11 rfl (by kernel_rfl) (.inr (fun _ h => st_take [0] h)) (.inl ⟨rfl, fun _ => q_pick (t := true) rfl rfl⟩) ?_
                        refine Wr.pure (v := Value.bool true) 12 rfl (by kernel_rfl) (.inr (fun _ h => st_take [0] h)) (.inl ⟨rfl, fun _ => q_assign rfl⟩) ?_
                        refine Wr.done (by kernel_rfl) ?_
                        refine Wx.go ?_
                        refine Wc.drawsS [] ((isDisk pp (tornD n l bits)) :: []) (by kernel_rfl) ?_
                        refine Wr.pure (v := Value.bool false) 0 rfl (by kernel_rfl) (.inr (fun _ h => st_take [0] h)) (.inl ⟨rfl, fun _ => q_move hE14_9⟩) ?_
                        refine Wr.pure (v := Value.bool false) 1 rfl (by kernel_rfl) (.inr (fun _ h => st_take [0] h)) (.inl ⟨rfl, fun _ => q_move rfl⟩) ?_
                        refine Wr.pure (v := Value.string s) 2 rfl (by kernel_rfl) (.inr (fun _ h => st_take [0] h)) (.inl ⟨rfl, fun _ => q_move hE11_9⟩) ?_
                        refine Wr.pure (v := Value.string (s.extract 32 s.size)) 3 rfl (by kernel_rfl) (.inr (fun _ h => st_take [0] h)) (.inl ⟨rfl, fun _ => q_slice_str (l := 32) (h := s.size) Try.underlying9 rfl ⟨_, rfl⟩ rfl (by omega) (by omega) rfl⟩) ?_
                        refine Wr.pure (v := vl) 4 rfl (by kernel_rfl) (.inr (fun _ h => st_take [0] h)) (.inl ⟨rfl, fun _ => q_move hE1_9⟩) ?_
                        refine Wr.pure (v := Value.int .i64 ((k : Nat) : Int)) 5 rfl (by kernel_rfl) (.inr (fun _ h => st_take [0] h)) (.inl ⟨rfl, fun _ => q_move hE15_9⟩) ?_
                        refine Wr.pure (v := Value.pointer (some ⟨(rb vl), ro vl + k * 2, none⟩)) 6 rfl (by kernel_rfl) (.inr (fun _ h => st_take [0] h)) (.inl ⟨rfl, fun _ => q_idx_is (m := ro vl + k * 2) se_22 rfl (hl.some_ (by omega)) rfl (by omega) (by omega) rfl⟩) ?_
                        refine Wr.pure (v := Value.pointer (some ⟨(rb vl), ro vl + k * 2 + 1, none⟩)) 7 rfl (by kernel_rfl) (.inr (fun _ h => st_take [0] h)) (.inl ⟨rfl, fun _ => q_field (m := ro vl + k * 2 + 1) fo_31_1 rfl rfl⟩) ?_
                        refine Wr.take (v := Value.string q.2) 8 rfl (by kernel_rfl) (fun _ h => st_take [0] h) (.inl ⟨rfl, q_load sc_9 rfl (.old ((rdW hl hget).2))⟩) ?_
                        refine Wr.pure (v := Value.string (q.2.extract 32 q.2.size)) 9 rfl (by kernel_rfl) (.inr (fun _ h => st_take [0] h)) (.inl ⟨rfl, fun _ => q_slice_str (l := 32) (h := q.2.size) Try.underlying9 rfl ⟨_, rfl⟩ rfl (by omega) (by omega) rfl⟩) ?_
                        by_cases hHi : (s.extract 32 s.size) = (q.2.extract 32 q.2.size)
                        ·
                          refine Wr.pure (v := Value.bool true) 10 rfl (by kernel_rfl) (.inr (fun _ h => st_take [0] h)) (.inl ⟨rfl, fun _ => q_eql_str (r := true) rfl rfl (text_true hHi)⟩) ?_
                          refine Wr.pure (v := Value.bool true) 11 rfl (by kernel_rfl) (.inr (fun _ h => st_take [0] h)) (.inl ⟨rfl, fun _ => q_pick (t := false) rfl rfl⟩) ?_
                          refine Wr.pure (v := Value.bool true) 12 rfl (by kernel_rfl) (.inr (fun _ h => st_take [0] h)) (.inl ⟨rfl, fun _ => q_assign rfl⟩) ?_
                          refine Wr.done (by kernel_rfl) ?_
                          refine Wx.blockEnd ?_
                          refine Wx.go ?_
                          refine Wc.region ?_
                          refine Wl.q (v := Value.int .i64 ((k : Nat) : Int)) (q_move hE15_9) ?_
                          refine Wl.q (v := Value.int .i64 ((k + 1 : Nat) : Int)) (q_add (c := ((k + 1 : Nat) : Int)) rfl rfl (by rw [wrap_i64] <;> omega)) ?_
                          refine Wl.q (v := Value.int .i64 ((k + 1 : Nat) : Int)) (q_assign rfl) ?_
                          refine Wl.done ?_
                          refine Wx.at (k + 1, true, true) ⟨(by simp only; omega), rfl, rfl, rfl, hE0_9, hE1_9, hE7_9, hE10_9, hE11_9, (Half.old hget hpa), (Half.new hget hAt hSz hHi), (by omega)⟩ (fun w hs => hs)
                        ·
                          refine Wr.pure (v := Value.bool false) 10 rfl (by kernel_rfl) (.inr (fun _ h => st_take [0] h)) (.inl ⟨rfl, fun _ => q_eql_str (r := false) rfl rfl (text_false hHi)⟩) ?_
                          refine Wr.pure (v := Value.bool false) 11 rfl (by kernel_rfl) (.inr (fun _ h => st_take [0] h)) (.inl ⟨rfl, fun _ => q_pick (t := false) rfl rfl⟩) ?_
                          refine Wr.pure (v := Value.bool false) 12 rfl (by kernel_rfl) (.inr (fun _ h => st_take [0] h)) (.inl ⟨rfl, fun _ => q_assign rfl⟩) ?_
                          refine Wr.done (by kernel_rfl) ?_
                          refine Wx.blockEnd ?_
                          refine Wx.go ?_
                          refine Wc.region ?_
                          refine Wl.q (v := Value.int .i64 ((k : Nat) : Int)) (q_move hE15_9) ?_
                          refine Wl.q (v := Value.int .i64 ((k + 1 : Nat) : Int)) (q_add (c := ((k + 1 : Nat) : Int)) rfl rfl (by rw [wrap_i64] <;> omega)) ?_
                          refine Wl.q (v := Value.int .i64 ((k + 1 : Nat) : Int)) (q_assign rfl) ?_
                          refine Wl.done ?_
                          refine Wx.at (k + 1, true, false) ⟨(by simp only; omega), rfl, rfl, rfl, hE0_9, hE1_9, hE7_9, hE10_9, hE11_9, (Half.old hget hpa), (Half.none hget hpb (fun e => hHi e.2.2)), (by omega)⟩ (fun w hs => hs)
                      ·
                        refine Wl.q (v := Value.bool false) (q_eql (r := false) rfl rfl (decide_eq_false hSz)) ?_
                        refine Wl.q (v := Value.bool false) (q_pick (t := true) rfl rfl) ?_
                        refine Wl.done ?_
                        refine Wx.go ?_
                        refine Wc.no rfl ?_
                        refine Wc.skip ?_
                        refine Wx.blockEnd ?_
                        refine Wx.go ?_
                        refine Wc.region ?_
                        refine Wl.q (v := Value.int .i64 ((k : Nat) : Int)) (q_move hE15_9) ?_
                        refine Wl.q (v := Value.int .i64 ((k + 1 : Nat) : Int)) (q_add (c := ((k + 1 : Nat) : Int)) rfl rfl (by rw [wrap_i64] <;> omega)) ?_
                        refine Wl.q (v := Value.int .i64 ((k + 1 : Nat) : Int)) (q_assign rfl) ?_
                        refine Wl.done ?_
                        refine Wx.at (k + 1, true, false) ⟨(by simp only; omega), rfl, hE13_9, hE14_9, hE0_9, hE1_9, hE7_9, hE10_9, hE11_9, (Half.old hget hpa), (Half.none hget hpb (fun e => hSz e.2.1)), (by omega)⟩ (fun w hs => hs)
                    ·
                      refine Wl.q (v := Value.bool false) (q_eql (r := false) rfl rfl (decide_eq_false hAt)) ?_
                      refine Wl.q (v := Value.bool false) (q_move rfl) ?_
                      refine Wl.no ?_
                      refine Wl.no ?_
                      refine Wl.no ?_
                      refine Wl.no ?_
                      refine Wl.no ?_
                      refine Wl.no ?_
                      refine Wl.no ?_
                      refine Wl.q (v := Value.bool false) (q_pick (t := false) rfl rfl) ?_
                      refine Wl.done ?_
                      refine Wx.go ?_
                      refine Wc.no rfl ?_
                      refine Wc.skip ?_
                      refine Wx.blockEnd ?_
                      refine Wx.go ?_
                      refine Wc.region ?_
                      refine Wl.q (v := Value.int .i64 ((k : Nat) : Int)) (q_move hE15_9) ?_
                      refine Wl.q (v := Value.int .i64 ((k + 1 : Nat) : Int)) (q_add (c := ((k + 1 : Nat) : Int)) rfl rfl (by rw [wrap_i64] <;> omega)) ?_
                      refine Wl.q (v := Value.int .i64 ((k + 1 : Nat) : Int)) (q_assign rfl) ?_
                      refine Wl.done ?_
                      refine Wx.at (k + 1, true, false) ⟨(by simp only; omega), rfl, hE13_9, hE14_9, hE0_9, hE1_9, hE7_9, hE10_9, hE11_9, (Half.old hget hpa), (Half.none hget hpb (fun e => hAt e.1)), (by omega)⟩ (fun w hs => hs)
                  ·
                    have hend2 : k = l.length := by omega
                    refine Wl.q (v := Value.bool false) (q_lss (r := false) rfl rfl (decide_eq_false hklt)) ?_
                    refine Wl.done ?_
                    refine Wx.go ?_
                    refine Wc.no rfl ?_
                    refine Wc.exit ?_
                    refine Wx.thenExit ?_
                    refine Wx.thenExit ?_
                    refine Wx.out ?_
                    refine Wx.go ?_
                    refine Wc.seq ?_
                    refine Wc.region ?_
                    refine Wl.q (v := Value.bool true) (q_move hE13_9) ?_
                    refine Wl.q (v := Value.bool false) (q_not rfl rfl) ?_
                    refine Wl.q (v := Value.bool false) (q_move rfl) ?_
                    refine Wl.q (v := Value.bool false) (q_move hE14_9) ?_
                    refine Wl.q (v := Value.bool true) (q_not rfl rfl) ?_
                    refine Wl.q (v := Value.bool true) (q_pick (t := false) rfl rfl) ?_
                    refine Wl.done ?_
                    refine Wx.go ?_
                    refine Wc.yes rfl ?_
                    refine Wc.seq ?_
                    refine Wc.region ?_
                    refine Wl.q (v := Value.bool false) (q_assign rfl) ?_
                    refine Wl.done ?_
                    refine Wx.go ?_
                    refine Wc.ret ?_
                    refine Wx.blockRet ?_
                    refine Wx.thenRet ?_
                    refine Wx.thenRet ?_
                    refine Wx.blockRet ?_
                    refine Wx.thenRet ?_
                    refine Wx.fin1 rfl (.inl rfl) (fun w hs => ?_)
                    exfalso
                    rw [hend2, List.take_length] at hpa hpb
                    cases hpb.2 htb
                ·
                  refine Wc.seq ?_
                  refine Wc.seq ?_
                  refine Wc.region ?_
                  refine Wl.q (v := Value.int .i64 ((k : Nat) : Int)) (q_move hE15_9) ?_
                  refine Wl.q (v := vl) (q_move hE1_9) ?_
                  refine Wl.q (v := Value.int .i64 ((l.length : Nat) : Int)) (q_len_is Try.underlying22 rfl hl.shape) ?_
                  by_cases hklt : ((k : Nat) : Int) < ((l.length : Nat) : Int)
                  ·
                    obtain ⟨q, hget⟩ : ∃ q, l[k]? = some q := ⟨l[k]'(by omega), by simp [List.getElem?_eq_getElem (show k < l.length by omega)]⟩
                    refine Wl.q (v := Value.bool true) (q_lss (r := true) rfl rfl (decide_eq_true hklt)) ?_
                    refine Wl.done ?_
                    refine Wx.go ?_
                    refine Wc.yes rfl ?_
                    refine Wc.skip ?_
                    refine Wx.go ?_
                    refine Wc.seq ?_
                    refine Wc.block ?_
                    refine Wc.seq ?_
                    refine Wc.region ?_
                    refine Wl.q (v := vl) (q_move hE1_9) ?_
                    refine Wl.q (v := Value.int .i64 ((k : Nat) : Int)) (q_move hE15_9) ?_
                    refine Wl.q (v := Value.pointer (some ⟨(rb vl), ro vl + k * 2, none⟩)) (q_idx_is (m := ro vl + k * 2) se_22 rfl (hl.some_ (by omega)) rfl (by omega) (by omega) rfl) ?_
                    refine Wl.q (v := Value.pointer (some ⟨(rb vl), ro vl + k * 2, none⟩)) (q_field (m := ro vl + k * 2) fo_31_0 rfl rfl) ?_
                    refine Wl.q (v := Value.int .i64 q.1) (q_load sc_3 rfl (.old ((rdW hl hget).1))) ?_
                    refine Wl.q (v := Value.int .i64 ((i : Nat) : Int)) (q_move hE10_9) ?_
                    by_cases hAt : q.1 = ((i : Nat) : Int)
                    ·
                      refine Wl.q (v := Value.bool true) (q_eql (r := true) rfl rfl (decide_eq_true hAt)) ?_
                      refine Wl.q (v := Value.bool true) (q_move rfl) ?_
                      refine Wl.q (v := vl) (q_move hE1_9) ?_
                      refine Wl.q (v := Value.int .i64 ((k : Nat) : Int)) (q_move hE15_9) ?_
                      refine Wl.q (v := Value.pointer (some ⟨(rb vl), ro vl + k * 2, none⟩)) (q_idx_is (m := ro vl + k * 2) se_22 rfl (hl.some_ (by omega)) rfl (by omega) (by omega) rfl) ?_
                      refine Wl.q (v := Value.pointer (some ⟨(rb vl), ro vl + k * 2 + 1, none⟩)) (q_field (m := ro vl + k * 2 + 1) fo_31_1 rfl rfl) ?_
                      refine Wl.q (v := Value.string q.2) (q_load sc_9 rfl (.old ((rdW hl hget).2))) ?_
                      refine Wl.q (v := Value.int .i64 ((q.2.size : Nat) : Int)) (q_len_str Try.underlying9 rfl) ?_
                      by_cases hSz : ((q.2.size : Nat) : Int) = 64
                      ·
                        refine Wl.q (v := Value.bool true) (q_eql (r := true) rfl rfl (decide_eq_true hSz)) ?_
                        refine Wl.q (v := Value.bool true) (q_pick (t := true) rfl rfl) ?_
                        refine Wl.done ?_
                        refine Wx.go ?_
                        refine Wc.yes rfl ?_
                        refine Wc.seq ?_
                        refine Wc.drawsS [] ((isDisk pp (tornD n l bits)) :: []) (by kernel_rfl) ?_
                        refine Wr.pure (v := Value.bool true) 0 rfl (by kernel_rfl) (.inr (fun _ h => st_take [0] h)) (.inl ⟨rfl, fun _ => q_move hE13_9⟩) ?_
                        refine Wr.pure (v := Value.bool true) 1 rfl (by kernel_rfl) (.inr (fun _ h => st_take [0] h)) (.inl ⟨rfl, fun _ => q_move rfl⟩) ?_
                        refine Wr.pure (v := undef) 2 rfl (by kernel_rfl) (.inr (fun _ h => st_take [0] h)) (.inr ⟨rfl, rfl⟩) ?_
                        refine Wr.pure (v := undef) 3 rfl (by kernel_rfl) (.inr (fun _ h => st_take [0] h)) (.inr ⟨rfl, rfl⟩) ?_
                        refine Wr.pure (v := undef) 4 rfl (by kernel_rfl) (.inr (fun _ h => st_take [0] h)) (.inr ⟨rfl, rfl⟩) ?_
                        refine Wr.pure (v := undef) 5 rfl (by kernel_rfl) (.inr (fun _ h => st_take [0] h)) (.inr ⟨rfl, rfl⟩) ?_
                        refine Wr.pure (v := undef) 6 rfl (by kernel_rfl) (.inr (fun _ h => st_take [0] h)) (.inr ⟨rfl, rfl⟩) ?_
                        refine Wr.pure (v := undef) 7 rfl (by kernel_rfl) (.inr (fun _ h => st_take [0] h)) (.inr ⟨rfl, rfl⟩) ?_
                        refine Wr.pure (v := undef) 8 rfl (by kernel_rfl) (.inr (fun _ h => st_take [0] h)) (.inr ⟨rfl, rfl⟩) ?_
                        refine Wr.pure (v := undef) 9 rfl (by kernel_rfl) (.inr (fun _ h => st_take [0] h)) (.inr ⟨rfl, rfl⟩) ?_
                        refine Wr.pure (v := undef) 10 rfl (by kernel_rfl) (.inr (fun _ h => st_take [0] h)) (.inr ⟨rfl, rfl⟩) ?_
                        refine Wr.pure (v := Value.bool true) 11 rfl (by kernel_rfl) (.inr (fun _ h => st_take [0] h)) (.inl ⟨rfl, fun _ => q_pick (t := true) rfl rfl⟩) ?_
                        refine Wr.pure (v := Value.bool true) 12 rfl (by kernel_rfl) (.inr (fun _ h => st_take [0] h)) (.inl ⟨rfl, fun _ => q_assign rfl⟩) ?_
                        refine Wr.done (by kernel_rfl) ?_
                        refine Wx.go ?_
                        refine Wc.drawsS [] ((isDisk pp (tornD n l bits)) :: []) (by kernel_rfl) ?_
                        refine Wr.pure (v := Value.bool true) 0 rfl (by kernel_rfl) (.inr (fun _ h => st_take [0] h)) (.inl ⟨rfl, fun _ => q_move hE14_9⟩) ?_
                        refine Wr.pure (v := Value.bool true) 1 rfl (by kernel_rfl) (.inr (fun _ h => st_take [0] h)) (.inl ⟨rfl, fun _ => q_move rfl⟩) ?_
                        refine Wr.pure (v := undef) 2 rfl (by kernel_rfl) (.inr (fun _ h => st_take [0] h)) (.inr ⟨rfl, rfl⟩) ?_
                        refine Wr.pure (v := undef) 3 rfl (by kernel_rfl) (.inr (fun _ h => st_take [0] h)) (.inr ⟨rfl, rfl⟩) ?_
                        refine Wr.pure (v := undef) 4 rfl (by kernel_rfl) (.inr (fun _ h => st_take [0] h)) (.inr ⟨rfl, rfl⟩) ?_
                        refine Wr.pure (v := undef) 5 rfl (by kernel_rfl) (.inr (fun _ h => st_take [0] h)) (.inr ⟨rfl, rfl⟩) ?_
                        refine Wr.pure (v := undef) 6 rfl (by kernel_rfl) (.inr (fun _ h => st_take [0] h)) (.inr ⟨rfl, rfl⟩) ?_
                        refine Wr.pure (v := undef) 7 rfl (by kernel_rfl) (.inr (fun _ h => st_take [0] h)) (.inr ⟨rfl, rfl⟩) ?_
                        refine Wr.pure (v := undef) 8 rfl (by kernel_rfl) (.inr (fun _ h => st_take [0] h)) (.inr ⟨rfl, rfl⟩) ?_
                        refine Wr.pure (v := undef) 9 rfl (by kernel_rfl) (.inr (fun _ h => st_take [0] h)) (.inr ⟨rfl, rfl⟩) ?_
                        refine Wr.pure (v := undef) 10 rfl (by kernel_rfl) (.inr (fun _ h => st_take [0] h)) (.inr ⟨rfl, rfl⟩) ?_
                        refine Wr.pure (v := Value.bool true) 11 rfl (by kernel_rfl) (.inr (fun _ h => st_take [0] h)) (.inl ⟨rfl, fun _ => q_pick (t := true) rfl rfl⟩) ?_
                        refine Wr.pure (v := Value.bool true) 12 rfl (by kernel_rfl) (.inr (fun _ h => st_take [0] h)) (.inl ⟨rfl, fun _ => q_assign rfl⟩) ?_
                        refine Wr.done (by kernel_rfl) ?_
                        refine Wx.blockEnd ?_
                        refine Wx.go ?_
                        refine Wc.region ?_
                        refine Wl.q (v := Value.int .i64 ((k : Nat) : Int)) (q_move hE15_9) ?_
                        refine Wl.q (v := Value.int .i64 ((k + 1 : Nat) : Int)) (q_add (c := ((k + 1 : Nat) : Int)) rfl rfl (by rw [wrap_i64] <;> omega)) ?_
                        refine Wl.q (v := Value.int .i64 ((k + 1 : Nat) : Int)) (q_assign rfl) ?_
                        refine Wl.done ?_
                        refine Wx.at (k + 1, true, true) ⟨(by simp only; omega), rfl, rfl, rfl, hE0_9, hE1_9, hE7_9, hE10_9, hE11_9, (Half.old hget hpa), (Half.old hget hpb), (by omega)⟩ (fun w hs => hs)
                      ·
                        refine Wl.q (v := Value.bool false) (q_eql (r := false) rfl rfl (decide_eq_false hSz)) ?_
                        refine Wl.q (v := Value.bool false) (q_pick (t := true) rfl rfl) ?_
                        refine Wl.done ?_
                        refine Wx.go ?_
                        refine Wc.no rfl ?_
                        refine Wc.skip ?_
                        refine Wx.blockEnd ?_
                        refine Wx.go ?_
                        refine Wc.region ?_
                        refine Wl.q (v := Value.int .i64 ((k : Nat) : Int)) (q_move hE15_9) ?_
                        refine Wl.q (v := Value.int .i64 ((k + 1 : Nat) : Int)) (q_add (c := ((k + 1 : Nat) : Int)) rfl rfl (by rw [wrap_i64] <;> omega)) ?_
                        refine Wl.q (v := Value.int .i64 ((k + 1 : Nat) : Int)) (q_assign rfl) ?_
                        refine Wl.done ?_
                        refine Wx.at (k + 1, true, true) ⟨(by simp only; omega), rfl, hE13_9, hE14_9, hE0_9, hE1_9, hE7_9, hE10_9, hE11_9, (Half.old hget hpa), (Half.old hget hpb), (by omega)⟩ (fun w hs => hs)
                    ·
                      refine Wl.q (v := Value.bool false) (q_eql (r := false) rfl rfl (decide_eq_false hAt)) ?_
                      refine Wl.q (v := Value.bool false) (q_move rfl) ?_
                      refine Wl.no ?_
                      refine Wl.no ?_
                      refine Wl.no ?_
                      refine Wl.no ?_
                      refine Wl.no ?_
                      refine Wl.no ?_
                      refine Wl.no ?_
                      refine Wl.q (v := Value.bool false) (q_pick (t := false) rfl rfl) ?_
                      refine Wl.done ?_
                      refine Wx.go ?_
                      refine Wc.no rfl ?_
                      refine Wc.skip ?_
                      refine Wx.blockEnd ?_
                      refine Wx.go ?_
                      refine Wc.region ?_
                      refine Wl.q (v := Value.int .i64 ((k : Nat) : Int)) (q_move hE15_9) ?_
                      refine Wl.q (v := Value.int .i64 ((k + 1 : Nat) : Int)) (q_add (c := ((k + 1 : Nat) : Int)) rfl rfl (by rw [wrap_i64] <;> omega)) ?_
                      refine Wl.q (v := Value.int .i64 ((k + 1 : Nat) : Int)) (q_assign rfl) ?_
                      refine Wl.done ?_
                      refine Wx.at (k + 1, true, true) ⟨(by simp only; omega), rfl, hE13_9, hE14_9, hE0_9, hE1_9, hE7_9, hE10_9, hE11_9, (Half.old hget hpa), (Half.old hget hpb), (by omega)⟩ (fun w hs => hs)
                  ·
                    have hend2 : k = l.length := by omega
                    refine Wl.q (v := Value.bool false) (q_lss (r := false) rfl rfl (decide_eq_false hklt)) ?_
                    refine Wl.done ?_
                    refine Wx.go ?_
                    refine Wc.no rfl ?_
                    refine Wc.exit ?_
                    refine Wx.thenExit ?_
                    refine Wx.thenExit ?_
                    refine Wx.out ?_
                    refine Wx.go ?_
                    refine Wc.seq ?_
                    refine Wc.region ?_
                    refine Wl.q (v := Value.bool true) (q_move hE13_9) ?_
                    refine Wl.q (v := Value.bool false) (q_not rfl rfl) ?_
                    refine Wl.q (v := Value.bool false) (q_move rfl) ?_
                    refine Wl.q (v := Value.bool true) (q_move hE14_9) ?_
                    refine Wl.q (v := Value.bool false) (q_not rfl rfl) ?_
                    refine Wl.q (v := Value.bool false) (q_pick (t := false) rfl rfl) ?_
                    refine Wl.done ?_
                    refine Wx.go ?_
                    refine Wc.no rfl ?_
                    refine Wc.skip ?_
                    refine Wx.blockEnd ?_
                    refine Wx.go ?_
                    refine Wc.region ?_
                    refine Wl.q (v := Value.int .i64 ((i : Nat) : Int)) (q_move hE10_9) ?_
                    refine Wl.q (v := Value.int .i64 ((i + 1 : Nat) : Int)) (q_add (c := ((i + 1 : Nat) : Int)) rfl rfl (by rw [wrap_i64] <;> omega)) ?_
                    refine Wl.q (v := Value.int .i64 ((i + 1 : Nat) : Int)) (q_assign rfl) ?_
                    refine Wl.done ?_
                    refine Wx.at (i + 1) ⟨(by omega), rfl, hE0_9, hE1_9, hE7_9, (by omega)⟩ (fun w hs => hs)
            ·
              refine Wr.pure (v := Value.bool false) 4 rfl (by kernel_rfl) (.inr (fun _ h => st_take [0] h)) (.inl ⟨rfl, fun _ => q_eql_str (r := false) rfl rfl (text_false hHi0)⟩) ?_
              refine Wr.pure (v := Value.bool false) 5 rfl (by kernel_rfl) (.inr (fun _ h => st_take [0] h)) (.inl ⟨rfl, fun _ => q_assign rfl⟩) ?_
              refine Wr.done (by kernel_rfl) ?_
              refine Wx.go ?_
              refine Wc.seq ?_
              refine Wc.seq ?_
              refine Wc.region ?_
              refine Wl.q (v := Value.int .i64 0) (q_assign rfl) ?_
              refine Wl.done ?_
              refine Wx.go ?_
              refine Wc.block ?_
              refine Wc.loop (X := Nat × Bool × Bool) (fun (k, a, b) E => E 15 = Value.int .i64 ((k : Nat) : Int) ∧ E 13 = Value.bool a ∧ E 14 = Value.bool b ∧ E 0 = Value.int .i64 ((n : Nat) : Int) ∧ E 1 = vl ∧ E 7 = Value.pointer (some ⟨pp, 0, none⟩) ∧ E 10 = Value.int .i64 ((i : Nat) : Int) ∧ E 11 = Value.string s ∧ (a = true ↔ Half lo s i (l.take k)) ∧ (b = true ↔ Half hi s i (l.take k)) ∧ k ≤ l.length) (fun (k, a, b) => (isDisk pp (tornD n l bits)) :: F) (fun (k, a, b) => l.length - k) (0, false, false) ?_ ?_ ?_
              · exact ⟨rfl, rfl, rfl, hE0_3, hE1_3, hE7_3, hE10_3, rfl, (Half.atOther hLo0), (Half.atOther hHi0), (by omega)⟩
              · exact fun w hs => hs
              · rintro ⟨k, a, b⟩ E13 ⟨hE15_11, hE13_11, hE14_11, hE0_11, hE1_11, hE7_11, hE10_11, hE11_11, hpa, hpb, hp0⟩
                dsimp only at *
                rcases a with _ | _ <;> rcases b with _ | _
                ·
                  refine Wc.seq ?_
                  refine Wc.seq ?_
                  refine Wc.region ?_
                  refine Wl.q (v := Value.int .i64 ((k : Nat) : Int)) (q_move hE15_11) ?_
                  refine Wl.q (v := vl) (q_move hE1_11) ?_
                  refine Wl.q (v := Value.int .i64 ((l.length : Nat) : Int)) (q_len_is Try.underlying22 rfl hl.shape) ?_
                  by_cases hklt : ((k : Nat) : Int) < ((l.length : Nat) : Int)
                  ·
                    obtain ⟨q, hget⟩ : ∃ q, l[k]? = some q := ⟨l[k]'(by omega), by simp [List.getElem?_eq_getElem (show k < l.length by omega)]⟩
                    refine Wl.q (v := Value.bool true) (q_lss (r := true) rfl rfl (decide_eq_true hklt)) ?_
                    refine Wl.done ?_
                    refine Wx.go ?_
                    refine Wc.yes rfl ?_
                    refine Wc.skip ?_
                    refine Wx.go ?_
                    refine Wc.seq ?_
                    refine Wc.block ?_
                    refine Wc.seq ?_
                    refine Wc.region ?_
                    refine Wl.q (v := vl) (q_move hE1_11) ?_
                    refine Wl.q (v := Value.int .i64 ((k : Nat) : Int)) (q_move hE15_11) ?_
                    refine Wl.q (v := Value.pointer (some ⟨(rb vl), ro vl + k * 2, none⟩)) (q_idx_is (m := ro vl + k * 2) se_22 rfl (hl.some_ (by omega)) rfl (by omega) (by omega) rfl) ?_
                    refine Wl.q (v := Value.pointer (some ⟨(rb vl), ro vl + k * 2, none⟩)) (q_field (m := ro vl + k * 2) fo_31_0 rfl rfl) ?_
                    refine Wl.q (v := Value.int .i64 q.1) (q_load sc_3 rfl (.old ((rdW hl hget).1))) ?_
                    refine Wl.q (v := Value.int .i64 ((i : Nat) : Int)) (q_move hE10_11) ?_
                    by_cases hAt : q.1 = ((i : Nat) : Int)
                    ·
                      refine Wl.q (v := Value.bool true) (q_eql (r := true) rfl rfl (decide_eq_true hAt)) ?_
                      refine Wl.q (v := Value.bool true) (q_move rfl) ?_
                      refine Wl.q (v := vl) (q_move hE1_11) ?_
                      refine Wl.q (v := Value.int .i64 ((k : Nat) : Int)) (q_move hE15_11) ?_
                      refine Wl.q (v := Value.pointer (some ⟨(rb vl), ro vl + k * 2, none⟩)) (q_idx_is (m := ro vl + k * 2) se_22 rfl (hl.some_ (by omega)) rfl (by omega) (by omega) rfl) ?_
                      refine Wl.q (v := Value.pointer (some ⟨(rb vl), ro vl + k * 2 + 1, none⟩)) (q_field (m := ro vl + k * 2 + 1) fo_31_1 rfl rfl) ?_
                      refine Wl.q (v := Value.string q.2) (q_load sc_9 rfl (.old ((rdW hl hget).2))) ?_
                      refine Wl.q (v := Value.int .i64 ((q.2.size : Nat) : Int)) (q_len_str Try.underlying9 rfl) ?_
                      by_cases hSz : ((q.2.size : Nat) : Int) = 64
                      ·
                        refine Wl.q (v := Value.bool true) (q_eql (r := true) rfl rfl (decide_eq_true hSz)) ?_
                        refine Wl.q (v := Value.bool true) (q_pick (t := true) rfl rfl) ?_
                        refine Wl.done ?_
                        refine Wx.go ?_
                        refine Wc.yes rfl ?_
                        refine Wc.seq ?_
                        refine Wc.drawsS [] ((isDisk pp (tornD n l bits)) :: []) (by kernel_rfl) ?_
                        refine Wr.pure (v := Value.bool false) 0 rfl (by kernel_rfl) (.inr (fun _ h => st_take [0] h)) (.inl ⟨rfl, fun _ => q_move hE13_11⟩) ?_
                        refine Wr.pure (v := Value.bool false) 1 rfl (by kernel_rfl) (.inr (fun _ h => st_take [0] h)) (.inl ⟨rfl, fun _ => q_move rfl⟩) ?_
                        refine Wr.pure (v := Value.string s) 2 rfl (by kernel_rfl) (.inr (fun _ h => st_take [0] h)) (.inl ⟨rfl, fun _ => q_move hE11_11⟩) ?_
                        refine Wr.pure (v := Value.string (s.extract 0 32)) 3 rfl (by kernel_rfl) (.inr (fun _ h => st_take [0] h)) (.inl ⟨rfl, fun _ => q_slice_str (l := 0) (h := 32) Try.underlying9 rfl rfl ⟨_, rfl⟩ (by omega) (by omega) rfl⟩) ?_
                        refine Wr.pure (v := vl) 4 rfl (by kernel_rfl) (.inr (fun _ h => st_take [0] h)) (.inl ⟨rfl, fun _ => q_move hE1_11⟩) ?_
                        refine Wr.pure (v := Value.int .i64 ((k : Nat) : Int)) 5 rfl (by kernel_rfl) (.inr (fun _ h => st_take [0] h)) (.inl ⟨rfl, fun _ => q_move hE15_11⟩) ?_
                        refine Wr.pure (v := Value.pointer (some ⟨(rb vl), ro vl + k * 2, none⟩)) 6 rfl (by kernel_rfl) (.inr (fun _ h => st_take [0] h)) (.inl ⟨rfl, fun _ => q_idx_is (m := ro vl + k * 2) se_22 rfl (hl.some_ (by omega)) rfl (by omega) (by omega) rfl⟩) ?_
                        refine Wr.pure (v := Value.pointer (some ⟨(rb vl), ro vl + k * 2 + 1, none⟩)) 7 rfl (by kernel_rfl) (.inr (fun _ h => st_take [0] h)) (.inl ⟨rfl, fun _ => q_field (m := ro vl + k * 2 + 1) fo_31_1 rfl rfl⟩) ?_
                        refine Wr.take (v := Value.string q.2) 8 rfl (by kernel_rfl) (fun _ h => st_take [0] h) (.inl ⟨rfl, q_load sc_9 rfl (.old ((rdW hl hget).2))⟩) ?_
                        refine Wr.pure (v := Value.string (q.2.extract 0 32)) 9 rfl (by kernel_rfl) (.inr (fun _ h => st_take [0] h)) (.inl ⟨rfl, fun _ => q_slice_str (l := 0) (h := 32) Try.underlying9 rfl rfl ⟨_, rfl⟩ (by omega) (by omega) rfl⟩) ?_
                        by_cases hLo : (s.extract 0 32) = (q.2.extract 0 32)
                        ·
                          refine Wr.pure (v := Value.bool true) 10 rfl (by kernel_rfl) (.inr (fun _ h => st_take [0] h)) (.inl ⟨rfl, fun _ => q_eql_str (r := true) rfl rfl (text_true hLo)⟩) ?_
                          refine Wr.pure (v := Value.bool true) 11 rfl (by kernel_rfl) (.inr (fun _ h => st_take [0] h)) (.inl ⟨rfl, fun _ => q_pick (t := false) rfl rfl⟩) ?_
                          refine Wr.pure (v := Value.bool true) 12 rfl (by kernel_rfl) (.inr (fun _ h => st_take [0] h)) (.inl ⟨rfl, fun _ => q_assign rfl⟩) ?_
                          refine Wr.done (by kernel_rfl) ?_
                          refine Wx.go ?_
                          refine Wc.drawsS [] ((isDisk pp (tornD n l bits)) :: []) (by kernel_rfl) ?_
                          refine Wr.pure (v := Value.bool false) 0 rfl (by kernel_rfl) (.inr (fun _ h => st_take [0] h)) (.inl ⟨rfl, fun _ => q_move hE14_11⟩) ?_
                          refine Wr.pure (v := Value.bool false) 1 rfl (by kernel_rfl) (.inr (fun _ h => st_take [0] h)) (.inl ⟨rfl, fun _ => q_move rfl⟩) ?_
                          refine Wr.pure (v := Value.string s) 2 rfl (by kernel_rfl) (.inr (fun _ h => st_take [0] h)) (.inl ⟨rfl, fun _ => q_move hE11_11⟩) ?_
                          refine Wr.pure (v := Value.string (s.extract 32 s.size)) 3 rfl (by kernel_rfl) (.inr (fun _ h => st_take [0] h)) (.inl ⟨rfl, fun _ => q_slice_str (l := 32) (h := s.size) Try.underlying9 rfl ⟨_, rfl⟩ rfl (by omega) (by omega) rfl⟩) ?_
                          refine Wr.pure (v := vl) 4 rfl (by kernel_rfl) (.inr (fun _ h => st_take [0] h)) (.inl ⟨rfl, fun _ => q_move hE1_11⟩) ?_
                          refine Wr.pure (v := Value.int .i64 ((k : Nat) : Int)) 5 rfl (by kernel_rfl) (.inr (fun _ h => st_take [0] h)) (.inl ⟨rfl, fun _ => q_move hE15_11⟩) ?_
                          refine Wr.pure (v := Value.pointer (some ⟨(rb vl), ro vl + k * 2, none⟩)) 6 rfl (by kernel_rfl) (.inr (fun _ h => st_take [0] h)) (.inl ⟨rfl, fun _ => q_idx_is (m := ro vl + k * 2) se_22 rfl (hl.some_ (by omega)) rfl (by omega) (by omega) rfl⟩) ?_
                          refine Wr.pure (v := Value.pointer (some ⟨(rb vl), ro vl + k * 2 + 1, none⟩)) 7 rfl (by kernel_rfl) (.inr (fun _ h => st_take [0] h)) (.inl ⟨rfl, fun _ => q_field (m := ro vl + k * 2 + 1) fo_31_1 rfl rfl⟩) ?_
                          refine Wr.take (v := Value.string q.2) 8 rfl (by kernel_rfl) (fun _ h => st_take [0] h) (.inl ⟨rfl, q_load sc_9 rfl (.old ((rdW hl hget).2))⟩) ?_
                          refine Wr.pure (v := Value.string (q.2.extract 32 q.2.size)) 9 rfl (by kernel_rfl) (.inr (fun _ h => st_take [0] h)) (.inl ⟨rfl, fun _ => q_slice_str (l := 32) (h := q.2.size) Try.underlying9 rfl ⟨_, rfl⟩ rfl (by omega) (by omega) rfl⟩) ?_
                          by_cases hHi : (s.extract 32 s.size) = (q.2.extract 32 q.2.size)
                          ·
                            refine Wr.pure (v := Value.bool true) 10 rfl (by kernel_rfl) (.inr (fun _ h => st_take [0] h)) (.inl ⟨rfl, fun _ => q_eql_str (r := true) rfl rfl (text_true hHi)⟩) ?_
                            refine Wr.pure (v := Value.bool true) 11 rfl (by kernel_rfl) (.inr (fun _ h => st_take [0] h)) (.inl ⟨rfl, fun _ => q_pick (t := false) rfl rfl⟩) ?_
                            refine Wr.pure (v := Value.bool true) 12 rfl (by kernel_rfl) (.inr (fun _ h => st_take [0] h)) (.inl ⟨rfl, fun _ => q_assign rfl⟩) ?_
                            refine Wr.done (by kernel_rfl) ?_
                            refine Wx.blockEnd ?_
                            refine Wx.go ?_
                            refine Wc.region ?_
                            refine Wl.q (v := Value.int .i64 ((k : Nat) : Int)) (q_move hE15_11) ?_
                            refine Wl.q (v := Value.int .i64 ((k + 1 : Nat) : Int)) (q_add (c := ((k + 1 : Nat) : Int)) rfl rfl (by rw [wrap_i64] <;> omega)) ?_
                            refine Wl.q (v := Value.int .i64 ((k + 1 : Nat) : Int)) (q_assign rfl) ?_
                            refine Wl.done ?_
                            refine Wx.at (k + 1, true, true) ⟨(by simp only; omega), rfl, rfl, rfl, hE0_11, hE1_11, hE7_11, hE10_11, hE11_11, (Half.new hget hAt hSz hLo), (Half.new hget hAt hSz hHi), (by omega)⟩ (fun w hs => hs)
                          ·
                            refine Wr.pure (v := Value.bool false) 10 rfl (by kernel_rfl) (.inr (fun _ h => st_take [0] h)) (.inl ⟨rfl, fun _ => q_eql_str (r := false) rfl rfl (text_false hHi)⟩) ?_
                            refine Wr.pure (v := Value.bool false) 11 rfl (by kernel_rfl) (.inr (fun _ h => st_take [0] h)) (.inl ⟨rfl, fun _ => q_pick (t := false) rfl rfl⟩) ?_
                            refine Wr.pure (v := Value.bool false) 12 rfl (by kernel_rfl) (.inr (fun _ h => st_take [0] h)) (.inl ⟨rfl, fun _ => q_assign rfl⟩) ?_
                            refine Wr.done (by kernel_rfl) ?_
                            refine Wx.blockEnd ?_
                            refine Wx.go ?_
                            refine Wc.region ?_
                            refine Wl.q (v := Value.int .i64 ((k : Nat) : Int)) (q_move hE15_11) ?_
                            refine Wl.q (v := Value.int .i64 ((k + 1 : Nat) : Int)) (q_add (c := ((k + 1 : Nat) : Int)) rfl rfl (by rw [wrap_i64] <;> omega)) ?_
                            refine Wl.q (v := Value.int .i64 ((k + 1 : Nat) : Int)) (q_assign rfl) ?_
                            refine Wl.done ?_
                            refine Wx.at (k + 1, true, false) ⟨(by simp only; omega), rfl, rfl, rfl, hE0_11, hE1_11, hE7_11, hE10_11, hE11_11, (Half.new hget hAt hSz hLo), (Half.none hget hpb (fun e => hHi e.2.2)), (by omega)⟩ (fun w hs => hs)
                        ·
                          refine Wr.pure (v := Value.bool false) 10 rfl (by kernel_rfl) (.inr (fun _ h => st_take [0] h)) (.inl ⟨rfl, fun _ => q_eql_str (r := false) rfl rfl (text_false hLo)⟩) ?_
                          refine Wr.pure (v := Value.bool false) 11 rfl (by kernel_rfl) (.inr (fun _ h => st_take [0] h)) (.inl ⟨rfl, fun _ => q_pick (t := false) rfl rfl⟩) ?_
                          refine Wr.pure (v := Value.bool false) 12 rfl (by kernel_rfl) (.inr (fun _ h => st_take [0] h)) (.inl ⟨rfl, fun _ => q_assign rfl⟩) ?_
                          refine Wr.done (by kernel_rfl) ?_
                          refine Wx.go ?_
                          refine Wc.drawsS [] ((isDisk pp (tornD n l bits)) :: []) (by kernel_rfl) ?_
                          refine Wr.pure (v := Value.bool false) 0 rfl (by kernel_rfl) (.inr (fun _ h => st_take [0] h)) (.inl ⟨rfl, fun _ => q_move hE14_11⟩) ?_
                          refine Wr.pure (v := Value.bool false) 1 rfl (by kernel_rfl) (.inr (fun _ h => st_take [0] h)) (.inl ⟨rfl, fun _ => q_move rfl⟩) ?_
                          refine Wr.pure (v := Value.string s) 2 rfl (by kernel_rfl) (.inr (fun _ h => st_take [0] h)) (.inl ⟨rfl, fun _ => q_move hE11_11⟩) ?_
                          refine Wr.pure (v := Value.string (s.extract 32 s.size)) 3 rfl (by kernel_rfl) (.inr (fun _ h => st_take [0] h)) (.inl ⟨rfl, fun _ => q_slice_str (l := 32) (h := s.size) Try.underlying9 rfl ⟨_, rfl⟩ rfl (by omega) (by omega) rfl⟩) ?_
                          refine Wr.pure (v := vl) 4 rfl (by kernel_rfl) (.inr (fun _ h => st_take [0] h)) (.inl ⟨rfl, fun _ => q_move hE1_11⟩) ?_
                          refine Wr.pure (v := Value.int .i64 ((k : Nat) : Int)) 5 rfl (by kernel_rfl) (.inr (fun _ h => st_take [0] h)) (.inl ⟨rfl, fun _ => q_move hE15_11⟩) ?_
                          refine Wr.pure (v := Value.pointer (some ⟨(rb vl), ro vl + k * 2, none⟩)) 6 rfl (by kernel_rfl) (.inr (fun _ h => st_take [0] h)) (.inl ⟨rfl, fun _ => q_idx_is (m := ro vl + k * 2) se_22 rfl (hl.some_ (by omega)) rfl (by omega) (by omega) rfl⟩) ?_
                          refine Wr.pure (v := Value.pointer (some ⟨(rb vl), ro vl + k * 2 + 1, none⟩)) 7 rfl (by kernel_rfl) (.inr (fun _ h => st_take [0] h)) (.inl ⟨rfl, fun _ => q_field (m := ro vl + k * 2 + 1) fo_31_1 rfl rfl⟩) ?_
                          refine Wr.take (v := Value.string q.2) 8 rfl (by kernel_rfl) (fun _ h => st_take [0] h) (.inl ⟨rfl, q_load sc_9 rfl (.old ((rdW hl hget).2))⟩) ?_
                          refine Wr.pure (v := Value.string (q.2.extract 32 q.2.size)) 9 rfl (by kernel_rfl) (.inr (fun _ h => st_take [0] h)) (.inl ⟨rfl, fun _ => q_slice_str (l := 32) (h := q.2.size) Try.underlying9 rfl ⟨_, rfl⟩ rfl (by omega) (by omega) rfl⟩) ?_
                          by_cases hHi : (s.extract 32 s.size) = (q.2.extract 32 q.2.size)
                          ·
                            refine Wr.pure (v := Value.bool true) 10 rfl (by kernel_rfl) (.inr (fun _ h => st_take [0] h)) (.inl ⟨rfl, fun _ => q_eql_str (r := true) rfl rfl (text_true hHi)⟩) ?_
                            refine Wr.pure (v := Value.bool true) 11 rfl (by kernel_rfl) (.inr (fun _ h => st_take [0] h)) (.inl ⟨rfl, fun _ => q_pick (t := false) rfl rfl⟩) ?_
                            refine Wr.pure (v := Value.bool true) 12 rfl (by kernel_rfl) (.inr (fun _ h => st_take [0] h)) (.inl ⟨rfl, fun _ => q_assign rfl⟩) ?_
                            refine Wr.done (by kernel_rfl) ?_
                            refine Wx.blockEnd ?_
                            refine Wx.go ?_
                            refine Wc.region ?_
                            refine Wl.q (v := Value.int .i64 ((k : Nat) : Int)) (q_move hE15_11) ?_
                            refine Wl.q (v := Value.int .i64 ((k + 1 : Nat) : Int)) (q_add (c := ((k + 1 : Nat) : Int)) rfl rfl (by rw [wrap_i64] <;> omega)) ?_
                            refine Wl.q (v := Value.int .i64 ((k + 1 : Nat) : Int)) (q_assign rfl) ?_
                            refine Wl.done ?_
                            refine Wx.at (k + 1, false, true) ⟨(by simp only; omega), rfl, rfl, rfl, hE0_11, hE1_11, hE7_11, hE10_11, hE11_11, (Half.none hget hpa (fun e => hLo e.2.2)), (Half.new hget hAt hSz hHi), (by omega)⟩ (fun w hs => hs)
                          ·
                            refine Wr.pure (v := Value.bool false) 10 rfl (by kernel_rfl) (.inr (fun _ h => st_take [0] h)) (.inl ⟨rfl, fun _ => q_eql_str (r := false) rfl rfl (text_false hHi)⟩) ?_
                            refine Wr.pure (v := Value.bool false) 11 rfl (by kernel_rfl) (.inr (fun _ h => st_take [0] h)) (.inl ⟨rfl, fun _ => q_pick (t := false) rfl rfl⟩) ?_
                            refine Wr.pure (v := Value.bool false) 12 rfl (by kernel_rfl) (.inr (fun _ h => st_take [0] h)) (.inl ⟨rfl, fun _ => q_assign rfl⟩) ?_
                            refine Wr.done (by kernel_rfl) ?_
                            refine Wx.blockEnd ?_
                            refine Wx.go ?_
                            refine Wc.region ?_
                            refine Wl.q (v := Value.int .i64 ((k : Nat) : Int)) (q_move hE15_11) ?_
                            refine Wl.q (v := Value.int .i64 ((k + 1 : Nat) : Int)) (q_add (c := ((k + 1 : Nat) : Int)) rfl rfl (by rw [wrap_i64] <;> omega)) ?_
                            refine Wl.q (v := Value.int .i64 ((k + 1 : Nat) : Int)) (q_assign rfl) ?_
                            refine Wl.done ?_
                            refine Wx.at (k + 1, false, false) ⟨(by simp only; omega), rfl, rfl, rfl, hE0_11, hE1_11, hE7_11, hE10_11, hE11_11, (Half.none hget hpa (fun e => hLo e.2.2)), (Half.none hget hpb (fun e => hHi e.2.2)), (by omega)⟩ (fun w hs => hs)
                      ·
                        refine Wl.q (v := Value.bool false) (q_eql (r := false) rfl rfl (decide_eq_false hSz)) ?_
                        refine Wl.q (v := Value.bool false) (q_pick (t := true) rfl rfl) ?_
                        refine Wl.done ?_
                        refine Wx.go ?_
                        refine Wc.no rfl ?_
                        refine Wc.skip ?_
                        refine Wx.blockEnd ?_
                        refine Wx.go ?_
                        refine Wc.region ?_
                        refine Wl.q (v := Value.int .i64 ((k : Nat) : Int)) (q_move hE15_11) ?_
                        refine Wl.q (v := Value.int .i64 ((k + 1 : Nat) : Int)) (q_add (c := ((k + 1 : Nat) : Int)) rfl rfl (by rw [wrap_i64] <;> omega)) ?_
                        refine Wl.q (v := Value.int .i64 ((k + 1 : Nat) : Int)) (q_assign rfl) ?_
                        refine Wl.done ?_
                        refine Wx.at (k + 1, false, false) ⟨(by simp only; omega), rfl, hE13_11, hE14_11, hE0_11, hE1_11, hE7_11, hE10_11, hE11_11, (Half.none hget hpa (fun e => hSz e.2.1)), (Half.none hget hpb (fun e => hSz e.2.1)), (by omega)⟩ (fun w hs => hs)
                    ·
                      refine Wl.q (v := Value.bool false) (q_eql (r := false) rfl rfl (decide_eq_false hAt)) ?_
                      refine Wl.q (v := Value.bool false) (q_move rfl) ?_
                      refine Wl.no ?_
                      refine Wl.no ?_
                      refine Wl.no ?_
                      refine Wl.no ?_
                      refine Wl.no ?_
                      refine Wl.no ?_
                      refine Wl.no ?_
                      refine Wl.q (v := Value.bool false) (q_pick (t := false) rfl rfl) ?_
                      refine Wl.done ?_
                      refine Wx.go ?_
                      refine Wc.no rfl ?_
                      refine Wc.skip ?_
                      refine Wx.blockEnd ?_
                      refine Wx.go ?_
                      refine Wc.region ?_
                      refine Wl.q (v := Value.int .i64 ((k : Nat) : Int)) (q_move hE15_11) ?_
                      refine Wl.q (v := Value.int .i64 ((k + 1 : Nat) : Int)) (q_add (c := ((k + 1 : Nat) : Int)) rfl rfl (by rw [wrap_i64] <;> omega)) ?_
                      refine Wl.q (v := Value.int .i64 ((k + 1 : Nat) : Int)) (q_assign rfl) ?_
                      refine Wl.done ?_
                      refine Wx.at (k + 1, false, false) ⟨(by simp only; omega), rfl, hE13_11, hE14_11, hE0_11, hE1_11, hE7_11, hE10_11, hE11_11, (Half.none hget hpa (fun e => hAt e.1)), (Half.none hget hpb (fun e => hAt e.1)), (by omega)⟩ (fun w hs => hs)
                  ·
                    have hend2 : k = l.length := by omega
                    refine Wl.q (v := Value.bool false) (q_lss (r := false) rfl rfl (decide_eq_false hklt)) ?_
                    refine Wl.done ?_
                    refine Wx.go ?_
                    refine Wc.no rfl ?_
                    refine Wc.exit ?_
                    refine Wx.thenExit ?_
                    refine Wx.thenExit ?_
                    refine Wx.out ?_
                    refine Wx.go ?_
                    refine Wc.seq ?_
                    refine Wc.region ?_
                    refine Wl.q (v := Value.bool false) (q_move hE13_11) ?_
                    refine Wl.q (v := Value.bool true) (q_not rfl rfl) ?_
                    refine Wl.q (v := Value.bool true) (q_move rfl) ?_
                    refine Wl.no ?_
                    refine Wl.no ?_
                    refine Wl.q (v := Value.bool true) (q_pick (t := true) rfl rfl) ?_
                    refine Wl.done ?_
                    refine Wx.go ?_
                    refine Wc.yes rfl ?_
                    refine Wc.seq ?_
                    refine Wc.region ?_
                    refine Wl.q (v := Value.bool false) (q_assign rfl) ?_
                    refine Wl.done ?_
                    refine Wx.go ?_
                    refine Wc.ret ?_
                    refine Wx.blockRet ?_
                    refine Wx.thenRet ?_
                    refine Wx.thenRet ?_
                    refine Wx.blockRet ?_
                    refine Wx.thenRet ?_
                    refine Wx.fin1 rfl (.inl rfl) (fun w hs => ?_)
                    exfalso
                    rw [hend2, List.take_length] at hpa hpb
                    cases hpa.2 hta
                ·
                  refine Wc.seq ?_
                  refine Wc.seq ?_
                  refine Wc.region ?_
                  refine Wl.q (v := Value.int .i64 ((k : Nat) : Int)) (q_move hE15_11) ?_
                  refine Wl.q (v := vl) (q_move hE1_11) ?_
                  refine Wl.q (v := Value.int .i64 ((l.length : Nat) : Int)) (q_len_is Try.underlying22 rfl hl.shape) ?_
                  by_cases hklt : ((k : Nat) : Int) < ((l.length : Nat) : Int)
                  ·
                    obtain ⟨q, hget⟩ : ∃ q, l[k]? = some q := ⟨l[k]'(by omega), by simp [List.getElem?_eq_getElem (show k < l.length by omega)]⟩
                    refine Wl.q (v := Value.bool true) (q_lss (r := true) rfl rfl (decide_eq_true hklt)) ?_
                    refine Wl.done ?_
                    refine Wx.go ?_
                    refine Wc.yes rfl ?_
                    refine Wc.skip ?_
                    refine Wx.go ?_
                    refine Wc.seq ?_
                    refine Wc.block ?_
                    refine Wc.seq ?_
                    refine Wc.region ?_
                    refine Wl.q (v := vl) (q_move hE1_11) ?_
                    refine Wl.q (v := Value.int .i64 ((k : Nat) : Int)) (q_move hE15_11) ?_
                    refine Wl.q (v := Value.pointer (some ⟨(rb vl), ro vl + k * 2, none⟩)) (q_idx_is (m := ro vl + k * 2) se_22 rfl (hl.some_ (by omega)) rfl (by omega) (by omega) rfl) ?_
                    refine Wl.q (v := Value.pointer (some ⟨(rb vl), ro vl + k * 2, none⟩)) (q_field (m := ro vl + k * 2) fo_31_0 rfl rfl) ?_
                    refine Wl.q (v := Value.int .i64 q.1) (q_load sc_3 rfl (.old ((rdW hl hget).1))) ?_
                    refine Wl.q (v := Value.int .i64 ((i : Nat) : Int)) (q_move hE10_11) ?_
                    by_cases hAt : q.1 = ((i : Nat) : Int)
                    ·
                      refine Wl.q (v := Value.bool true) (q_eql (r := true) rfl rfl (decide_eq_true hAt)) ?_
                      refine Wl.q (v := Value.bool true) (q_move rfl) ?_
                      refine Wl.q (v := vl) (q_move hE1_11) ?_
                      refine Wl.q (v := Value.int .i64 ((k : Nat) : Int)) (q_move hE15_11) ?_
                      refine Wl.q (v := Value.pointer (some ⟨(rb vl), ro vl + k * 2, none⟩)) (q_idx_is (m := ro vl + k * 2) se_22 rfl (hl.some_ (by omega)) rfl (by omega) (by omega) rfl) ?_
                      refine Wl.q (v := Value.pointer (some ⟨(rb vl), ro vl + k * 2 + 1, none⟩)) (q_field (m := ro vl + k * 2 + 1) fo_31_1 rfl rfl) ?_
                      refine Wl.q (v := Value.string q.2) (q_load sc_9 rfl (.old ((rdW hl hget).2))) ?_
                      refine Wl.q (v := Value.int .i64 ((q.2.size : Nat) : Int)) (q_len_str Try.underlying9 rfl) ?_
                      by_cases hSz : ((q.2.size : Nat) : Int) = 64
                      ·
                        refine Wl.q (v := Value.bool true) (q_eql (r := true) rfl rfl (decide_eq_true hSz)) ?_
                        refine Wl.q (v := Value.bool true) (q_pick (t := true) rfl rfl) ?_
                        refine Wl.done ?_
                        refine Wx.go ?_
                        refine Wc.yes rfl ?_
                        refine Wc.seq ?_
                        refine Wc.drawsS [] ((isDisk pp (tornD n l bits)) :: []) (by kernel_rfl) ?_
                        refine Wr.pure (v := Value.bool false) 0 rfl (by kernel_rfl) (.inr (fun _ h => st_take [0] h)) (.inl ⟨rfl, fun _ => q_move hE13_11⟩) ?_
                        refine Wr.pure (v := Value.bool false) 1 rfl (by kernel_rfl) (.inr (fun _ h => st_take [0] h)) (.inl ⟨rfl, fun _ => q_move rfl⟩) ?_
                        refine Wr.pure (v := Value.string s) 2 rfl (by kernel_rfl) (.inr (fun _ h => st_take [0] h)) (.inl ⟨rfl, fun _ => q_move hE11_11⟩) ?_
                        refine Wr.pure (v := Value.string (s.extract 0 32)) 3 rfl (by kernel_rfl) (.inr (fun _ h => st_take [0] h)) (.inl ⟨rfl, fun _ => q_slice_str (l := 0) (h := 32) Try.underlying9 rfl rfl ⟨_, rfl⟩ (by omega) (by omega) rfl⟩) ?_
                        refine Wr.pure (v := vl) 4 rfl (by kernel_rfl) (.inr (fun _ h => st_take [0] h)) (.inl ⟨rfl, fun _ => q_move hE1_11⟩) ?_
                        refine Wr.pure (v := Value.int .i64 ((k : Nat) : Int)) 5 rfl (by kernel_rfl) (.inr (fun _ h => st_take [0] h)) (.inl ⟨rfl, fun _ => q_move hE15_11⟩) ?_
                        refine Wr.pure (v := Value.pointer (some ⟨(rb vl), ro vl + k * 2, none⟩)) 6 rfl (by kernel_rfl) (.inr (fun _ h => st_take [0] h)) (.inl ⟨rfl, fun _ => q_idx_is (m := ro vl + k * 2) se_22 rfl (hl.some_ (by omega)) rfl (by omega) (by omega) rfl⟩) ?_
                        refine Wr.pure (v := Value.pointer (some ⟨(rb vl), ro vl + k * 2 + 1, none⟩)) 7 rfl (by kernel_rfl) (.inr (fun _ h => st_take [0] h)) (.inl ⟨rfl, fun _ => q_field (m := ro vl + k * 2 + 1) fo_31_1 rfl rfl⟩) ?_
                        refine Wr.take (v := Value.string q.2) 8 rfl (by kernel_rfl) (fun _ h => st_take [0] h) (.inl ⟨rfl, q_load sc_9 rfl (.old ((rdW hl hget).2))⟩) ?_
                        refine Wr.pure (v := Value.string (q.2.extract 0 32)) 9 rfl (by kernel_rfl) (.inr (fun _ h => st_take [0] h)) (.inl ⟨rfl, fun _ => q_slice_str (l := 0) (h := 32) Try.underlying9 rfl rfl ⟨_, rfl⟩ (by omega) (by omega) rfl⟩) ?_
                        by_cases hLo : (s.extract 0 32) = (q.2.extract 0 32)
                        ·
                          refine Wr.pure (v := Value.bool true) 10 rfl (by kernel_rfl) (.inr (fun _ h => st_take [0] h)) (.inl ⟨rfl, fun _ => q_eql_str (r := true) rfl rfl (text_true hLo)⟩) ?_
                          refine Wr.pure (v := Value.bool true) 11 rfl (by kernel_rfl) (.inr (fun _ h => st_take [0] h)) (.inl ⟨rfl, fun _ => q_pick (t := false) rfl rfl⟩) ?_
                          refine Wr.pure (v := Value.bool true) 12 rfl (by kernel_rfl) (.inr (fun _ h => st_take [0] h)) (.inl ⟨rfl, fun _ => q_assign rfl⟩) ?_
                          refine Wr.done (by kernel_rfl) ?_
                          refine Wx.go ?_
                          refine Wc.drawsS [] ((isDisk pp (tornD n l bits)) :: []) (by kernel_rfl) ?_
                          refine Wr.pure (v := Value.bool true) 0 rfl (by kernel_rfl) (.inr (fun _ h => st_take [0] h)) (.inl ⟨rfl, fun _ => q_move hE14_11⟩) ?_
                          refine Wr.pure (v := Value.bool true) 1 rfl (by kernel_rfl) (.inr (fun _ h => st_take [0] h)) (.inl ⟨rfl, fun _ => q_move rfl⟩) ?_
                          refine Wr.pure (v := undef) 2 rfl (by kernel_rfl) (.inr (fun _ h => st_take [0] h)) (.inr ⟨rfl, rfl⟩) ?_
                          refine Wr.pure (v := undef) 3 rfl (by kernel_rfl) (.inr (fun _ h => st_take [0] h)) (.inr ⟨rfl, rfl⟩) ?_
                          refine Wr.pure (v := undef) 4 rfl (by kernel_rfl) (.inr (fun _ h => st_take [0] h)) (.inr ⟨rfl, rfl⟩) ?_
                          refine Wr.pure (v := undef) 5 rfl (by kernel_rfl) (.inr (fun _ h => st_take [0] h)) (.inr ⟨rfl, rfl⟩) ?_
                          refine Wr.pure (v := undef) 6 rfl (by kernel_rfl) (.inr (fun _ h => st_take [0] h)) (.inr ⟨rfl, rfl⟩) ?_
                          refine Wr.pure (v := undef) 7 rfl (by kernel_rfl) (.inr (fun _ h => st_take [0] h)) (.inr ⟨rfl, rfl⟩) ?_
                          refine Wr.pure (v := undef) 8 rfl (by kernel_rfl) (.inr (fun _ h => st_take [0] h)) (.inr ⟨rfl, rfl⟩) ?_
                          refine Wr.pure (v := undef) 9 rfl (by kernel_rfl) (.inr (fun _ h => st_take [0] h)) (.inr ⟨rfl, rfl⟩) ?_
                          refine Wr.pure (v := undef) 10 rfl (by kernel_rfl) (.inr (fun _ h => st_take [0] h)) (.inr ⟨rfl, rfl⟩) ?_
                          refine Wr.pure (v := Value.bool true) 11 rfl (by kernel_rfl) (.inr (fun _ h => st_take [0] h)) (.inl ⟨rfl, fun _ => q_pick (t := true) rfl rfl⟩) ?_
                          refine Wr.pure (v := Value.bool true) 12 rfl (by kernel_rfl) (.inr (fun _ h => st_take [0] h)) (.inl ⟨rfl, fun _ => q_assign rfl⟩) ?_
                          refine Wr.done (by kernel_rfl) ?_
                          refine Wx.blockEnd ?_
                          refine Wx.go ?_
                          refine Wc.region ?_
                          refine Wl.q (v := Value.int .i64 ((k : Nat) : Int)) (q_move hE15_11) ?_
                          refine Wl.q (v := Value.int .i64 ((k + 1 : Nat) : Int)) (q_add (c := ((k + 1 : Nat) : Int)) rfl rfl (by rw [wrap_i64] <;> omega)) ?_
                          refine Wl.q (v := Value.int .i64 ((k + 1 : Nat) : Int)) (q_assign rfl) ?_
                          refine Wl.done ?_
                          refine Wx.at (k + 1, true, true) ⟨(by simp only; omega), rfl, rfl, rfl, hE0_11, hE1_11, hE7_11, hE10_11, hE11_11, (Half.new hget hAt hSz hLo), (Half.old hget hpb), (by omega)⟩ (fun w hs => hs)
                        ·
                          refine Wr.pure (v := Value.bool false) 10 rfl (by kernel_rfl) (.inr (fun _ h => st_take [0] h)) (.inl ⟨rfl, fun _ => q_eql_str (r := false) rfl rfl (text_false hLo)⟩) ?_
                          refine Wr.pure (v := Value.bool false) 11 rfl (by kernel_rfl) (.inr (fun _ h => st_take [0] h)) (.inl ⟨rfl, fun _ => q_pick (t := false) rfl rfl⟩) ?_
                          refine Wr.pure (v := Value.bool false) 12 rfl (by kernel_rfl) (.inr (fun _ h => st_take [0] h)) (.inl ⟨rfl, fun _ => q_assign rfl⟩) ?_
                          refine Wr.done (by kernel_rfl) ?_
                          refine Wx.go ?_
                          refine Wc.drawsS [] ((isDisk pp (tornD n l bits)) :: []) (by kernel_rfl) ?_
                          refine Wr.pure (v := Value.bool true) 0 rfl (by kernel_rfl) (.inr (fun _ h => st_take [0] h)) (.inl ⟨rfl, fun _ => q_move hE14_11⟩) ?_
                          refine Wr.pure (v := Value.bool true) 1 rfl (by kernel_rfl) (.inr (fun _ h => st_take [0] h)) (.inl ⟨rfl, fun _ => q_move rfl⟩) ?_
                          refine Wr.pure (v := undef) 2 rfl (by kernel_rfl) (.inr (fun _ h => st_take [0] h)) (.inr ⟨rfl, rfl⟩) ?_
                          refine Wr.pure (v := undef) 3 rfl (by kernel_rfl) (.inr (fun _ h => st_take [0] h)) (.inr ⟨rfl, rfl⟩) ?_
                          refine Wr.pure (v := undef) 4 rfl (by kernel_rfl) (.inr (fun _ h => st_take [0] h)) (.inr ⟨rfl, rfl⟩) ?_
                          refine Wr.pure (v := undef) 5 rfl (by kernel_rfl) (.inr (fun _ h => st_take [0] h)) (.inr ⟨rfl, rfl⟩) ?_
                          refine Wr.pure (v := undef) 6 rfl (by kernel_rfl) (.inr (fun _ h => st_take [0] h)) (.inr ⟨rfl, rfl⟩) ?_
                          refine Wr.pure (v := undef) 7 rfl (by kernel_rfl) (.inr (fun _ h => st_take [0] h)) (.inr ⟨rfl, rfl⟩) ?_
                          refine Wr.pure (v := undef) 8 rfl (by kernel_rfl) (.inr (fun _ h => st_take [0] h)) (.inr ⟨rfl, rfl⟩) ?_
                          refine Wr.pure (v := undef) 9 rfl (by kernel_rfl) (.inr (fun _ h => st_take [0] h)) (.inr ⟨rfl, rfl⟩) ?_
                          refine Wr.pure (v := undef) 10 rfl (by kernel_rfl) (.inr (fun _ h => st_take [0] h)) (.inr ⟨rfl, rfl⟩) ?_
                          refine Wr.pure (v := Value.bool true) 11 rfl (by kernel_rfl) (.inr (fun _ h => st_take [0] h)) (.inl ⟨rfl, fun _ => q_pick (t := true) rfl rfl⟩) ?_
                          refine Wr.pure (v := Value.bool true) 12 rfl (by kernel_rfl) (.inr (fun _ h => st_take [0] h)) (.inl ⟨rfl, fun _ => q_assign rfl⟩) ?_
                          refine Wr.done (by kernel_rfl) ?_
                          refine Wx.blockEnd ?_
                          refine Wx.go ?_
                          refine Wc.region ?_
                          refine Wl.q (v := Value.int .i64 ((k : Nat) : Int)) (q_move hE15_11) ?_
                          refine Wl.q (v := Value.int .i64 ((k + 1 : Nat) : Int)) (q_add (c := ((k + 1 : Nat) : Int)) rfl rfl (by rw [wrap_i64] <;> omega)) ?_
                          refine Wl.q (v := Value.int .i64 ((k + 1 : Nat) : Int)) (q_assign rfl) ?_
                          refine Wl.done ?_
                          refine Wx.at (k + 1, false, true) ⟨(by simp only; omega), rfl, rfl, rfl, hE0_11, hE1_11, hE7_11, hE10_11, hE11_11, (Half.none hget hpa (fun e => hLo e.2.2)), (Half.old hget hpb), (by omega)⟩ (fun w hs => hs)
                      ·
                        refine Wl.q (v := Value.bool false) (q_eql (r := false) rfl rfl (decide_eq_false hSz)) ?_
                        refine Wl.q (v := Value.bool false) (q_pick (t := true) rfl rfl) ?_
                        refine Wl.done ?_
                        refine Wx.go ?_
                        refine Wc.no rfl ?_
                        refine Wc.skip ?_
                        refine Wx.blockEnd ?_
                        refine Wx.go ?_
                        refine Wc.region ?_
                        refine Wl.q (v := Value.int .i64 ((k : Nat) : Int)) (q_move hE15_11) ?_
                        refine Wl.q (v := Value.int .i64 ((k + 1 : Nat) : Int)) (q_add (c := ((k + 1 : Nat) : Int)) rfl rfl (by rw [wrap_i64] <;> omega)) ?_
                        refine Wl.q (v := Value.int .i64 ((k + 1 : Nat) : Int)) (q_assign rfl) ?_
                        refine Wl.done ?_
                        refine Wx.at (k + 1, false, true) ⟨(by simp only; omega), rfl, hE13_11, hE14_11, hE0_11, hE1_11, hE7_11, hE10_11, hE11_11, (Half.none hget hpa (fun e => hSz e.2.1)), (Half.old hget hpb), (by omega)⟩ (fun w hs => hs)
                    ·
                      refine Wl.q (v := Value.bool false) (q_eql (r := false) rfl rfl (decide_eq_false hAt)) ?_
                      refine Wl.q (v := Value.bool false) (q_move rfl) ?_
                      refine Wl.no ?_
                      refine Wl.no ?_
                      refine Wl.no ?_
                      refine Wl.no ?_
                      refine Wl.no ?_
                      refine Wl.no ?_
                      refine Wl.no ?_
                      refine Wl.q (v := Value.bool false) (q_pick (t := false) rfl rfl) ?_
                      refine Wl.done ?_
                      refine Wx.go ?_
                      refine Wc.no rfl ?_
                      refine Wc.skip ?_
                      refine Wx.blockEnd ?_
                      refine Wx.go ?_
                      refine Wc.region ?_
                      refine Wl.q (v := Value.int .i64 ((k : Nat) : Int)) (q_move hE15_11) ?_
                      refine Wl.q (v := Value.int .i64 ((k + 1 : Nat) : Int)) (q_add (c := ((k + 1 : Nat) : Int)) rfl rfl (by rw [wrap_i64] <;> omega)) ?_
                      refine Wl.q (v := Value.int .i64 ((k + 1 : Nat) : Int)) (q_assign rfl) ?_
                      refine Wl.done ?_
                      refine Wx.at (k + 1, false, true) ⟨(by simp only; omega), rfl, hE13_11, hE14_11, hE0_11, hE1_11, hE7_11, hE10_11, hE11_11, (Half.none hget hpa (fun e => hAt e.1)), (Half.old hget hpb), (by omega)⟩ (fun w hs => hs)
                  ·
                    have hend2 : k = l.length := by omega
                    refine Wl.q (v := Value.bool false) (q_lss (r := false) rfl rfl (decide_eq_false hklt)) ?_
                    refine Wl.done ?_
                    refine Wx.go ?_
                    refine Wc.no rfl ?_
                    refine Wc.exit ?_
                    refine Wx.thenExit ?_
                    refine Wx.thenExit ?_
                    refine Wx.out ?_
                    refine Wx.go ?_
                    refine Wc.seq ?_
                    refine Wc.region ?_
                    refine Wl.q (v := Value.bool false) (q_move hE13_11) ?_
                    refine Wl.q (v := Value.bool true) (q_not rfl rfl) ?_
                    refine Wl.q (v := Value.bool true) (q_move rfl) ?_
                    refine Wl.no ?_
                    refine Wl.no ?_
                    refine Wl.q (v := Value.bool true) (q_pick (t := true) rfl rfl) ?_
                    refine Wl.done ?_
                    refine Wx.go ?_
                    refine Wc.yes rfl ?_
                    refine Wc.seq ?_
                    refine Wc.region ?_
                    refine Wl.q (v := Value.bool false) (q_assign rfl) ?_
                    refine Wl.done ?_
                    refine Wx.go ?_
                    refine Wc.ret ?_
                    refine Wx.blockRet ?_
                    refine Wx.thenRet ?_
                    refine Wx.thenRet ?_
                    refine Wx.blockRet ?_
                    refine Wx.thenRet ?_
                    refine Wx.fin1 rfl (.inl rfl) (fun w hs => ?_)
                    exfalso
                    rw [hend2, List.take_length] at hpa hpb
                    cases hpa.2 hta
                ·
                  refine Wc.seq ?_
                  refine Wc.seq ?_
                  refine Wc.region ?_
                  refine Wl.q (v := Value.int .i64 ((k : Nat) : Int)) (q_move hE15_11) ?_
                  refine Wl.q (v := vl) (q_move hE1_11) ?_
                  refine Wl.q (v := Value.int .i64 ((l.length : Nat) : Int)) (q_len_is Try.underlying22 rfl hl.shape) ?_
                  by_cases hklt : ((k : Nat) : Int) < ((l.length : Nat) : Int)
                  ·
                    obtain ⟨q, hget⟩ : ∃ q, l[k]? = some q := ⟨l[k]'(by omega), by simp [List.getElem?_eq_getElem (show k < l.length by omega)]⟩
                    refine Wl.q (v := Value.bool true) (q_lss (r := true) rfl rfl (decide_eq_true hklt)) ?_
                    refine Wl.done ?_
                    refine Wx.go ?_
                    refine Wc.yes rfl ?_
                    refine Wc.skip ?_
                    refine Wx.go ?_
                    refine Wc.seq ?_
                    refine Wc.block ?_
                    refine Wc.seq ?_
                    refine Wc.region ?_
                    refine Wl.q (v := vl) (q_move hE1_11) ?_
                    refine Wl.q (v := Value.int .i64 ((k : Nat) : Int)) (q_move hE15_11) ?_
                    refine Wl.q (v := Value.pointer (some ⟨(rb vl), ro vl + k * 2, none⟩)) (q_idx_is (m := ro vl + k * 2) se_22 rfl (hl.some_ (by omega)) rfl (by omega) (by omega) rfl) ?_
                    refine Wl.q (v := Value.pointer (some ⟨(rb vl), ro vl + k * 2, none⟩)) (q_field (m := ro vl + k * 2) fo_31_0 rfl rfl) ?_
                    refine Wl.q (v := Value.int .i64 q.1) (q_load sc_3 rfl (.old ((rdW hl hget).1))) ?_
                    refine Wl.q (v := Value.int .i64 ((i : Nat) : Int)) (q_move hE10_11) ?_
                    by_cases hAt : q.1 = ((i : Nat) : Int)
                    ·
                      refine Wl.q (v := Value.bool true) (q_eql (r := true) rfl rfl (decide_eq_true hAt)) ?_
                      refine Wl.q (v := Value.bool true) (q_move rfl) ?_
                      refine Wl.q (v := vl) (q_move hE1_11) ?_
                      refine Wl.q (v := Value.int .i64 ((k : Nat) : Int)) (q_move hE15_11) ?_
                      refine Wl.q (v := Value.pointer (some ⟨(rb vl), ro vl + k * 2, none⟩)) (q_idx_is (m := ro vl + k * 2) se_22 rfl (hl.some_ (by omega)) rfl (by omega) (by omega) rfl) ?_
                      refine Wl.q (v := Value.pointer (some ⟨(rb vl), ro vl + k * 2 + 1, none⟩)) (q_field (m := ro vl + k * 2 + 1) fo_31_1 rfl rfl) ?_
                      refine Wl.q (v := Value.string q.2) (q_load sc_9 rfl (.old ((rdW hl hget).2))) ?_
                      refine Wl.q (v := Value.int .i64 ((q.2.size : Nat) : Int)) (q_len_str Try.underlying9 rfl) ?_
                      by_cases hSz : ((q.2.size : Nat) : Int) = 64
                      ·
                        refine Wl.q (v := Value.bool true) (q_eql (r := true) rfl rfl (decide_eq_true hSz)) ?_
                        refine Wl.q (v := Value.bool true) (q_pick (t := true) rfl rfl) ?_
                        refine Wl.done ?_
                        refine Wx.go ?_
                        refine Wc.yes rfl ?_
                        refine Wc.seq ?_
                        refine Wc.drawsS [] ((isDisk pp (tornD n l bits)) :: []) (by kernel_rfl) ?_
                        refine Wr.pure (v := Value.bool true) 0 rfl (by kernel_rfl) (.inr (fun _ h => st_take [0] h)) (.inl ⟨rfl, fun _ => q_move hE13_11⟩) ?_
                        refine Wr.pure (v := Value.bool true) 1 rfl (by kernel_rfl) (.inr (fun _ h => st_take [0] h)) (.inl ⟨rfl, fun _ => q_move rfl⟩) ?_
                        refine Wr.pure (v := undef) 2 rfl (by kernel_rfl) (.inr (fun _ h => st_take [0] h)) (.inr ⟨rfl, rfl⟩) ?_
                        refine Wr.pure (v := undef) 3 rfl (by kernel_rfl) (.inr (fun _ h => st_take [0] h)) (.inr ⟨rfl, rfl⟩) ?_
                        refine Wr.pure (v := undef) 4 rfl (by kernel_rfl) (.inr (fun _ h => st_take [0] h)) (.inr ⟨rfl, rfl⟩) ?_
                        refine Wr.pure (v := undef) 5 rfl (by kernel_rfl) (.inr (fun _ h => st_take [0] h)) (.inr ⟨rfl, rfl⟩) ?_
                        refine Wr.pure (v := undef) 6 rfl (by kernel_rfl) (.inr (fun _ h => st_take [0] h)) (.inr ⟨rfl, rfl⟩) ?_
                        refine Wr.pure (v := undef) 7 rfl (by kernel_rfl) (.inr (fun _ h => st_take [0] h)) (.inr ⟨rfl, rfl⟩) ?_
                        refine Wr.pure (v := undef) 8 rfl (by kernel_rfl) (.inr (fun _ h => st_take [0] h)) (.inr ⟨rfl, rfl⟩) ?_
                        refine Wr.pure (v := undef) 9 rfl (by kernel_rfl) (.inr (fun _ h => st_take [0] h)) (.inr ⟨rfl, rfl⟩) ?_
                        refine Wr.pure (v := undef) 10 rfl (by kernel_rfl) (.inr (fun _ h => st_take [0] h)) (.inr ⟨rfl, rfl⟩) ?_
                        refine Wr.pure (v := Value.bool true) 11 rfl (by kernel_rfl) (.inr (fun _ h => st_take [0] h)) (.inl ⟨rfl, fun _ => q_pick (t := true) rfl rfl⟩) ?_
                        refine Wr.pure (v := Value.bool true) 12 rfl (by kernel_rfl) (.inr (fun _ h => st_take [0] h)) (.inl ⟨rfl, fun _ => q_assign rfl⟩) ?_
                        refine Wr.done (by kernel_rfl) ?_
                        refine Wx.go ?_
                        refine Wc.drawsS [] ((isDisk pp (tornD n l bits)) :: []) (by kernel_rfl) ?_
                        refine Wr.pure (v := Value.bool false) 0 rfl (by kernel_rfl) (.inr (fun _ h => st_take [0] h)) (.inl ⟨rfl, fun _ => q_move hE14_11⟩) ?_
                        refine Wr.pure (v := Value.bool false) 1 rfl (by kernel_rfl) (.inr (fun _ h => st_take [0] h)) (.inl ⟨rfl, fun _ => q_move rfl⟩) ?_
                        refine Wr.pure (v := Value.string s) 2 rfl (by kernel_rfl) (.inr (fun _ h => st_take [0] h)) (.inl ⟨rfl, fun _ => q_move hE11_11⟩) ?_
                        refine Wr.pure (v := Value.string (s.extract 32 s.size)) 3 rfl (by kernel_rfl) (.inr (fun _ h => st_take [0] h)) (.inl ⟨rfl, fun _ => q_slice_str (l := 32) (h := s.size) Try.underlying9 rfl ⟨_, rfl⟩ rfl (by omega) (by omega) rfl⟩) ?_
                        refine Wr.pure (v := vl) 4 rfl (by kernel_rfl) (.inr (fun _ h => st_take [0] h)) (.inl ⟨rfl, fun _ => q_move hE1_11⟩) ?_
                        refine Wr.pure (v := Value.int .i64 ((k : Nat) : Int)) 5 rfl (by kernel_rfl) (.inr (fun _ h => st_take [0] h)) (.inl ⟨rfl, fun _ => q_move hE15_11⟩) ?_
                        refine Wr.pure (v := Value.pointer (some ⟨(rb vl), ro vl + k * 2, none⟩)) 6 rfl (by kernel_rfl) (.inr (fun _ h => st_take [0] h)) (.inl ⟨rfl, fun _ => q_idx_is (m := ro vl + k * 2) se_22 rfl (hl.some_ (by omega)) rfl (by omega) (by omega) rfl⟩) ?_
                        refine Wr.pure (v := Value.pointer (some ⟨(rb vl), ro vl + k * 2 + 1, none⟩)) 7 rfl (by kernel_rfl) (.inr (fun _ h => st_take [0] h)) (.inl ⟨rfl, fun _ => q_field (m := ro vl + k * 2 + 1) fo_31_1 rfl rfl⟩) ?_
                        refine Wr.take (v := Value.string q.2) 8 rfl (by kernel_rfl) (fun _ h => st_take [0] h) (.inl ⟨rfl, q_load sc_9 rfl (.old ((rdW hl hget).2))⟩) ?_
                        refine Wr.pure (v := Value.string (q.2.extract 32 q.2.size)) 9 rfl (by kernel_rfl) (.inr (fun _ h => st_take [0] h)) (.inl ⟨rfl, fun _ => q_slice_str (l := 32) (h := q.2.size) Try.underlying9 rfl ⟨_, rfl⟩ rfl (by omega) (by omega) rfl⟩) ?_
                        by_cases hHi : (s.extract 32 s.size) = (q.2.extract 32 q.2.size)
                        ·
                          refine Wr.pure (v := Value.bool true) 10 rfl (by kernel_rfl) (.inr (fun _ h => st_take [0] h)) (.inl ⟨rfl, fun _ => q_eql_str (r := true) rfl rfl (text_true hHi)⟩) ?_
                          refine Wr.pure (v := Value.bool true) 11 rfl (by kernel_rfl) (.inr (fun _ h => st_take [0] h)) (.inl ⟨rfl, fun _ => q_pick (t := false) rfl rfl⟩) ?_
                          refine Wr.pure (v := Value.bool true) 12 rfl (by kernel_rfl) (.inr (fun _ h => st_take [0] h)) (.inl ⟨rfl, fun _ => q_assign rfl⟩) ?_
                          refine Wr.done (by kernel_rfl) ?_
                          refine Wx.blockEnd ?_
                          refine Wx.go ?_
                          refine Wc.region ?_
                          refine Wl.q (v := Value.int .i64 ((k : Nat) : Int)) (q_move hE15_11) ?_
                          refine Wl.q (v := Value.int .i64 ((k + 1 : Nat) : Int)) (q_add (c := ((k + 1 : Nat) : Int)) rfl rfl (by rw [wrap_i64] <;> omega)) ?_
                          refine Wl.q (v := Value.int .i64 ((k + 1 : Nat) : Int)) (q_assign rfl) ?_
                          refine Wl.done ?_
                          refine Wx.at (k + 1, true, true) ⟨(by simp only; omega), rfl, rfl, rfl, hE0_11, hE1_11, hE7_11, hE10_11, hE11_11, (Half.old hget hpa), (Half.new hget hAt hSz hHi), (by omega)⟩ (fun w hs => hs)
                        ·
                          refine Wr.pure (v := Value.bool false) 10 rfl (by kernel_rfl) (.inr (fun _ h => st_take [0] h)) (.inl ⟨rfl, fun _ => q_eql_str (r := false) rfl rfl (text_false hHi)⟩) ?_
                          refine Wr.pure (v := Value.bool false) 11 rfl (by kernel_rfl) (.inr (fun _ h => st_take [0] h)) (.inl ⟨rfl, fun _ => q_pick (t := false) rfl rfl⟩) ?_
                          refine Wr.pure (v := Value.bool false) 12 rfl (by kernel_rfl) (.inr (fun _ h => st_take [0] h)) (.inl ⟨rfl, fun _ => q_assign rfl⟩) ?_
                          refine Wr.done (by kernel_rfl) ?_
                          refine Wx.blockEnd ?_
                          refine Wx.go ?_
                          refine Wc.region ?_
                          refine Wl.q (v := Value.int .i64 ((k : Nat) : Int)) (q_move hE15_11) ?_
                          refine Wl.q (v := Value.int .i64 ((k + 1 : Nat) : Int)) (q_add (c := ((k + 1 : Nat) : Int)) rfl rfl (by rw [wrap_i64] <;> omega)) ?_
                          refine Wl.q (v := Value.int .i64 ((k + 1 : Nat) : Int)) (q_assign rfl) ?_
                          refine Wl.done ?_
                          refine Wx.at (k + 1, true, false) ⟨(by simp only; omega), rfl, rfl, rfl, hE0_11, hE1_11, hE7_11, hE10_11, hE11_11, (Half.old hget hpa), (Half.none hget hpb (fun e => hHi e.2.2)), (by omega)⟩ (fun w hs => hs)
                      ·
                        refine Wl.q (v := Value.bool false) (q_eql (r := false) rfl rfl (decide_eq_false hSz)) ?_
                        refine Wl.q (v := Value.bool false) (q_pick (t := true) rfl rfl) ?_
                        refine Wl.done ?_
                        refine Wx.go ?_
                        refine Wc.no rfl ?_
                        refine Wc.skip ?_
                        refine Wx.blockEnd ?_
                        refine Wx.go ?_
                        refine Wc.region ?_
                        refine Wl.q (v := Value.int .i64 ((k : Nat) : Int)) (q_move hE15_11) ?_
                        refine Wl.q (v := Value.int .i64 ((k + 1 : Nat) : Int)) (q_add (c := ((k + 1 : Nat) : Int)) rfl rfl (by rw [wrap_i64] <;> omega)) ?_
                        refine Wl.q (v := Value.int .i64 ((k + 1 : Nat) : Int)) (q_assign rfl) ?_
                        refine Wl.done ?_
                        refine Wx.at (k + 1, true, false) ⟨(by simp only; omega), rfl, hE13_11, hE14_11, hE0_11, hE1_11, hE7_11, hE10_11, hE11_11, (Half.old hget hpa), (Half.none hget hpb (fun e => hSz e.2.1)), (by omega)⟩ (fun w hs => hs)
                    ·
                      refine Wl.q (v := Value.bool false) (q_eql (r := false) rfl rfl (decide_eq_false hAt)) ?_
                      refine Wl.q (v := Value.bool false) (q_move rfl) ?_
                      refine Wl.no ?_
                      refine Wl.no ?_
                      refine Wl.no ?_
                      refine Wl.no ?_
                      refine Wl.no ?_
                      refine Wl.no ?_
                      refine Wl.no ?_
                      refine Wl.q (v := Value.bool false) (q_pick (t := false) rfl rfl) ?_
                      refine Wl.done ?_
                      refine Wx.go ?_
                      refine Wc.no rfl ?_
                      refine Wc.skip ?_
                      refine Wx.blockEnd ?_
                      refine Wx.go ?_
                      refine Wc.region ?_
                      refine Wl.q (v := Value.int .i64 ((k : Nat) : Int)) (q_move hE15_11) ?_
                      refine Wl.q (v := Value.int .i64 ((k + 1 : Nat) : Int)) (q_add (c := ((k + 1 : Nat) : Int)) rfl rfl (by rw [wrap_i64] <;> omega)) ?_
                      refine Wl.q (v := Value.int .i64 ((k + 1 : Nat) : Int)) (q_assign rfl) ?_
                      refine Wl.done ?_
                      refine Wx.at (k + 1, true, false) ⟨(by simp only; omega), rfl, hE13_11, hE14_11, hE0_11, hE1_11, hE7_11, hE10_11, hE11_11, (Half.old hget hpa), (Half.none hget hpb (fun e => hAt e.1)), (by omega)⟩ (fun w hs => hs)
                  ·
                    have hend2 : k = l.length := by omega
                    refine Wl.q (v := Value.bool false) (q_lss (r := false) rfl rfl (decide_eq_false hklt)) ?_
                    refine Wl.done ?_
                    refine Wx.go ?_
                    refine Wc.no rfl ?_
                    refine Wc.exit ?_
                    refine Wx.thenExit ?_
                    refine Wx.thenExit ?_
                    refine Wx.out ?_
                    refine Wx.go ?_
                    refine Wc.seq ?_
                    refine Wc.region ?_
                    refine Wl.q (v := Value.bool true) (q_move hE13_11) ?_
                    refine Wl.q (v := Value.bool false) (q_not rfl rfl) ?_
                    refine Wl.q (v := Value.bool false) (q_move rfl) ?_
                    refine Wl.q (v := Value.bool false) (q_move hE14_11) ?_
                    refine Wl.q (v := Value.bool true) (q_not rfl rfl) ?_
                    refine Wl.q (v := Value.bool true) (q_pick (t := false) rfl rfl) ?_
                    refine Wl.done ?_
                    refine Wx.go ?_
                    refine Wc.yes rfl ?_
                    refine Wc.seq ?_
                    refine Wc.region ?_
                    refine Wl.q (v := Value.bool false) (q_assign rfl) ?_
                    refine Wl.done ?_
                    refine Wx.go ?_
                    refine Wc.ret ?_
                    refine Wx.blockRet ?_
                    refine Wx.thenRet ?_
                    refine Wx.thenRet ?_
                    refine Wx.blockRet ?_
                    refine Wx.thenRet ?_
                    refine Wx.fin1 rfl (.inl rfl) (fun w hs => ?_)
                    exfalso
                    rw [hend2, List.take_length] at hpa hpb
                    cases hpb.2 htb
                ·
                  refine Wc.seq ?_
                  refine Wc.seq ?_
                  refine Wc.region ?_
                  refine Wl.q (v := Value.int .i64 ((k : Nat) : Int)) (q_move hE15_11) ?_
                  refine Wl.q (v := vl) (q_move hE1_11) ?_
                  refine Wl.q (v := Value.int .i64 ((l.length : Nat) : Int)) (q_len_is Try.underlying22 rfl hl.shape) ?_
                  by_cases hklt : ((k : Nat) : Int) < ((l.length : Nat) : Int)
                  ·
                    obtain ⟨q, hget⟩ : ∃ q, l[k]? = some q := ⟨l[k]'(by omega), by simp [List.getElem?_eq_getElem (show k < l.length by omega)]⟩
                    refine Wl.q (v := Value.bool true) (q_lss (r := true) rfl rfl (decide_eq_true hklt)) ?_
                    refine Wl.done ?_
                    refine Wx.go ?_
                    refine Wc.yes rfl ?_
                    refine Wc.skip ?_
                    refine Wx.go ?_
                    refine Wc.seq ?_
                    refine Wc.block ?_
                    refine Wc.seq ?_
                    refine Wc.region ?_
                    refine Wl.q (v := vl) (q_move hE1_11) ?_
                    refine Wl.q (v := Value.int .i64 ((k : Nat) : Int)) (q_move hE15_11) ?_
                    refine Wl.q (v := Value.pointer (some ⟨(rb vl), ro vl + k * 2, none⟩)) (q_idx_is (m := ro vl + k * 2) se_22 rfl (hl.some_ (by omega)) rfl (by omega) (by omega) rfl) ?_
                    refine Wl.q (v := Value.pointer (some ⟨(rb vl), ro vl + k * 2, none⟩)) (q_field (m := ro vl + k * 2) fo_31_0 rfl rfl) ?_
                    refine Wl.q (v := Value.int .i64 q.1) (q_load sc_3 rfl (.old ((rdW hl hget).1))) ?_
                    refine Wl.q (v := Value.int .i64 ((i : Nat) : Int)) (q_move hE10_11) ?_
                    by_cases hAt : q.1 = ((i : Nat) : Int)
                    ·
                      refine Wl.q (v := Value.bool true) (q_eql (r := true) rfl rfl (decide_eq_true hAt)) ?_
                      refine Wl.q (v := Value.bool true) (q_move rfl) ?_
                      refine Wl.q (v := vl) (q_move hE1_11) ?_
                      refine Wl.q (v := Value.int .i64 ((k : Nat) : Int)) (q_move hE15_11) ?_
                      refine Wl.q (v := Value.pointer (some ⟨(rb vl), ro vl + k * 2, none⟩)) (q_idx_is (m := ro vl + k * 2) se_22 rfl (hl.some_ (by omega)) rfl (by omega) (by omega) rfl) ?_
                      refine Wl.q (v := Value.pointer (some ⟨(rb vl), ro vl + k * 2 + 1, none⟩)) (q_field (m := ro vl + k * 2 + 1) fo_31_1 rfl rfl) ?_
                      refine Wl.q (v := Value.string q.2) (q_load sc_9 rfl (.old ((rdW hl hget).2))) ?_
                      refine Wl.q (v := Value.int .i64 ((q.2.size : Nat) : Int)) (q_len_str Try.underlying9 rfl) ?_
                      by_cases hSz : ((q.2.size : Nat) : Int) = 64
                      ·
                        refine Wl.q (v := Value.bool true) (q_eql (r := true) rfl rfl (decide_eq_true hSz)) ?_
                        refine Wl.q (v := Value.bool true) (q_pick (t := true) rfl rfl) ?_
                        refine Wl.done ?_
                        refine Wx.go ?_
                        refine Wc.yes rfl ?_
                        refine Wc.seq ?_
                        refine Wc.drawsS [] ((isDisk pp (tornD n l bits)) :: []) (by kernel_rfl) ?_
                        refine Wr.pure (v := Value.bool true) 0 rfl (by kernel_rfl) (.inr (fun _ h => st_take [0] h)) (.inl ⟨rfl, fun _ => q_move hE13_11⟩) ?_
                        refine Wr.pure (v := Value.bool true) 1 rfl (by kernel_rfl) (.inr (fun _ h => st_take [0] h)) (.inl ⟨rfl, fun _ => q_move rfl⟩) ?_
                        refine Wr.pure (v := undef) 2 rfl (by kernel_rfl) (.inr (fun _ h => st_take [0] h)) (.inr ⟨rfl, rfl⟩) ?_
                        refine Wr.pure (v := undef) 3 rfl (by kernel_rfl) (.inr (fun _ h => st_take [0] h)) (.inr ⟨rfl, rfl⟩) ?_
                        refine Wr.pure (v := undef) 4 rfl (by kernel_rfl) (.inr (fun _ h => st_take [0] h)) (.inr ⟨rfl, rfl⟩) ?_
                        refine Wr.pure (v := undef) 5 rfl (by kernel_rfl) (.inr (fun _ h => st_take [0] h)) (.inr ⟨rfl, rfl⟩) ?_
                        refine Wr.pure (v := undef) 6 rfl (by kernel_rfl) (.inr (fun _ h => st_take [0] h)) (.inr ⟨rfl, rfl⟩) ?_
                        refine Wr.pure (v := undef) 7 rfl (by kernel_rfl) (.inr (fun _ h => st_take [0] h)) (.inr ⟨rfl, rfl⟩) ?_
                        refine Wr.pure (v := undef) 8 rfl (by kernel_rfl) (.inr (fun _ h => st_take [0] h)) (.inr ⟨rfl, rfl⟩) ?_
                        refine Wr.pure (v := undef) 9 rfl (by kernel_rfl) (.inr (fun _ h => st_take [0] h)) (.inr ⟨rfl, rfl⟩) ?_
                        refine Wr.pure (v := undef) 10 rfl (by kernel_rfl) (.inr (fun _ h => st_take [0] h)) (.inr ⟨rfl, rfl⟩) ?_
                        refine Wr.pure (v := Value.bool true) 11 rfl (by kernel_rfl) (.inr (fun _ h => st_take [0] h)) (.inl ⟨rfl, fun _ => q_pick (t := true) rfl rfl⟩) ?_
                        refine Wr.pure (v := Value.bool true) 12 rfl (by kernel_rfl) (.inr (fun _ h => st_take [0] h)) (.inl ⟨rfl, fun _ => q_assign rfl⟩) ?_
                        refine Wr.done (by kernel_rfl) ?_
                        refine Wx.go ?_
                        refine Wc.drawsS [] ((isDisk pp (tornD n l bits)) :: []) (by kernel_rfl) ?_
                        refine Wr.pure (v := Value.bool true) 0 rfl (by kernel_rfl) (.inr (fun _ h => st_take [0] h)) (.inl ⟨rfl, fun _ => q_move hE14_11⟩) ?_
                        refine Wr.pure (v := Value.bool true) 1 rfl (by kernel_rfl) (.inr (fun _ h => st_take [0] h)) (.inl ⟨rfl, fun _ => q_move rfl⟩) ?_
                        refine Wr.pure (v := undef) 2 rfl (by kernel_rfl) (.inr (fun _ h => st_take [0] h)) (.inr ⟨rfl, rfl⟩) ?_
                        refine Wr.pure (v := undef) 3 rfl (by kernel_rfl) (.inr (fun _ h => st_take [0] h)) (.inr ⟨rfl, rfl⟩) ?_
                        refine Wr.pure (v := undef) 4 rfl (by kernel_rfl) (.inr (fun _ h => st_take [0] h)) (.inr ⟨rfl, rfl⟩) ?_
                        refine Wr.pure (v := undef) 5 rfl (by kernel_rfl) (.inr (fun _ h => st_take [0] h)) (.inr ⟨rfl, rfl⟩) ?_
                        refine Wr.pure (v := undef) 6 rfl (by kernel_rfl) (.inr (fun _ h => st_take [0] h)) (.inr ⟨rfl, rfl⟩) ?_
                        refine Wr.pure (v := undef) 7 rfl (by kernel_rfl) (.inr (fun _ h => st_take [0] h)) (.inr ⟨rfl, rfl⟩) ?_
                        refine Wr.pure (v := undef) 8 rfl (by kernel_rfl) (.inr (fun _ h => st_take [0] h)) (.inr ⟨rfl, rfl⟩) ?_
                        refine Wr.pure (v := undef) 9 rfl (by kernel_rfl) (.inr (fun _ h => st_take [0] h)) (.inr ⟨rfl, rfl⟩) ?_
                        refine Wr.pure (v := undef) 10 rfl (by kernel_rfl) (.inr (fun _ h => st_take [0] h)) (.inr ⟨rfl, rfl⟩) ?_
                        refine Wr.pure (v := Value.bool true) 11 rfl (by kernel_rfl) (.inr (fun _ h => st_take [0] h)) (.inl ⟨rfl, fun _ => q_pick (t := true) rfl rfl⟩) ?_
                        refine Wr.pure (v := Value.bool true) 12 rfl (by kernel_rfl) (.inr (fun _ h => st_take [0] h)) (.inl ⟨rfl, fun _ => q_assign rfl⟩) ?_
                        refine Wr.done (by kernel_rfl) ?_
                        refine Wx.blockEnd ?_
                        refine Wx.go ?_
                        refine Wc.region ?_
                        refine Wl.q (v := Value.int .i64 ((k : Nat) : Int)) (q_move hE15_11) ?_
                        refine Wl.q (v := Value.int .i64 ((k + 1 : Nat) : Int)) (q_add (c := ((k + 1 : Nat) : Int)) rfl rfl (by rw [wrap_i64] <;> omega)) ?_
                        refine Wl.q (v := Value.int .i64 ((k + 1 : Nat) : Int)) (q_assign rfl) ?_
                        refine Wl.done ?_
                        refine Wx.at (k + 1, true, true) ⟨(by simp only; omega), rfl, rfl, rfl, hE0_11, hE1_11, hE7_11, hE10_11, hE11_11, (Half.old hget hpa), (Half.old hget hpb), (by omega)⟩ (fun w hs => hs)
                      ·
                        refine Wl.q (v := Value.bool false) (q_eql (r := false) rfl rfl (decide_eq_false hSz)) ?_
                        refine Wl.q (v := Value.bool false) (q_pick (t := true) rfl rfl) ?_
                        refine Wl.done ?_
                        refine Wx.go ?_
                        refine Wc.no rfl ?_
                        refine Wc.skip ?_
                        refine Wx.blockEnd ?_
                        refine Wx.go ?_
                        refine Wc.region ?_
                        refine Wl.q (v := Value.int .i64 ((k : Nat) : Int)) (q_move hE15_11) ?_
                        refine Wl.q (v := Value.int .i64 ((k + 1 : Nat) : Int)) (q_add (c := ((k + 1 : Nat) : Int)) rfl rfl (by rw [wrap_i64] <;> omega)) ?_
                        refine Wl.q (v := Value.int .i64 ((k + 1 : Nat) : Int)) (q_assign rfl) ?_
                        refine Wl.done ?_
                        refine Wx.at (k + 1, true, true) ⟨(by simp only; omega), rfl, hE13_11, hE14_11, hE0_11, hE1_11, hE7_11, hE10_11, hE11_11, (Half.old hget hpa), (Half.old hget hpb), (by omega)⟩ (fun w hs => hs)
                    ·
                      refine Wl.q (v := Value.bool false) (q_eql (r := false) rfl rfl (decide_eq_false hAt)) ?_
                      refine Wl.q (v := Value.bool false) (q_move rfl) ?_
                      refine Wl.no ?_
                      refine Wl.no ?_
                      refine Wl.no ?_
                      refine Wl.no ?_
                      refine Wl.no ?_
                      refine Wl.no ?_
                      refine Wl.no ?_
                      refine Wl.q (v := Value.bool false) (q_pick (t := false) rfl rfl) ?_
                      refine Wl.done ?_
                      refine Wx.go ?_
                      refine Wc.no rfl ?_
                      refine Wc.skip ?_
                      refine Wx.blockEnd ?_
                      refine Wx.go ?_
                      refine Wc.region ?_
                      refine Wl.q (v := Value.int .i64 ((k : Nat) : Int)) (q_move hE15_11) ?_
                      refine Wl.q (v := Value.int .i64 ((k + 1 : Nat) : Int)) (q_add (c := ((k + 1 : Nat) : Int)) rfl rfl (by rw [wrap_i64] <;> omega)) ?_
                      refine Wl.q (v := Value.int .i64 ((k + 1 : Nat) : Int)) (q_assign rfl) ?_
                      refine Wl.done ?_
                      refine Wx.at (k + 1, true, true) ⟨(by simp only; omega), rfl, hE13_11, hE14_11, hE0_11, hE1_11, hE7_11, hE10_11, hE11_11, (Half.old hget hpa), (Half.old hget hpb), (by omega)⟩ (fun w hs => hs)
                  ·
                    have hend2 : k = l.length := by omega
                    refine Wl.q (v := Value.bool false) (q_lss (r := false) rfl rfl (decide_eq_false hklt)) ?_
                    refine Wl.done ?_
                    refine Wx.go ?_
                    refine Wc.no rfl ?_
                    refine Wc.exit ?_
                    refine Wx.thenExit ?_
                    refine Wx.thenExit ?_
                    refine Wx.out ?_
                    refine Wx.go ?_
                    refine Wc.seq ?_
                    refine Wc.region ?_
                    refine Wl.q (v := Value.bool true) (q_move hE13_11) ?_
                    refine Wl.q (v := Value.bool false) (q_not rfl rfl) ?_
                    refine Wl.q (v := Value.bool false) (q_move rfl) ?_
                    refine Wl.q (v := Value.bool true) (q_move hE14_11) ?_
                    refine Wl.q (v := Value.bool false) (q_not rfl rfl) ?_
                    refine Wl.q (v := Value.bool false) (q_pick (t := false) rfl rfl) ?_
                    refine Wl.done ?_
                    refine Wx.go ?_
                    refine Wc.no rfl ?_
                    refine Wc.skip ?_
                    refine Wx.blockEnd ?_
                    refine Wx.go ?_
                    refine Wc.region ?_
                    refine Wl.q (v := Value.int .i64 ((i : Nat) : Int)) (q_move hE10_11) ?_
                    refine Wl.q (v := Value.int .i64 ((i + 1 : Nat) : Int)) (q_add (c := ((i + 1 : Nat) : Int)) rfl rfl (by rw [wrap_i64] <;> omega)) ?_
                    refine Wl.q (v := Value.int .i64 ((i + 1 : Nat) : Int)) (q_assign rfl) ?_
                    refine Wl.done ?_
                    refine Wx.at (i + 1) ⟨(by omega), rfl, hE0_11, hE1_11, hE7_11, (by omega)⟩ (fun w hs => hs)
        ·
          refine Wl.q (v := Value.bool false) (q_lss (r := false) rfl rfl (decide_eq_false hilt)) ?_
          refine Wl.done ?_
          refine Wx.go ?_
          refine Wc.no rfl ?_
          refine Wc.exit ?_
          refine Wx.thenExit ?_
          refine Wx.thenExit ?_
          refine Wx.out ?_
          refine Wx.go ?_
          refine Wc.seq ?_
          refine Wc.region ?_
          refine Wl.e (e_call (F := (isDisk pp (tornD n l bits)) :: F) (args := []) Try.call12 rfl (alive_c W0)) (fun _ _ => ?_)
          refine Wl.imp (L' := (isDisk pp (tornD n l bits)) :: F) (fun _ h => h) ?_
          refine Wl.q (v := Value.bool true) (q_assign rfl) ?_
          refine Wl.done ?_
          refine Wx.go ?_
          refine Wc.ret ?_
          refine Wx.fin1 rfl (.inl rfl) (fun w hs => ?_)
          exact ⟨(), trivial, rfl, (st_drop (st_pull [0] hs))⟩

end Go.Proofs.Ytbnglfbfgannhaa
