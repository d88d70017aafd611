/- The disk in memory, and contracts of its calls. -/
import Derived.Test.YtbnglfbfgannhaaDkG
import Derived.Test.YtbnglfbfgannhaaDkL
namespace Go.Proofs.Ytbnglfbfgannhaa
open Go Go.SL Go.Dk Go.RowKit
set_option linter.unusedVariables false
theorem zo_3 : zeroOf Try.prog 3 = some (Value.int .i64 0) := by kernel_rfl
theorem synced_low (W0 : World) (n : Int) (vl : Value) (l : List (Int × ByteArray)) (hl : Rd W0 vl l.length (flatI l)) (vm : Value) (m : List (Int × ByteArray)) (hm : Rd W0 vm m.length (flatI m)) (hn : n < 1) :
    Con Try.prog W0 6 #[Value.int .i64 n, vl, vm] [] (X := Unit) (fun _ => True) (fun _ => .bool true) (fun _ => []) := by
  refine Con.of (args := [Value.int .i64 n, vl, vm]) Try.func6 rfl Try.ntmps6 rfl (fun F => ?_)
  show Wc _ W0 _ _ _ _ _ (F)
  refine Wc.seq ?_
  refine Wc.region ?_
  refine Wl.q (v := Value.bool false) (q_assign rfl) ?_
  refine Wl.done ?_
  refine Wx.go ?_
  refine Wc.seq ?_
  refine Wc.region ?_
  refine Wl.q (v := Value.int .i64 n) (q_move rfl) ?_
  refine Wl.e (e_call (F := F) (args := [Value.int .i64 n]) Try.call10 rfl (new_low W0 n (by omega))) (fun _ _ => ?_)
  refine Wl.imp (L' := F) (fun _ h => h) ?_
  refine Wl.q (v := Value.tuple #[Value.pointer none, Value.int .i64 1]) (q_move rfl) ?_
  refine Wl.q (v := Value.pointer none) (q_extract (i := 0) rfl rfl) ?_
  refine Wl.q (v := Value.int .i64 1) (q_extract (i := 1) rfl rfl) ?_
  refine Wl.q (v := Value.pointer none) (q_assign rfl) ?_
  refine Wl.q (v := Value.int .i64 1) (q_assign rfl) ?_
  refine Wl.done ?_
  refine Wx.go ?_
  refine Wc.seq ?_
  refine Wc.seq ?_
  refine Wc.region ?_
  refine Wl.q (v := Value.int .i64 1) (q_move rfl) ?_
  refine Wl.q (v := Value.bool true) (q_neq (r := false) rfl rfl (decide_eq_false (by decide))) ?_
  refine Wl.q (v := Value.bool true) (q_move rfl) ?_
  refine Wl.no ?_
  refine Wl.no ?_
  refine Wl.no ?_
  refine Wl.no ?_
  refine Wl.no ?_
  refine Wl.no ?_
  refine Wl.q (v := Value.bool true) (q_pick (t := true) rfl rfl) ?_
  refine Wl.done ?_
  refine Wx.go ?_
  refine Wc.yes rfl ?_
  refine Wc.seq ?_
  refine Wc.region ?_
  refine Wl.e (e_call (F := F) (args := []) Try.call12 rfl (alive_c W0)) (fun _ _ => ?_)
  refine Wl.imp (L' := F) (fun _ h => h) ?_
  refine Wl.q (v := Value.bool true) (q_assign rfl) ?_
  refine Wl.done ?_
  refine Wx.go ?_
  refine Wc.ret ?_
  refine Wx.thenRet ?_
  refine Wx.fin1 rfl (.inl rfl) (fun w hs => ?_)
  exact ⟨(), trivial, rfl, hs⟩

theorem synced_high (W0 : World) (n : Int) (vl : Value) (l : List (Int × ByteArray)) (hl : Rd W0 vl l.length (flatI l)) (vm : Value) (m : List (Int × ByteArray)) (hm : Rd W0 vm m.length (flatI m)) (hn : n > 4096) :
    Con Try.prog W0 6 #[Value.int .i64 n, vl, vm] [] (X := Unit) (fun _ => True) (fun _ => .bool true) (fun _ => []) := by
  refine Con.of (args := [Value.int .i64 n, vl, vm]) Try.func6 rfl Try.ntmps6 rfl (fun F => ?_)
  show Wc _ W0 _ _ _ _ _ (F)
  refine Wc.seq ?_
  refine Wc.region ?_
  refine Wl.q (v := Value.bool false) (q_assign rfl) ?_
  refine Wl.done ?_
  refine Wx.go ?_
  refine Wc.seq ?_
  refine Wc.region ?_
  refine Wl.q (v := Value.int .i64 n) (q_move rfl) ?_
  refine Wl.e (e_call (F := F) (args := [Value.int .i64 n]) Try.call10 rfl (new_high W0 n (by omega))) (fun _ _ => ?_)
  refine Wl.imp (L' := F) (fun _ h => h) ?_
  refine Wl.q (v := Value.tuple #[Value.pointer none, Value.int .i64 3]) (q_move rfl) ?_
  refine Wl.q (v := Value.pointer none) (q_extract (i := 0) rfl rfl) ?_
  refine Wl.q (v := Value.int .i64 3) (q_extract (i := 1) rfl rfl) ?_
  refine Wl.q (v := Value.pointer none) (q_assign rfl) ?_
  refine Wl.q (v := Value.int .i64 3) (q_assign rfl) ?_
  refine Wl.done ?_
  refine Wx.go ?_
  refine Wc.seq ?_
  refine Wc.seq ?_
  refine Wc.region ?_
  refine Wl.q (v := Value.int .i64 3) (q_move rfl) ?_
  refine Wl.q (v := Value.bool true) (q_neq (r := false) rfl rfl (decide_eq_false (by decide))) ?_
  refine Wl.q (v := Value.bool true) (q_move rfl) ?_
  refine Wl.no ?_
  refine Wl.no ?_
  refine Wl.no ?_
  refine Wl.no ?_
  refine Wl.no ?_
  refine Wl.no ?_
  refine Wl.q (v := Value.bool true) (q_pick (t := true) rfl rfl) ?_
  refine Wl.done ?_
  refine Wx.go ?_
  refine Wc.yes rfl ?_
  refine Wc.seq ?_
  refine Wc.region ?_
  refine Wl.e (e_call (F := F) (args := []) Try.call12 rfl (alive_c W0)) (fun _ _ => ?_)
  refine Wl.imp (L' := F) (fun _ h => h) ?_
  refine Wl.q (v := Value.bool true) (q_assign rfl) ?_
  refine Wl.done ?_
  refine Wx.go ?_
  refine Wc.ret ?_
  refine Wx.thenRet ?_
  refine Wx.fin1 rfl (.inl rfl) (fun w hs => ?_)
  exact ⟨(), trivial, rfl, hs⟩

theorem synced_beyond (W0 : World) (n : Nat) (h1 : 1 ≤ n) (h2 : n ≤ 4096) (vl : Value) (l : List (Int × ByteArray)) (hl : Rd W0 vl l.length (flatI l)) (vm : Value) (m : List (Int × ByteArray)) (hm : Rd W0 vm m.length (flatI m)) (hb0 : beyondB [(l.length : Int), (m.length : Int)] = true) (hlen : l.length ≤ 9223372036854775807) (hlenm : m.length ≤ 9223372036854775807) :
    Con Try.prog W0 6 #[Value.int .i64 ((n : Nat) : Int), vl, vm] [] (X := Unit) (fun _ => True) (fun _ => .bool true) (fun _ => []) := by
  refine Con.of (args := [Value.int .i64 ((n : Nat) : Int), vl, vm]) Try.func6 rfl Try.ntmps6 rfl (fun F => ?_)
  show Wc _ W0 _ _ _ _ _ (F)
  refine Wc.seq ?_
  refine Wc.region ?_
  refine Wl.q (v := Value.bool false) (q_assign rfl) ?_
  refine Wl.done ?_
  refine Wx.go ?_
  refine Wc.seq ?_
  refine Wc.region ?_
  refine Wl.q (v := Value.int .i64 ((n : Nat) : Int)) (q_move rfl) ?_
  refine Wl.e (e_call (F := F) (args := [Value.int .i64 ((n : Nat) : Int)]) Try.call10 rfl (new_ok W0 n (by omega) (by omega))) (fun pp _ => ?_)
  refine Wl.imp (L' := (isDisk pp (DS.new n)) :: F) (fun _ h => h) ?_
  refine Wl.q (v := Value.tuple #[Value.pointer (some ⟨pp, 0, none⟩), Value.int .i64 0]) (q_move rfl) ?_
  refine Wl.q (v := Value.pointer (some ⟨pp, 0, none⟩)) (q_extract (i := 0) rfl rfl) ?_
  refine Wl.q (v := Value.int .i64 0) (q_extract (i := 1) rfl rfl) ?_
  refine Wl.q (v := Value.pointer (some ⟨pp, 0, none⟩)) (q_assign rfl) ?_
  refine Wl.q (v := Value.int .i64 0) (q_assign rfl) ?_
  refine Wl.done ?_
  refine Wx.go ?_
  refine Wc.seq ?_
  refine Wc.seq ?_
  refine Wc.region ?_
  refine Wl.q (v := Value.int .i64 0) (q_move rfl) ?_
  refine Wl.q (v := Value.bool false) (q_neq (r := true) rfl rfl (decide_eq_true (by decide))) ?_
  refine Wl.q (v := Value.bool false) (q_move rfl) ?_
  refine Wl.q (v := vl) (q_move rfl) ?_
  refine Wl.q (v := Value.int .i64 ((l.length : Nat) : Int)) (q_len_is Try.underlying22 rfl hl.shape) ?_
  refine Wl.q (v := vm) (q_move rfl) ?_
  refine Wl.q (v := Value.int .i64 ((m.length : Nat) : Int)) (q_len_is Try.underlying22 rfl hm.shape) ?_
  refine Wl.e (e_buildSlice (cs := [Value.int .i64 ((l.length : Nat) : Int), Value.int .i64 ((m.length : Nat) : Int)]) se_58 zo_3 (by decide) (by decide) (by kernel_rfl)) (fun b1 _ => ?_)
  refine Wl.imp (L' := (pt b1 3 [Value.int .i64 ((l.length : Nat) : Int), Value.int .i64 ((m.length : Nat) : Int)]) :: (isDisk pp (DS.new n)) :: F) (fun _ h => h) ?_
  refine Wl.e (e_call (F := (isDisk pp (DS.new n)) :: F) (args := [Value.slice (some ⟨b1, 0, none⟩) 2 2]) Try.call11 rfl (Con.eqs (val' := fun _ => Value.bool true) (post' := fun _ => [pt b1 3 [Value.int .i64 ((l.length : Nat) : Int), Value.int .i64 ((m.length : Nat) : Int)]]) (beyond_c W0 b1 ([((l.length : Nat) : Int), ((m.length : Nat) : Int)] : List Int) (by simp) (by simp; omega)) (fun _ => congrArg Value.bool hb0) (fun _ => rfl))) (fun _ _ => ?_)
  refine Wl.imp (L' := (pt b1 3 [Value.int .i64 ((l.length : Nat) : Int), Value.int .i64 ((m.length : Nat) : Int)]) :: (isDisk pp (DS.new n)) :: F) (fun _ h => h) ?_
  refine Wl.q (v := Value.bool true) (q_pick (t := false) rfl rfl) ?_
  refine Wl.done ?_
  refine Wx.go ?_
  refine Wc.yes rfl ?_
  refine Wc.seq ?_
  refine Wc.region ?_
  refine Wl.e (e_call (F := (pt b1 3 [Value.int .i64 ((l.length : Nat) : Int), Value.int .i64 ((m.length : Nat) : Int)]) :: (isDisk pp (DS.new n)) :: F) (args := []) Try.call12 rfl (alive_c W0)) (fun _ _ => ?_)
  refine Wl.imp (L' := (pt b1 3 [Value.int .i64 ((l.length : Nat) : Int), Value.int .i64 ((m.length : Nat) : Int)]) :: (isDisk pp (DS.new n)) :: F) (fun _ h => h) ?_
  refine Wl.q (v := Value.bool true) (q_assign rfl) ?_
  refine Wl.done ?_
  refine Wx.go ?_
  refine Wc.ret ?_
  refine Wx.thenRet ?_
  refine Wx.fin1 rfl (.inl rfl) (fun w hs => ?_)
  exact ⟨(), trivial, rfl, (st_drop (st_drop (st_pull [0, 0] hs)))⟩

set_option maxRecDepth 4000 in
set_option maxHeartbeats 4000000 in
theorem synced_law (W0 : World) (n : Nat) (h1 : 1 ≤ n) (h2 : n ≤ 4096) (vl : Value) (l : List (Int × ByteArray)) (hl : Rd W0 vl l.length (flatI l)) (vm : Value) (m : List (Int × ByteArray)) (hm : Rd W0 vm m.length (flatI m)) (hb0 : beyondB [(l.length : Int), (m.length : Int)] = false) :
    Con Try.prog W0 6 #[Value.int .i64 ((n : Nat) : Int), vl, vm] [] (X := Unit) (fun _ => True) (fun _ => .bool true) (fun _ => []) := by
  refine Con.of (args := [Value.int .i64 ((n : Nat) : Int), vl, vm]) Try.func6 rfl Try.ntmps6 rfl (fun F => ?_)
  have hlen := (beyond_two hb0).1
  have hlenm := (beyond_two hb0).2
  show Wc _ W0 _ _ _ _ _ (F)
  refine Wc.seq ?_
  refine Wc.region ?_
  refine Wl.q (v := Value.bool false) (q_assign rfl) ?_
  refine Wl.done ?_
  refine Wx.go ?_
  refine Wc.seq ?_
  refine Wc.region ?_
  refine Wl.q (v := Value.int .i64 ((n : Nat) : Int)) (q_move rfl) ?_
  refine Wl.e (e_call (F := F) (args := [Value.int .i64 ((n : Nat) : Int)]) Try.call10 rfl (new_ok W0 n (by omega) (by omega))) (fun pp _ => ?_)
  refine Wl.imp (L' := (isDisk pp (DS.new n)) :: F) (fun _ h => h) ?_
  refine Wl.q (v := Value.tuple #[Value.pointer (some ⟨pp, 0, none⟩), Value.int .i64 0]) (q_move rfl) ?_
  refine Wl.q (v := Value.pointer (some ⟨pp, 0, none⟩)) (q_extract (i := 0) rfl rfl) ?_
  refine Wl.q (v := Value.int .i64 0) (q_extract (i := 1) rfl rfl) ?_
  refine Wl.q (v := Value.pointer (some ⟨pp, 0, none⟩)) (q_assign rfl) ?_
  refine Wl.q (v := Value.int .i64 0) (q_assign rfl) ?_
  refine Wl.done ?_
  refine Wx.go ?_
  refine Wc.seq ?_
  refine Wc.seq ?_
  refine Wc.region ?_
  refine Wl.q (v := Value.int .i64 0) (q_move rfl) ?_
  refine Wl.q (v := Value.bool false) (q_neq (r := true) rfl rfl (decide_eq_true (by decide))) ?_
  refine Wl.q (v := Value.bool false) (q_move rfl) ?_
  refine Wl.q (v := vl) (q_move rfl) ?_
  refine Wl.q (v := Value.int .i64 ((l.length : Nat) : Int)) (q_len_is Try.underlying22 rfl hl.shape) ?_
  refine Wl.q (v := vm) (q_move rfl) ?_
  refine Wl.q (v := Value.int .i64 ((m.length : Nat) : Int)) (q_len_is Try.underlying22 rfl hm.shape) ?_
  refine Wl.e (e_buildSlice (cs := [Value.int .i64 ((l.length : Nat) : Int), Value.int .i64 ((m.length : Nat) : Int)]) se_58 zo_3 (by decide) (by decide) (by kernel_rfl)) (fun b1 _ => ?_)
  refine Wl.imp (L' := (pt b1 3 [Value.int .i64 ((l.length : Nat) : Int), Value.int .i64 ((m.length : Nat) : Int)]) :: (isDisk pp (DS.new n)) :: F) (fun _ h => h) ?_
  refine Wl.e (e_call (F := (isDisk pp (DS.new n)) :: F) (args := [Value.slice (some ⟨b1, 0, none⟩) 2 2]) Try.call11 rfl (Con.eqs (val' := fun _ => Value.bool false) (post' := fun _ => [pt b1 3 [Value.int .i64 ((l.length : Nat) : Int), Value.int .i64 ((m.length : Nat) : Int)]]) (beyond_c W0 b1 ([((l.length : Nat) : Int), ((m.length : Nat) : Int)] : List Int) (by simp) (by simp; omega)) (fun _ => congrArg Value.bool hb0) (fun _ => rfl))) (fun _ _ => ?_)
  refine Wl.imp (L' := (pt b1 3 [Value.int .i64 ((l.length : Nat) : Int), Value.int .i64 ((m.length : Nat) : Int)]) :: (isDisk pp (DS.new n)) :: F) (fun _ h => h) ?_
  refine Wl.q (v := Value.bool false) (q_pick (t := false) rfl rfl) ?_
  refine Wl.done ?_
  refine Wx.go ?_
  refine Wc.no rfl ?_
  refine Wc.skip ?_
  refine Wx.go ?_
  refine Wc.seq ?_
  refine Wc.seq ?_
  refine Wc.region ?_
  refine Wl.q (v := Value.int .i64 0) (q_assign rfl) ?_
  refine Wl.done ?_
  refine Wx.go ?_
  refine Wc.block ?_
  refine Wc.loop (X := Nat) (fun k E => E 9 = Value.int .i64 ((k : Nat) : Int) ∧ E 0 = Value.int .i64 ((n : Nat) : Int) ∧ E 1 = vl ∧ E 2 = vm ∧ E 7 = Value.pointer (some ⟨pp, 0, none⟩) ∧ k ≤ l.length) (fun k => (isDisk pp (wr n (l.take k))) :: F) (fun k => l.length - k) 0 ?_ ?_ ?_
  · exact ⟨rfl, rfl, rfl, rfl, rfl, (by omega)⟩
  · exact fun w hs => (st_drop (st_pull [0] hs))
  · rintro k E3 ⟨hE9_1, hE0_1, hE1_1, hE2_1, hE7_1, hp0⟩
    refine Wc.seq ?_
    refine Wc.seq ?_
    refine Wc.region ?_
    refine Wl.q (v := Value.int .i64 ((k : Nat) : Int)) (q_move hE9_1) ?_
    refine Wl.q (v := vl) (q_move hE1_1) ?_
    refine Wl.q (v := Value.int .i64 ((l.length : Nat) : Int)) (q_len_is Try.underlying22 rfl hl.shape) ?_
    by_cases hlt : ((k : Nat) : Int) < ((l.length : Nat) : Int)
    ·
      obtain ⟨q, hget⟩ : ∃ q, l[k]? = some q := ⟨l[k]'(by omega), by simp [List.getElem?_eq_getElem (show k < l.length by omega)]⟩
      refine Wl.q (v := Value.bool true) (q_lss (r := true) rfl rfl (decide_eq_true hlt)) ?_
      refine Wl.done ?_
      refine Wx.go ?_
      refine Wc.yes rfl ?_
      refine Wc.skip ?_
      refine Wx.go ?_
      refine Wc.seq ?_
      refine Wc.block ?_
      refine Wc.drawsS [11] ((isDisk pp (wr n (l.take k))) :: []) (by kernel_rfl) ?_
      refine Wr.pure (v := Value.pointer (some ⟨pp, 0, none⟩)) 0 rfl (by kernel_rfl) (.inr (fun _ h => st_take [0] h)) (.inl ⟨rfl, fun _ => q_move hE7_1⟩) ?_
      refine Wr.pure (v := vl) 1 rfl (by kernel_rfl) (.inr (fun _ h => st_take [0] h)) (.inl ⟨rfl, fun _ => q_move hE1_1⟩) ?_
      refine Wr.pure (v := Value.int .i64 ((k : Nat) : Int)) 2 rfl (by kernel_rfl) (.inr (fun _ h => st_take [0] h)) (.inl ⟨rfl, fun _ => q_move hE9_1⟩) ?_
      refine Wr.pure (v := Value.pointer (some ⟨(rb vl), ro vl + k * 2, none⟩)) 3 rfl (by kernel_rfl) (.inr (fun _ h => st_take [0] h)) (.inl ⟨rfl, fun _ => q_idx_is (m := ro vl + k * 2) se_22 rfl (hl.some_ (by omega)) rfl (by omega) (by omega) rfl⟩) ?_
      refine Wr.pure (v := Value.pointer (some ⟨(rb vl), ro vl + k * 2, none⟩)) 4 rfl (by kernel_rfl) (.inr (fun _ h => st_take [0] h)) (.inl ⟨rfl, fun _ => q_field (m := ro vl + k * 2) fo_31_0 rfl rfl⟩) ?_
      refine Wr.take (v := Value.int .i64 q.1) 5 rfl (by kernel_rfl) (fun _ h => st_take [0] h) (.inl ⟨rfl, q_load sc_3 rfl (.old ((rdW hl hget).1))⟩) ?_
      refine Wr.pure (v := vl) 6 rfl (by kernel_rfl) (.inr (fun _ h => st_take [0] h)) (.inl ⟨rfl, fun _ => q_move hE1_1⟩) ?_
      refine Wr.pure (v := Value.int .i64 ((k : Nat) : Int)) 7 rfl (by kernel_rfl) (.inr (fun _ h => st_take [0] h)) (.inl ⟨rfl, fun _ => q_move hE9_1⟩) ?_
      refine Wr.pure (v := Value.pointer (some ⟨(rb vl), ro vl + k * 2, none⟩)) 8 rfl (by kernel_rfl) (.inr (fun _ h => st_take [0] h)) (.inl ⟨rfl, fun _ => q_idx_is (m := ro vl + k * 2) se_22 rfl (hl.some_ (by omega)) rfl (by omega) (by omega) rfl⟩) ?_
      refine Wr.pure (v := Value.pointer (some ⟨(rb vl), ro vl + k * 2 + 1, none⟩)) 9 rfl (by kernel_rfl) (.inr (fun _ h => st_take [0] h)) (.inl ⟨rfl, fun _ => q_field (m := ro vl + k * 2 + 1) fo_31_1 rfl rfl⟩) ?_
      refine Wr.take (v := Value.string q.2) 10 rfl (by kernel_rfl) (fun _ h => st_take [0] h) (.inl ⟨rfl, q_load sc_9 rfl (.old ((rdW hl hget).2))⟩) ?_
      refine Wr.e 11 (by kernel_rfl) rfl (e_call (F := F) (args := [Value.pointer (some ⟨pp, 0, none⟩), Value.int .i64 q.1, Value.string q.2]) Try.call13 rfl (Con.eqs (val' := fun _ => Value.int .i64 (((wr n (l.take k)).write q.1 q.2).1)) (post' := fun _ => [isDisk pp (wr n (l.take (k + 1)))]) (write_c W0 pp (wr n (l.take k)) q.1 q.2 (wf_wr h2 _) (by have := goods_len n (l.take k); simp only [wr, upD, List.length_take] at *; omega) (by have := goods_len n (l.take k); simp only [wr, upD, List.length_take] at *; omega)) (fun _ => rfl) (fun _ => (by rw [wr_snoc, ← take_snoc' hget])))) (.inl (by kernel_rfl)) (fun _ _ => ?_)
      refine Wr.imp (L' := (isDisk pp (wr n (l.take (k + 1)))) :: F) (fun _ h => h) ?_
      refine Wr.rebaseS [] ((isDisk pp (wr n (l.take (k + 1)))) :: []) (by kernel_rfl) ?_
      refine Wr.done (by kernel_rfl) ?_
      refine Wx.blockEnd ?_
      refine Wx.go ?_
      refine Wc.region ?_
      refine Wl.q (v := Value.int .i64 ((k : Nat) : Int)) (q_move hE9_1) ?_
      refine Wl.q (v := Value.int .i64 ((k + 1 : Nat) : Int)) (q_add (c := ((k + 1 : Nat) : Int)) rfl rfl (by rw [wrap_i64] <;> omega)) ?_
      refine Wl.q (v := Value.int .i64 ((k + 1 : Nat) : Int)) (q_assign rfl) ?_
      refine Wl.done ?_
      refine Wx.at (k + 1) ⟨(by omega), rfl, hE0_1, hE1_1, hE2_1, hE7_1, (by omega)⟩ (fun w hs => hs)
    ·
      have hend : k = l.length := by omega
      obtain ⟨S1, c1, hS1, hlen1, hw1, hc1⟩ := wr_sync_all (n := n) h2 hend
      refine Wl.q (v := Value.bool false) (q_lss (r := false) rfl rfl (decide_eq_false hlt)) ?_
      refine Wl.done ?_
      refine Wx.go ?_
      refine Wc.no rfl ?_
      refine Wc.exit ?_
      refine Wx.thenExit ?_
      refine Wx.thenExit ?_
      refine Wx.out ?_
      refine Wx.go ?_
      refine Wc.seq ?_
      refine Wc.seq ?_
      refine Wc.region ?_
      refine Wl.q (v := Value.pointer (some ⟨pp, 0, none⟩)) (q_move hE7_1) ?_
      refine Wl.e (e_call (F := F) (args := [Value.pointer (some ⟨pp, 0, none⟩)]) Try.call18 rfl (Con.eqs (val' := fun _ => Value.int .i64 0) (post' := fun _ => [isDisk pp (((wr n (l.take k)).sync).2)]) (sync_c W0 pp (wr n (l.take k))  (wf_wr h2 _) (by have := goods_len n (l.take k); simp only [wr, upD, List.length_take] at *; omega) (by have := goods_len n (l.take k); simp only [wr, upD, List.length_take] at *; omega)) (fun _ => rfl) (fun _ => rfl))) (fun _ _ => ?_)
      refine Wl.imp (L' := (isDisk pp (((wr n (l.take k)).sync).2)) :: F) (fun _ h => h) ?_
      refine Wl.q (v := Value.bool false) (q_neq (r := true) rfl rfl (decide_eq_true (by decide))) ?_
      refine Wl.done ?_
      refine Wx.go ?_
      refine Wc.no rfl ?_
      refine Wc.skip ?_
      refine Wx.go ?_
      refine Wc.seq ?_
      refine Wc.region ?_
      refine Wl.q (v := Value.slice none 0 0) (q_assign rfl) ?_
      refine Wl.done ?_
      refine Wx.go ?_
      refine Wc.seq ?_
      refine Wc.seq ?_
      refine Wc.region ?_
      refine Wl.q (v := Value.int .i64 0) (q_assign rfl) ?_
      refine Wl.done ?_
      refine Wx.go ?_
      refine Wc.block ?_
      refine Wc.loop (X := Nat × Value) (fun (r, v) E => E 11 = Value.int .i64 ((r : Nat) : Int) ∧ E 10 = v ∧ E 0 = Value.int .i64 ((n : Nat) : Int) ∧ E 2 = vm ∧ E 7 = Value.pointer (some ⟨pp, 0, none⟩) ∧ r ≤ n) (fun (r, v) => (sl 9 1 v r (rsL (fun j => S1.getD j default) r)) :: (isDisk pp (upD S1 [] c1)) :: F) (fun (r, v) => n - r) (0, .slice none 0 0) ?_ ?_ ?_
      · exact ⟨rfl, rfl, hE0_1, hE2_1, hE7_1, (by omega)⟩
      · exact fun w hs => by rw [hS1] at hs; exact st_sl_nil hs
      · rintro ⟨r, v⟩ E5 ⟨hE11_3, hE10_3, hE0_3, hE2_3, hE7_3, hi0⟩
        dsimp only at *
        refine Wc.seq ?_
        refine Wc.seq ?_
        refine Wc.region ?_
        refine Wl.q (v := Value.int .i64 ((r : Nat) : Int)) (q_move hE11_3) ?_
        refine Wl.q (v := Value.int .i64 ((n : Nat) : Int)) (q_move hE0_3) ?_
        by_cases hilt : ((r : Nat) : Int) < ((n : Nat) : Int)
        ·
          refine Wl.q (v := Value.bool true) (q_lss (r := true) rfl rfl (decide_eq_true hilt)) ?_
          refine Wl.done ?_
          refine Wx.go ?_
          refine Wc.yes rfl ?_
          refine Wc.skip ?_
          refine Wx.go ?_
          refine Wc.seq ?_
          refine Wc.block ?_
          refine Wc.seq ?_
          refine Wc.region ?_
          refine Wl.q (v := Value.pointer (some ⟨pp, 0, none⟩)) (q_move hE7_3) ?_
          refine Wl.q (v := Value.int .i64 ((r : Nat) : Int)) (q_move hE11_3) ?_
          refine Wl.imp (L' := (isDisk pp (upD S1 [] c1)) :: (sl 9 1 v r (rsL (fun j => S1.getD j default) r)) :: F) (fun _ h => st_pull [1] h) ?_
          refine Wl.e (e_call (F := (sl 9 1 v r (rsL (fun j => S1.getD j default) r)) :: F) (args := [Value.pointer (some ⟨pp, 0, none⟩), Value.int .i64 ((r : Nat) : Int)]) Try.call16 rfl (Con.eqs (val' := fun _ => Value.tuple #[Value.string (S1.getD r default), Value.int .i64 0]) (post' := fun _ => [isDisk pp (upD S1 [] c1)]) (read_c W0 pp (upD S1 [] c1) ((r : Nat) : Int) (by simp only [upD]; decide)) (fun _ => (by rw [upD_read (by omega)])) (fun _ => rfl))) (fun _ _ => ?_)
          refine Wl.imp (L' := (isDisk pp (upD S1 [] c1)) :: (sl 9 1 v r (rsL (fun j => S1.getD j default) r)) :: F) (fun _ h => h) ?_
          refine Wl.q (v := Value.tuple #[Value.string (S1.getD r default), Value.int .i64 0]) (q_move rfl) ?_
          refine Wl.q (v := Value.string (S1.getD r default)) (q_extract (i := 0) rfl rfl) ?_
          refine Wl.q (v := Value.int .i64 0) (q_extract (i := 1) rfl rfl) ?_
          refine Wl.q (v := Value.string (S1.getD r default)) (q_assign rfl) ?_
          refine Wl.q (v := Value.int .i64 0) (q_assign rfl) ?_
          refine Wl.done ?_
          refine Wx.go ?_
          refine Wc.region ?_
          refine Wl.q (v := v) (q_move hE10_3) ?_
          refine Wl.q (v := Value.string (S1.getD r default)) (q_move rfl) ?_
          refine Wl.e (e_buildSlice (cs := [Value.string (S1.getD r default)]) se_38 zo_9 (by decide) (by decide) (by kernel_rfl)) (fun b6 _ => ?_)
          refine Wl.imp (L' := (pt b6 9 [Value.string (S1.getD r default)]) :: (isDisk pp (upD S1 [] c1)) :: (sl 9 1 v r (rsL (fun j => S1.getD j default) r)) :: F) (fun _ h => h) ?_
          refine Wl.e (e_append (i := 2) (k := 1) (m := 1) (off := 0) (news := [Value.string (S1.getD r default)]) Try.underlying38 sz_9 by_9 zo_9 rfl rfl rfl rfl rfl (Has.of_pt (i := 0) rfl rfl) rfl (by decide) (by simp only [maxLen]; omega) (by omega)) (fun v2 _ => ?_)
          refine Wl.imp (L' := (pt b6 9 [Value.string (S1.getD r default)]) :: (isDisk pp (upD S1 [] c1)) :: (sl 9 1 v2 (r + 1) ((rsL (fun j => S1.getD j default) r) ++ [Value.string (S1.getD r default)])) :: F) (fun _ h => h) ?_
          refine Wl.q (v := v2) (q_assign rfl) ?_
          refine Wl.done ?_
          refine Wx.blockEnd ?_
          refine Wx.go ?_
          refine Wc.region ?_
          refine Wl.q (v := Value.int .i64 ((r : Nat) : Int)) (q_move hE11_3) ?_
          refine Wl.q (v := Value.int .i64 ((r + 1 : Nat) : Int)) (q_add (c := ((r + 1 : Nat) : Int)) rfl rfl (by rw [wrap_i64] <;> omega)) ?_
          refine Wl.q (v := Value.int .i64 ((r + 1 : Nat) : Int)) (q_assign rfl) ?_
          refine Wl.done ?_
          refine Wx.at (r + 1, v2) ⟨(by simp only; omega), rfl, rfl, hE0_3, hE2_3, hE7_3, (by omega)⟩ (fun w hs => by rw [rs_succ]; exact (st_pull [1, 0] (st_drop (st_pull [0] hs))))
        ·
          have hend1 : r = n := by omega
          refine Wl.sl (i := 0) (m := r) rfl (by omega) (fun bw cw hv hcw => ?_)
          subst hv
          refine Wl.q (v := Value.bool false) (q_lss (r := false) rfl rfl (decide_eq_false hilt)) ?_
          refine Wl.done ?_
          refine Wx.go ?_
          refine Wc.no rfl ?_
          refine Wc.exit ?_
          refine Wx.thenExit ?_
          refine Wx.thenExit ?_
          refine Wx.out ?_
          refine Wx.go ?_
          refine Wc.seq ?_
          refine Wc.seq ?_
          refine Wc.region ?_
          refine Wl.q (v := Value.int .i64 0) (q_assign rfl) ?_
          refine Wl.done ?_
          refine Wx.go ?_
          refine Wc.block ?_
          refine Wc.loop (X := Nat) (fun k E => E 14 = Value.int .i64 ((k : Nat) : Int) ∧ E 0 = Value.int .i64 ((n : Nat) : Int) ∧ E 2 = vm ∧ E 7 = Value.pointer (some ⟨pp, 0, none⟩) ∧ E 10 = Value.slice (some ⟨bw, 0, none⟩) r cw ∧ k ≤ m.length) (fun k => (slp 9 1 bw cw (rsL (fun j => S1.getD j default) r)) :: (isDisk pp (wrS S1 c1 n (m.take k))) :: F) (fun k => m.length - k) 0 ?_ ?_ ?_
          · exact ⟨rfl, hE0_3, hE2_3, hE7_3, hE10_3, (by omega)⟩
          · exact fun w hs => hs
          · rintro k E8 ⟨hE14_6, hE0_6, hE2_6, hE7_6, hE10_6, hp2⟩
            refine Wc.seq ?_
            refine Wc.seq ?_
            refine Wc.region ?_
            refine Wl.q (v := Value.int .i64 ((k : Nat) : Int)) (q_move hE14_6) ?_
            refine Wl.q (v := vm) (q_move hE2_6) ?_
            refine Wl.q (v := Value.int .i64 ((m.length : Nat) : Int)) (q_len_is Try.underlying22 rfl hm.shape) ?_
            by_cases hmlt : ((k : Nat) : Int) < ((m.length : Nat) : Int)
            ·
              obtain ⟨q, hget⟩ : ∃ q, m[k]? = some q := ⟨m[k]'(by omega), by simp [List.getElem?_eq_getElem (show k < m.length by omega)]⟩
              refine Wl.q (v := Value.bool true) (q_lss (r := true) rfl rfl (decide_eq_true hmlt)) ?_
              refine Wl.done ?_
              refine Wx.go ?_
              refine Wc.yes rfl ?_
              refine Wc.skip ?_
              refine Wx.go ?_
              refine Wc.seq ?_
              refine Wc.block ?_
              refine Wc.drawsS [11] ((slp 9 1 bw cw (rsL (fun j => S1.getD j default) r)) :: (isDisk pp (wrS S1 c1 n (m.take k))) :: []) (by kernel_rfl) ?_
              refine Wr.pure (v := Value.pointer (some ⟨pp, 0, none⟩)) 0 rfl (by kernel_rfl) (.inr (fun _ h => st_take [0, 0] h)) (.inl ⟨rfl, fun _ => q_move hE7_6⟩) ?_
              refine Wr.pure (v := vm) 1 rfl (by kernel_rfl) (.inr (fun _ h => st_take [0, 0] h)) (.inl ⟨rfl, fun _ => q_move hE2_6⟩) ?_
              refine Wr.pure (v := Value.int .i64 ((k : Nat) : Int)) 2 rfl (by kernel_rfl) (.inr (fun _ h => st_take [0, 0] h)) (.inl ⟨rfl, fun _ => q_move hE14_6⟩) ?_
              refine Wr.pure (v := Value.pointer (some ⟨(rb vm), ro vm + k * 2, none⟩)) 3 rfl (by kernel_rfl) (.inr (fun _ h => st_take [0, 0] h)) (.inl ⟨rfl, fun _ => q_idx_is (m := ro vm + k * 2) se_22 rfl (hm.some_ (by omega)) rfl (by omega) (by omega) rfl⟩) ?_
              refine Wr.pure (v := Value.pointer (some ⟨(rb vm), ro vm + k * 2, none⟩)) 4 rfl (by kernel_rfl) (.inr (fun _ h => st_take [0, 0] h)) (.inl ⟨rfl, fun _ => q_field (m := ro vm + k * 2) fo_31_0 rfl rfl⟩) ?_
              refine Wr.take (v := Value.int .i64 q.1) 5 rfl (by kernel_rfl) (fun _ h => st_take [0, 0] h) (.inl ⟨rfl, q_load sc_3 rfl (.old ((rdW hm hget).1))⟩) ?_
              refine Wr.pure (v := vm) 6 rfl (by kernel_rfl) (.inr (fun _ h => st_take [0, 0] h)) (.inl ⟨rfl, fun _ => q_move hE2_6⟩) ?_
              refine Wr.pure (v := Value.int .i64 ((k : Nat) : Int)) 7 rfl (by kernel_rfl) (.inr (fun _ h => st_take [0, 0] h)) (.inl ⟨rfl, fun _ => q_move hE14_6⟩) ?_
              refine Wr.pure (v := Value.pointer (some ⟨(rb vm), ro vm + k * 2, none⟩)) 8 rfl (by kernel_rfl) (.inr (fun _ h => st_take [0, 0] h)) (.inl ⟨rfl, fun _ => q_idx_is (m := ro vm + k * 2) se_22 rfl (hm.some_ (by omega)) rfl (by omega) (by omega) rfl⟩) ?_
              refine Wr.pure (v := Value.pointer (some ⟨(rb vm), ro vm + k * 2 + 1, none⟩)) 9 rfl (by kernel_rfl) (.inr (fun _ h => st_take [0, 0] h)) (.inl ⟨rfl, fun _ => q_field (m := ro vm + k * 2 + 1) fo_31_1 rfl rfl⟩) ?_
              refine Wr.take (v := Value.string q.2) 10 rfl (by kernel_rfl) (fun _ h => st_take [0, 0] h) (.inl ⟨rfl, q_load sc_9 rfl (.old ((rdW hm hget).2))⟩) ?_
              refine Wr.imp (L' := (isDisk pp (wrS S1 c1 n (m.take k))) :: (slp 9 1 bw cw (rsL (fun j => S1.getD j default) r)) :: F) (fun _ h => st_pull [1] h) ?_
              refine Wr.e 11 (by kernel_rfl) rfl (e_call (F := (slp 9 1 bw cw (rsL (fun j => S1.getD j default) r)) :: F) (args := [Value.pointer (some ⟨pp, 0, none⟩), Value.int .i64 q.1, Value.string q.2]) Try.call13 rfl (Con.eqs (val' := fun _ => Value.int .i64 (((wrS S1 c1 n (m.take k)).write q.1 q.2).1)) (post' := fun _ => [isDisk pp (wrS S1 c1 n (m.take (k + 1)))]) (write_c W0 pp (wrS S1 c1 n (m.take k)) q.1 q.2 (wf_wrS hw1 hlen1 _) (by have := goods_len n (m.take k); simp only [wrS, upD, List.length_take] at *; omega) (by have := goods_len n (m.take k); simp only [wrS, upD, List.length_take] at *; omega)) (fun _ => rfl) (fun _ => (by rw [wrS_snoc hlen1, ← take_snoc' hget])))) (.inl (by kernel_rfl)) (fun _ _ => ?_)
              refine Wr.imp (L' := (isDisk pp (wrS S1 c1 n (m.take (k + 1)))) :: (slp 9 1 bw cw (rsL (fun j => S1.getD j default) r)) :: F) (fun _ h => h) ?_
              refine Wr.rebaseS [] ((isDisk pp (wrS S1 c1 n (m.take (k + 1)))) :: (slp 9 1 bw cw (rsL (fun j => S1.getD j default) r)) :: []) (by kernel_rfl) ?_
              refine Wr.done (by kernel_rfl) ?_
              refine Wx.blockEnd ?_
              refine Wx.go ?_
              refine Wc.region ?_
              refine Wl.q (v := Value.int .i64 ((k : Nat) : Int)) (q_move hE14_6) ?_
              refine Wl.q (v := Value.int .i64 ((k + 1 : Nat) : Int)) (q_add (c := ((k + 1 : Nat) : Int)) rfl rfl (by rw [wrap_i64] <;> omega)) ?_
              refine Wl.q (v := Value.int .i64 ((k + 1 : Nat) : Int)) (q_assign rfl) ?_
              refine Wl.done ?_
              refine Wx.at (k + 1) ⟨(by omega), rfl, hE0_6, hE2_6, hE7_6, hE10_6, (by omega)⟩ (fun w hs => (st_pull [1, 0] (hs)))
            ·
              refine Wl.q (v := Value.bool false) (q_lss (r := false) rfl rfl (decide_eq_false hmlt)) ?_
              refine Wl.done ?_
              refine Wx.go ?_
              refine Wc.no rfl ?_
              refine Wc.exit ?_
              refine Wx.thenExit ?_
              refine Wx.thenExit ?_
              refine Wx.out ?_
              refine Wx.go ?_
              refine Wc.seq ?_
              refine Wc.seq ?_
              refine Wc.region ?_
              refine Wl.q (v := Value.pointer (some ⟨pp, 0, none⟩)) (q_move hE7_6) ?_
              refine Wl.imp (L' := (isDisk pp (wrS S1 c1 n (m.take k))) :: (slp 9 1 bw cw (rsL (fun j => S1.getD j default) r)) :: F) (fun _ h => st_pull [1] h) ?_
              refine Wl.e (e_call (F := (slp 9 1 bw cw (rsL (fun j => S1.getD j default) r)) :: F) (args := [Value.pointer (some ⟨pp, 0, none⟩), Value.int .i64 0]) Try.call14 rfl (Con.eqs (val' := fun _ => Value.int .i64 0) (post' := fun _ => [isDisk pp (((wrS S1 c1 n (m.take k)).crash 0).2)]) (crash_c W0 pp (wrS S1 c1 n (m.take k)) 0 (wf_wrS hw1 hlen1 _)) (fun _ => rfl) (fun _ => rfl))) (fun _ _ => ?_)
              refine Wl.imp (L' := (isDisk pp (((wrS S1 c1 n (m.take k)).crash 0).2)) :: (slp 9 1 bw cw (rsL (fun j => S1.getD j default) r)) :: F) (fun _ h => h) ?_
              refine Wl.q (v := Value.bool false) (q_neq (r := true) rfl rfl (decide_eq_true (by decide))) ?_
              refine Wl.q (v := Value.bool false) (q_move rfl) ?_
              refine Wl.q (v := Value.pointer (some ⟨pp, 0, none⟩)) (q_move hE7_6) ?_
              refine Wl.e (e_call (F := (slp 9 1 bw cw (rsL (fun j => S1.getD j default) r)) :: F) (args := [Value.pointer (some ⟨pp, 0, none⟩)]) Try.call15 rfl (Con.eqs (val' := fun _ => Value.int .i64 0) (post' := fun _ => [isDisk pp (((((wrS S1 c1 n (m.take k)).crash 0).2).start).2)]) (start_c W0 pp (((wrS S1 c1 n (m.take k)).crash 0).2) ) (fun _ => rfl) (fun _ => rfl))) (fun _ _ => ?_)
              refine Wl.imp (L' := (isDisk pp (((((wrS S1 c1 n (m.take k)).crash 0).2).start).2)) :: (slp 9 1 bw cw (rsL (fun j => S1.getD j default) r)) :: F) (fun _ h => h) ?_
              refine Wl.q (v := Value.bool false) (q_neq (r := true) rfl rfl (decide_eq_true (by decide))) ?_
              refine Wl.q (v := Value.bool false) (q_pick (t := false) rfl rfl) ?_
              refine Wl.q (v := Value.bool false) (q_move rfl) ?_
              refine Wl.q (v := Value.pointer (some ⟨pp, 0, none⟩)) (q_move hE7_6) ?_
              refine Wl.e (e_call (F := (slp 9 1 bw cw (rsL (fun j => S1.getD j default) r)) :: F) (args := [Value.pointer (some ⟨pp, 0, none⟩)]) Try.call19 rfl (Con.eqs (val' := fun _ => Value.int .i64 0) (post' := fun _ => [isDisk pp (((((wrS S1 c1 n (m.take k)).crash 0).2).start).2)]) (unsynced_c W0 pp (((((wrS S1 c1 n (m.take k)).crash 0).2).start).2) ) (fun _ => rfl) (fun _ => rfl))) (fun _ _ => ?_)
              refine Wl.imp (L' := (isDisk pp (((((wrS S1 c1 n (m.take k)).crash 0).2).start).2)) :: (slp 9 1 bw cw (rsL (fun j => S1.getD j default) r)) :: F) (fun _ h => h) ?_
              refine Wl.q (v := Value.bool false) (q_neq (r := true) rfl rfl (decide_eq_true (by decide))) ?_
              refine Wl.q (v := Value.bool false) (q_pick (t := false) rfl rfl) ?_
              refine Wl.done ?_
              refine Wx.go ?_
              refine Wc.no rfl ?_
              refine Wc.skip ?_
              refine Wx.go ?_
              refine Wc.seq ?_
              refine Wc.seq ?_
              refine Wc.region ?_
              refine Wl.q (v := Value.int .i64 0) (q_assign rfl) ?_
              refine Wl.done ?_
              refine Wx.go ?_
              refine Wc.block ?_
              refine Wc.loop (X := Nat) (fun i E => E 15 = Value.int .i64 ((i : Nat) : Int) ∧ E 0 = Value.int .i64 ((n : Nat) : Int) ∧ E 7 = Value.pointer (some ⟨pp, 0, none⟩) ∧ E 10 = Value.slice (some ⟨bw, 0, none⟩) r cw ∧ i ≤ n) (fun i => (slp 9 1 bw cw (rsL (fun j => S1.getD j default) r)) :: (isDisk pp (upD S1 [] (c1 + (goods n (m.take k)).length))) :: F) (fun i => n - i) 0 ?_ ?_ ?_
              · exact ⟨rfl, hE0_6, hE7_6, hE10_6, (by omega)⟩
              · exact fun w hs => by rw [wrS_crash0] at hs; exact st_swap hs
              · rintro i E10 ⟨hE15_8, hE0_8, hE7_8, hE10_8, hi2⟩
                refine Wc.seq ?_
                refine Wc.seq ?_
                refine Wc.region ?_
                refine Wl.q (v := Value.int .i64 ((i : Nat) : Int)) (q_move hE15_8) ?_
                refine Wl.q (v := Value.int .i64 ((n : Nat) : Int)) (q_move hE0_8) ?_
                by_cases hclt : ((i : Nat) : Int) < ((n : Nat) : Int)
                ·
                  refine Wl.q (v := Value.bool true) (q_lss (r := true) rfl rfl (decide_eq_true hclt)) ?_
                  refine Wl.done ?_
                  refine Wx.go ?_
                  refine Wc.yes rfl ?_
                  refine Wc.skip ?_
                  refine Wx.go ?_
                  refine Wc.seq ?_
                  refine Wc.block ?_
                  refine Wc.seq ?_
                  refine Wc.region ?_
                  refine Wl.q (v := Value.pointer (some ⟨pp, 0, none⟩)) (q_move hE7_8) ?_
                  refine Wl.q (v := Value.int .i64 ((i : Nat) : Int)) (q_move hE15_8) ?_
                  refine Wl.imp (L' := (isDisk pp (upD S1 [] (c1 + (goods n (m.take k)).length))) :: (slp 9 1 bw cw (rsL (fun j => S1.getD j default) r)) :: F) (fun _ h => st_pull [1] h) ?_
                  refine Wl.e (e_call (F := (slp 9 1 bw cw (rsL (fun j => S1.getD j default) r)) :: F) (args := [Value.pointer (some ⟨pp, 0, none⟩), Value.int .i64 ((i : Nat) : Int)]) Try.call16 rfl (Con.eqs (val' := fun _ => Value.tuple #[Value.string (S1.getD i default), Value.int .i64 0]) (post' := fun _ => [isDisk pp (upD S1 [] (c1 + (goods n (m.take k)).length))]) (read_c W0 pp (upD S1 [] (c1 + (goods n (m.take k)).length)) ((i : Nat) : Int) (by simp only [upD]; decide)) (fun _ => (by rw [upD_read (by omega)])) (fun _ => rfl))) (fun _ _ => ?_)
                  refine Wl.imp (L' := (isDisk pp (upD S1 [] (c1 + (goods n (m.take k)).length))) :: (slp 9 1 bw cw (rsL (fun j => S1.getD j default) r)) :: F) (fun _ h => h) ?_
                  refine Wl.q (v := Value.tuple #[Value.string (S1.getD i default), Value.int .i64 0]) (q_move rfl) ?_
                  refine Wl.q (v := Value.string (S1.getD i default)) (q_extract (i := 0) rfl rfl) ?_
                  refine Wl.q (v := Value.int .i64 0) (q_extract (i := 1) rfl rfl) ?_
                  refine Wl.q (v := Value.string (S1.getD i default)) (q_assign rfl) ?_
                  refine Wl.q (v := Value.int .i64 0) (q_assign rfl) ?_
                  refine Wl.done ?_
                  refine Wx.go ?_
                  refine Wc.seq ?_
                  refine Wc.region ?_
                  refine Wl.q (v := Value.string (S1.getD i default)) (q_move rfl) ?_
                  refine Wl.q (v := Value.slice (some ⟨bw, 0, none⟩) r cw) (q_move hE10_8) ?_
                  refine Wl.q (v := Value.int .i64 ((i : Nat) : Int)) (q_move hE15_8) ?_
                  refine Wl.q (v := Value.pointer (some ⟨bw, i, none⟩)) (q_idx (m := i) se_38 rfl rfl (by omega) (by omega) (by simp)) ?_
                  refine Wl.q (v := Value.string (S1.getD i default)) (q_load sc_9 rfl (.row (i := 1) rfl (rs_get (by omega)))) ?_
                  refine Wl.q (v := Value.bool false) (q_neq_str (r := true) rfl rfl (text_true (rfl))) ?_
                  refine Wl.q (v := Value.bool false) (q_move rfl) ?_
                  refine Wl.q (v := Value.int .i64 0) (q_move rfl) ?_
                  refine Wl.q (v := Value.bool false) (q_neq (r := true) rfl rfl (decide_eq_true (by decide))) ?_
                  refine Wl.q (v := Value.bool false) (q_pick (t := false) rfl rfl) ?_
                  refine Wl.done ?_
                  refine Wx.go ?_
                  refine Wc.no rfl ?_
                  refine Wc.skip ?_
                  refine Wx.blockEnd ?_
                  refine Wx.go ?_
                  refine Wc.region ?_
                  refine Wl.q (v := Value.int .i64 ((i : Nat) : Int)) (q_move hE15_8) ?_
                  refine Wl.q (v := Value.int .i64 ((i + 1 : Nat) : Int)) (q_add (c := ((i + 1 : Nat) : Int)) rfl rfl (by rw [wrap_i64] <;> omega)) ?_
                  refine Wl.q (v := Value.int .i64 ((i + 1 : Nat) : Int)) (q_assign rfl) ?_
                  refine Wl.done ?_
                  refine Wx.at (i + 1) ⟨(by omega), rfl, hE0_8, hE7_8, hE10_8, (by omega)⟩ (fun w hs => (st_pull [1, 0] (hs)))
                ·
                  refine Wl.q (v := Value.bool false) (q_lss (r := false) rfl rfl (decide_eq_false hclt)) ?_
                  refine Wl.done ?_
                  refine Wx.go ?_
                  refine Wc.no rfl ?_
                  refine Wc.exit ?_
                  refine Wx.thenExit ?_
                  refine Wx.thenExit ?_
                  refine Wx.out ?_
                  refine Wx.go ?_
                  refine Wc.seq ?_
                  refine Wc.region ?_
                  refine Wl.e (e_call (F := (slp 9 1 bw cw (rsL (fun j => S1.getD j default) r)) :: (isDisk pp (upD S1 [] (c1 + (goods n (m.take k)).length))) :: F) (args := []) Try.call12 rfl (alive_c W0)) (fun _ _ => ?_)
                  refine Wl.imp (L' := (slp 9 1 bw cw (rsL (fun j => S1.getD j default) r)) :: (isDisk pp (upD S1 [] (c1 + (goods n (m.take k)).length))) :: F) (fun _ h => h) ?_
                  refine Wl.q (v := Value.bool true) (q_assign rfl) ?_
                  refine Wl.done ?_
                  refine Wx.go ?_
                  refine Wc.ret ?_
                  refine Wx.fin1 rfl (.inl rfl) (fun w hs => ?_)
                  exact ⟨(), trivial, rfl, (st_drop (st_drop (st_pull [0, 0] hs)))⟩

end Go.Proofs.Ytbnglfbfgannhaa
