/- The disk in memory, and contracts of its calls. -/
import Derived.Test.YtbnglfbfgannhaaDkG
import Derived.Test.YtbnglfbfgannhaaDkL
namespace Go.Proofs.Ytbnglfbfgannhaa
open Go Go.SL Go.Dk Go.RowKit
set_option linter.unusedVariables false
theorem zo_3 : zeroOf Try.prog 3 = some (Value.int .i64 0) := by kernel_rfl
theorem kept_low (W0 : World) (n : Int) (vl : Value) (l : List (Int × ByteArray)) (hl : Rd W0 vl l.length (flatI l)) (hn : n < 1) :
    Con Try.prog W0 4 #[Value.int .i64 n, vl] [] (X := Unit) (fun _ => True) (fun _ => .bool true) (fun _ => []) := by
  refine Con.of (args := [Value.int .i64 n, vl]) Try.func4 rfl Try.ntmps4 rfl (fun F => ?_)
  show Wc _ W0 _ _ _ _ _ (F)
  refine Wc.seq ?_
  refine Wc.region ?_
  refine Wl.q (v := Value.bool false) (q_assign rfl) ?_
  refine Wl.done ?_
  refine Wx.go ?_
  refine Wc.seq ?_
  refine Wc.region ?_
  refine Wl.q (v := Value.int .i64 n) (q_move rfl) ?_
  refine Wl.e (e_call (F := F) (args := [Value.int .i64 n]) Try.call10 rfl (new_low W0 n (by omega))) (fun _ _ => ?_)
  refine Wl.imp (L' := F) (fun _ h => h) ?_
  refine Wl.q (v := Value.tuple #[Value.pointer none, Value.int .i64 1]) (q_move rfl) ?_
  refine Wl.q (v := Value.pointer none) (q_extract (i := 0) rfl rfl) ?_
  refine Wl.q (v := Value.int .i64 1) (q_extract (i := 1) rfl rfl) ?_
  refine Wl.q (v := Value.pointer none) (q_assign rfl) ?_
  refine Wl.q (v := Value.int .i64 1) (q_assign rfl) ?_
  refine Wl.done ?_
  refine Wx.go ?_
  refine Wc.seq ?_
  refine Wc.seq ?_
  refine Wc.region ?_
  refine Wl.q (v := Value.int .i64 1) (q_move rfl) ?_
  refine Wl.q (v := Value.bool true) (q_neq (r := false) rfl rfl (decide_eq_false (by decide))) ?_
  refine Wl.q (v := Value.bool true) (q_move rfl) ?_
  refine Wl.no ?_
  refine Wl.no ?_
  refine Wl.no ?_
  refine Wl.no ?_
  refine Wl.q (v := Value.bool true) (q_pick (t := true) rfl rfl) ?_
  refine Wl.done ?_
  refine Wx.go ?_
  refine Wc.yes rfl ?_
  refine Wc.seq ?_
  refine Wc.region ?_
  refine Wl.e (e_call (F := F) (args := []) Try.call12 rfl (alive_c W0)) (fun _ _ => ?_)
  refine Wl.imp (L' := F) (fun _ h => h) ?_
  refine Wl.q (v := Value.bool true) (q_assign rfl) ?_
  refine Wl.done ?_
  refine Wx.go ?_
  refine Wc.ret ?_
  refine Wx.thenRet ?_
  refine Wx.fin1 rfl (.inl rfl) (fun w hs => ?_)
  exact ⟨(), trivial, rfl, hs⟩

theorem kept_high (W0 : World) (n : Int) (vl : Value) (l : List (Int × ByteArray)) (hl : Rd W0 vl l.length (flatI l)) (hn : n > 4096) :
    Con Try.prog W0 4 #[Value.int .i64 n, vl] [] (X := Unit) (fun _ => True) (fun _ => .bool true) (fun _ => []) := by
  refine Con.of (args := [Value.int .i64 n, vl]) Try.func4 rfl Try.ntmps4 rfl (fun F => ?_)
  show Wc _ W0 _ _ _ _ _ (F)
  refine Wc.seq ?_
  refine Wc.region ?_
  refine Wl.q (v := Value.bool false) (q_assign rfl) ?_
  refine Wl.done ?_
  refine Wx.go ?_
  refine Wc.seq ?_
  refine Wc.region ?_
  refine Wl.q (v := Value.int .i64 n) (q_move rfl) ?_
  refine Wl.e (e_call (F := F) (args := [Value.int .i64 n]) Try.call10 rfl (new_high W0 n (by omega))) (fun _ _ => ?_)
  refine Wl.imp (L' := F) (fun _ h => h) ?_
  refine Wl.q (v := Value.tuple #[Value.pointer none, Value.int .i64 3]) (q_move rfl) ?_
  refine Wl.q (v := Value.pointer none) (q_extract (i := 0) rfl rfl) ?_
  refine Wl.q (v := Value.int .i64 3) (q_extract (i := 1) rfl rfl) ?_
  refine Wl.q (v := Value.pointer none) (q_assign rfl) ?_
  refine Wl.q (v := Value.int .i64 3) (q_assign rfl) ?_
  refine Wl.done ?_
  refine Wx.go ?_
  refine Wc.seq ?_
  refine Wc.seq ?_
  refine Wc.region ?_
  refine Wl.q (v := Value.int .i64 3) (q_move rfl) ?_
  refine Wl.q (v := Value.bool true) (q_neq (r := false) rfl rfl (decide_eq_false (by decide))) ?_
  refine Wl.q (v := Value.bool true) (q_move rfl) ?_
  refine Wl.no ?_
  refine Wl.no ?_
  refine Wl.no ?_
  refine Wl.no ?_
  refine Wl.q (v := Value.bool true) (q_pick (t := true) rfl rfl) ?_
  refine Wl.done ?_
  refine Wx.go ?_
  refine Wc.yes rfl ?_
  refine Wc.seq ?_
  refine Wc.region ?_
  refine Wl.e (e_call (F := F) (args := []) Try.call12 rfl (alive_c W0)) (fun _ _ => ?_)
  refine Wl.imp (L' := F) (fun _ h => h) ?_
  refine Wl.q (v := Value.bool true) (q_assign rfl) ?_
  refine Wl.done ?_
  refine Wx.go ?_
  refine Wc.ret ?_
  refine Wx.thenRet ?_
  refine Wx.fin1 rfl (.inl rfl) (fun w hs => ?_)
  exact ⟨(), trivial, rfl, hs⟩

theorem kept_beyond (W0 : World) (n : Nat) (h1 : 1 ≤ n) (h2 : n ≤ 4096) (vl : Value) (l : List (Int × ByteArray)) (hl : Rd W0 vl l.length (flatI l)) (hb0 : beyondB [(l.length : Int)] = true) (hlen : l.length ≤ 9223372036854775807) :
    Con Try.prog W0 4 #[Value.int .i64 ((n : Nat) : Int), vl] [] (X := Unit) (fun _ => True) (fun _ => .bool true) (fun _ => []) := by
  refine Con.of (args := [Value.int .i64 ((n : Nat) : Int), vl]) Try.func4 rfl Try.ntmps4 rfl (fun F => ?_)
  show Wc _ W0 _ _ _ _ _ (F)
  refine Wc.seq ?_
  refine Wc.region ?_
  refine Wl.q (v := Value.bool false) (q_assign rfl) ?_
  refine Wl.done ?_
  refine Wx.go ?_
  refine Wc.seq ?_
  refine Wc.region ?_
  refine Wl.q (v := Value.int .i64 ((n : Nat) : Int)) (q_move rfl) ?_
  refine Wl.e (e_call (F := F) (args := [Value.int .i64 ((n : Nat) : Int)]) Try.call10 rfl (new_ok W0 n (by omega) (by omega))) (fun pp _ => ?_)
  refine Wl.imp (L' := (isDisk pp (DS.new n)) :: F) (fun _ h => h) ?_
  refine Wl.q (v := Value.tuple #[Value.pointer (some ⟨pp, 0, none⟩), Value.int .i64 0]) (q_move rfl) ?_
  refine Wl.q (v := Value.pointer (some ⟨pp, 0, none⟩)) (q_extract (i := 0) rfl rfl) ?_
  refine Wl.q (v := Value.int .i64 0) (q_extract (i := 1) rfl rfl) ?_
  refine Wl.q (v := Value.pointer (some ⟨pp, 0, none⟩)) (q_assign rfl) ?_
  refine Wl.q (v := Value.int .i64 0) (q_assign rfl) ?_
  refine Wl.done ?_
  refine Wx.go ?_
  refine Wc.seq ?_
  refine Wc.seq ?_
  refine Wc.region ?_
  refine Wl.q (v := Value.int .i64 0) (q_move rfl) ?_
  refine Wl.q (v := Value.bool false) (q_neq (r := true) rfl rfl (decide_eq_true (by decide))) ?_
  refine Wl.q (v := Value.bool false) (q_move rfl) ?_
  refine Wl.q (v := vl) (q_move rfl) ?_
  refine Wl.q (v := Value.int .i64 ((l.length : Nat) : Int)) (q_len_is Try.underlying22 rfl hl.shape) ?_
  refine Wl.e (e_buildSlice (cs := [Value.int .i64 ((l.length : Nat) : Int)]) se_58 zo_3 (by decide) (by decide) (by kernel_rfl)) (fun b1 _ => ?_)
  refine Wl.imp (L' := (pt b1 3 [Value.int .i64 ((l.length : Nat) : Int)]) :: (isDisk pp (DS.new n)) :: F) (fun _ h => h) ?_
  refine Wl.e (e_call (F := (isDisk pp (DS.new n)) :: F) (args := [Value.slice (some ⟨b1, 0, none⟩) 1 1]) Try.call11 rfl (Con.eqs (val' := fun _ => Value.bool true) (post' := fun _ => [pt b1 3 [Value.int .i64 ((l.length : Nat) : Int)]]) (beyond_c W0 b1 ([((l.length : Nat) : Int)] : List Int) (by simp) (by simp; omega)) (fun _ => congrArg Value.bool hb0) (fun _ => rfl))) (fun _ _ => ?_)
  refine Wl.imp (L' := (pt b1 3 [Value.int .i64 ((l.length : Nat) : Int)]) :: (isDisk pp (DS.new n)) :: F) (fun _ h => h) ?_
  refine Wl.q (v := Value.bool true) (q_pick (t := false) rfl rfl) ?_
  refine Wl.done ?_
  refine Wx.go ?_
  refine Wc.yes rfl ?_
  refine Wc.seq ?_
  refine Wc.region ?_
  refine Wl.e (e_call (F := (pt b1 3 [Value.int .i64 ((l.length : Nat) : Int)]) :: (isDisk pp (DS.new n)) :: F) (args := []) Try.call12 rfl (alive_c W0)) (fun _ _ => ?_)
  refine Wl.imp (L' := (pt b1 3 [Value.int .i64 ((l.length : Nat) : Int)]) :: (isDisk pp (DS.new n)) :: F) (fun _ h => h) ?_
  refine Wl.q (v := Value.bool true) (q_assign rfl) ?_
  refine Wl.done ?_
  refine Wx.go ?_
  refine Wc.ret ?_
  refine Wx.thenRet ?_
  refine Wx.fin1 rfl (.inl rfl) (fun w hs => ?_)
  exact ⟨(), trivial, rfl, (st_drop (st_drop (st_pull [0, 0] hs)))⟩

set_option maxRecDepth 4000 in
set_option maxHeartbeats 4000000 in
theorem kept_law (W0 : World) (n : Nat) (h1 : 1 ≤ n) (h2 : n ≤ 4096) (vl : Value) (l : List (Int × ByteArray)) (hl : Rd W0 vl l.length (flatI l)) (hb0 : beyondB [(l.length : Int)] = false) :
    Con Try.prog W0 4 #[Value.int .i64 ((n : Nat) : Int), vl] [] (X := Unit) (fun _ => True) (fun _ => .bool true) (fun _ => []) := by
  refine Con.of (args := [Value.int .i64 ((n : Nat) : Int), vl]) Try.func4 rfl Try.ntmps4 rfl (fun F => ?_)
  have hlen := beyond_one hb0
  show Wc _ W0 _ _ _ _ _ (F)
  refine Wc.seq ?_
  refine Wc.region ?_
  refine Wl.q (v := Value.bool false) (q_assign rfl) ?_
  refine Wl.done ?_
  refine Wx.go ?_
  refine Wc.seq ?_
  refine Wc.region ?_
  refine Wl.q (v := Value.int .i64 ((n : Nat) : Int)) (q_move rfl) ?_
  refine Wl.e (e_call (F := F) (args := [Value.int .i64 ((n : Nat) : Int)]) Try.call10 rfl (new_ok W0 n (by omega) (by omega))) (fun pp _ => ?_)
  refine Wl.imp (L' := (isDisk pp (DS.new n)) :: F) (fun _ h => h) ?_
  refine Wl.q (v := Value.tuple #[Value.pointer (some ⟨pp, 0, none⟩), Value.int .i64 0]) (q_move rfl) ?_
  refine Wl.q (v := Value.pointer (some ⟨pp, 0, none⟩)) (q_extract (i := 0) rfl rfl) ?_
  refine Wl.q (v := Value.int .i64 0) (q_extract (i := 1) rfl rfl) ?_
  refine Wl.q (v := Value.pointer (some ⟨pp, 0, none⟩)) (q_assign rfl) ?_
  refine Wl.q (v := Value.int .i64 0) (q_assign rfl) ?_
  refine Wl.done ?_
  refine Wx.go ?_
  refine Wc.seq ?_
  refine Wc.seq ?_
  refine Wc.region ?_
  refine Wl.q (v := Value.int .i64 0) (q_move rfl) ?_
  refine Wl.q (v := Value.bool false) (q_neq (r := true) rfl rfl (decide_eq_true (by decide))) ?_
  refine Wl.q (v := Value.bool false) (q_move rfl) ?_
  refine Wl.q (v := vl) (q_move rfl) ?_
  refine Wl.q (v := Value.int .i64 ((l.length : Nat) : Int)) (q_len_is Try.underlying22 rfl hl.shape) ?_
  refine Wl.e (e_buildSlice (cs := [Value.int .i64 ((l.length : Nat) : Int)]) se_58 zo_3 (by decide) (by decide) (by kernel_rfl)) (fun b1 _ => ?_)
  refine Wl.imp (L' := (pt b1 3 [Value.int .i64 ((l.length : Nat) : Int)]) :: (isDisk pp (DS.new n)) :: F) (fun _ h => h) ?_
  refine Wl.e (e_call (F := (isDisk pp (DS.new n)) :: F) (args := [Value.slice (some ⟨b1, 0, none⟩) 1 1]) Try.call11 rfl (Con.eqs (val' := fun _ => Value.bool false) (post' := fun _ => [pt b1 3 [Value.int .i64 ((l.length : Nat) : Int)]]) (beyond_c W0 b1 ([((l.length : Nat) : Int)] : List Int) (by simp) (by simp; omega)) (fun _ => congrArg Value.bool hb0) (fun _ => rfl))) (fun _ _ => ?_)
  refine Wl.imp (L' := (pt b1 3 [Value.int .i64 ((l.length : Nat) : Int)]) :: (isDisk pp (DS.new n)) :: F) (fun _ h => h) ?_
  refine Wl.q (v := Value.bool false) (q_pick (t := false) rfl rfl) ?_
  refine Wl.done ?_
  refine Wx.go ?_
  refine Wc.no rfl ?_
  refine Wc.skip ?_
  refine Wx.go ?_
  refine Wc.seq ?_
  refine Wc.region ?_
  refine Wl.q (v := Value.int .i64 0) (q_assign rfl) ?_
  refine Wl.done ?_
  refine Wx.go ?_
  refine Wc.seq ?_
  refine Wc.seq ?_
  refine Wc.region ?_
  refine Wl.q (v := Value.int .i64 0) (q_assign rfl) ?_
  refine Wl.done ?_
  refine Wx.go ?_
  refine Wc.block ?_
  refine Wc.loop (X := Nat) (fun k E => E 8 = Value.int .i64 ((k : Nat) : Int) ∧ E 7 = Value.int .i64 (((goods n (l.take k)).length : Nat) : Int) ∧ E 0 = Value.int .i64 ((n : Nat) : Int) ∧ E 1 = vl ∧ E 5 = Value.pointer (some ⟨pp, 0, none⟩) ∧ k ≤ l.length ∧ (goods n (l.take k)).length ≤ 31) (fun k => (isDisk pp (wr n (l.take k))) :: F) (fun k => l.length - k) 0 ?_ ?_ ?_
  · exact ⟨rfl, rfl, rfl, rfl, rfl, (by omega), (by simp [goods])⟩
  · exact fun w hs => (st_drop (st_pull [0] hs))
  · rintro k E3 ⟨hE8_1, hE7_1, hE0_1, hE1_1, hE5_1, hp0, hp1⟩
    refine Wc.seq ?_
    refine Wc.seq ?_
    refine Wc.region ?_
    refine Wl.q (v := Value.int .i64 ((k : Nat) : Int)) (q_move hE8_1) ?_
    refine Wl.q (v := vl) (q_move hE1_1) ?_
    refine Wl.q (v := Value.int .i64 ((l.length : Nat) : Int)) (q_len_is Try.underlying22 rfl hl.shape) ?_
    by_cases hlt : ((k : Nat) : Int) < ((l.length : Nat) : Int)
    ·
      obtain ⟨q, hget⟩ : ∃ q, l[k]? = some q := ⟨l[k]'(by omega), by simp [List.getElem?_eq_getElem (show k < l.length by omega)]⟩
      refine Wl.q (v := Value.bool true) (q_lss (r := true) rfl rfl (decide_eq_true hlt)) ?_
      refine Wl.q (v := Value.bool true) (q_move rfl) ?_
      refine Wl.q (v := Value.int .i64 (((goods n (l.take k)).length : Nat) : Int)) (q_move hE7_1) ?_
      by_cases hd31 : (((goods n (l.take k)).length : Nat) : Int) < 31
      ·
        refine Wl.q (v := Value.bool true) (q_lss (r := true) rfl rfl (decide_eq_true hd31)) ?_
        refine Wl.q (v := Value.bool true) (q_pick (t := true) rfl rfl) ?_
        refine Wl.done ?_
        refine Wx.go ?_
        refine Wc.yes rfl ?_
        refine Wc.skip ?_
        refine Wx.go ?_
        refine Wc.seq ?_
        refine Wc.block ?_
        refine Wc.seq ?_
        refine Wc.drawsS [11] ((isDisk pp (wr n (l.take k))) :: []) (by kernel_rfl) ?_
        refine Wr.pure (v := Value.pointer (some ⟨pp, 0, none⟩)) 0 rfl (by kernel_rfl) (.inr (fun _ h => st_take [0] h)) (.inl ⟨rfl, fun _ => q_move hE5_1⟩) ?_
        refine Wr.pure (v := vl) 1 rfl (by kernel_rfl) (.inr (fun _ h => st_take [0] h)) (.inl ⟨rfl, fun _ => q_move hE1_1⟩) ?_
        refine Wr.pure (v := Value.int .i64 ((k : Nat) : Int)) 2 rfl (by kernel_rfl) (.inr (fun _ h => st_take [0] h)) (.inl ⟨rfl, fun _ => q_move hE8_1⟩) ?_
        refine Wr.pure (v := Value.pointer (some ⟨(rb vl), ro vl + k * 2, none⟩)) 3 rfl (by kernel_rfl) (.inr (fun _ h => st_take [0] h)) (.inl ⟨rfl, fun _ => q_idx_is (m := ro vl + k * 2) se_22 rfl (hl.some_ (by omega)) rfl (by omega) (by omega) rfl⟩) ?_
        refine Wr.pure (v := Value.pointer (some ⟨(rb vl), ro vl + k * 2, none⟩)) 4 rfl (by kernel_rfl) (.inr (fun _ h => st_take [0] h)) (.inl ⟨rfl, fun _ => q_field (m := ro vl + k * 2) fo_31_0 rfl rfl⟩) ?_
        refine Wr.take (v := Value.int .i64 q.1) 5 rfl (by kernel_rfl) (fun _ h => st_take [0] h) (.inl ⟨rfl, q_load sc_3 rfl (.old ((rdW hl hget).1))⟩) ?_
        refine Wr.pure (v := vl) 6 rfl (by kernel_rfl) (.inr (fun _ h => st_take [0] h)) (.inl ⟨rfl, fun _ => q_move hE1_1⟩) ?_
        refine Wr.pure (v := Value.int .i64 ((k : Nat) : Int)) 7 rfl (by kernel_rfl) (.inr (fun _ h => st_take [0] h)) (.inl ⟨rfl, fun _ => q_move hE8_1⟩) ?_
        refine Wr.pure (v := Value.pointer (some ⟨(rb vl), ro vl + k * 2, none⟩)) 8 rfl (by kernel_rfl) (.inr (fun _ h => st_take [0] h)) (.inl ⟨rfl, fun _ => q_idx_is (m := ro vl + k * 2) se_22 rfl (hl.some_ (by omega)) rfl (by omega) (by omega) rfl⟩) ?_
        refine Wr.pure (v := Value.pointer (some ⟨(rb vl), ro vl + k * 2 + 1, none⟩)) 9 rfl (by kernel_rfl) (.inr (fun _ h => st_take [0] h)) (.inl ⟨rfl, fun _ => q_field (m := ro vl + k * 2 + 1) fo_31_1 rfl rfl⟩) ?_
        refine Wr.take (v := Value.string q.2) 10 rfl (by kernel_rfl) (fun _ h => st_take [0] h) (.inl ⟨rfl, q_load sc_9 rfl (.old ((rdW hl hget).2))⟩) ?_
        refine Wr.e 11 (by kernel_rfl) rfl (e_call (F := F) (args := [Value.pointer (some ⟨pp, 0, none⟩), Value.int .i64 q.1, Value.string q.2]) Try.call13 rfl (Con.eqs (val' := fun _ => Value.int .i64 (okN n q)) (post' := fun _ => [isDisk pp (wr n (l.take (k + 1)))]) (write_c W0 pp (wr n (l.take k)) q.1 q.2 (wf_wr h2 _) (by have := goods_len n (l.take k); simp only [wr, upD, List.length_take] at *; omega) (by have := goods_len n (l.take k); simp only [wr, upD, List.length_take] at *; omega)) (fun _ => (by rw [wr_res])) (fun _ => (by rw [wr_snoc, ← take_snoc' hget])))) (.inl (by kernel_rfl)) (fun _ _ => ?_)
        refine Wr.imp (L' := (isDisk pp (wr n (l.take (k + 1)))) :: F) (fun _ h => h) ?_
        refine Wr.rebaseS [] ((isDisk pp (wr n (l.take (k + 1)))) :: []) (by kernel_rfl) ?_
        by_cases hwr : (okN n q) = 0
        ·
          refine Wr.pure (v := Value.bool true) 12 rfl (by kernel_rfl) (.inr (fun _ h => st_take [0] h)) (.inl ⟨rfl, fun _ => q_eql (r := true) rfl rfl (decide_eq_true hwr)⟩) ?_
          refine Wr.done (by kernel_rfl) ?_
          refine Wx.go ?_
          refine Wc.yes rfl ?_
          refine Wc.region ?_
          refine Wl.q (v := Value.int .i64 (((goods n (l.take k)).length : Nat) : Int)) (q_move hE7_1) ?_
          refine Wl.q (v := Value.int .i64 ((((goods n (l.take k)).length) + 1 : Nat) : Int)) (q_add (c := ((((goods n (l.take k)).length) + 1 : Nat) : Int)) rfl rfl (by rw [wrap_i64] <;> omega)) ?_
          refine Wl.q (v := Value.int .i64 ((((goods n (l.take k)).length) + 1 : Nat) : Int)) (q_assign rfl) ?_
          refine Wl.done ?_
          refine Wx.blockEnd ?_
          refine Wx.go ?_
          refine Wc.region ?_
          refine Wl.q (v := Value.int .i64 ((k : Nat) : Int)) (q_move hE8_1) ?_
          refine Wl.q (v := Value.int .i64 ((k + 1 : Nat) : Int)) (q_add (c := ((k + 1 : Nat) : Int)) rfl rfl (by rw [wrap_i64] <;> omega)) ?_
          refine Wl.q (v := Value.int .i64 ((k + 1 : Nat) : Int)) (q_assign rfl) ?_
          refine Wl.done ?_
          refine Wx.at (k + 1) ⟨(by omega), rfl, (by rw [goods_yes hget hwr]; first | exact rfl | rfl), hE0_1, hE1_1, hE5_1, (by omega), (by rw [goods_yes hget hwr]; omega)⟩ (fun w hs => hs)
        ·
          refine Wr.pure (v := Value.bool false) 12 rfl (by kernel_rfl) (.inr (fun _ h => st_take [0] h)) (.inl ⟨rfl, fun _ => q_eql (r := false) rfl rfl (decide_eq_false hwr)⟩) ?_
          refine Wr.done (by kernel_rfl) ?_
          refine Wx.go ?_
          refine Wc.no rfl ?_
          refine Wc.skip ?_
          refine Wx.blockEnd ?_
          refine Wx.go ?_
          refine Wc.region ?_
          refine Wl.q (v := Value.int .i64 ((k : Nat) : Int)) (q_move hE8_1) ?_
          refine Wl.q (v := Value.int .i64 ((k + 1 : Nat) : Int)) (q_add (c := ((k + 1 : Nat) : Int)) rfl rfl (by rw [wrap_i64] <;> omega)) ?_
          refine Wl.q (v := Value.int .i64 ((k + 1 : Nat) : Int)) (q_assign rfl) ?_
          refine Wl.done ?_
          refine Wx.at (k + 1) ⟨(by omega), rfl, (by rw [goods_no hget hwr]; first | exact hE7_1 | rfl), hE0_1, hE1_1, hE5_1, (by omega), (by rw [goods_no hget hwr]; omega)⟩ (fun w hs => hs)
      ·
        obtain ⟨G, hGw, hG31, hwG⟩ := kept_facts (l := l) h2 hp1
        refine Wl.q (v := Value.bool false) (q_lss (r := false) rfl rfl (decide_eq_false hd31)) ?_
        refine Wl.q (v := Value.bool false) (q_pick (t := true) rfl rfl) ?_
        refine Wl.done ?_
        refine Wx.go ?_
        refine Wc.no rfl ?_
        refine Wc.exit ?_
        refine Wx.thenExit ?_
        refine Wx.thenExit ?_
        refine Wx.out ?_
        refine Wx.go ?_
        refine Wc.seq ?_
        refine Wc.region ?_
        refine Wl.q (v := Value.slice none 0 0) (q_assign rfl) ?_
        refine Wl.done ?_
        refine Wx.go ?_
        refine Wc.seq ?_
        refine Wc.seq ?_
        refine Wc.region ?_
        refine Wl.q (v := Value.int .i64 0) (q_assign rfl) ?_
        refine Wl.done ?_
        refine Wx.go ?_
        refine Wc.block ?_
        refine Wc.loop (X := Nat × Value) (fun (r, v) E => E 10 = Value.int .i64 ((r : Nat) : Int) ∧ E 9 = v ∧ E 0 = Value.int .i64 ((n : Nat) : Int) ∧ E 5 = Value.pointer (some ⟨pp, 0, none⟩) ∧ r ≤ n) (fun (r, v) => (sl 9 1 v r (rsL (fun j => readL ((List.replicate n noughts).getD j default) j G) r)) :: (isDisk pp (upD (List.replicate n noughts) G G.length)) :: F) (fun (r, v) => n - r) (0, .slice none 0 0) ?_ ?_ ?_
        · exact ⟨rfl, rfl, hE0_1, hE5_1, (by omega)⟩
        · exact fun w hs => by rw [hGw] at hs; exact st_sl_nil hs
        · rintro ⟨r, v⟩ E5 ⟨hE10_3, hE9_3, hE0_3, hE5_3, hi0⟩
          dsimp only at *
          refine Wc.seq ?_
          refine Wc.seq ?_
          refine Wc.region ?_
          refine Wl.q (v := Value.int .i64 ((r : Nat) : Int)) (q_move hE10_3) ?_
          refine Wl.q (v := Value.int .i64 ((n : Nat) : Int)) (q_move hE0_3) ?_
          by_cases hilt : ((r : Nat) : Int) < ((n : Nat) : Int)
          ·
            refine Wl.q (v := Value.bool true) (q_lss (r := true) rfl rfl (decide_eq_true hilt)) ?_
            refine Wl.done ?_
            refine Wx.go ?_
            refine Wc.yes rfl ?_
            refine Wc.skip ?_
            refine Wx.go ?_
            refine Wc.seq ?_
            refine Wc.block ?_
            refine Wc.seq ?_
            refine Wc.region ?_
            refine Wl.q (v := Value.pointer (some ⟨pp, 0, none⟩)) (q_move hE5_3) ?_
            refine Wl.q (v := Value.int .i64 ((r : Nat) : Int)) (q_move hE10_3) ?_
            refine Wl.imp (L' := (isDisk pp (upD (List.replicate n noughts) G G.length)) :: (sl 9 1 v r (rsL (fun j => readL ((List.replicate n noughts).getD j default) j G) r)) :: F) (fun _ h => st_pull [1] h) ?_
            refine Wl.e (e_call (F := (sl 9 1 v r (rsL (fun j => readL ((List.replicate n noughts).getD j default) j G) r)) :: F) (args := [Value.pointer (some ⟨pp, 0, none⟩), Value.int .i64 ((r : Nat) : Int)]) Try.call16 rfl (Con.eqs (val' := fun _ => Value.tuple #[Value.string (readL ((List.replicate n noughts).getD r default) r G), Value.int .i64 0]) (post' := fun _ => [isDisk pp (upD (List.replicate n noughts) G G.length)]) (read_c W0 pp (upD (List.replicate n noughts) G G.length) ((r : Nat) : Int) (by simp only [upD]; omega)) (fun _ => (by rw [upD_read_since (by simp; omega)])) (fun _ => rfl))) (fun _ _ => ?_)
            refine Wl.imp (L' := (isDisk pp (upD (List.replicate n noughts) G G.length)) :: (sl 9 1 v r (rsL (fun j => readL ((List.replicate n noughts).getD j default) j G) r)) :: F) (fun _ h => h) ?_
            refine Wl.q (v := Value.tuple #[Value.string (readL ((List.replicate n noughts).getD r default) r G), Value.int .i64 0]) (q_move rfl) ?_
            refine Wl.q (v := Value.string (readL ((List.replicate n noughts).getD r default) r G)) (q_extract (i := 0) rfl rfl) ?_
            refine Wl.q (v := Value.int .i64 0) (q_extract (i := 1) rfl rfl) ?_
            refine Wl.q (v := Value.string (readL ((List.replicate n noughts).getD r default) r G)) (q_assign rfl) ?_
            refine Wl.q (v := Value.int .i64 0) (q_assign rfl) ?_
            refine Wl.done ?_
            refine Wx.go ?_
            refine Wc.region ?_
            refine Wl.q (v := v) (q_move hE9_3) ?_
            refine Wl.q (v := Value.string (readL ((List.replicate n noughts).getD r default) r G)) (q_move rfl) ?_
            refine Wl.e (e_buildSlice (cs := [Value.string (readL ((List.replicate n noughts).getD r default) r G)]) se_38 zo_9 (by decide) (by decide) (by kernel_rfl)) (fun b6 _ => ?_)
            refine Wl.imp (L' := (pt b6 9 [Value.string (readL ((List.replicate n noughts).getD r default) r G)]) :: (isDisk pp (upD (List.replicate n noughts) G G.length)) :: (sl 9 1 v r (rsL (fun j => readL ((List.replicate n noughts).getD j default) j G) r)) :: F) (fun _ h => h) ?_
            refine Wl.e (e_append (i := 2) (k := 1) (m := 1) (off := 0) (news := [Value.string (readL ((List.replicate n noughts).getD r default) r G)]) Try.underlying38 sz_9 by_9 zo_9 rfl rfl rfl rfl rfl (Has.of_pt (i := 0) rfl rfl) rfl (by decide) (by simp only [maxLen]; omega) (by omega)) (fun v2 _ => ?_)
            refine Wl.imp (L' := (pt b6 9 [Value.string (readL ((List.replicate n noughts).getD r default) r G)]) :: (isDisk pp (upD (List.replicate n noughts) G G.length)) :: (sl 9 1 v2 (r + 1) ((rsL (fun j => readL ((List.replicate n noughts).getD j default) j G) r) ++ [Value.string (readL ((List.replicate n noughts).getD r default) r G)])) :: F) (fun _ h => h) ?_
            refine Wl.q (v := v2) (q_assign rfl) ?_
            refine Wl.done ?_
            refine Wx.blockEnd ?_
            refine Wx.go ?_
            refine Wc.region ?_
            refine Wl.q (v := Value.int .i64 ((r : Nat) : Int)) (q_move hE10_3) ?_
            refine Wl.q (v := Value.int .i64 ((r + 1 : Nat) : Int)) (q_add (c := ((r + 1 : Nat) : Int)) rfl rfl (by rw [wrap_i64] <;> omega)) ?_
            refine Wl.q (v := Value.int .i64 ((r + 1 : Nat) : Int)) (q_assign rfl) ?_
            refine Wl.done ?_
            refine Wx.at (r + 1, v2) ⟨(by simp only; omega), rfl, rfl, hE0_3, hE5_3, (by omega)⟩ (fun w hs => by rw [rs_succ]; exact (st_pull [1, 0] (st_drop (st_pull [0] hs))))
          ·
            have hend1 : r = n := by omega
            refine Wl.sl (i := 0) (m := r) rfl (by omega) (fun bw cw hv hcw => ?_)
            subst hv
            refine Wl.q (v := Value.bool false) (q_lss (r := false) rfl rfl (decide_eq_false hilt)) ?_
            refine Wl.done ?_
            refine Wx.go ?_
            refine Wc.no rfl ?_
            refine Wc.exit ?_
            refine Wx.thenExit ?_
            refine Wx.thenExit ?_
            refine Wx.out ?_
            refine Wx.go ?_
            refine Wc.seq ?_
            refine Wc.seq ?_
            refine Wc.region ?_
            refine Wl.q (v := Value.pointer (some ⟨pp, 0, none⟩)) (q_move hE5_3) ?_
            refine Wl.imp (L' := (isDisk pp (upD (List.replicate n noughts) G G.length)) :: (slp 9 1 bw cw (rsL (fun j => readL ((List.replicate n noughts).getD j default) j G) r)) :: F) (fun _ h => st_pull [1] h) ?_
            refine Wl.e (e_call (F := (slp 9 1 bw cw (rsL (fun j => readL ((List.replicate n noughts).getD j default) j G) r)) :: F) (args := [Value.pointer (some ⟨pp, 0, none⟩), Value.int .i64 6148914691236517205]) Try.call14 rfl (Con.eqs (val' := fun _ => Value.int .i64 0) (post' := fun _ => [isDisk pp (((upD (List.replicate n noughts) G G.length).crash 6148914691236517205).2)]) (crash_c W0 pp (upD (List.replicate n noughts) G G.length) 6148914691236517205 (wf_upDs hwG)) (fun _ => rfl) (fun _ => rfl))) (fun _ _ => ?_)
            refine Wl.imp (L' := (isDisk pp (((upD (List.replicate n noughts) G G.length).crash 6148914691236517205).2)) :: (slp 9 1 bw cw (rsL (fun j => readL ((List.replicate n noughts).getD j default) j G) r)) :: F) (fun _ h => h) ?_
            refine Wl.q (v := Value.bool false) (q_neq (r := true) rfl rfl (decide_eq_true (by decide))) ?_
            refine Wl.q (v := Value.bool false) (q_move rfl) ?_
            refine Wl.q (v := Value.pointer (some ⟨pp, 0, none⟩)) (q_move hE5_3) ?_
            refine Wl.e (e_call (F := (slp 9 1 bw cw (rsL (fun j => readL ((List.replicate n noughts).getD j default) j G) r)) :: F) (args := [Value.pointer (some ⟨pp, 0, none⟩)]) Try.call15 rfl (Con.eqs (val' := fun _ => Value.int .i64 0) (post' := fun _ => [isDisk pp (((((upD (List.replicate n noughts) G G.length).crash 6148914691236517205).2).start).2)]) (start_c W0 pp (((upD (List.replicate n noughts) G G.length).crash 6148914691236517205).2) ) (fun _ => rfl) (fun _ => rfl))) (fun _ _ => ?_)
            refine Wl.imp (L' := (isDisk pp (((((upD (List.replicate n noughts) G G.length).crash 6148914691236517205).2).start).2)) :: (slp 9 1 bw cw (rsL (fun j => readL ((List.replicate n noughts).getD j default) j G) r)) :: F) (fun _ h => h) ?_
            refine Wl.q (v := Value.bool false) (q_neq (r := true) rfl rfl (decide_eq_true (by decide))) ?_
            refine Wl.q (v := Value.bool false) (q_pick (t := false) rfl rfl) ?_
            refine Wl.done ?_
            refine Wx.go ?_
            refine Wc.no rfl ?_
            refine Wc.skip ?_
            refine Wx.go ?_
            refine Wc.seq ?_
            refine Wc.seq ?_
            refine Wc.region ?_
            refine Wl.q (v := Value.int .i64 0) (q_assign rfl) ?_
            refine Wl.done ?_
            refine Wx.go ?_
            refine Wc.block ?_
            refine Wc.loop (X := Nat) (fun i E => E 13 = Value.int .i64 ((i : Nat) : Int) ∧ E 0 = Value.int .i64 ((n : Nat) : Int) ∧ E 5 = Value.pointer (some ⟨pp, 0, none⟩) ∧ E 9 = Value.slice (some ⟨bw, 0, none⟩) r cw ∧ i ≤ n) (fun i => (slp 9 1 bw cw (rsL (fun j => readL ((List.replicate n noughts).getD j default) j G) r)) :: (isDisk pp (upD (syncL (List.replicate n noughts) G) [] G.length)) :: F) (fun i => n - i) 0 ?_ ?_ ?_
            · exact ⟨rfl, hE0_3, hE5_3, hE9_3, (by omega)⟩
            · exact fun w hs => by rw [kept_crash hG31] at hs; exact st_swap hs
            · rintro i E8 ⟨hE13_6, hE0_6, hE5_6, hE9_6, hi2⟩
              refine Wc.seq ?_
              refine Wc.seq ?_
              refine Wc.region ?_
              refine Wl.q (v := Value.int .i64 ((i : Nat) : Int)) (q_move hE13_6) ?_
              refine Wl.q (v := Value.int .i64 ((n : Nat) : Int)) (q_move hE0_6) ?_
              by_cases hclt : ((i : Nat) : Int) < ((n : Nat) : Int)
              ·
                refine Wl.q (v := Value.bool true) (q_lss (r := true) rfl rfl (decide_eq_true hclt)) ?_
                refine Wl.done ?_
                refine Wx.go ?_
                refine Wc.yes rfl ?_
                refine Wc.skip ?_
                refine Wx.go ?_
                refine Wc.seq ?_
                refine Wc.block ?_
                refine Wc.seq ?_
                refine Wc.region ?_
                refine Wl.q (v := Value.pointer (some ⟨pp, 0, none⟩)) (q_move hE5_6) ?_
                refine Wl.q (v := Value.int .i64 ((i : Nat) : Int)) (q_move hE13_6) ?_
                refine Wl.imp (L' := (isDisk pp (upD (syncL (List.replicate n noughts) G) [] G.length)) :: (slp 9 1 bw cw (rsL (fun j => readL ((List.replicate n noughts).getD j default) j G) r)) :: F) (fun _ h => st_pull [1] h) ?_
                refine Wl.e (e_call (F := (slp 9 1 bw cw (rsL (fun j => readL ((List.replicate n noughts).getD j default) j G) r)) :: F) (args := [Value.pointer (some ⟨pp, 0, none⟩), Value.int .i64 ((i : Nat) : Int)]) Try.call16 rfl (Con.eqs (val' := fun _ => Value.tuple #[Value.string (readL ((List.replicate n noughts).getD i default) i G), Value.int .i64 0]) (post' := fun _ => [isDisk pp (upD (syncL (List.replicate n noughts) G) [] G.length)]) (read_c W0 pp (upD (syncL (List.replicate n noughts) G) [] G.length) ((i : Nat) : Int) (by simp only [upD]; decide)) (fun _ => (by rw [kept_read hwG (by omega)])) (fun _ => rfl))) (fun _ _ => ?_)
                refine Wl.imp (L' := (isDisk pp (upD (syncL (List.replicate n noughts) G) [] G.length)) :: (slp 9 1 bw cw (rsL (fun j => readL ((List.replicate n noughts).getD j default) j G) r)) :: F) (fun _ h => h) ?_
                refine Wl.q (v := Value.tuple #[Value.string (readL ((List.replicate n noughts).getD i default) i G), Value.int .i64 0]) (q_move rfl) ?_
                refine Wl.q (v := Value.string (readL ((List.replicate n noughts).getD i default) i G)) (q_extract (i := 0) rfl rfl) ?_
                refine Wl.q (v := Value.int .i64 0) (q_extract (i := 1) rfl rfl) ?_
                refine Wl.q (v := Value.string (readL ((List.replicate n noughts).getD i default) i G)) (q_assign rfl) ?_
                refine Wl.q (v := Value.int .i64 0) (q_assign rfl) ?_
                refine Wl.done ?_
                refine Wx.go ?_
                refine Wc.seq ?_
                refine Wc.region ?_
                refine Wl.q (v := Value.int .i64 0) (q_move rfl) ?_
                refine Wl.q (v := Value.bool false) (q_neq (r := true) rfl rfl (decide_eq_true (by decide))) ?_
                refine Wl.q (v := Value.bool false) (q_move rfl) ?_
                refine Wl.q (v := Value.string (readL ((List.replicate n noughts).getD i default) i G)) (q_move rfl) ?_
                refine Wl.q (v := Value.slice (some ⟨bw, 0, none⟩) r cw) (q_move hE9_6) ?_
                refine Wl.q (v := Value.int .i64 ((i : Nat) : Int)) (q_move hE13_6) ?_
                refine Wl.q (v := Value.pointer (some ⟨bw, i, none⟩)) (q_idx (m := i) se_38 rfl rfl (by omega) (by omega) (by simp)) ?_
                refine Wl.q (v := Value.string (readL ((List.replicate n noughts).getD i default) i G)) (q_load sc_9 rfl (.row (i := 1) rfl (rs_get (by omega)))) ?_
                refine Wl.q (v := Value.bool false) (q_neq_str (r := true) rfl rfl (text_true (rfl))) ?_
                refine Wl.q (v := Value.bool false) (q_pick (t := false) rfl rfl) ?_
                refine Wl.done ?_
                refine Wx.go ?_
                refine Wc.no rfl ?_
                refine Wc.skip ?_
                refine Wx.blockEnd ?_
                refine Wx.go ?_
                refine Wc.region ?_
                refine Wl.q (v := Value.int .i64 ((i : Nat) : Int)) (q_move hE13_6) ?_
                refine Wl.q (v := Value.int .i64 ((i + 1 : Nat) : Int)) (q_add (c := ((i + 1 : Nat) : Int)) rfl rfl (by rw [wrap_i64] <;> omega)) ?_
                refine Wl.q (v := Value.int .i64 ((i + 1 : Nat) : Int)) (q_assign rfl) ?_
                refine Wl.done ?_
                refine Wx.at (i + 1) ⟨(by omega), rfl, hE0_6, hE5_6, hE9_6, (by omega)⟩ (fun w hs => (st_pull [1, 0] (hs)))
              ·
                refine Wl.q (v := Value.bool false) (q_lss (r := false) rfl rfl (decide_eq_false hclt)) ?_
                refine Wl.done ?_
                refine Wx.go ?_
                refine Wc.no rfl ?_
                refine Wc.exit ?_
                refine Wx.thenExit ?_
                refine Wx.thenExit ?_
                refine Wx.out ?_
                refine Wx.go ?_
                refine Wc.seq ?_
                refine Wc.region ?_
                refine Wl.e (e_call (F := (slp 9 1 bw cw (rsL (fun j => readL ((List.replicate n noughts).getD j default) j G) r)) :: (isDisk pp (upD (syncL (List.replicate n noughts) G) [] G.length)) :: F) (args := []) Try.call12 rfl (alive_c W0)) (fun _ _ => ?_)
                refine Wl.imp (L' := (slp 9 1 bw cw (rsL (fun j => readL ((List.replicate n noughts).getD j default) j G) r)) :: (isDisk pp (upD (syncL (List.replicate n noughts) G) [] G.length)) :: F) (fun _ h => h) ?_
                refine Wl.q (v := Value.bool true) (q_assign rfl) ?_
                refine Wl.done ?_
                refine Wx.go ?_
                refine Wc.ret ?_
                refine Wx.fin1 rfl (.inl rfl) (fun w hs => ?_)
                exact ⟨(), trivial, rfl, (st_drop (st_drop (st_pull [0, 0] hs)))⟩
    ·
      obtain ⟨G, hGw, hG31, hwG⟩ := kept_facts (l := l) h2 hp1
      refine Wl.q (v := Value.bool false) (q_lss (r := false) rfl rfl (decide_eq_false hlt)) ?_
      refine Wl.q (v := Value.bool false) (q_move rfl) ?_
      refine Wl.no ?_
      refine Wl.no ?_
      refine Wl.q (v := Value.bool false) (q_pick (t := false) rfl rfl) ?_
      refine Wl.done ?_
      refine Wx.go ?_
      refine Wc.no rfl ?_
      refine Wc.exit ?_
      refine Wx.thenExit ?_
      refine Wx.thenExit ?_
      refine Wx.out ?_
      refine Wx.go ?_
      refine Wc.seq ?_
      refine Wc.region ?_
      refine Wl.q (v := Value.slice none 0 0) (q_assign rfl) ?_
      refine Wl.done ?_
      refine Wx.go ?_
      refine Wc.seq ?_
      refine Wc.seq ?_
      refine Wc.region ?_
      refine Wl.q (v := Value.int .i64 0) (q_assign rfl) ?_
      refine Wl.done ?_
      refine Wx.go ?_
      refine Wc.block ?_
      refine Wc.loop (X := Nat × Value) (fun (r, v) E => E 10 = Value.int .i64 ((r : Nat) : Int) ∧ E 9 = v ∧ E 0 = Value.int .i64 ((n : Nat) : Int) ∧ E 5 = Value.pointer (some ⟨pp, 0, none⟩) ∧ r ≤ n) (fun (r, v) => (sl 9 1 v r (rsL (fun j => readL ((List.replicate n noughts).getD j default) j G) r)) :: (isDisk pp (upD (List.replicate n noughts) G G.length)) :: F) (fun (r, v) => n - r) (0, .slice none 0 0) ?_ ?_ ?_
      · exact ⟨rfl, rfl, hE0_1, hE5_1, (by omega)⟩
      · exact fun w hs => by rw [hGw] at hs; exact st_sl_nil hs
      · rintro ⟨r, v⟩ E10 ⟨hE10_8, hE9_8, hE0_8, hE5_8, hi0⟩
        dsimp only at *
        refine Wc.seq ?_
        refine Wc.seq ?_
        refine Wc.region ?_
        refine Wl.q (v := Value.int .i64 ((r : Nat) : Int)) (q_move hE10_8) ?_
        refine Wl.q (v := Value.int .i64 ((n : Nat) : Int)) (q_move hE0_8) ?_
        by_cases hilt : ((r : Nat) : Int) < ((n : Nat) : Int)
        ·
          refine Wl.q (v := Value.bool true) (q_lss (r := true) rfl rfl (decide_eq_true hilt)) ?_
          refine Wl.done ?_
          refine Wx.go ?_
          refine Wc.yes rfl ?_
          refine Wc.skip ?_
          refine Wx.go ?_
          refine Wc.seq ?_
          refine Wc.block ?_
          refine Wc.seq ?_
          refine Wc.region ?_
          refine Wl.q (v := Value.pointer (some ⟨pp, 0, none⟩)) (q_move hE5_8) ?_
          refine Wl.q (v := Value.int .i64 ((r : Nat) : Int)) (q_move hE10_8) ?_
          refine Wl.imp (L' := (isDisk pp (upD (List.replicate n noughts) G G.length)) :: (sl 9 1 v r (rsL (fun j => readL ((List.replicate n noughts).getD j default) j G) r)) :: F) (fun _ h => st_pull [1] h) ?_
          refine Wl.e (e_call (F := (sl 9 1 v r (rsL (fun j => readL ((List.replicate n noughts).getD j default) j G) r)) :: F) (args := [Value.pointer (some ⟨pp, 0, none⟩), Value.int .i64 ((r : Nat) : Int)]) Try.call16 rfl (Con.eqs (val' := fun _ => Value.tuple #[Value.string (readL ((List.replicate n noughts).getD r default) r G), Value.int .i64 0]) (post' := fun _ => [isDisk pp (upD (List.replicate n noughts) G G.length)]) (read_c W0 pp (upD (List.replicate n noughts) G G.length) ((r : Nat) : Int) (by simp only [upD]; omega)) (fun _ => (by rw [upD_read_since (by simp; omega)])) (fun _ => rfl))) (fun _ _ => ?_)
          refine Wl.imp (L' := (isDisk pp (upD (List.replicate n noughts) G G.length)) :: (sl 9 1 v r (rsL (fun j => readL ((List.replicate n noughts).getD j default) j G) r)) :: F) (fun _ h => h) ?_
          refine Wl.q (v := Value.tuple #[Value.string (readL ((List.replicate n noughts).getD r default) r G), Value.int .i64 0]) (q_move rfl) ?_
          refine Wl.q (v := Value.string (readL ((List.replicate n noughts).getD r default) r G)) (q_extract (i := 0) rfl rfl) ?_
          refine Wl.q (v := Value.int .i64 0) (q_extract (i := 1) rfl rfl) ?_
          refine Wl.q (v := Value.string (readL ((List.replicate n noughts).getD r default) r G)) (q_assign rfl) ?_
          refine Wl.q (v := Value.int .i64 0) (q_assign rfl) ?_
          refine Wl.done ?_
          refine Wx.go ?_
          refine Wc.region ?_
          refine Wl.q (v := v) (q_move hE9_8) ?_
          refine Wl.q (v := Value.string (readL ((List.replicate n noughts).getD r default) r G)) (q_move rfl) ?_
          refine Wl.e (e_buildSlice (cs := [Value.string (readL ((List.replicate n noughts).getD r default) r G)]) se_38 zo_9 (by decide) (by decide) (by kernel_rfl)) (fun b11 _ => ?_)
          refine Wl.imp (L' := (pt b11 9 [Value.string (readL ((List.replicate n noughts).getD r default) r G)]) :: (isDisk pp (upD (List.replicate n noughts) G G.length)) :: (sl 9 1 v r (rsL (fun j => readL ((List.replicate n noughts).getD j default) j G) r)) :: F) (fun _ h => h) ?_
          refine Wl.e (e_append (i := 2) (k := 1) (m := 1) (off := 0) (news := [Value.string (readL ((List.replicate n noughts).getD r default) r G)]) Try.underlying38 sz_9 by_9 zo_9 rfl rfl rfl rfl rfl (Has.of_pt (i := 0) rfl rfl) rfl (by decide) (by simp only [maxLen]; omega) (by omega)) (fun v2 _ => ?_)
          refine Wl.imp (L' := (pt b11 9 [Value.string (readL ((List.replicate n noughts).getD r default) r G)]) :: (isDisk pp (upD (List.replicate n noughts) G G.length)) :: (sl 9 1 v2 (r + 1) ((rsL (fun j => readL ((List.replicate n noughts).getD j default) j G) r) ++ [Value.string (readL ((List.replicate n noughts).getD r default) r G)])) :: F) (fun _ h => h) ?_
          refine Wl.q (v := v2) (q_assign rfl) ?_
          refine Wl.done ?_
          refine Wx.blockEnd ?_
          refine Wx.go ?_
          refine Wc.region ?_
          refine Wl.q (v := Value.int .i64 ((r : Nat) : Int)) (q_move hE10_8) ?_
          refine Wl.q (v := Value.int .i64 ((r + 1 : Nat) : Int)) (q_add (c := ((r + 1 : Nat) : Int)) rfl rfl (by rw [wrap_i64] <;> omega)) ?_
          refine Wl.q (v := Value.int .i64 ((r + 1 : Nat) : Int)) (q_assign rfl) ?_
          refine Wl.done ?_
          refine Wx.at (r + 1, v2) ⟨(by simp only; omega), rfl, rfl, hE0_8, hE5_8, (by omega)⟩ (fun w hs => by rw [rs_succ]; exact (st_pull [1, 0] (st_drop (st_pull [0] hs))))
        ·
          have hend1 : r = n := by omega
          refine Wl.sl (i := 0) (m := r) rfl (by omega) (fun bw cw hv hcw => ?_)
          subst hv
          refine Wl.q (v := Value.bool false) (q_lss (r := false) rfl rfl (decide_eq_false hilt)) ?_
          refine Wl.done ?_
          refine Wx.go ?_
          refine Wc.no rfl ?_
          refine Wc.exit ?_
          refine Wx.thenExit ?_
          refine Wx.thenExit ?_
          refine Wx.out ?_
          refine Wx.go ?_
          refine Wc.seq ?_
          refine Wc.seq ?_
          refine Wc.region ?_
          refine Wl.q (v := Value.pointer (some ⟨pp, 0, none⟩)) (q_move hE5_8) ?_
          refine Wl.imp (L' := (isDisk pp (upD (List.replicate n noughts) G G.length)) :: (slp 9 1 bw cw (rsL (fun j => readL ((List.replicate n noughts).getD j default) j G) r)) :: F) (fun _ h => st_pull [1] h) ?_
          refine Wl.e (e_call (F := (slp 9 1 bw cw (rsL (fun j => readL ((List.replicate n noughts).getD j default) j G) r)) :: F) (args := [Value.pointer (some ⟨pp, 0, none⟩), Value.int .i64 6148914691236517205]) Try.call14 rfl (Con.eqs (val' := fun _ => Value.int .i64 0) (post' := fun _ => [isDisk pp (((upD (List.replicate n noughts) G G.length).crash 6148914691236517205).2)]) (crash_c W0 pp (upD (List.replicate n noughts) G G.length) 6148914691236517205 (wf_upDs hwG)) (fun _ => rfl) (fun _ => rfl))) (fun _ _ => ?_)
          refine Wl.imp (L' := (isDisk pp (((upD (List.replicate n noughts) G G.length).crash 6148914691236517205).2)) :: (slp 9 1 bw cw (rsL (fun j => readL ((List.replicate n noughts).getD j default) j G) r)) :: F) (fun _ h => h) ?_
          refine Wl.q (v := Value.bool false) (q_neq (r := true) rfl rfl (decide_eq_true (by decide))) ?_
          refine Wl.q (v := Value.bool false) (q_move rfl) ?_
          refine Wl.q (v := Value.pointer (some ⟨pp, 0, none⟩)) (q_move hE5_8) ?_
          refine Wl.e (e_call (F := (slp 9 1 bw cw (rsL (fun j => readL ((List.replicate n noughts).getD j default) j G) r)) :: F) (args := [Value.pointer (some ⟨pp, 0, none⟩)]) Try.call15 rfl (Con.eqs (val' := fun _ => Value.int .i64 0) (post' := fun _ => [isDisk pp (((((upD (List.replicate n noughts) G G.length).crash 6148914691236517205).2).start).2)]) (start_c W0 pp (((upD (List.replicate n noughts) G G.length).crash 6148914691236517205).2) ) (fun _ => rfl) (fun _ => rfl))) (fun _ _ => ?_)
          refine Wl.imp (L' := (isDisk pp (((((upD (List.replicate n noughts) G G.length).crash 6148914691236517205).2).start).2)) :: (slp 9 1 bw cw (rsL (fun j => readL ((List.replicate n noughts).getD j default) j G) r)) :: F) (fun _ h => h) ?_
          refine Wl.q (v := Value.bool false) (q_neq (r := true) rfl rfl (decide_eq_true (by decide))) ?_
          refine Wl.q (v := Value.bool false) (q_pick (t := false) rfl rfl) ?_
          refine Wl.done ?_
          refine Wx.go ?_
          refine Wc.no rfl ?_
          refine Wc.skip ?_
          refine Wx.go ?_
          refine Wc.seq ?_
          refine Wc.seq ?_
          refine Wc.region ?_
          refine Wl.q (v := Value.int .i64 0) (q_assign rfl) ?_
          refine Wl.done ?_
          refine Wx.go ?_
          refine Wc.block ?_
          refine Wc.loop (X := Nat) (fun i E => E 13 = Value.int .i64 ((i : Nat) : Int) ∧ E 0 = Value.int .i64 ((n : Nat) : Int) ∧ E 5 = Value.pointer (some ⟨pp, 0, none⟩) ∧ E 9 = Value.slice (some ⟨bw, 0, none⟩) r cw ∧ i ≤ n) (fun i => (slp 9 1 bw cw (rsL (fun j => readL ((List.replicate n noughts).getD j default) j G) r)) :: (isDisk pp (upD (syncL (List.replicate n noughts) G) [] G.length)) :: F) (fun i => n - i) 0 ?_ ?_ ?_
          · exact ⟨rfl, hE0_8, hE5_8, hE9_8, (by omega)⟩
          · exact fun w hs => by rw [kept_crash hG31] at hs; exact st_swap hs
          · rintro i E13 ⟨hE13_11, hE0_11, hE5_11, hE9_11, hi2⟩
            refine Wc.seq ?_
            refine Wc.seq ?_
            refine Wc.region ?_
            refine Wl.q (v := Value.int .i64 ((i : Nat) : Int)) (q_move hE13_11) ?_
            refine Wl.q (v := Value.int .i64 ((n : Nat) : Int)) (q_move hE0_11) ?_
            by_cases hclt : ((i : Nat) : Int) < ((n : Nat) : Int)
            ·
              refine Wl.q (v := Value.bool true) (q_lss (r := true) rfl rfl (decide_eq_true hclt)) ?_
              refine Wl.done ?_
              refine Wx.go ?_
              refine Wc.yes rfl ?_
              refine Wc.skip ?_
              refine Wx.go ?_
              refine Wc.seq ?_
              refine Wc.block ?_
              refine Wc.seq ?_
              refine Wc.region ?_
              refine Wl.q (v := Value.pointer (some ⟨pp, 0, none⟩)) (q_move hE5_11) ?_
              refine Wl.q (v := Value.int .i64 ((i : Nat) : Int)) (q_move hE13_11) ?_
              refine Wl.imp (L' := (isDisk pp (upD (syncL (List.replicate n noughts) G) [] G.length)) :: (slp 9 1 bw cw (rsL (fun j => readL ((List.replicate n noughts).getD j default) j G) r)) :: F) (fun _ h => st_pull [1] h) ?_
              refine Wl.e (e_call (F := (slp 9 1 bw cw (rsL (fun j => readL ((List.replicate n noughts).getD j default) j G) r)) :: F) (args := [Value.pointer (some ⟨pp, 0, none⟩), Value.int .i64 ((i : Nat) : Int)]) Try.call16 rfl (Con.eqs (val' := fun _ => Value.tuple #[Value.string (readL ((List.replicate n noughts).getD i default) i G), Value.int .i64 0]) (post' := fun _ => [isDisk pp (upD (syncL (List.replicate n noughts) G) [] G.length)]) (read_c W0 pp (upD (syncL (List.replicate n noughts) G) [] G.length) ((i : Nat) : Int) (by simp only [upD]; decide)) (fun _ => (by rw [kept_read hwG (by omega)])) (fun _ => rfl))) (fun _ _ => ?_)
              refine Wl.imp (L' := (isDisk pp (upD (syncL (List.replicate n noughts) G) [] G.length)) :: (slp 9 1 bw cw (rsL (fun j => readL ((List.replicate n noughts).getD j default) j G) r)) :: F) (fun _ h => h) ?_
              refine Wl.q (v := Value.tuple #[Value.string (readL ((List.replicate n noughts).getD i default) i G), Value.int .i64 0]) (q_move rfl) ?_
              refine Wl.q (v := Value.string (readL ((List.replicate n noughts).getD i default) i G)) (q_extract (i := 0) rfl rfl) ?_
              refine Wl.q (v := Value.int .i64 0) (q_extract (i := 1) rfl rfl) ?_
              refine Wl.q (v := Value.string (readL ((List.replicate n noughts).getD i default) i G)) (q_assign rfl) ?_
              refine Wl.q (v := Value.int .i64 0) (q_assign rfl) ?_
              refine Wl.done ?_
              refine Wx.go ?_
              refine Wc.seq ?_
              refine Wc.region ?_
              refine Wl.q (v := Value.int .i64 0) (q_move rfl) ?_
              refine Wl.q (v := Value.bool false) (q_neq (r := true) rfl rfl (decide_eq_true (by decide))) ?_
              refine Wl.q (v := Value.bool false) (q_move rfl) ?_
              refine Wl.q (v := Value.string (readL ((List.replicate n noughts).getD i default) i G)) (q_move rfl) ?_
              refine Wl.q (v := Value.slice (some ⟨bw, 0, none⟩) r cw) (q_move hE9_11) ?_
              refine Wl.q (v := Value.int .i64 ((i : Nat) : Int)) (q_move hE13_11) ?_
              refine Wl.q (v := Value.pointer (some ⟨bw, i, none⟩)) (q_idx (m := i) se_38 rfl rfl (by omega) (by omega) (by simp)) ?_
              refine Wl.q (v := Value.string (readL ((List.replicate n noughts).getD i default) i G)) (q_load sc_9 rfl (.row (i := 1) rfl (rs_get (by omega)))) ?_
              refine Wl.q (v := Value.bool false) (q_neq_str (r := true) rfl rfl (text_true (rfl))) ?_
              refine Wl.q (v := Value.bool false) (q_pick (t := false) rfl rfl) ?_
              refine Wl.done ?_
              refine Wx.go ?_
              refine Wc.no rfl ?_
              refine Wc.skip ?_
              refine Wx.blockEnd ?_
              refine Wx.go ?_
              refine Wc.region ?_
              refine Wl.q (v := Value.int .i64 ((i : Nat) : Int)) (q_move hE13_11) ?_
              refine Wl.q (v := Value.int .i64 ((i + 1 : Nat) : Int)) (q_add (c := ((i + 1 : Nat) : Int)) rfl rfl (by rw [wrap_i64] <;> omega)) ?_
              refine Wl.q (v := Value.int .i64 ((i + 1 : Nat) : Int)) (q_assign rfl) ?_
              refine Wl.done ?_
              refine Wx.at (i + 1) ⟨(by omega), rfl, hE0_11, hE5_11, hE9_11, (by omega)⟩ (fun w hs => (st_pull [1, 0] (hs)))
            ·
              refine Wl.q (v := Value.bool false) (q_lss (r := false) rfl rfl (decide_eq_false hclt)) ?_
              refine Wl.done ?_
              refine Wx.go ?_
              refine Wc.no rfl ?_
              refine Wc.exit ?_
              refine Wx.thenExit ?_
              refine Wx.thenExit ?_
              refine Wx.out ?_
              refine Wx.go ?_
              refine Wc.seq ?_
              refine Wc.region ?_
              refine Wl.e (e_call (F := (slp 9 1 bw cw (rsL (fun j => readL ((List.replicate n noughts).getD j default) j G) r)) :: (isDisk pp (upD (syncL (List.replicate n noughts) G) [] G.length)) :: F) (args := []) Try.call12 rfl (alive_c W0)) (fun _ _ => ?_)
              refine Wl.imp (L' := (slp 9 1 bw cw (rsL (fun j => readL ((List.replicate n noughts).getD j default) j G) r)) :: (isDisk pp (upD (syncL (List.replicate n noughts) G) [] G.length)) :: F) (fun _ h => h) ?_
              refine Wl.q (v := Value.bool true) (q_assign rfl) ?_
              refine Wl.done ?_
              refine Wx.go ?_
              refine Wc.ret ?_
              refine Wx.fin1 rfl (.inl rfl) (fun w hs => ?_)
              exact ⟨(), trivial, rfl, (st_drop (st_drop (st_pull [0, 0] hs)))⟩

end Go.Proofs.Ytbnglfbfgannhaa
