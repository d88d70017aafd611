/- The disk in memory, and contracts of its calls. -/
import Derived.Test.YtbnglfbfgannhaaDkG
import Derived.Test.YtbnglfbfgannhaaDkL
namespace Go.Proofs.Ytbnglfbfgannhaa
open Go Go.SL Go.Dk Go.RowKit
set_option linter.unusedVariables false
theorem zo_3 : zeroOf Try.prog 3 = some (Value.int .i64 0) := by kernel_rfl
theorem apart_low (W0 : World) (n : Int) (vl : Value) (l : List (Int × ByteArray)) (hl : Rd W0 vl l.length (flatI l)) (hn : n < 1) :
    Con Try.prog W0 5 #[Value.int .i64 n, vl] [] (X := Unit) (fun _ => True) (fun _ => .bool true) (fun _ => []) := by
  refine Con.of (args := [Value.int .i64 n, vl]) Try.func5 rfl Try.ntmps5 rfl (fun F => ?_)
  show Wc _ W0 _ _ _ _ _ (F)
  refine Wc.seq ?_
  refine Wc.region ?_
  refine Wl.q (v := Value.bool false) (q_assign rfl) ?_
  refine Wl.done ?_
  refine Wx.go ?_
  refine Wc.seq ?_
  refine Wc.region ?_
  refine Wl.q (v := Value.int .i64 n) (q_move rfl) ?_
  refine Wl.e (e_call (F := F) (args := [Value.int .i64 n]) Try.call10 rfl (new_low W0 n (by omega))) (fun _ _ => ?_)
  refine Wl.imp (L' := F) (fun _ h => h) ?_
  refine Wl.q (v := Value.tuple #[Value.pointer none, Value.int .i64 1]) (q_move rfl) ?_
  refine Wl.q (v := Value.pointer none) (q_extract (i := 0) rfl rfl) ?_
  refine Wl.q (v := Value.int .i64 1) (q_extract (i := 1) rfl rfl) ?_
  refine Wl.q (v := Value.pointer none) (q_assign rfl) ?_
  refine Wl.q (v := Value.int .i64 1) (q_assign rfl) ?_
  refine Wl.done ?_
  refine Wx.go ?_
  refine Wc.seq ?_
  refine Wc.seq ?_
  refine Wc.region ?_
  refine Wl.q (v := Value.int .i64 1) (q_move rfl) ?_
  refine Wl.q (v := Value.bool true) (q_neq (r := false) rfl rfl (decide_eq_false (by decide))) ?_
  refine Wl.q (v := Value.bool true) (q_move rfl) ?_
  refine Wl.no ?_
  refine Wl.no ?_
  refine Wl.no ?_
  refine Wl.no ?_
  refine Wl.q (v := Value.bool true) (q_pick (t := true) rfl rfl) ?_
  refine Wl.q (v := Value.bool true) (q_move rfl) ?_
  refine Wl.no ?_
  refine Wl.no ?_
  refine Wl.no ?_
  refine Wl.q (v := Value.bool true) (q_pick (t := true) rfl rfl) ?_
  refine Wl.q (v := Value.bool true) (q_move rfl) ?_
  refine Wl.no ?_
  refine Wl.no ?_
  refine Wl.q (v := Value.bool true) (q_pick (t := true) rfl rfl) ?_
  refine Wl.done ?_
  refine Wx.go ?_
  refine Wc.yes rfl ?_
  refine Wc.seq ?_
  refine Wc.region ?_
  refine Wl.e (e_call (F := F) (args := []) Try.call12 rfl (alive_c W0)) (fun _ _ => ?_)
  refine Wl.imp (L' := F) (fun _ h => h) ?_
  refine Wl.q (v := Value.bool true) (q_assign rfl) ?_
  refine Wl.done ?_
  refine Wx.go ?_
  refine Wc.ret ?_
  refine Wx.thenRet ?_
  refine Wx.fin1 rfl (.inl rfl) (fun w hs => ?_)
  exact ⟨(), trivial, rfl, hs⟩

theorem apart_high (W0 : World) (n : Int) (vl : Value) (l : List (Int × ByteArray)) (hl : Rd W0 vl l.length (flatI l)) (hn : n > 4096) :
    Con Try.prog W0 5 #[Value.int .i64 n, vl] [] (X := Unit) (fun _ => True) (fun _ => .bool true) (fun _ => []) := by
  refine Con.of (args := [Value.int .i64 n, vl]) Try.func5 rfl Try.ntmps5 rfl (fun F => ?_)
  show Wc _ W0 _ _ _ _ _ (F)
  refine Wc.seq ?_
  refine Wc.region ?_
  refine Wl.q (v := Value.bool false) (q_assign rfl) ?_
  refine Wl.done ?_
  refine Wx.go ?_
  refine Wc.seq ?_
  refine Wc.region ?_
  refine Wl.q (v := Value.int .i64 n) (q_move rfl) ?_
  refine Wl.e (e_call (F := F) (args := [Value.int .i64 n]) Try.call10 rfl (new_high W0 n (by omega))) (fun _ _ => ?_)
  refine Wl.imp (L' := F) (fun _ h => h) ?_
  refine Wl.q (v := Value.tuple #[Value.pointer none, Value.int .i64 3]) (q_move rfl) ?_
  refine Wl.q (v := Value.pointer none) (q_extract (i := 0) rfl rfl) ?_
  refine Wl.q (v := Value.int .i64 3) (q_extract (i := 1) rfl rfl) ?_
  refine Wl.q (v := Value.pointer none) (q_assign rfl) ?_
  refine Wl.q (v := Value.int .i64 3) (q_assign rfl) ?_
  refine Wl.done ?_
  refine Wx.go ?_
  refine Wc.seq ?_
  refine Wc.seq ?_
  refine Wc.region ?_
  refine Wl.q (v := Value.int .i64 3) (q_move rfl) ?_
  refine Wl.q (v := Value.bool true) (q_neq (r := false) rfl rfl (decide_eq_false (by decide))) ?_
  refine Wl.q (v := Value.bool true) (q_move rfl) ?_
  refine Wl.no ?_
  refine Wl.no ?_
  refine Wl.no ?_
  refine Wl.no ?_
  refine Wl.q (v := Value.bool true) (q_pick (t := true) rfl rfl) ?_
  refine Wl.q (v := Value.bool true) (q_move rfl) ?_
  refine Wl.no ?_
  refine Wl.no ?_
  refine Wl.no ?_
  refine Wl.q (v := Value.bool true) (q_pick (t := true) rfl rfl) ?_
  refine Wl.q (v := Value.bool true) (q_move rfl) ?_
  refine Wl.no ?_
  refine Wl.no ?_
  refine Wl.q (v := Value.bool true) (q_pick (t := true) rfl rfl) ?_
  refine Wl.done ?_
  refine Wx.go ?_
  refine Wc.yes rfl ?_
  refine Wc.seq ?_
  refine Wc.region ?_
  refine Wl.e (e_call (F := F) (args := []) Try.call12 rfl (alive_c W0)) (fun _ _ => ?_)
  refine Wl.imp (L' := F) (fun _ h => h) ?_
  refine Wl.q (v := Value.bool true) (q_assign rfl) ?_
  refine Wl.done ?_
  refine Wx.go ?_
  refine Wc.ret ?_
  refine Wx.thenRet ?_
  refine Wx.fin1 rfl (.inl rfl) (fun w hs => ?_)
  exact ⟨(), trivial, rfl, hs⟩

theorem apart_beyond (W0 : World) (n : Nat) (h1 : 1 ≤ n) (h2 : n ≤ 4096) (vl : Value) (l : List (Int × ByteArray)) (hl : Rd W0 vl l.length (flatI l)) (hb0 : beyondB [(l.length : Int)] = true) (hlen : l.length ≤ 9223372036854775807) :
    Con Try.prog W0 5 #[Value.int .i64 ((n : Nat) : Int), vl] [] (X := Unit) (fun _ => True) (fun _ => .bool true) (fun _ => []) := by
  refine Con.of (args := [Value.int .i64 ((n : Nat) : Int), vl]) Try.func5 rfl Try.ntmps5 rfl (fun F => ?_)
  show Wc _ W0 _ _ _ _ _ (F)
  refine Wc.seq ?_
  refine Wc.region ?_
  refine Wl.q (v := Value.bool false) (q_assign rfl) ?_
  refine Wl.done ?_
  refine Wx.go ?_
  refine Wc.seq ?_
  refine Wc.region ?_
  refine Wl.q (v := Value.int .i64 ((n : Nat) : Int)) (q_move rfl) ?_
  refine Wl.e (e_call (F := F) (args := [Value.int .i64 ((n : Nat) : Int)]) Try.call10 rfl (new_ok W0 n (by omega) (by omega))) (fun pp _ => ?_)
  refine Wl.imp (L' := (isDisk pp (DS.new n)) :: F) (fun _ h => h) ?_
  refine Wl.q (v := Value.tuple #[Value.pointer (some ⟨pp, 0, none⟩), Value.int .i64 0]) (q_move rfl) ?_
  refine Wl.q (v := Value.pointer (some ⟨pp, 0, none⟩)) (q_extract (i := 0) rfl rfl) ?_
  refine Wl.q (v := Value.int .i64 0) (q_extract (i := 1) rfl rfl) ?_
  refine Wl.q (v := Value.pointer (some ⟨pp, 0, none⟩)) (q_assign rfl) ?_
  refine Wl.q (v := Value.int .i64 0) (q_assign rfl) ?_
  refine Wl.done ?_
  refine Wx.go ?_
  refine Wc.seq ?_
  refine Wc.seq ?_
  refine Wc.region ?_
  refine Wl.q (v := Value.int .i64 0) (q_move rfl) ?_
  refine Wl.q (v := Value.bool false) (q_neq (r := true) rfl rfl (decide_eq_true (by decide))) ?_
  refine Wl.q (v := Value.bool false) (q_move rfl) ?_
  refine Wl.q (v := vl) (q_move rfl) ?_
  refine Wl.q (v := Value.int .i64 ((l.length : Nat) : Int)) (q_len_is Try.underlying22 rfl hl.shape) ?_
  refine Wl.e (e_buildSlice (cs := [Value.int .i64 ((l.length : Nat) : Int)]) se_58 zo_3 (by decide) (by decide) (by kernel_rfl)) (fun b1 _ => ?_)
  refine Wl.imp (L' := (pt b1 3 [Value.int .i64 ((l.length : Nat) : Int)]) :: (isDisk pp (DS.new n)) :: F) (fun _ h => h) ?_
  refine Wl.e (e_call (F := (isDisk pp (DS.new n)) :: F) (args := [Value.slice (some ⟨b1, 0, none⟩) 1 1]) Try.call11 rfl (Con.eqs (val' := fun _ => Value.bool true) (post' := fun _ => [pt b1 3 [Value.int .i64 ((l.length : Nat) : Int)]]) (beyond_c W0 b1 ([((l.length : Nat) : Int)] : List Int) (by simp) (by simp; omega)) (fun _ => congrArg Value.bool hb0) (fun _ => rfl))) (fun _ _ => ?_)
  refine Wl.imp (L' := (pt b1 3 [Value.int .i64 ((l.length : Nat) : Int)]) :: (isDisk pp (DS.new n)) :: F) (fun _ h => h) ?_
  refine Wl.q (v := Value.bool true) (q_pick (t := false) rfl rfl) ?_
  refine Wl.q (v := Value.bool true) (q_move rfl) ?_
  refine Wl.no ?_
  refine Wl.no ?_
  refine Wl.no ?_
  refine Wl.q (v := Value.bool true) (q_pick (t := true) rfl rfl) ?_
  refine Wl.q (v := Value.bool true) (q_move rfl) ?_
  refine Wl.no ?_
  refine Wl.no ?_
  refine Wl.q (v := Value.bool true) (q_pick (t := true) rfl rfl) ?_
  refine Wl.done ?_
  refine Wx.go ?_
  refine Wc.yes rfl ?_
  refine Wc.seq ?_
  refine Wc.region ?_
  refine Wl.e (e_call (F := (pt b1 3 [Value.int .i64 ((l.length : Nat) : Int)]) :: (isDisk pp (DS.new n)) :: F) (args := []) Try.call12 rfl (alive_c W0)) (fun _ _ => ?_)
  refine Wl.imp (L' := (pt b1 3 [Value.int .i64 ((l.length : Nat) : Int)]) :: (isDisk pp (DS.new n)) :: F) (fun _ h => h) ?_
  refine Wl.q (v := Value.bool true) (q_assign rfl) ?_
  refine Wl.done ?_
  refine Wx.go ?_
  refine Wc.ret ?_
  refine Wx.thenRet ?_
  refine Wx.fin1 rfl (.inl rfl) (fun w hs => ?_)
  exact ⟨(), trivial, rfl, (st_drop (st_drop (st_pull [0, 0] hs)))⟩

set_option maxRecDepth 4000 in
set_option maxHeartbeats 4000000 in
theorem apart_law (W0 : World) (n : Nat) (h1 : 1 ≤ n) (h2 : n ≤ 4096) (vl : Value) (l : List (Int × ByteArray)) (hl : Rd W0 vl l.length (flatI l)) (hb0 : beyondB [(l.length : Int)] = false) :
    Con Try.prog W0 5 #[Value.int .i64 ((n : Nat) : Int), vl] [] (X := Unit) (fun _ => True) (fun _ => .bool true) (fun _ => []) := by
  refine Con.of (args := [Value.int .i64 ((n : Nat) : Int), vl]) Try.func5 rfl Try.ntmps5 rfl (fun F => ?_)
  have hlen := beyond_one hb0
  show Wc _ W0 _ _ _ _ _ (F)
  refine Wc.seq ?_
  refine Wc.region ?_
  refine Wl.q (v := Value.bool false) (q_assign rfl) ?_
  refine Wl.done ?_
  refine Wx.go ?_
  refine Wc.seq ?_
  refine Wc.region ?_
  refine Wl.q (v := Value.int .i64 ((n : Nat) : Int)) (q_move rfl) ?_
  refine Wl.e (e_call (F := F) (args := [Value.int .i64 ((n : Nat) : Int)]) Try.call10 rfl (new_ok W0 n (by omega) (by omega))) (fun pp _ => ?_)
  refine Wl.imp (L' := (isDisk pp (DS.new n)) :: F) (fun _ h => h) ?_
  refine Wl.q (v := Value.tuple #[Value.pointer (some ⟨pp, 0, none⟩), Value.int .i64 0]) (q_move rfl) ?_
  refine Wl.q (v := Value.pointer (some ⟨pp, 0, none⟩)) (q_extract (i := 0) rfl rfl) ?_
  refine Wl.q (v := Value.int .i64 0) (q_extract (i := 1) rfl rfl) ?_
  refine Wl.q (v := Value.pointer (some ⟨pp, 0, none⟩)) (q_assign rfl) ?_
  refine Wl.q (v := Value.int .i64 0) (q_assign rfl) ?_
  refine Wl.done ?_
  refine Wx.go ?_
  refine Wc.seq ?_
  refine Wc.seq ?_
  refine Wc.region ?_
  refine Wl.q (v := Value.int .i64 0) (q_move rfl) ?_
  refine Wl.q (v := Value.bool false) (q_neq (r := true) rfl rfl (decide_eq_true (by decide))) ?_
  refine Wl.q (v := Value.bool false) (q_move rfl) ?_
  refine Wl.q (v := vl) (q_move rfl) ?_
  refine Wl.q (v := Value.int .i64 ((l.length : Nat) : Int)) (q_len_is Try.underlying22 rfl hl.shape) ?_
  refine Wl.e (e_buildSlice (cs := [Value.int .i64 ((l.length : Nat) : Int)]) se_58 zo_3 (by decide) (by decide) (by kernel_rfl)) (fun b1 _ => ?_)
  refine Wl.imp (L' := (pt b1 3 [Value.int .i64 ((l.length : Nat) : Int)]) :: (isDisk pp (DS.new n)) :: F) (fun _ h => h) ?_
  refine Wl.e (e_call (F := (isDisk pp (DS.new n)) :: F) (args := [Value.slice (some ⟨b1, 0, none⟩) 1 1]) Try.call11 rfl (Con.eqs (val' := fun _ => Value.bool false) (post' := fun _ => [pt b1 3 [Value.int .i64 ((l.length : Nat) : Int)]]) (beyond_c W0 b1 ([((l.length : Nat) : Int)] : List Int) (by simp) (by simp; omega)) (fun _ => congrArg Value.bool hb0) (fun _ => rfl))) (fun _ _ => ?_)
  refine Wl.imp (L' := (pt b1 3 [Value.int .i64 ((l.length : Nat) : Int)]) :: (isDisk pp (DS.new n)) :: F) (fun _ h => h) ?_
  refine Wl.q (v := Value.bool false) (q_pick (t := false) rfl rfl) ?_
  refine Wl.q (v := Value.bool false) (q_move rfl) ?_
  refine Wl.q (v := vl) (q_move rfl) ?_
  refine Wl.q (v := Value.int .i64 ((l.length : Nat) : Int)) (q_len_is Try.underlying22 rfl hl.shape) ?_
  by_cases hl200 : ((l.length : Nat) : Int) > 200
  ·
    refine Wl.q (v := Value.bool true) (q_gtr (r := true) rfl rfl (decide_eq_true hl200)) ?_
    refine Wl.q (v := Value.bool true) (q_pick (t := false) rfl rfl) ?_
    refine Wl.q (v := Value.bool true) (q_move rfl) ?_
    refine Wl.no ?_
    refine Wl.no ?_
    refine Wl.q (v := Value.bool true) (q_pick (t := true) rfl rfl) ?_
    refine Wl.done ?_
    refine Wx.go ?_
    refine Wc.yes rfl ?_
    refine Wc.seq ?_
    refine Wc.region ?_
    refine Wl.e (e_call (F := (pt b1 3 [Value.int .i64 ((l.length : Nat) : Int)]) :: (isDisk pp (DS.new n)) :: F) (args := []) Try.call12 rfl (alive_c W0)) (fun _ _ => ?_)
    refine Wl.imp (L' := (pt b1 3 [Value.int .i64 ((l.length : Nat) : Int)]) :: (isDisk pp (DS.new n)) :: F) (fun _ h => h) ?_
    refine Wl.q (v := Value.bool true) (q_assign rfl) ?_
    refine Wl.done ?_
    refine Wx.go ?_
    refine Wc.ret ?_
    refine Wx.thenRet ?_
    refine Wx.fin1 rfl (.inl rfl) (fun w hs => ?_)
    exact ⟨(), trivial, rfl, (st_drop (st_drop (st_pull [0, 0] hs)))⟩
  ·
    refine Wl.q (v := Value.bool false) (q_gtr (r := false) rfl rfl (decide_eq_false hl200)) ?_
    refine Wl.q (v := Value.bool false) (q_pick (t := false) rfl rfl) ?_
    refine Wl.q (v := Value.bool false) (q_move rfl) ?_
    refine Wl.q (v := Value.int .i64 ((n : Nat) : Int)) (q_move rfl) ?_
    by_cases hn64 : ((n : Nat) : Int) > 64
    ·
      refine Wl.q (v := Value.bool true) (q_gtr (r := true) rfl rfl (decide_eq_true hn64)) ?_
      refine Wl.q (v := Value.bool true) (q_pick (t := false) rfl rfl) ?_
      refine Wl.done ?_
      refine Wx.go ?_
      refine Wc.yes rfl ?_
      refine Wc.seq ?_
      refine Wc.region ?_
      refine Wl.e (e_call (F := (pt b1 3 [Value.int .i64 ((l.length : Nat) : Int)]) :: (isDisk pp (DS.new n)) :: F) (args := []) Try.call12 rfl (alive_c W0)) (fun _ _ => ?_)
      refine Wl.imp (L' := (pt b1 3 [Value.int .i64 ((l.length : Nat) : Int)]) :: (isDisk pp (DS.new n)) :: F) (fun _ h => h) ?_
      refine Wl.q (v := Value.bool true) (q_assign rfl) ?_
      refine Wl.done ?_
      refine Wx.go ?_
      refine Wc.ret ?_
      refine Wx.thenRet ?_
      refine Wx.fin1 rfl (.inl rfl) (fun w hs => ?_)
      exact ⟨(), trivial, rfl, (st_drop (st_drop (st_pull [0, 0] hs)))⟩
    ·
      refine Wl.q (v := Value.bool false) (q_gtr (r := false) rfl rfl (decide_eq_false hn64)) ?_
      refine Wl.q (v := Value.bool false) (q_pick (t := false) rfl rfl) ?_
      refine Wl.done ?_
      refine Wx.go ?_
      refine Wc.no rfl ?_
      refine Wc.skip ?_
      refine Wx.go ?_
      refine Wc.seq ?_
      refine Wc.region ?_
      refine Wl.q (v := Value.slice none 0 0) (q_assign rfl) ?_
      refine Wl.done ?_
      refine Wx.go ?_
      refine Wc.seq ?_
      refine Wc.seq ?_
      refine Wc.region ?_
      refine Wl.q (v := Value.int .i64 0) (q_assign rfl) ?_
      refine Wl.done ?_
      refine Wx.go ?_
      refine Wc.block ?_
      refine Wc.loop (X := Nat × Value) (fun (r, v) E => E 8 = Value.int .i64 ((r : Nat) : Int) ∧ E 7 = v ∧ E 0 = Value.int .i64 ((n : Nat) : Int) ∧ E 1 = vl ∧ E 5 = Value.pointer (some ⟨pp, 0, none⟩) ∧ r ≤ n) (fun (r, v) => (sl 9 1 v r (rsL (fun j => noughts) r)) :: (isDisk pp (DS.new n)) :: F) (fun (r, v) => n - r) (0, .slice none 0 0) ?_ ?_ ?_
      · exact ⟨rfl, rfl, rfl, rfl, rfl, (by omega)⟩
      · exact fun w hs => st_sl_nil (st_drop (st_pull [0] hs))
      · rintro ⟨r, v⟩ E3 ⟨hE8_1, hE7_1, hE0_1, hE1_1, hE5_1, hi0⟩
        dsimp only at *
        refine Wc.seq ?_
        refine Wc.seq ?_
        refine Wc.region ?_
        refine Wl.q (v := Value.int .i64 ((r : Nat) : Int)) (q_move hE8_1) ?_
        refine Wl.q (v := Value.int .i64 ((n : Nat) : Int)) (q_move hE0_1) ?_
        by_cases hilt : ((r : Nat) : Int) < ((n : Nat) : Int)
        ·
          refine Wl.q (v := Value.bool true) (q_lss (r := true) rfl rfl (decide_eq_true hilt)) ?_
          refine Wl.done ?_
          refine Wx.go ?_
          refine Wc.yes rfl ?_
          refine Wc.skip ?_
          refine Wx.go ?_
          refine Wc.seq ?_
          refine Wc.block ?_
          refine Wc.region ?_
          refine Wl.q (v := v) (q_move hE7_1) ?_
          refine Wl.e (e_call (F := (sl 9 1 v r (rsL (fun j => noughts) r)) :: (isDisk pp (DS.new n)) :: F) (args := []) Try.call17 rfl (noughts_c W0)) (fun _ _ => ?_)
          refine Wl.imp (L' := (sl 9 1 v r (rsL (fun j => noughts) r)) :: (isDisk pp (DS.new n)) :: F) (fun _ h => h) ?_
          refine Wl.e (e_buildSlice (cs := [Value.string noughts]) se_38 zo_9 (by decide) (by decide) (by kernel_rfl)) (fun b4 _ => ?_)
          refine Wl.imp (L' := (pt b4 9 [Value.string noughts]) :: (sl 9 1 v r (rsL (fun j => noughts) r)) :: (isDisk pp (DS.new n)) :: F) (fun _ h => h) ?_
          refine Wl.e (e_append (i := 1) (k := 1) (m := 1) (off := 0) (news := [Value.string noughts]) Try.underlying38 sz_9 by_9 zo_9 rfl rfl rfl rfl rfl (Has.of_pt (i := 0) rfl rfl) rfl (by decide) (by simp only [maxLen]; omega) (by omega)) (fun v2 _ => ?_)
          refine Wl.imp (L' := (pt b4 9 [Value.string noughts]) :: (sl 9 1 v2 (r + 1) ((rsL (fun j => noughts) r) ++ [Value.string noughts])) :: (isDisk pp (DS.new n)) :: F) (fun _ h => h) ?_
          refine Wl.q (v := v2) (q_assign rfl) ?_
          refine Wl.done ?_
          refine Wx.blockEnd ?_
          refine Wx.go ?_
          refine Wc.region ?_
          refine Wl.q (v := Value.int .i64 ((r : Nat) : Int)) (q_move hE8_1) ?_
          refine Wl.q (v := Value.int .i64 ((r + 1 : Nat) : Int)) (q_add (c := ((r + 1 : Nat) : Int)) rfl rfl (by rw [wrap_i64] <;> omega)) ?_
          refine Wl.q (v := Value.int .i64 ((r + 1 : Nat) : Int)) (q_assign rfl) ?_
          refine Wl.done ?_
          refine Wx.at (r + 1, v2) ⟨(by simp only; omega), rfl, rfl, hE0_1, hE1_1, hE5_1, (by omega)⟩ (fun w hs => by rw [rs_succ]; exact (st_drop (st_pull [0] hs)))
        ·
          have hend0 : r = n := by omega
          refine Wl.sl (i := 0) (m := r) rfl (by omega) (fun bw cw hv hcw => ?_)
          subst hv
          refine Wl.q (v := Value.bool false) (q_lss (r := false) rfl rfl (decide_eq_false hilt)) ?_
          refine Wl.done ?_
          refine Wx.go ?_
          refine Wc.no rfl ?_
          refine Wc.exit ?_
          refine Wx.thenExit ?_
          refine Wx.thenExit ?_
          refine Wx.out ?_
          refine Wx.go ?_
          refine Wc.seq ?_
          refine Wc.seq ?_
          refine Wc.region ?_
          refine Wl.q (v := Value.int .i64 0) (q_assign rfl) ?_
          refine Wl.done ?_
          refine Wx.go ?_
          refine Wc.block ?_
          refine Wc.loop (X := Nat × List ByteArray × List (Nat × ByteArray) × Nat × List ByteArray) (fun (k, S, G, c, Ws) E => E 9 = Value.int .i64 ((k : Nat) : Int) ∧ E 0 = Value.int .i64 ((n : Nat) : Int) ∧ E 1 = vl ∧ E 5 = Value.pointer (some ⟨pp, 0, none⟩) ∧ E 7 = Value.slice (some ⟨bw, 0, none⟩) r cw ∧ k ≤ l.length ∧ Ap n S G Ws ∧ G.length ≤ k ∧ c ≤ 2 * k) (fun (k, S, G, c, Ws) => (slp 9 1 bw cw (Ws.map Value.string)) :: (isDisk pp (upD S G c)) :: F) (fun (k, S, G, c, Ws) => l.length - k) (0, List.replicate n noughts, [], 0, List.replicate n noughts) ?_ ?_ ?_
          · exact ⟨rfl, hE0_1, hE1_1, hE5_1, hE7_1, (by omega), (Ap.start h2), (by simp), (by omega)⟩
          · exact fun w hs => by rw [rs_const hend0] at hs; exact hs
          · rintro ⟨k, S, G, c, Ws⟩ E6 ⟨hE9_4, hE0_4, hE1_4, hE5_4, hE7_4, hp0, hAp, hG, hc⟩
            dsimp only at *
            refine Wc.seq ?_
            refine Wc.seq ?_
            refine Wc.region ?_
            refine Wl.q (v := Value.int .i64 ((k : Nat) : Int)) (q_move hE9_4) ?_
            refine Wl.q (v := vl) (q_move hE1_4) ?_
            refine Wl.q (v := Value.int .i64 ((l.length : Nat) : Int)) (q_len_is Try.underlying22 rfl hl.shape) ?_
            by_cases hlt : ((k : Nat) : Int) < ((l.length : Nat) : Int)
            ·
              obtain ⟨q, hget⟩ : ∃ q, l[k]? = some q := ⟨l[k]'(by omega), by simp [List.getElem?_eq_getElem (show k < l.length by omega)]⟩
              refine Wl.q (v := Value.bool true) (q_lss (r := true) rfl rfl (decide_eq_true hlt)) ?_
              refine Wl.done ?_
              refine Wx.go ?_
              refine Wc.yes rfl ?_
              refine Wc.skip ?_
              refine Wx.go ?_
              refine Wc.seq ?_
              refine Wc.block ?_
              refine Wc.seq ?_
              refine Wc.drawsS [11] ((slp 9 1 bw cw (Ws.map Value.string)) :: (isDisk pp (upD S G c)) :: []) (by kernel_rfl) ?_
              refine Wr.pure (v := Value.pointer (some ⟨pp, 0, none⟩)) 0 rfl (by kernel_rfl) (.inr (fun _ h => st_take [0, 0] h)) (.inl ⟨rfl, fun _ => q_move hE5_4⟩) ?_
              refine Wr.pure (v := vl) 1 rfl (by kernel_rfl) (.inr (fun _ h => st_take [0, 0] h)) (.inl ⟨rfl, fun _ => q_move hE1_4⟩) ?_
              refine Wr.pure (v := Value.int .i64 ((k : Nat) : Int)) 2 rfl (by kernel_rfl) (.inr (fun _ h => st_take [0, 0] h)) (.inl ⟨rfl, fun _ => q_move hE9_4⟩) ?_
              refine Wr.pure (v := Value.pointer (some ⟨(rb vl), ro vl + k * 2, none⟩)) 3 rfl (by kernel_rfl) (.inr (fun _ h => st_take [0, 0] h)) (.inl ⟨rfl, fun _ => q_idx_is (m := ro vl + k * 2) se_22 rfl (hl.some_ (by omega)) rfl (by omega) (by omega) rfl⟩) ?_
              refine Wr.pure (v := Value.pointer (some ⟨(rb vl), ro vl + k * 2, none⟩)) 4 rfl (by kernel_rfl) (.inr (fun _ h => st_take [0, 0] h)) (.inl ⟨rfl, fun _ => q_field (m := ro vl + k * 2) fo_31_0 rfl rfl⟩) ?_
              refine Wr.take (v := Value.int .i64 q.1) 5 rfl (by kernel_rfl) (fun _ h => st_take [0, 0] h) (.inl ⟨rfl, q_load sc_3 rfl (.old ((rdW hl hget).1))⟩) ?_
              refine Wr.pure (v := vl) 6 rfl (by kernel_rfl) (.inr (fun _ h => st_take [0, 0] h)) (.inl ⟨rfl, fun _ => q_move hE1_4⟩) ?_
              refine Wr.pure (v := Value.int .i64 ((k : Nat) : Int)) 7 rfl (by kernel_rfl) (.inr (fun _ h => st_take [0, 0] h)) (.inl ⟨rfl, fun _ => q_move hE9_4⟩) ?_
              refine Wr.pure (v := Value.pointer (some ⟨(rb vl), ro vl + k * 2, none⟩)) 8 rfl (by kernel_rfl) (.inr (fun _ h => st_take [0, 0] h)) (.inl ⟨rfl, fun _ => q_idx_is (m := ro vl + k * 2) se_22 rfl (hl.some_ (by omega)) rfl (by omega) (by omega) rfl⟩) ?_
              refine Wr.pure (v := Value.pointer (some ⟨(rb vl), ro vl + k * 2 + 1, none⟩)) 9 rfl (by kernel_rfl) (.inr (fun _ h => st_take [0, 0] h)) (.inl ⟨rfl, fun _ => q_field (m := ro vl + k * 2 + 1) fo_31_1 rfl rfl⟩) ?_
              refine Wr.take (v := Value.string q.2) 10 rfl (by kernel_rfl) (fun _ h => st_take [0, 0] h) (.inl ⟨rfl, q_load sc_9 rfl (.old ((rdW hl hget).2))⟩) ?_
              refine Wr.imp (L' := (isDisk pp (upD S G c)) :: (slp 9 1 bw cw (Ws.map Value.string)) :: F) (fun _ h => st_pull [1] h) ?_
              refine Wr.e 11 (by kernel_rfl) rfl (e_call (F := (slp 9 1 bw cw (Ws.map Value.string)) :: F) (args := [Value.pointer (some ⟨pp, 0, none⟩), Value.int .i64 q.1, Value.string q.2]) Try.call13 rfl (Con.eqs (val' := fun _ => Value.int .i64 (okN n q)) (post' := fun _ => [isDisk pp (upD S (G ++ (good n q).toList) (c + (good n q).toList.length))]) (write_c W0 pp (upD S G c) q.1 q.2 (wf_upDs hAp.wf) (by simp only [upD]; omega) (by simp only [upD]; omega)) (fun _ => (by rw [(upD_write hAp.len q).2])) (fun _ => (by rw [(upD_write hAp.len q).1])))) (.inl (by kernel_rfl)) (fun _ _ => ?_)
              refine Wr.imp (L' := (isDisk pp (upD S (G ++ (good n q).toList) (c + (good n q).toList.length))) :: (slp 9 1 bw cw (Ws.map Value.string)) :: F) (fun _ h => h) ?_
              refine Wr.rebaseS [] ((isDisk pp (upD S (G ++ (good n q).toList) (c + (good n q).toList.length))) :: (slp 9 1 bw cw (Ws.map Value.string)) :: []) (by kernel_rfl) ?_
              refine Wr.pure (v := Value.int .i64 (okN n q)) 12 rfl (by kernel_rfl) (.inr (fun _ h => st_take [0, 0] h)) (.inl ⟨rfl, fun _ => q_assign rfl⟩) ?_
              refine Wr.done (by kernel_rfl) ?_
              refine Wx.go ?_
              refine Wc.seq ?_
              refine Wc.region ?_
              refine Wl.q (v := vl) (q_move hE1_4) ?_
              refine Wl.q (v := Value.int .i64 ((k : Nat) : Int)) (q_move hE9_4) ?_
              refine Wl.q (v := Value.pointer (some ⟨(rb vl), ro vl + k * 2, none⟩)) (q_idx_is (m := ro vl + k * 2) se_22 rfl (hl.some_ (by omega)) rfl (by omega) (by omega) rfl) ?_
              refine Wl.q (v := Value.pointer (some ⟨(rb vl), ro vl + k * 2, none⟩)) (q_field (m := ro vl + k * 2) fo_31_0 rfl rfl) ?_
              refine Wl.q (v := Value.int .i64 q.1) (q_load sc_3 rfl (.old ((rdW hl hget).1))) ?_
              by_cases ha0 : q.1 ≥ 0
              ·
                refine Wl.q (v := Value.bool true) (q_geq (r := true) rfl rfl (decide_eq_true ha0)) ?_
                refine Wl.q (v := Value.bool true) (q_move rfl) ?_
                refine Wl.q (v := vl) (q_move hE1_4) ?_
                refine Wl.q (v := Value.int .i64 ((k : Nat) : Int)) (q_move hE9_4) ?_
                refine Wl.q (v := Value.pointer (some ⟨(rb vl), ro vl + k * 2, none⟩)) (q_idx_is (m := ro vl + k * 2) se_22 rfl (hl.some_ (by omega)) rfl (by omega) (by omega) rfl) ?_
                refine Wl.q (v := Value.pointer (some ⟨(rb vl), ro vl + k * 2, none⟩)) (q_field (m := ro vl + k * 2) fo_31_0 rfl rfl) ?_
                refine Wl.q (v := Value.int .i64 q.1) (q_load sc_3 rfl (.old ((rdW hl hget).1))) ?_
                refine Wl.q (v := Value.int .i64 ((n : Nat) : Int)) (q_move hE0_4) ?_
                by_cases ha1 : q.1 < ((n : Nat) : Int)
                ·
                  refine Wl.q (v := Value.bool true) (q_lss (r := true) rfl rfl (decide_eq_true ha1)) ?_
                  refine Wl.q (v := Value.bool true) (q_pick (t := true) rfl rfl) ?_
                  refine Wl.q (v := Value.bool true) (q_move rfl) ?_
                  refine Wl.q (v := vl) (q_move hE1_4) ?_
                  refine Wl.q (v := Value.int .i64 ((k : Nat) : Int)) (q_move hE9_4) ?_
                  refine Wl.q (v := Value.pointer (some ⟨(rb vl), ro vl + k * 2, none⟩)) (q_idx_is (m := ro vl + k * 2) se_22 rfl (hl.some_ (by omega)) rfl (by omega) (by omega) rfl) ?_
                  refine Wl.q (v := Value.pointer (some ⟨(rb vl), ro vl + k * 2 + 1, none⟩)) (q_field (m := ro vl + k * 2 + 1) fo_31_1 rfl rfl) ?_
                  refine Wl.q (v := Value.string q.2) (q_load sc_9 rfl (.old ((rdW hl hget).2))) ?_
                  refine Wl.q (v := Value.int .i64 ((q.2.size : Nat) : Int)) (q_len_str Try.underlying9 rfl) ?_
                  by_cases ha2 : ((q.2.size : Nat) : Int) = 64
                  ·
                    obtain ⟨a, ha⟩ := Int.eq_ofNat_of_zero_le ha0
                    have hg : good n q = some (a, q.2) := good_yes ha ha1 ha2
                    have han : a < n := by omega
                    refine Wl.q (v := Value.bool true) (q_eql (r := true) rfl rfl (decide_eq_true ha2)) ?_
                    refine Wl.q (v := Value.bool true) (q_pick (t := true) rfl rfl) ?_
                    refine Wl.q (v := Value.bool true) (q_assign rfl) ?_
                    refine Wl.done ?_
                    refine Wx.go ?_
                    refine Wc.seq ?_
                    refine Wc.seq ?_
                    refine Wc.region ?_
                    refine Wl.q (v := Value.int .i64 (okN n q)) (q_move rfl) ?_
                    refine Wl.q (v := Value.bool true) (q_eql (r := true) rfl rfl (decide_eq_true (okN_yes ha0 ha1 ha2))) ?_
                    refine Wl.q (v := Value.bool true) (q_move rfl) ?_
                    refine Wl.q (v := Value.bool false) (q_neq_bool (r := true) rfl rfl Try.underlying4 rfl) ?_
                    refine Wl.done ?_
                    refine Wx.go ?_
                    refine Wc.no rfl ?_
                    refine Wc.skip ?_
                    refine Wx.go ?_
                    refine Wc.seq ?_
                    refine Wc.seq ?_
                    refine Wc.region ?_
                    refine Wl.q (v := Value.bool true) (q_move rfl) ?_
                    refine Wl.done ?_
                    refine Wx.go ?_
                    refine Wc.yes rfl ?_
                    refine Wc.drawsS [12] ((isDisk pp (upD S (G ++ (good n q).toList) (c + (good n q).toList.length))) :: []) (by kernel_rfl) ?_
                    refine Wr.pure (v := Value.slice (some ⟨bw, 0, none⟩) r cw) 0 rfl (by kernel_rfl) (.inr (fun _ h => st_take [0] h)) (.inl ⟨rfl, fun _ => q_move hE7_4⟩) ?_
                    refine Wr.pure (v := vl) 1 rfl (by kernel_rfl) (.inr (fun _ h => st_take [0] h)) (.inl ⟨rfl, fun _ => q_move hE1_4⟩) ?_
                    refine Wr.pure (v := Value.int .i64 ((k : Nat) : Int)) 2 rfl (by kernel_rfl) (.inr (fun _ h => st_take [0] h)) (.inl ⟨rfl, fun _ => q_move hE9_4⟩) ?_
                    refine Wr.pure (v := Value.pointer (some ⟨(rb vl), ro vl + k * 2, none⟩)) 3 rfl (by kernel_rfl) (.inr (fun _ h => st_take [0] h)) (.inl ⟨rfl, fun _ => q_idx_is (m := ro vl + k * 2) se_22 rfl (hl.some_ (by omega)) rfl (by omega) (by omega) rfl⟩) ?_
                    refine Wr.pure (v := Value.pointer (some ⟨(rb vl), ro vl + k * 2, none⟩)) 4 rfl (by kernel_rfl) (.inr (fun _ h => st_take [0] h)) (.inl ⟨rfl, fun _ => q_field (m := ro vl + k * 2) fo_31_0 rfl rfl⟩) ?_
                    refine Wr.take (v := Value.int .i64 ((a : Nat) : Int)) 5 rfl (by kernel_rfl) (fun _ h => st_take [0] h) (.inl ⟨rfl, q_load sc_3 rfl (.old (by rw [← ha]; exact (rdW hl hget).1))⟩) ?_
                    refine Wr.pure (v := vl) 6 rfl (by kernel_rfl) (.inr (fun _ h => st_take [0] h)) (.inl ⟨rfl, fun _ => q_move hE1_4⟩) ?_
                    refine Wr.pure (v := Value.int .i64 ((k : Nat) : Int)) 7 rfl (by kernel_rfl) (.inr (fun _ h => st_take [0] h)) (.inl ⟨rfl, fun _ => q_move hE9_4⟩) ?_
                    refine Wr.pure (v := Value.pointer (some ⟨(rb vl), ro vl + k * 2, none⟩)) 8 rfl (by kernel_rfl) (.inr (fun _ h => st_take [0] h)) (.inl ⟨rfl, fun _ => q_idx_is (m := ro vl + k * 2) se_22 rfl (hl.some_ (by omega)) rfl (by omega) (by omega) rfl⟩) ?_
                    refine Wr.pure (v := Value.pointer (some ⟨(rb vl), ro vl + k * 2 + 1, none⟩)) 9 rfl (by kernel_rfl) (.inr (fun _ h => st_take [0] h)) (.inl ⟨rfl, fun _ => q_field (m := ro vl + k * 2 + 1) fo_31_1 rfl rfl⟩) ?_
                    refine Wr.take (v := Value.string q.2) 10 rfl (by kernel_rfl) (fun _ h => st_take [0] h) (.inl ⟨rfl, q_load sc_9 rfl (.old ((rdW hl hget).2))⟩) ?_
                    refine Wr.pure (v := Value.pointer (some ⟨bw, a, none⟩)) 11 rfl (by kernel_rfl) (.inr (fun _ h => st_take [0] h)) (.inl ⟨rfl, fun _ => q_idx (m := a) se_38 rfl rfl (by omega) (by omega) (by simp)⟩) ?_
                    refine Wr.e 12 (by kernel_rfl) rfl (e_store_slp (i := 1) (vs := [Value.string q.2]) (c' := (Ws.set a q.2).map Value.string) sz_9 rfl (congrArg Value.cells (rfl)) rfl rfl (by have := hAp.wl; simp; omega) (splice_one (by have := hAp.wl; omega))) (.inl (by kernel_rfl)) (fun _ _ => ?_)
                    refine Wr.imp (L' := (isDisk pp (upD S (G ++ (good n q).toList) (c + (good n q).toList.length))) :: (slp 9 1 bw cw ((Ws.set a q.2).map Value.string)) :: F) (fun _ h => h) ?_
                    refine Wr.rebaseS [] ((isDisk pp (upD S (G ++ (good n q).toList) (c + (good n q).toList.length))) :: (slp 9 1 bw cw ((Ws.set a q.2).map Value.string)) :: []) (by kernel_rfl) ?_
                    refine Wr.done (by kernel_rfl) ?_
                    refine Wx.go ?_
                    refine Wc.seq ?_
                    refine Wc.region ?_
                    refine Wl.q (v := Value.int .i64 ((k : Nat) : Int)) (q_move hE9_4) ?_
                    refine Wl.q (v := Value.int .i64 (((k % 3) : Nat) : Int)) (q_rem (c := (((k % 3) : Nat) : Int)) rfl rfl (by decide) (by rw [Int.tmod_eq_emod_of_nonneg (by omega)]; omega)) ?_
                    by_cases h3 : (((k % 3) : Nat) : Int) = 0
                    ·
                      refine Wl.q (v := Value.bool true) (q_eql (r := true) rfl rfl (decide_eq_true h3)) ?_
                      refine Wl.q (v := Value.bool true) (q_move rfl) ?_
                      refine Wl.q (v := Value.pointer (some ⟨pp, 0, none⟩)) (q_move hE5_4) ?_
                      refine Wl.e (e_call (F := (slp 9 1 bw cw ((Ws.set a q.2).map Value.string)) :: F) (args := [Value.pointer (some ⟨pp, 0, none⟩)]) Try.call18 rfl (Con.eqs (val' := fun _ => Value.int .i64 0) (post' := fun _ => [isDisk pp (((upD S (G ++ (good n q).toList) (c + (good n q).toList.length)).sync).2)]) (sync_c W0 pp (upD S (G ++ (good n q).toList) (c + (good n q).toList.length))  (by rw [hg]; exact wf_upDs (by first | exact (hAp.write han (by omega)).wf | (rw [show G ++ (none : Option (Nat × ByteArray)).toList = G from List.append_nil G]; exact hAp.wf))) (by rw [hg]; simp [upD]; omega) (by rw [hg]; simp [upD]; omega)) (fun _ => rfl) (fun _ => rfl))) (fun _ _ => ?_)
                      refine Wl.imp (L' := (isDisk pp (((upD S (G ++ (good n q).toList) (c + (good n q).toList.length)).sync).2)) :: (slp 9 1 bw cw ((Ws.set a q.2).map Value.string)) :: F) (fun _ h => h) ?_
                      refine Wl.q (v := Value.bool false) (q_neq (r := true) rfl rfl (decide_eq_true (by decide))) ?_
                      refine Wl.q (v := Value.bool false) (q_pick (t := true) rfl rfl) ?_
                      refine Wl.done ?_
                      refine Wx.go ?_
                      refine Wc.no rfl ?_
                      refine Wc.skip ?_
                      refine Wx.blockEnd ?_
                      refine Wx.go ?_
                      refine Wc.region ?_
                      refine Wl.q (v := Value.int .i64 ((k : Nat) : Int)) (q_move hE9_4) ?_
                      refine Wl.q (v := Value.int .i64 ((k + 1 : Nat) : Int)) (q_add (c := ((k + 1 : Nat) : Int)) rfl rfl (by rw [wrap_i64] <;> omega)) ?_
                      refine Wl.q (v := Value.int .i64 ((k + 1 : Nat) : Int)) (q_assign rfl) ?_
                      refine Wl.done ?_
                      refine Wx.at (k + 1, (syncL S (G ++ [(a, q.2)])), [], ((c + 1) + 1), (Ws.set a q.2)) ⟨(by simp only; omega), rfl, hE0_4, hE1_4, hE5_4, hE7_4, (by omega), (hAp.write han (by omega)).sync, (by simp), (by simp only; omega)⟩ (fun w hs => by simp only [hg, Option.toList_some, Option.toList_none, List.append_nil, List.length_singleton, List.length_nil, Nat.add_zero] at hs; exact (st_pull [1, 0] (hs)))
                    ·
                      refine Wl.q (v := Value.bool false) (q_eql (r := false) rfl rfl (decide_eq_false h3)) ?_
                      refine Wl.q (v := Value.bool false) (q_move rfl) ?_
                      refine Wl.no ?_
                      refine Wl.no ?_
                      refine Wl.no ?_
                      refine Wl.q (v := Value.bool false) (q_pick (t := false) rfl rfl) ?_
                      refine Wl.done ?_
                      refine Wx.go ?_
                      refine Wc.no rfl ?_
                      refine Wc.skip ?_
                      refine Wx.blockEnd ?_
                      refine Wx.go ?_
                      refine Wc.region ?_
                      refine Wl.q (v := Value.int .i64 ((k : Nat) : Int)) (q_move hE9_4) ?_
                      refine Wl.q (v := Value.int .i64 ((k + 1 : Nat) : Int)) (q_add (c := ((k + 1 : Nat) : Int)) rfl rfl (by rw [wrap_i64] <;> omega)) ?_
                      refine Wl.q (v := Value.int .i64 ((k + 1 : Nat) : Int)) (q_assign rfl) ?_
                      refine Wl.done ?_
                      refine Wx.at (k + 1, S, (G ++ [(a, q.2)]), (c + 1), (Ws.set a q.2)) ⟨(by simp only; omega), rfl, hE0_4, hE1_4, hE5_4, hE7_4, (by omega), (hAp.write han (by omega)), (by rw [List.length_append]; simp only [List.length_singleton]; omega), (by simp only; omega)⟩ (fun w hs => by simp only [hg, Option.toList_some, Option.toList_none, List.append_nil, List.length_singleton, List.length_nil, Nat.add_zero] at hs; exact (st_pull [1, 0] (hs)))
                  ·
                    have hg : good n q = none := good_no (fun h => ha2 h.2.2)
                    refine Wl.q (v := Value.bool false) (q_eql (r := false) rfl rfl (decide_eq_false ha2)) ?_
                    refine Wl.q (v := Value.bool false) (q_pick (t := true) rfl rfl) ?_
                    refine Wl.q (v := Value.bool false) (q_assign rfl) ?_
                    refine Wl.done ?_
                    refine Wx.go ?_
                    refine Wc.seq ?_
                    refine Wc.seq ?_
                    refine Wc.region ?_
                    refine Wl.q (v := Value.int .i64 (okN n q)) (q_move rfl) ?_
                    refine Wl.q (v := Value.bool false) (q_eql (r := false) rfl rfl (decide_eq_false (okN_no (fun h => ha2 h.2.2)))) ?_
                    refine Wl.q (v := Value.bool false) (q_move rfl) ?_
                    refine Wl.q (v := Value.bool false) (q_neq_bool (r := true) rfl rfl Try.underlying4 rfl) ?_
                    refine Wl.done ?_
                    refine Wx.go ?_
                    refine Wc.no rfl ?_
                    refine Wc.skip ?_
                    refine Wx.go ?_
                    refine Wc.seq ?_
                    refine Wc.seq ?_
                    refine Wc.region ?_
                    refine Wl.q (v := Value.bool false) (q_move rfl) ?_
                    refine Wl.done ?_
                    refine Wx.go ?_
                    refine Wc.no rfl ?_
                    refine Wc.skip ?_
                    refine Wx.go ?_
                    refine Wc.seq ?_
                    refine Wc.region ?_
                    refine Wl.q (v := Value.int .i64 ((k : Nat) : Int)) (q_move hE9_4) ?_
                    refine Wl.q (v := Value.int .i64 (((k % 3) : Nat) : Int)) (q_rem (c := (((k % 3) : Nat) : Int)) rfl rfl (by decide) (by rw [Int.tmod_eq_emod_of_nonneg (by omega)]; omega)) ?_
                    by_cases h3 : (((k % 3) : Nat) : Int) = 0
                    ·
                      refine Wl.q (v := Value.bool true) (q_eql (r := true) rfl rfl (decide_eq_true h3)) ?_
                      refine Wl.q (v := Value.bool true) (q_move rfl) ?_
                      refine Wl.q (v := Value.pointer (some ⟨pp, 0, none⟩)) (q_move hE5_4) ?_
                      refine Wl.e (e_call (F := (slp 9 1 bw cw (Ws.map Value.string)) :: F) (args := [Value.pointer (some ⟨pp, 0, none⟩)]) Try.call18 rfl (Con.eqs (val' := fun _ => Value.int .i64 0) (post' := fun _ => [isDisk pp (((upD S (G ++ (good n q).toList) (c + (good n q).toList.length)).sync).2)]) (sync_c W0 pp (upD S (G ++ (good n q).toList) (c + (good n q).toList.length))  (by rw [hg]; exact wf_upDs (by first | exact (hAp.write han (by omega)).wf | (rw [show G ++ (none : Option (Nat × ByteArray)).toList = G from List.append_nil G]; exact hAp.wf))) (by rw [hg]; simp [upD]; omega) (by rw [hg]; simp [upD]; omega)) (fun _ => rfl) (fun _ => rfl))) (fun _ _ => ?_)
                      refine Wl.imp (L' := (isDisk pp (((upD S (G ++ (good n q).toList) (c + (good n q).toList.length)).sync).2)) :: (slp 9 1 bw cw (Ws.map Value.string)) :: F) (fun _ h => h) ?_
                      refine Wl.q (v := Value.bool false) (q_neq (r := true) rfl rfl (decide_eq_true (by decide))) ?_
                      refine Wl.q (v := Value.bool false) (q_pick (t := true) rfl rfl) ?_
                      refine Wl.done ?_
                      refine Wx.go ?_
                      refine Wc.no rfl ?_
                      refine Wc.skip ?_
                      refine Wx.blockEnd ?_
                      refine Wx.go ?_
                      refine Wc.region ?_
                      refine Wl.q (v := Value.int .i64 ((k : Nat) : Int)) (q_move hE9_4) ?_
                      refine Wl.q (v := Value.int .i64 ((k + 1 : Nat) : Int)) (q_add (c := ((k + 1 : Nat) : Int)) rfl rfl (by rw [wrap_i64] <;> omega)) ?_
                      refine Wl.q (v := Value.int .i64 ((k + 1 : Nat) : Int)) (q_assign rfl) ?_
                      refine Wl.done ?_
                      refine Wx.at (k + 1, (syncL S G), [], (c + 1), Ws) ⟨(by simp only; omega), rfl, hE0_4, hE1_4, hE5_4, hE7_4, (by omega), hAp.sync, (by simp), (by simp only; omega)⟩ (fun w hs => by simp only [hg, Option.toList_some, Option.toList_none, List.append_nil, List.length_singleton, List.length_nil, Nat.add_zero] at hs; exact (st_pull [1, 0] (hs)))
                    ·
                      refine Wl.q (v := Value.bool false) (q_eql (r := false) rfl rfl (decide_eq_false h3)) ?_
                      refine Wl.q (v := Value.bool false) (q_move rfl) ?_
                      refine Wl.no ?_
                      refine Wl.no ?_
                      refine Wl.no ?_
                      refine Wl.q (v := Value.bool false) (q_pick (t := false) rfl rfl) ?_
                      refine Wl.done ?_
                      refine Wx.go ?_
                      refine Wc.no rfl ?_
                      refine Wc.skip ?_
                      refine Wx.blockEnd ?_
                      refine Wx.go ?_
                      refine Wc.region ?_
                      refine Wl.q (v := Value.int .i64 ((k : Nat) : Int)) (q_move hE9_4) ?_
                      refine Wl.q (v := Value.int .i64 ((k + 1 : Nat) : Int)) (q_add (c := ((k + 1 : Nat) : Int)) rfl rfl (by rw [wrap_i64] <;> omega)) ?_
                      refine Wl.q (v := Value.int .i64 ((k + 1 : Nat) : Int)) (q_assign rfl) ?_
                      refine Wl.done ?_
                      refine Wx.at (k + 1, S, G, c, Ws) ⟨(by simp only; omega), rfl, hE0_4, hE1_4, hE5_4, hE7_4, (by omega), hAp, (by simp only; omega), (by simp only; omega)⟩ (fun w hs => by simp only [hg, Option.toList_some, Option.toList_none, List.append_nil, List.length_singleton, List.length_nil, Nat.add_zero] at hs; exact (st_pull [1, 0] (hs)))
                ·
                  have hg : good n q = none := good_no (fun h => ha1 h.2.1)
                  refine Wl.q (v := Value.bool false) (q_lss (r := false) rfl rfl (decide_eq_false ha1)) ?_
                  refine Wl.q (v := Value.bool false) (q_pick (t := true) rfl rfl) ?_
                  refine Wl.q (v := Value.bool false) (q_move rfl) ?_
                  refine Wl.no ?_
                  refine Wl.no ?_
                  refine Wl.no ?_
                  refine Wl.no ?_
                  refine Wl.no ?_
                  refine Wl.no ?_
                  refine Wl.no ?_
                  refine Wl.q (v := Value.bool false) (q_pick (t := false) rfl rfl) ?_
                  refine Wl.q (v := Value.bool false) (q_assign rfl) ?_
                  refine Wl.done ?_
                  refine Wx.go ?_
                  refine Wc.seq ?_
                  refine Wc.seq ?_
                  refine Wc.region ?_
                  refine Wl.q (v := Value.int .i64 (okN n q)) (q_move rfl) ?_
                  refine Wl.q (v := Value.bool false) (q_eql (r := false) rfl rfl (decide_eq_false (okN_no (fun h => ha1 h.2.1)))) ?_
                  refine Wl.q (v := Value.bool false) (q_move rfl) ?_
                  refine Wl.q (v := Value.bool false) (q_neq_bool (r := true) rfl rfl Try.underlying4 rfl) ?_
                  refine Wl.done ?_
                  refine Wx.go ?_
                  refine Wc.no rfl ?_
                  refine Wc.skip ?_
                  refine Wx.go ?_
                  refine Wc.seq ?_
                  refine Wc.seq ?_
                  refine Wc.region ?_
                  refine Wl.q (v := Value.bool false) (q_move rfl) ?_
                  refine Wl.done ?_
                  refine Wx.go ?_
                  refine Wc.no rfl ?_
                  refine Wc.skip ?_
                  refine Wx.go ?_
                  refine Wc.seq ?_
                  refine Wc.region ?_
                  refine Wl.q (v := Value.int .i64 ((k : Nat) : Int)) (q_move hE9_4) ?_
                  refine Wl.q (v := Value.int .i64 (((k % 3) : Nat) : Int)) (q_rem (c := (((k % 3) : Nat) : Int)) rfl rfl (by decide) (by rw [Int.tmod_eq_emod_of_nonneg (by omega)]; omega)) ?_
                  by_cases h3 : (((k % 3) : Nat) : Int) = 0
                  ·
                    refine Wl.q (v := Value.bool true) (q_eql (r := true) rfl rfl (decide_eq_true h3)) ?_
                    refine Wl.q (v := Value.bool true) (q_move rfl) ?_
                    refine Wl.q (v := Value.pointer (some ⟨pp, 0, none⟩)) (q_move hE5_4) ?_
                    refine Wl.e (e_call (F := (slp 9 1 bw cw (Ws.map Value.string)) :: F) (args := [Value.pointer (some ⟨pp, 0, none⟩)]) Try.call18 rfl (Con.eqs (val' := fun _ => Value.int .i64 0) (post' := fun _ => [isDisk pp (((upD S (G ++ (good n q).toList) (c + (good n q).toList.length)).sync).2)]) (sync_c W0 pp (upD S (G ++ (good n q).toList) (c + (good n q).toList.length))  (by rw [hg]; exact wf_upDs (by first | exact (hAp.write han (by omega)).wf | (rw [show G ++ (none : Option (Nat × ByteArray)).toList = G from List.append_nil G]; exact hAp.wf))) (by rw [hg]; simp [upD]; omega) (by rw [hg]; simp [upD]; omega)) (fun _ => rfl) (fun _ => rfl))) (fun _ _ => ?_)
                    refine Wl.imp (L' := (isDisk pp (((upD S (G ++ (good n q).toList) (c + (good n q).toList.length)).sync).2)) :: (slp 9 1 bw cw (Ws.map Value.string)) :: F) (fun _ h => h) ?_
                    refine Wl.q (v := Value.bool false) (q_neq (r := true) rfl rfl (decide_eq_true (by decide))) ?_
                    refine Wl.q (v := Value.bool false) (q_pick (t := true) rfl rfl) ?_
                    refine Wl.done ?_
                    refine Wx.go ?_
                    refine Wc.no rfl ?_
                    refine Wc.skip ?_
                    refine Wx.blockEnd ?_
                    refine Wx.go ?_
                    refine Wc.region ?_
                    refine Wl.q (v := Value.int .i64 ((k : Nat) : Int)) (q_move hE9_4) ?_
                    refine Wl.q (v := Value.int .i64 ((k + 1 : Nat) : Int)) (q_add (c := ((k + 1 : Nat) : Int)) rfl rfl (by rw [wrap_i64] <;> omega)) ?_
                    refine Wl.q (v := Value.int .i64 ((k + 1 : Nat) : Int)) (q_assign rfl) ?_
                    refine Wl.done ?_
                    refine Wx.at (k + 1, (syncL S G), [], (c + 1), Ws) ⟨(by simp only; omega), rfl, hE0_4, hE1_4, hE5_4, hE7_4, (by omega), hAp.sync, (by simp), (by simp only; omega)⟩ (fun w hs => by simp only [hg, Option.toList_some, Option.toList_none, List.append_nil, List.length_singleton, List.length_nil, Nat.add_zero] at hs; exact (st_pull [1, 0] (hs)))
                  ·
                    refine Wl.q (v := Value.bool false) (q_eql (r := false) rfl rfl (decide_eq_false h3)) ?_
                    refine Wl.q (v := Value.bool false) (q_move rfl) ?_
                    refine Wl.no ?_
                    refine Wl.no ?_
                    refine Wl.no ?_
                    refine Wl.q (v := Value.bool false) (q_pick (t := false) rfl rfl) ?_
                    refine Wl.done ?_
                    refine Wx.go ?_
                    refine Wc.no rfl ?_
                    refine Wc.skip ?_
                    refine Wx.blockEnd ?_
                    refine Wx.go ?_
                    refine Wc.region ?_
                    refine Wl.q (v := Value.int .i64 ((k : Nat) : Int)) (q_move hE9_4) ?_
                    refine Wl.q (v := Value.int .i64 ((k + 1 : Nat) : Int)) (q_add (c := ((k + 1 : Nat) : Int)) rfl rfl (by rw [wrap_i64] <;> omega)) ?_
                    refine Wl.q (v := Value.int .i64 ((k + 1 : Nat) : Int)) (q_assign rfl) ?_
                    refine Wl.done ?_
                    refine Wx.at (k + 1, S, G, c, Ws) ⟨(by simp only; omega), rfl, hE0_4, hE1_4, hE5_4, hE7_4, (by omega), hAp, (by simp only; omega), (by simp only; omega)⟩ (fun w hs => by simp only [hg, Option.toList_some, Option.toList_none, List.append_nil, List.length_singleton, List.length_nil, Nat.add_zero] at hs; exact (st_pull [1, 0] (hs)))
              ·
                have hg : good n q = none := good_no (fun h => ha0 h.1)
                refine Wl.q (v := Value.bool false) (q_geq (r := false) rfl rfl (decide_eq_false ha0)) ?_
                refine Wl.q (v := Value.bool false) (q_move rfl) ?_
                refine Wl.no ?_
                refine Wl.no ?_
                refine Wl.no ?_
                refine Wl.no ?_
                refine Wl.no ?_
                refine Wl.no ?_
                refine Wl.no ?_
                refine Wl.q (v := Value.bool false) (q_pick (t := false) rfl rfl) ?_
                refine Wl.q (v := Value.bool false) (q_move rfl) ?_
                refine Wl.no ?_
                refine Wl.no ?_
                refine Wl.no ?_
                refine Wl.no ?_
                refine Wl.no ?_
                refine Wl.no ?_
                refine Wl.no ?_
                refine Wl.q (v := Value.bool false) (q_pick (t := false) rfl rfl) ?_
                refine Wl.q (v := Value.bool false) (q_assign rfl) ?_
                refine Wl.done ?_
                refine Wx.go ?_
                refine Wc.seq ?_
                refine Wc.seq ?_
                refine Wc.region ?_
                refine Wl.q (v := Value.int .i64 (okN n q)) (q_move rfl) ?_
                refine Wl.q (v := Value.bool false) (q_eql (r := false) rfl rfl (decide_eq_false (okN_no (fun h => ha0 h.1)))) ?_
                refine Wl.q (v := Value.bool false) (q_move rfl) ?_
                refine Wl.q (v := Value.bool false) (q_neq_bool (r := true) rfl rfl Try.underlying4 rfl) ?_
                refine Wl.done ?_
                refine Wx.go ?_
                refine Wc.no rfl ?_
                refine Wc.skip ?_
                refine Wx.go ?_
                refine Wc.seq ?_
                refine Wc.seq ?_
                refine Wc.region ?_
                refine Wl.q (v := Value.bool false) (q_move rfl) ?_
                refine Wl.done ?_
                refine Wx.go ?_
                refine Wc.no rfl ?_
                refine Wc.skip ?_
                refine Wx.go ?_
                refine Wc.seq ?_
                refine Wc.region ?_
                refine Wl.q (v := Value.int .i64 ((k : Nat) : Int)) (q_move hE9_4) ?_
                refine Wl.q (v := Value.int .i64 (((k % 3) : Nat) : Int)) (q_rem (c := (((k % 3) : Nat) : Int)) rfl rfl (by decide) (by rw [Int.tmod_eq_emod_of_nonneg (by omega)]; omega)) ?_
                by_cases h3 : (((k % 3) : Nat) : Int) = 0
                ·
                  refine Wl.q (v := Value.bool true) (q_eql (r := true) rfl rfl (decide_eq_true h3)) ?_
                  refine Wl.q (v := Value.bool true) (q_move rfl) ?_
                  refine Wl.q (v := Value.pointer (some ⟨pp, 0, none⟩)) (q_move hE5_4) ?_
                  refine Wl.e (e_call (F := (slp 9 1 bw cw (Ws.map Value.string)) :: F) (args := [Value.pointer (some ⟨pp, 0, none⟩)]) Try.call18 rfl (Con.eqs (val' := fun _ => Value.int .i64 0) (post' := fun _ => [isDisk pp (((upD S (G ++ (good n q).toList) (c + (good n q).toList.length)).sync).2)]) (sync_c W0 pp (upD S (G ++ (good n q).toList) (c + (good n q).toList.length))  (by rw [hg]; exact wf_upDs (by first | exact (hAp.write han (by omega)).wf | (rw [show G ++ (none : Option (Nat × ByteArray)).toList = G from List.append_nil G]; exact hAp.wf))) (by rw [hg]; simp [upD]; omega) (by rw [hg]; simp [upD]; omega)) (fun _ => rfl) (fun _ => rfl))) (fun _ _ => ?_)
                  refine Wl.imp (L' := (isDisk pp (((upD S (G ++ (good n q).toList) (c + (good n q).toList.length)).sync).2)) :: (slp 9 1 bw cw (Ws.map Value.string)) :: F) (fun _ h => h) ?_
                  refine Wl.q (v := Value.bool false) (q_neq (r := true) rfl rfl (decide_eq_true (by decide))) ?_
                  refine Wl.q (v := Value.bool false) (q_pick (t := true) rfl rfl) ?_
                  refine Wl.done ?_
                  refine Wx.go ?_
                  refine Wc.no rfl ?_
                  refine Wc.skip ?_
                  refine Wx.blockEnd ?_
                  refine Wx.go ?_
                  refine Wc.region ?_
                  refine Wl.q (v := Value.int .i64 ((k : Nat) : Int)) (q_move hE9_4) ?_
                  refine Wl.q (v := Value.int .i64 ((k + 1 : Nat) : Int)) (q_add (c := ((k + 1 : Nat) : Int)) rfl rfl (by rw [wrap_i64] <;> omega)) ?_
                  refine Wl.q (v := Value.int .i64 ((k + 1 : Nat) : Int)) (q_assign rfl) ?_
                  refine Wl.done ?_
                  refine Wx.at (k + 1, (syncL S G), [], (c + 1), Ws) ⟨(by simp only; omega), rfl, hE0_4, hE1_4, hE5_4, hE7_4, (by omega), hAp.sync, (by simp), (by simp only; omega)⟩ (fun w hs => by simp only [hg, Option.toList_some, Option.toList_none, List.append_nil, List.length_singleton, List.length_nil, Nat.add_zero] at hs; exact (st_pull [1, 0] (hs)))
                ·
                  refine Wl.q (v := Value.bool false) (q_eql (r := false) rfl rfl (decide_eq_false h3)) ?_
                  refine Wl.q (v := Value.bool false) (q_move rfl) ?_
                  refine Wl.no ?_
                  refine Wl.no ?_
                  refine Wl.no ?_
                  refine Wl.q (v := Value.bool false) (q_pick (t := false) rfl rfl) ?_
                  refine Wl.done ?_
                  refine Wx.go ?_
                  refine Wc.no rfl ?_
                  refine Wc.skip ?_
                  refine Wx.blockEnd ?_
                  refine Wx.go ?_
                  refine Wc.region ?_
                  refine Wl.q (v := Value.int .i64 ((k : Nat) : Int)) (q_move hE9_4) ?_
                  refine Wl.q (v := Value.int .i64 ((k + 1 : Nat) : Int)) (q_add (c := ((k + 1 : Nat) : Int)) rfl rfl (by rw [wrap_i64] <;> omega)) ?_
                  refine Wl.q (v := Value.int .i64 ((k + 1 : Nat) : Int)) (q_assign rfl) ?_
                  refine Wl.done ?_
                  refine Wx.at (k + 1, S, G, c, Ws) ⟨(by simp only; omega), rfl, hE0_4, hE1_4, hE5_4, hE7_4, (by omega), hAp, (by simp only; omega), (by simp only; omega)⟩ (fun w hs => by simp only [hg, Option.toList_some, Option.toList_none, List.append_nil, List.length_singleton, List.length_nil, Nat.add_zero] at hs; exact (st_pull [1, 0] (hs)))
            ·
              refine Wl.q (v := Value.bool false) (q_lss (r := false) rfl rfl (decide_eq_false hlt)) ?_
              refine Wl.done ?_
              refine Wx.go ?_
              refine Wc.no rfl ?_
              refine Wc.exit ?_
              refine Wx.thenExit ?_
              refine Wx.thenExit ?_
              refine Wx.out ?_
              refine Wx.go ?_
              refine Wc.seq ?_
              refine Wc.seq ?_
              refine Wc.region ?_
              refine Wl.q (v := Value.int .i64 0) (q_assign rfl) ?_
              refine Wl.done ?_
              refine Wx.go ?_
              refine Wc.block ?_
              refine Wc.loop (X := Nat) (fun i E => E 12 = Value.int .i64 ((i : Nat) : Int) ∧ E 0 = Value.int .i64 ((n : Nat) : Int) ∧ E 5 = Value.pointer (some ⟨pp, 0, none⟩) ∧ E 7 = Value.slice (some ⟨bw, 0, none⟩) r cw ∧ i ≤ n) (fun i => (slp 9 1 bw cw (Ws.map Value.string)) :: (isDisk pp (upD S G c)) :: F) (fun i => n - i) 0 ?_ ?_ ?_
              · exact ⟨rfl, hE0_4, hE5_4, hE7_4, (by omega)⟩
              · exact fun w hs => hs
              · rintro i E8 ⟨hE12_6, hE0_6, hE5_6, hE7_6, hi2⟩
                refine Wc.seq ?_
                refine Wc.seq ?_
                refine Wc.region ?_
                refine Wl.q (v := Value.int .i64 ((i : Nat) : Int)) (q_move hE12_6) ?_
                refine Wl.q (v := Value.int .i64 ((n : Nat) : Int)) (q_move hE0_6) ?_
                by_cases hclt : ((i : Nat) : Int) < ((n : Nat) : Int)
                ·
                  refine Wl.q (v := Value.bool true) (q_lss (r := true) rfl rfl (decide_eq_true hclt)) ?_
                  refine Wl.done ?_
                  refine Wx.go ?_
                  refine Wc.yes rfl ?_
                  refine Wc.skip ?_
                  refine Wx.go ?_
                  refine Wc.seq ?_
                  refine Wc.block ?_
                  refine Wc.seq ?_
                  refine Wc.region ?_
                  refine Wl.q (v := Value.pointer (some ⟨pp, 0, none⟩)) (q_move hE5_6) ?_
                  refine Wl.q (v := Value.int .i64 ((i : Nat) : Int)) (q_move hE12_6) ?_
                  refine Wl.imp (L' := (isDisk pp (upD S G c)) :: (slp 9 1 bw cw (Ws.map Value.string)) :: F) (fun _ h => st_pull [1] h) ?_
                  refine Wl.e (e_call (F := (slp 9 1 bw cw (Ws.map Value.string)) :: F) (args := [Value.pointer (some ⟨pp, 0, none⟩), Value.int .i64 ((i : Nat) : Int)]) Try.call16 rfl (Con.eqs (val' := fun _ => Value.tuple #[Value.string (Ws.getD i default), Value.int .i64 0]) (post' := fun _ => [isDisk pp (upD S G c)]) (read_c W0 pp (upD S G c) ((i : Nat) : Int) (by simp only [upD]; omega)) (fun _ => (by rw [upD_read_since (by have := hAp.len; omega), hAp.rd i (by omega)])) (fun _ => rfl))) (fun _ _ => ?_)
                  refine Wl.imp (L' := (isDisk pp (upD S G c)) :: (slp 9 1 bw cw (Ws.map Value.string)) :: F) (fun _ h => h) ?_
                  refine Wl.q (v := Value.tuple #[Value.string (Ws.getD i default), Value.int .i64 0]) (q_move rfl) ?_
                  refine Wl.q (v := Value.string (Ws.getD i default)) (q_extract (i := 0) rfl rfl) ?_
                  refine Wl.q (v := Value.int .i64 0) (q_extract (i := 1) rfl rfl) ?_
                  refine Wl.q (v := Value.string (Ws.getD i default)) (q_assign rfl) ?_
                  refine Wl.q (v := Value.int .i64 0) (q_assign rfl) ?_
                  refine Wl.done ?_
                  refine Wx.go ?_
                  refine Wc.seq ?_
                  refine Wc.region ?_
                  refine Wl.q (v := Value.int .i64 0) (q_move rfl) ?_
                  refine Wl.q (v := Value.bool false) (q_neq (r := true) rfl rfl (decide_eq_true (by decide))) ?_
                  refine Wl.q (v := Value.bool false) (q_move rfl) ?_
                  refine Wl.q (v := Value.string (Ws.getD i default)) (q_move rfl) ?_
                  refine Wl.q (v := Value.slice (some ⟨bw, 0, none⟩) r cw) (q_move hE7_6) ?_
                  refine Wl.q (v := Value.int .i64 ((i : Nat) : Int)) (q_move hE12_6) ?_
                  refine Wl.q (v := Value.pointer (some ⟨bw, i, none⟩)) (q_idx (m := i) se_38 rfl rfl (by omega) (by omega) (by simp)) ?_
                  refine Wl.q (v := Value.string (Ws.getD i default)) (q_load sc_9 rfl (.row (i := 1) rfl (wl_get (by have := hAp.wl; omega)))) ?_
                  refine Wl.q (v := Value.bool false) (q_neq_str (r := true) rfl rfl (text_true (rfl))) ?_
                  refine Wl.q (v := Value.bool false) (q_pick (t := false) rfl rfl) ?_
                  refine Wl.done ?_
                  refine Wx.go ?_
                  refine Wc.no rfl ?_
                  refine Wc.skip ?_
                  refine Wx.blockEnd ?_
                  refine Wx.go ?_
                  refine Wc.region ?_
                  refine Wl.q (v := Value.int .i64 ((i : Nat) : Int)) (q_move hE12_6) ?_
                  refine Wl.q (v := Value.int .i64 ((i + 1 : Nat) : Int)) (q_add (c := ((i + 1 : Nat) : Int)) rfl rfl (by rw [wrap_i64] <;> omega)) ?_
                  refine Wl.q (v := Value.int .i64 ((i + 1 : Nat) : Int)) (q_assign rfl) ?_
                  refine Wl.done ?_
                  refine Wx.at (i + 1) ⟨(by omega), rfl, hE0_6, hE5_6, hE7_6, (by omega)⟩ (fun w hs => (st_pull [1, 0] (hs)))
                ·
                  refine Wl.q (v := Value.bool false) (q_lss (r := false) rfl rfl (decide_eq_false hclt)) ?_
                  refine Wl.done ?_
                  refine Wx.go ?_
                  refine Wc.no rfl ?_
                  refine Wc.exit ?_
                  refine Wx.thenExit ?_
                  refine Wx.thenExit ?_
                  refine Wx.out ?_
                  refine Wx.go ?_
                  refine Wc.seq ?_
                  refine Wc.region ?_
                  refine Wl.e (e_call (F := (slp 9 1 bw cw (Ws.map Value.string)) :: (isDisk pp (upD S G c)) :: F) (args := []) Try.call12 rfl (alive_c W0)) (fun _ _ => ?_)
                  refine Wl.imp (L' := (slp 9 1 bw cw (Ws.map Value.string)) :: (isDisk pp (upD S G c)) :: F) (fun _ h => h) ?_
                  refine Wl.q (v := Value.bool true) (q_assign rfl) ?_
                  refine Wl.done ?_
                  refine Wx.go ?_
                  refine Wc.ret ?_
                  refine Wx.fin1 rfl (.inl rfl) (fun w hs => ?_)
                  exact ⟨(), trivial, rfl, (st_drop (st_drop (st_pull [0, 0] hs)))⟩

end Go.Proofs.Ytbnglfbfgannhaa
