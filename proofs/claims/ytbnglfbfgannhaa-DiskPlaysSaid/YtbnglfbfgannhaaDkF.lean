/- The disk in memory, and contracts of its calls. -/
import Derived.Test.YtbnglfbfgannhaaDkE
import Derived.Test.YtbnglfbfgannhaaDkL
namespace Go.Proofs.Ytbnglfbfgannhaa
open Go Go.SL Go.Dk Go.RowKit
set_option linter.unusedVariables false
theorem by_9 : (Try.prog.info? 9).map (·.bytes) = some 16 := by kernel_rfl
theorem zo_9 : zeroOf Try.prog 9 = some (Value.string (⟨#[]⟩)) := by kernel_rfl
theorem zo_55 : zeroOf Try.prog 55 = some (Value.agg #[Value.slice none 0 0, Value.slice none 0 0, Value.bool false, Value.int .i64 0, Value.nilFunc]) := by kernel_rfl
theorem se_57 : sliceElem Try.prog 57 = some (5, 1) := by kernel_rfl
theorem sz_5 : sizeIs Try.prog 5 = some 1 := by kernel_rfl
theorem by_5 : (Try.prog.info? 5).map (·.bytes) = some 1 := by kernel_rfl
theorem zo_5 : zeroOf Try.prog 5 = some (Value.int .u8 0) := by kernel_rfl
theorem new_low (W0 : World) (n : Int) (h0 : (n < 1)) :
    Con Try.prog W0 10 #[Value.int .i64 n] [] (X := Unit) (fun _ => True) (fun _ => .tuple #[.pointer none, .int .i64 1]) (fun _ => []) := by
  refine Con.of (args := [Value.int .i64 n]) Try.func10 rfl Try.ntmps10 rfl (fun F => ?_)
  show Wc _ W0 _ _ _ _ _ (F)
  refine Wc.seq ?_
  refine Wc.region ?_
  refine Wl.q (v := Value.pointer none) (q_assign rfl) ?_
  refine Wl.q (v := Value.int .i64 0) (q_assign rfl) ?_
  refine Wl.done ?_
  refine Wx.go ?_
  refine Wc.seq ?_
  refine Wc.block ?_
  refine Wc.seq ?_
  refine Wc.region ?_
  refine Wl.q (v := Value.int .i64 n) (q_move rfl) ?_
  refine Wl.q (v := Value.bool true) (q_lss (r := true) rfl rfl (decide_eq_true (by omega))) ?_
  refine Wl.q (v := Value.bool true) (q_assign rfl) ?_
  refine Wl.done ?_
  refine Wx.go ?_
  refine Wc.yes rfl ?_
  refine Wc.seq ?_
  refine Wc.region ?_
  refine Wl.q (v := Value.pointer none) (q_assign rfl) ?_
  refine Wl.q (v := Value.int .i64 1) (q_assign rfl) ?_
  refine Wl.done ?_
  refine Wx.go ?_
  refine Wc.ret ?_
  refine Wx.blockRet ?_
  refine Wx.thenRet ?_
  refine Wx.fin2 rfl (.inl rfl) (fun w hs => ?_)
  exact ⟨(), trivial, rfl, hs⟩

theorem new_high (W0 : World) (n : Int) (h0 : (n > 4096)) :
    Con Try.prog W0 10 #[Value.int .i64 n] [] (X := Unit) (fun _ => True) (fun _ => .tuple #[.pointer none, .int .i64 3]) (fun _ => []) := by
  refine Con.of (args := [Value.int .i64 n]) Try.func10 rfl Try.ntmps10 rfl (fun F => ?_)
  show Wc _ W0 _ _ _ _ _ (F)
  refine Wc.seq ?_
  refine Wc.region ?_
  refine Wl.q (v := Value.pointer none) (q_assign rfl) ?_
  refine Wl.q (v := Value.int .i64 0) (q_assign rfl) ?_
  refine Wl.done ?_
  refine Wx.go ?_
  refine Wc.seq ?_
  refine Wc.block ?_
  refine Wc.seq ?_
  refine Wc.region ?_
  refine Wl.q (v := Value.int .i64 n) (q_move rfl) ?_
  refine Wl.q (v := Value.bool false) (q_lss (r := false) rfl rfl (decide_eq_false (by omega))) ?_
  refine Wl.q (v := Value.bool false) (q_assign rfl) ?_
  refine Wl.done ?_
  refine Wx.go ?_
  refine Wc.no rfl ?_
  refine Wc.seq ?_
  refine Wc.region ?_
  refine Wl.q (v := Value.int .i64 n) (q_move rfl) ?_
  refine Wl.q (v := Value.bool true) (q_gtr (r := true) rfl rfl (decide_eq_true (by omega))) ?_
  refine Wl.q (v := Value.bool true) (q_assign rfl) ?_
  refine Wl.done ?_
  refine Wx.go ?_
  refine Wc.yes rfl ?_
  refine Wc.seq ?_
  refine Wc.region ?_
  refine Wl.q (v := Value.pointer none) (q_assign rfl) ?_
  refine Wl.q (v := Value.int .i64 3) (q_assign rfl) ?_
  refine Wl.done ?_
  refine Wx.go ?_
  refine Wc.ret ?_
  refine Wx.blockRet ?_
  refine Wx.thenRet ?_
  refine Wx.fin2 rfl (.inl rfl) (fun w hs => ?_)
  exact ⟨(), trivial, rfl, hs⟩

theorem new_ok (W0 : World) (n : Nat) (h1 : 1 ≤ n) (h2 : n ≤ 4096) :
    Con Try.prog W0 10 #[Value.int .i64 ((n : Nat) : Int)] [] (X := Nat) (fun _ => True) (fun pp => .tuple #[.pointer (some ⟨pp, 0, none⟩), .int .i64 0]) (fun pp => [isDisk pp (DS.new n)]) := by
  refine Con.of (args := [Value.int .i64 ((n : Nat) : Int)]) Try.func10 rfl Try.ntmps10 rfl (fun F => ?_)
  show Wc _ W0 _ _ _ _ _ (F)
  refine Wc.seq ?_
  refine Wc.region ?_
  refine Wl.q (v := Value.pointer none) (q_assign rfl) ?_
  refine Wl.q (v := Value.int .i64 0) (q_assign rfl) ?_
  refine Wl.done ?_
  refine Wx.go ?_
  refine Wc.seq ?_
  refine Wc.block ?_
  refine Wc.seq ?_
  refine Wc.region ?_
  refine Wl.q (v := Value.int .i64 ((n : Nat) : Int)) (q_move rfl) ?_
  refine Wl.q (v := Value.bool false) (q_lss (r := false) rfl rfl (decide_eq_false (by omega))) ?_
  refine Wl.q (v := Value.bool false) (q_assign rfl) ?_
  refine Wl.done ?_
  refine Wx.go ?_
  refine Wc.no rfl ?_
  refine Wc.seq ?_
  refine Wc.region ?_
  refine Wl.q (v := Value.int .i64 ((n : Nat) : Int)) (q_move rfl) ?_
  refine Wl.q (v := Value.bool false) (q_gtr (r := false) rfl rfl (decide_eq_false (by omega))) ?_
  refine Wl.q (v := Value.bool false) (q_assign rfl) ?_
  refine Wl.done ?_
  refine Wx.go ?_
  refine Wc.no rfl ?_
  refine Wc.skip ?_
  refine Wx.blockEnd ?_
  refine Wx.go ?_
  refine Wc.seq ?_
  refine Wc.region ?_
  refine Wl.q (v := Value.int .i64 ((n : Nat) : Int)) (q_move rfl) ?_
  refine Wl.e (e_makeSlice (len := n) Try.underlying38 sz_9 by_9 zo_9 rfl rfl (by omega) (by omega)) (fun bs _ => ?_)
  refine Wl.imp (L' := (pt bs 9 ((madeCells (Value.string (⟨#[]⟩) : Value).cells (n * 1)).toList)) :: F) (fun _ h => h) ?_
  refine Wl.q (v := Value.agg #[Value.slice (some ⟨bs, 0, none⟩) n n, Value.slice none 0 0, Value.bool false, Value.int .i64 0, Value.nilFunc]) (q_build (pl := [(0, 1), (1, 1), (2, 1), (3, 1), (4, 1)]) Try.underlying55 zo_55 (by kernel_rfl) (by kernel_rfl)) ?_
  refine Wl.e (e_box (x := .tmp 14) (vs := [Value.slice (some ⟨bs, 0, none⟩) n n, Value.slice none 0 0, Value.bool false, Value.int .i64 0, Value.nilFunc]) rfl) (fun pp _ => ?_)
  refine Wl.imp (L' := (pt pp 55 [Value.slice (some ⟨bs, 0, none⟩) n n, Value.slice none 0 0, Value.bool false, Value.int .i64 0, Value.nilFunc]) :: (pt bs 9 ((madeCells (Value.string (⟨#[]⟩) : Value).cells (n * 1)).toList)) :: F) (fun _ h => h) ?_
  refine Wl.q (v := Value.pointer (some ⟨pp, 0, none⟩)) (q_assign rfl) ?_
  refine Wl.done ?_
  refine Wx.go ?_
  refine Wc.seq ?_
  refine Wc.seq ?_
  refine Wc.region ?_
  refine Wl.q (v := Value.pointer (some ⟨pp, 0, none⟩)) (q_move rfl) ?_
  refine Wl.q (v := Value.pointer (some ⟨pp, 0, none⟩)) (q_nil_ptr rfl) ?_
  refine Wl.q (v := Value.pointer (some ⟨pp, 0, none⟩)) (q_field (m := 0) fo_55_0 rfl rfl) ?_
  refine Wl.q (v := Value.slice (some ⟨bs, 0, none⟩) n n) (q_load sc_38 rfl (.cel (i := 0) rfl rfl)) ?_
  refine Wl.q (v := Value.int .i64 ((n : Nat) : Int)) (q_len_slice Try.underlying38 rfl) ?_
  refine Wl.q (v := Value.int .i64 0) (q_move rfl) ?_
  refine Wl.done ?_
  refine Wx.go ?_
  refine Wc.block ?_
  refine Wc.loop (X := Nat) (fun k E => E 21 = Value.int .i64 ((k : Nat) : Int) ∧ E 4 = Value.pointer (some ⟨pp, 0, none⟩) ∧ E 20 = Value.int .i64 ((n : Nat) : Int) ∧ k ≤ n) (fun k => (pt pp 55 [Value.slice (some ⟨bs, 0, none⟩) n n, Value.slice none 0 0, Value.bool false, Value.int .i64 0, Value.nilFunc]) :: (pt bs 9 ((List.replicate k noughts ++ List.replicate (n - k) (ByteArray.mk #[])).map Value.string)) :: F) (fun k => n - k) 0 ?_ ?_ ?_
  · exact ⟨rfl, rfl, rfl, (by omega)⟩
  · exact fun w hs => by rw [made_texts] at hs; simpa using hs
  · rintro k E2 ⟨hE21_0, hE4_0, hE20_0, hp0⟩
    refine Wc.seq ?_
    refine Wc.region ?_
    by_cases hlt : ((k : Nat) : Int) < ((n : Nat) : Int)
    ·
      have hlt' : k < n := by omega
      refine Wl.q (v := Value.bool true) (q_lss (r := true) hE21_0 hE20_0 (decide_eq_true hlt)) ?_
      refine Wl.done ?_
      refine Wx.go ?_
      refine Wc.seq ?_
      refine Wc.yes rfl ?_
      refine Wc.skip ?_
      refine Wx.go ?_
      refine Wc.seq ?_
      refine Wc.block ?_
      refine Wc.seq ?_
      refine Wc.region ?_
      refine Wl.q (v := Value.int .i64 ((k : Nat) : Int)) (q_move hE21_0) ?_
      refine Wl.q (v := Value.int .i64 ((k : Nat) : Int)) (q_assign rfl) ?_
      refine Wl.done ?_
      refine Wx.go ?_
      refine Wc.drawsS [8] ((pt pp 55 [Value.slice (some ⟨bs, 0, none⟩) n n, Value.slice none 0 0, Value.bool false, Value.int .i64 0, Value.nilFunc]) :: (pt bs 9 ((List.replicate k noughts ++ List.replicate (n - k) (ByteArray.mk #[])).map Value.string)) :: []) (by kernel_rfl) ?_
      refine Wr.pure (v := Value.pointer (some ⟨pp, 0, none⟩)) 0 rfl (by kernel_rfl) (.inr (fun _ h => st_take [0, 0] h)) (.inl ⟨rfl, fun _ => q_move hE4_0⟩) ?_
      refine Wr.pure (v := Value.pointer (some ⟨pp, 0, none⟩)) 1 rfl (by kernel_rfl) (.inr (fun _ h => st_take [0, 0] h)) (.inl ⟨rfl, fun _ => q_nil_ptr rfl⟩) ?_
      refine Wr.pure (v := Value.pointer (some ⟨pp, 0, none⟩)) 2 rfl (by kernel_rfl) (.inr (fun _ h => st_take [0, 0] h)) (.inl ⟨rfl, fun _ => q_field (m := 0) fo_55_0 rfl rfl⟩) ?_
      refine Wr.take (v := Value.slice (some ⟨bs, 0, none⟩) n n) 3 rfl (by kernel_rfl) (fun _ h => st_take [0, 0] h) (.inl ⟨rfl, q_load sc_38 rfl (.cel (i := 0) rfl rfl)⟩) ?_
      refine Wr.pure (v := Value.int .i64 ((k : Nat) : Int)) 4 rfl (by kernel_rfl) (.inr (fun _ h => st_take [0, 0] h)) (.inl ⟨rfl, fun _ => q_move rfl⟩) ?_
      refine Wr.e 5 (by kernel_rfl) rfl (e_makeSlice (len := 64) Try.underlying57 sz_5 by_5 zo_5 rfl rfl (by omega) (by omega)) (.inr fun _ _ _ h => st_take [1, 1] h) (fun b3 _ => ?_)
      refine Wr.imp (L' := (pt b3 5 ((madeCells (Value.int .u8 0 : Value).cells (64 * 1)).toList)) :: (pt pp 55 [Value.slice (some ⟨bs, 0, none⟩) n n, Value.slice none 0 0, Value.bool false, Value.int .i64 0, Value.nilFunc]) :: (pt bs 9 ((List.replicate k noughts ++ List.replicate (n - k) (ByteArray.mk #[])).map Value.string)) :: F) (fun _ h => h) ?_
      refine Wr.more (S' := (pt b3 5 ((madeCells (Value.int .u8 0 : Value).cells (64 * 1)).toList)) :: (pt pp 55 [Value.slice (some ⟨bs, 0, none⟩) n n, Value.slice none 0 0, Value.bool false, Value.int .i64 0, Value.nilFunc]) :: (pt bs 9 ((List.replicate k noughts ++ List.replicate (n - k) (ByteArray.mk #[])).map Value.string)) :: []) (fun _ h => st_drop h) ?_
      refine Wr.take (v := Value.string (⟨((List.replicate 64 (0 : UInt8))).toArray⟩)) 6 rfl (by kernel_rfl) (fun _ h => st_take [0, 0, 0] h) (.inl ⟨rfl, q_str_of (l := (List.replicate 64 (0 : UInt8))) Try.underlying57 Try.underlying5 Try.underlying9 rfl (by simp) (fun j u hj => .cel (i := 0) rfl (by rw [made_bytes, Nat.zero_add]; exact hj))⟩) ?_
      refine Wr.pure (v := Value.pointer (some ⟨bs, k, none⟩)) 7 rfl (by kernel_rfl) (.inr (fun _ h => st_take [0, 0, 0] h)) (.inl ⟨rfl, fun _ => q_idx (m := k) se_38 rfl rfl (by omega) (by omega) (by simp)⟩) ?_
      refine Wr.e 8 (by kernel_rfl) rfl (e_store (i := 2) (v := Value.string (⟨((List.replicate 64 (0 : UInt8))).toArray⟩)) sz_9 rfl rfl (fun _ _ => rfl) rfl (by simp; omega)) (.inl (by kernel_rfl)) (fun _ _ => ?_)
      refine Wr.imp (L' := (pt b3 5 ((madeCells (Value.int .u8 0 : Value).cells (64 * 1)).toList)) :: (pt pp 55 [Value.slice (some ⟨bs, 0, none⟩) n n, Value.slice none 0 0, Value.bool false, Value.int .i64 0, Value.nilFunc]) :: (pt bs 9 ((List.replicate (k + 1) noughts ++ List.replicate (n - (k + 1)) (ByteArray.mk #[])).map Value.string)) :: F) (fun _ h => by rw [← new_step hlt' noughts (ByteArray.mk #[]), List.map_set]; exact h) ?_
      refine Wr.rebaseS [] ((pt b3 5 ((madeCells (Value.int .u8 0 : Value).cells (64 * 1)).toList)) :: (pt pp 55 [Value.slice (some ⟨bs, 0, none⟩) n n, Value.slice none 0 0, Value.bool false, Value.int .i64 0, Value.nilFunc]) :: (pt bs 9 ((List.replicate (k + 1) noughts ++ List.replicate (n - (k + 1)) (ByteArray.mk #[])).map Value.string)) :: []) (by kernel_rfl) ?_
      refine Wr.done (by kernel_rfl) ?_
      refine Wx.blockEnd ?_
      refine Wx.go ?_
      refine Wc.region ?_
      refine Wl.q (v := Value.int .i64 ((k + 1 : Nat) : Int)) (q_add (c := ((k + 1 : Nat) : Int)) hE21_0 rfl (by rw [wrap_i64] <;> omega)) ?_
      refine Wl.q (v := Value.int .i64 ((k + 1 : Nat) : Int)) (q_move rfl) ?_
      refine Wl.done ?_
      refine Wx.at (k + 1) ⟨(by omega), rfl, hE4_0, hE20_0, (by omega)⟩ (fun w hs => (st_drop (st_pull [0] hs)))
    ·
      refine Wl.q (v := Value.bool false) (q_lss (r := false) hE21_0 hE20_0 (decide_eq_false hlt)) ?_
      refine Wl.done ?_
      refine Wx.go ?_
      refine Wc.seq ?_
      refine Wc.no rfl ?_
      refine Wc.exit ?_
      refine Wx.thenExit ?_
      refine Wx.thenExit ?_
      refine Wx.out ?_
      refine Wx.go ?_
      refine Wc.seq ?_
      refine Wc.region ?_
      refine Wl.q (v := Value.pointer (some ⟨pp, 0, none⟩)) (q_move hE4_0) ?_
      refine Wl.q (v := Value.pointer (some ⟨pp, 0, none⟩)) (q_move hE4_0) ?_
      refine Wl.q (v := Value.func (.func 27) #[Value.pointer (some ⟨pp, 0, none⟩)] #[]) (q_makeFunc (us := [Value.pointer (some ⟨pp, 0, none⟩)]) (vs := []) rfl rfl) ?_
      refine Wl.q (v := Value.pointer (some ⟨pp, 0, none⟩)) (q_nil_ptr rfl) ?_
      refine Wl.q (v := Value.pointer (some ⟨pp, 4, none⟩)) (q_field (m := 4) fo_55_4 rfl rfl) ?_
      refine Wl.e (e_store (i := 0) (v := Value.func (.func 27) #[Value.pointer (some ⟨pp, 0, none⟩)] #[]) sz_28 rfl rfl (fun _ _ => rfl) rfl (by simp)) (fun _ _ => ?_)
      refine Wl.imp (L' := (pt pp 55 ([Value.slice (some ⟨bs, 0, none⟩) n n, Value.slice none 0 0, Value.bool false, Value.int .i64 0, Value.func (.func 27) #[Value.pointer (some ⟨pp, 0, none⟩)] #[]])) :: (pt bs 9 ((List.replicate k noughts ++ List.replicate (n - k) (ByteArray.mk #[])).map Value.string)) :: F) (fun _ h => h) ?_
      refine Wl.done ?_
      refine Wx.go ?_
      refine Wc.seq ?_
      refine Wc.region ?_
      refine Wl.q (v := Value.pointer (some ⟨pp, 0, none⟩)) (q_move hE4_0) ?_
      refine Wl.q (v := Value.pointer (some ⟨pp, 0, none⟩)) (q_assign rfl) ?_
      refine Wl.q (v := Value.int .i64 0) (q_assign rfl) ?_
      refine Wl.done ?_
      refine Wx.go ?_
      refine Wc.ret ?_
      refine Wx.fin2 rfl (.inl rfl) (fun w hs => ?_)
      have hend : k = n := by omega
      subst hend
      exact ⟨pp, trivial, rfl, isDisk_mk (d := DS.new k) (n := k) (by simp [DS.new]) (by simp only [Nat.sub_self, List.replicate_zero, List.append_nil] at hs; exact st_pull [2, 2] (st_sl_nil (mayR_none hs)))⟩

theorem noughts_c (W0 : World)  :
    Con Try.prog W0 17 #[] [] (X := Unit) (fun _ => True) (fun _ => .string noughts) (fun _ => []) := by
  refine Con.of (args := []) Try.func17 rfl Try.ntmps17 rfl (fun F => ?_)
  show Wc _ W0 _ _ _ _ _ (F)
  refine Wc.seq ?_
  refine Wc.region ?_
  refine Wl.q (v := Value.string (⟨#[]⟩)) (q_assign rfl) ?_
  refine Wl.done ?_
  refine Wx.go ?_
  refine Wc.seq ?_
  refine Wc.region ?_
  refine Wl.e (e_makeSlice (len := 64) Try.underlying57 sz_5 by_5 zo_5 rfl rfl (by omega) (by omega)) (fun b1 _ => ?_)
  refine Wl.imp (L' := (pt b1 5 ((madeCells (Value.int .u8 0 : Value).cells (64 * 1)).toList)) :: F) (fun _ h => h) ?_
  refine Wl.q (v := Value.string (⟨((List.replicate 64 (0 : UInt8))).toArray⟩)) (q_str_of (l := (List.replicate 64 (0 : UInt8))) Try.underlying57 Try.underlying5 Try.underlying9 rfl (by simp) (fun j u hj => .cel (i := 0) rfl (by rw [made_bytes, Nat.zero_add]; exact hj))) ?_
  refine Wl.q (v := Value.string (⟨((List.replicate 64 (0 : UInt8))).toArray⟩)) (q_assign rfl) ?_
  refine Wl.done ?_
  refine Wx.go ?_
  refine Wc.ret ?_
  refine Wx.fin1 rfl (.inl rfl) (fun w hs => ?_)
  exact ⟨(), trivial, rfl, st_drop hs⟩

theorem filled_neg (W0 : World) (b : Nat) (hb : b < 256) (less m : Int) (hm : IntKind.i64.wrap (64 - less) = m) (hx : m < 0) (n : Nat) (hn : filled b less = ⟨(filledL b n).toArray⟩) (hn0 : n = 0) :
    Con Try.prog W0 21 #[Value.int .u8 ((b : Nat) : Int), Value.int .i64 less] [] (X := Unit) (fun _ => True) (fun _ => .string (filled b less)) (fun _ => []) := by
  refine Con.of (args := [Value.int .u8 ((b : Nat) : Int), Value.int .i64 less]) Try.func21 rfl Try.ntmps21 rfl (fun F => ?_)
  show Wc _ W0 _ _ _ _ _ (F)
  refine Wc.seq ?_
  refine Wc.region ?_
  refine Wl.q (v := Value.string (⟨#[]⟩)) (q_assign rfl) ?_
  refine Wl.done ?_
  refine Wx.go ?_
  refine Wc.seq ?_
  refine Wc.region ?_
  refine Wl.q (v := Value.int .i64 less) (q_move rfl) ?_
  refine Wl.q (v := Value.int .i64 m) (q_sub (c := m) rfl rfl hm) ?_
  refine Wl.q (v := Value.int .i64 m) (q_assign rfl) ?_
  refine Wl.done ?_
  refine Wx.go ?_
  refine Wc.seq ?_
  refine Wc.seq ?_
  refine Wc.region ?_
  refine Wl.q (v := Value.int .i64 m) (q_move rfl) ?_
  refine Wl.q (v := Value.bool true) (q_lss (r := true) rfl rfl (decide_eq_true (hx))) ?_
  refine Wl.q (v := Value.bool true) (q_move rfl) ?_
  refine Wl.no ?_
  refine Wl.no ?_
  refine Wl.q (v := Value.bool true) (q_pick (t := true) rfl rfl) ?_
  refine Wl.done ?_
  refine Wx.go ?_
  refine Wc.yes rfl ?_
  refine Wc.region ?_
  refine Wl.q (v := Value.int .i64 0) (q_assign rfl) ?_
  refine Wl.done ?_
  refine Wx.go ?_
  refine Wc.seq ?_
  refine Wc.region ?_
  refine Wl.q (v := Value.int .i64 ((n : Nat) : Int)) (q_move (by rw [hn0]; exact rfl)) ?_
  refine Wl.e (e_makeSlice (len := n) Try.underlying57 sz_5 by_5 zo_5 rfl rfl (by omega) (by omega)) (fun bl _ => ?_)
  refine Wl.imp (L' := (pt bl 5 ((madeCells (Value.int .u8 0 : Value).cells (n * 1)).toList)) :: F) (fun _ h => h) ?_
  refine Wl.q (v := Value.slice (some ⟨bl, 0, none⟩) n n) (q_assign rfl) ?_
  refine Wl.done ?_
  refine Wx.go ?_
  refine Wc.seq ?_
  refine Wc.seq ?_
  refine Wc.region ?_
  refine Wl.q (v := Value.int .i64 0) (q_assign rfl) ?_
  refine Wl.done ?_
  refine Wx.go ?_
  refine Wc.block ?_
  refine Wc.loop (X := Nat) (fun k E => E 7 = Value.int .i64 ((k : Nat) : Int) ∧ E 0 = Value.int .u8 ((b : Nat) : Int) ∧ E 6 = Value.slice (some ⟨bl, 0, none⟩) n n ∧ k ≤ n) (fun k => (pt bl 5 ((filledL b k ++ List.replicate (n - k) 0).map byteV)) :: F) (fun k => n - k) 0 ?_ ?_ ?_
  · exact ⟨rfl, rfl, rfl, (by omega)⟩
  · exact fun w hs => by rw [made_bytes] at hs; exact hs
  · rintro k E2 ⟨hE7_0, hE0_0, hE6_0, hp0⟩
    refine Wc.seq ?_
    refine Wc.seq ?_
    refine Wc.region ?_
    refine Wl.q (v := Value.int .i64 ((k : Nat) : Int)) (q_move hE7_0) ?_
    refine Wl.q (v := Value.slice (some ⟨bl, 0, none⟩) n n) (q_move hE6_0) ?_
    refine Wl.q (v := Value.int .i64 ((n : Nat) : Int)) (q_len_slice Try.underlying57 rfl) ?_
    by_cases hlt : ((k : Nat) : Int) < ((n : Nat) : Int)
    ·
      have hlt' : k < n := by omega
      refine Wl.q (v := Value.bool true) (q_lss (r := true) rfl rfl (decide_eq_true hlt)) ?_
      refine Wl.done ?_
      refine Wx.go ?_
      refine Wc.yes rfl ?_
      refine Wc.skip ?_
      refine Wx.go ?_
      refine Wc.seq ?_
      refine Wc.block ?_
      refine Wc.region ?_
      refine Wl.q (v := Value.slice (some ⟨bl, 0, none⟩) n n) (q_move hE6_0) ?_
      refine Wl.q (v := Value.int .i64 ((k : Nat) : Int)) (q_move hE7_0) ?_
      refine Wl.q (v := Value.int .u8 ((b : Nat) : Int)) (q_move hE0_0) ?_
      refine Wl.q (v := Value.int .i64 ((k : Nat) : Int)) (q_move hE7_0) ?_
      refine Wl.q (v := Value.int .i64 (((k % 2) : Nat) : Int)) (q_rem (c := (((k % 2) : Nat) : Int)) rfl rfl (by decide) (tmod2 k)) ?_
      refine Wl.q (v := Value.int .u8 (IntKind.u8.wrap ((k % 2 : Nat) : Int))) (q_conv_int (c := (IntKind.u8.wrap ((k % 2 : Nat) : Int))) Try.underlying5 (by rw [Try.underlying3]; rfl) rfl rfl) ?_
      refine Wl.q (v := Value.int .u8 ((fillB b k).toNat : Int)) (q_add (c := ((fillB b k).toNat : Int)) rfl rfl (fill_val b k hb)) ?_
      refine Wl.q (v := Value.pointer (some ⟨bl, k, none⟩)) (q_idx (m := k) se_57 rfl rfl (by omega) (by omega) (by simp)) ?_
      refine Wl.e (e_store (i := 0) (v := Value.int .u8 ((fillB b k).toNat : Int)) sz_5 rfl rfl (fun _ _ => rfl) rfl (by simp [filledL]; omega)) (fun _ _ => ?_)
      refine Wl.imp (L' := (pt bl 5 ((filledL b (k + 1) ++ List.replicate (n - (k + 1)) 0).map byteV)) :: F) (fun _ h => by rw [← fill_step hlt', List.map_set]; exact h) ?_
      refine Wl.done ?_
      refine Wx.blockEnd ?_
      refine Wx.go ?_
      refine Wc.region ?_
      refine Wl.q (v := Value.int .i64 ((k : Nat) : Int)) (q_move hE7_0) ?_
      refine Wl.q (v := Value.int .i64 ((k + 1 : Nat) : Int)) (q_add (c := ((k + 1 : Nat) : Int)) rfl rfl (by rw [wrap_i64] <;> omega)) ?_
      refine Wl.q (v := Value.int .i64 ((k + 1 : Nat) : Int)) (q_assign rfl) ?_
      refine Wl.done ?_
      refine Wx.at (k + 1) ⟨(by omega), rfl, hE0_0, hE6_0, (by omega)⟩ (fun w hs => hs)
    ·
      have hend : k = n := by omega
      refine Wl.q (v := Value.bool false) (q_lss (r := false) rfl rfl (decide_eq_false hlt)) ?_
      refine Wl.done ?_
      refine Wx.go ?_
      refine Wc.no rfl ?_
      refine Wc.exit ?_
      refine Wx.thenExit ?_
      refine Wx.thenExit ?_
      refine Wx.out ?_
      refine Wx.go ?_
      refine Wc.seq ?_
      refine Wc.region ?_
      refine Wl.q (v := Value.slice (some ⟨bl, 0, none⟩) n n) (q_move hE6_0) ?_
      refine Wl.q (v := Value.string (⟨((filledL b n)).toArray⟩)) (q_str_of (l := (filledL b n)) Try.underlying57 Try.underlying5 Try.underlying9 rfl (by simp [filledL]) (fun j u hj => .cel (i := 0) rfl (by rw [hend, Nat.sub_self, List.replicate_zero, List.append_nil, Nat.zero_add]; exact hj))) ?_
      refine Wl.q (v := Value.string (⟨((filledL b n)).toArray⟩)) (q_assign rfl) ?_
      refine Wl.done ?_
      refine Wx.go ?_
      refine Wc.ret ?_
      refine Wx.fin1 rfl (.inl rfl) (fun w hs => ?_)
      exact ⟨(), trivial, by rw [hn]; rfl, st_drop hs⟩

theorem filled_big (W0 : World) (b : Nat) (hb : b < 256) (less m : Int) (hm : IntKind.i64.wrap (64 - less) = m) (hx : m > 128) (n : Nat) (hn : filled b less = ⟨(filledL b n).toArray⟩) (hn0 : n = 0) :
    Con Try.prog W0 21 #[Value.int .u8 ((b : Nat) : Int), Value.int .i64 less] [] (X := Unit) (fun _ => True) (fun _ => .string (filled b less)) (fun _ => []) := by
  refine Con.of (args := [Value.int .u8 ((b : Nat) : Int), Value.int .i64 less]) Try.func21 rfl Try.ntmps21 rfl (fun F => ?_)
  show Wc _ W0 _ _ _ _ _ (F)
  refine Wc.seq ?_
  refine Wc.region ?_
  refine Wl.q (v := Value.string (⟨#[]⟩)) (q_assign rfl) ?_
  refine Wl.done ?_
  refine Wx.go ?_
  refine Wc.seq ?_
  refine Wc.region ?_
  refine Wl.q (v := Value.int .i64 less) (q_move rfl) ?_
  refine Wl.q (v := Value.int .i64 m) (q_sub (c := m) rfl rfl hm) ?_
  refine Wl.q (v := Value.int .i64 m) (q_assign rfl) ?_
  refine Wl.done ?_
  refine Wx.go ?_
  refine Wc.seq ?_
  refine Wc.seq ?_
  refine Wc.region ?_
  refine Wl.q (v := Value.int .i64 m) (q_move rfl) ?_
  refine Wl.q (v := Value.bool false) (q_lss (r := false) rfl rfl (decide_eq_false (by omega))) ?_
  refine Wl.q (v := Value.bool false) (q_move rfl) ?_
  refine Wl.q (v := Value.int .i64 m) (q_move rfl) ?_
  refine Wl.q (v := Value.bool true) (q_gtr (r := true) rfl rfl (decide_eq_true (hx))) ?_
  refine Wl.q (v := Value.bool true) (q_pick (t := false) rfl rfl) ?_
  refine Wl.done ?_
  refine Wx.go ?_
  refine Wc.yes rfl ?_
  refine Wc.region ?_
  refine Wl.q (v := Value.int .i64 0) (q_assign rfl) ?_
  refine Wl.done ?_
  refine Wx.go ?_
  refine Wc.seq ?_
  refine Wc.region ?_
  refine Wl.q (v := Value.int .i64 ((n : Nat) : Int)) (q_move (by rw [hn0]; exact rfl)) ?_
  refine Wl.e (e_makeSlice (len := n) Try.underlying57 sz_5 by_5 zo_5 rfl rfl (by omega) (by omega)) (fun bl _ => ?_)
  refine Wl.imp (L' := (pt bl 5 ((madeCells (Value.int .u8 0 : Value).cells (n * 1)).toList)) :: F) (fun _ h => h) ?_
  refine Wl.q (v := Value.slice (some ⟨bl, 0, none⟩) n n) (q_assign rfl) ?_
  refine Wl.done ?_
  refine Wx.go ?_
  refine Wc.seq ?_
  refine Wc.seq ?_
  refine Wc.region ?_
  refine Wl.q (v := Value.int .i64 0) (q_assign rfl) ?_
  refine Wl.done ?_
  refine Wx.go ?_
  refine Wc.block ?_
  refine Wc.loop (X := Nat) (fun k E => E 7 = Value.int .i64 ((k : Nat) : Int) ∧ E 0 = Value.int .u8 ((b : Nat) : Int) ∧ E 6 = Value.slice (some ⟨bl, 0, none⟩) n n ∧ k ≤ n) (fun k => (pt bl 5 ((filledL b k ++ List.replicate (n - k) 0).map byteV)) :: F) (fun k => n - k) 0 ?_ ?_ ?_
  · exact ⟨rfl, rfl, rfl, (by omega)⟩
  · exact fun w hs => by rw [made_bytes] at hs; exact hs
  · rintro k E2 ⟨hE7_0, hE0_0, hE6_0, hp0⟩
    refine Wc.seq ?_
    refine Wc.seq ?_
    refine Wc.region ?_
    refine Wl.q (v := Value.int .i64 ((k : Nat) : Int)) (q_move hE7_0) ?_
    refine Wl.q (v := Value.slice (some ⟨bl, 0, none⟩) n n) (q_move hE6_0) ?_
    refine Wl.q (v := Value.int .i64 ((n : Nat) : Int)) (q_len_slice Try.underlying57 rfl) ?_
    by_cases hlt : ((k : Nat) : Int) < ((n : Nat) : Int)
    ·
      have hlt' : k < n := by omega
      refine Wl.q (v := Value.bool true) (q_lss (r := true) rfl rfl (decide_eq_true hlt)) ?_
      refine Wl.done ?_
      refine Wx.go ?_
      refine Wc.yes rfl ?_
      refine Wc.skip ?_
      refine Wx.go ?_
      refine Wc.seq ?_
      refine Wc.block ?_
      refine Wc.region ?_
      refine Wl.q (v := Value.slice (some ⟨bl, 0, none⟩) n n) (q_move hE6_0) ?_
      refine Wl.q (v := Value.int .i64 ((k : Nat) : Int)) (q_move hE7_0) ?_
      refine Wl.q (v := Value.int .u8 ((b : Nat) : Int)) (q_move hE0_0) ?_
      refine Wl.q (v := Value.int .i64 ((k : Nat) : Int)) (q_move hE7_0) ?_
      refine Wl.q (v := Value.int .i64 (((k % 2) : Nat) : Int)) (q_rem (c := (((k % 2) : Nat) : Int)) rfl rfl (by decide) (tmod2 k)) ?_
      refine Wl.q (v := Value.int .u8 (IntKind.u8.wrap ((k % 2 : Nat) : Int))) (q_conv_int (c := (IntKind.u8.wrap ((k % 2 : Nat) : Int))) Try.underlying5 (by rw [Try.underlying3]; rfl) rfl rfl) ?_
      refine Wl.q (v := Value.int .u8 ((fillB b k).toNat : Int)) (q_add (c := ((fillB b k).toNat : Int)) rfl rfl (fill_val b k hb)) ?_
      refine Wl.q (v := Value.pointer (some ⟨bl, k, none⟩)) (q_idx (m := k) se_57 rfl rfl (by omega) (by omega) (by simp)) ?_
      refine Wl.e (e_store (i := 0) (v := Value.int .u8 ((fillB b k).toNat : Int)) sz_5 rfl rfl (fun _ _ => rfl) rfl (by simp [filledL]; omega)) (fun _ _ => ?_)
      refine Wl.imp (L' := (pt bl 5 ((filledL b (k + 1) ++ List.replicate (n - (k + 1)) 0).map byteV)) :: F) (fun _ h => by rw [← fill_step hlt', List.map_set]; exact h) ?_
      refine Wl.done ?_
      refine Wx.blockEnd ?_
      refine Wx.go ?_
      refine Wc.region ?_
      refine Wl.q (v := Value.int .i64 ((k : Nat) : Int)) (q_move hE7_0) ?_
      refine Wl.q (v := Value.int .i64 ((k + 1 : Nat) : Int)) (q_add (c := ((k + 1 : Nat) : Int)) rfl rfl (by rw [wrap_i64] <;> omega)) ?_
      refine Wl.q (v := Value.int .i64 ((k + 1 : Nat) : Int)) (q_assign rfl) ?_
      refine Wl.done ?_
      refine Wx.at (k + 1) ⟨(by omega), rfl, hE0_0, hE6_0, (by omega)⟩ (fun w hs => hs)
    ·
      have hend : k = n := by omega
      refine Wl.q (v := Value.bool false) (q_lss (r := false) rfl rfl (decide_eq_false hlt)) ?_
      refine Wl.done ?_
      refine Wx.go ?_
      refine Wc.no rfl ?_
      refine Wc.exit ?_
      refine Wx.thenExit ?_
      refine Wx.thenExit ?_
      refine Wx.out ?_
      refine Wx.go ?_
      refine Wc.seq ?_
      refine Wc.region ?_
      refine Wl.q (v := Value.slice (some ⟨bl, 0, none⟩) n n) (q_move hE6_0) ?_
      refine Wl.q (v := Value.string (⟨((filledL b n)).toArray⟩)) (q_str_of (l := (filledL b n)) Try.underlying57 Try.underlying5 Try.underlying9 rfl (by simp [filledL]) (fun j u hj => .cel (i := 0) rfl (by rw [hend, Nat.sub_self, List.replicate_zero, List.append_nil, Nat.zero_add]; exact hj))) ?_
      refine Wl.q (v := Value.string (⟨((filledL b n)).toArray⟩)) (q_assign rfl) ?_
      refine Wl.done ?_
      refine Wx.go ?_
      refine Wc.ret ?_
      refine Wx.fin1 rfl (.inl rfl) (fun w hs => ?_)
      exact ⟨(), trivial, by rw [hn]; rfl, st_drop hs⟩

theorem filled_in (W0 : World) (b : Nat) (hb : b < 256) (less m : Int) (hm : IntKind.i64.wrap (64 - less) = m) (h0 : 0 ≤ m) (hx : m ≤ 128) (n : Nat) (hn : filled b less = ⟨(filledL b n).toArray⟩) (hmn : m = (n : Int)) :
    Con Try.prog W0 21 #[Value.int .u8 ((b : Nat) : Int), Value.int .i64 less] [] (X := Unit) (fun _ => True) (fun _ => .string (filled b less)) (fun _ => []) := by
  refine Con.of (args := [Value.int .u8 ((b : Nat) : Int), Value.int .i64 less]) Try.func21 rfl Try.ntmps21 rfl (fun F => ?_)
  show Wc _ W0 _ _ _ _ _ (F)
  refine Wc.seq ?_
  refine Wc.region ?_
  refine Wl.q (v := Value.string (⟨#[]⟩)) (q_assign rfl) ?_
  refine Wl.done ?_
  refine Wx.go ?_
  refine Wc.seq ?_
  refine Wc.region ?_
  refine Wl.q (v := Value.int .i64 less) (q_move rfl) ?_
  refine Wl.q (v := Value.int .i64 m) (q_sub (c := m) rfl rfl hm) ?_
  refine Wl.q (v := Value.int .i64 m) (q_assign rfl) ?_
  refine Wl.done ?_
  refine Wx.go ?_
  refine Wc.seq ?_
  refine Wc.seq ?_
  refine Wc.region ?_
  refine Wl.q (v := Value.int .i64 m) (q_move rfl) ?_
  refine Wl.q (v := Value.bool false) (q_lss (r := false) rfl rfl (decide_eq_false (by omega))) ?_
  refine Wl.q (v := Value.bool false) (q_move rfl) ?_
  refine Wl.q (v := Value.int .i64 m) (q_move rfl) ?_
  refine Wl.q (v := Value.bool false) (q_gtr (r := false) rfl rfl (decide_eq_false (by omega))) ?_
  refine Wl.q (v := Value.bool false) (q_pick (t := false) rfl rfl) ?_
  refine Wl.done ?_
  refine Wx.go ?_
  refine Wc.no rfl ?_
  refine Wc.skip ?_
  refine Wx.go ?_
  refine Wc.seq ?_
  refine Wc.region ?_
  refine Wl.q (v := Value.int .i64 ((n : Nat) : Int)) (q_move (by rw [← hmn]; exact rfl)) ?_
  refine Wl.e (e_makeSlice (len := n) Try.underlying57 sz_5 by_5 zo_5 rfl rfl (by omega) (by omega)) (fun bl _ => ?_)
  refine Wl.imp (L' := (pt bl 5 ((madeCells (Value.int .u8 0 : Value).cells (n * 1)).toList)) :: F) (fun _ h => h) ?_
  refine Wl.q (v := Value.slice (some ⟨bl, 0, none⟩) n n) (q_assign rfl) ?_
  refine Wl.done ?_
  refine Wx.go ?_
  refine Wc.seq ?_
  refine Wc.seq ?_
  refine Wc.region ?_
  refine Wl.q (v := Value.int .i64 0) (q_assign rfl) ?_
  refine Wl.done ?_
  refine Wx.go ?_
  refine Wc.block ?_
  refine Wc.loop (X := Nat) (fun k E => E 7 = Value.int .i64 ((k : Nat) : Int) ∧ E 0 = Value.int .u8 ((b : Nat) : Int) ∧ E 6 = Value.slice (some ⟨bl, 0, none⟩) n n ∧ k ≤ n) (fun k => (pt bl 5 ((filledL b k ++ List.replicate (n - k) 0).map byteV)) :: F) (fun k => n - k) 0 ?_ ?_ ?_
  · exact ⟨rfl, rfl, rfl, (by omega)⟩
  · exact fun w hs => by rw [made_bytes] at hs; exact hs
  · rintro k E2 ⟨hE7_0, hE0_0, hE6_0, hp0⟩
    refine Wc.seq ?_
    refine Wc.seq ?_
    refine Wc.region ?_
    refine Wl.q (v := Value.int .i64 ((k : Nat) : Int)) (q_move hE7_0) ?_
    refine Wl.q (v := Value.slice (some ⟨bl, 0, none⟩) n n) (q_move hE6_0) ?_
    refine Wl.q (v := Value.int .i64 ((n : Nat) : Int)) (q_len_slice Try.underlying57 rfl) ?_
    by_cases hlt : ((k : Nat) : Int) < ((n : Nat) : Int)
    ·
      have hlt' : k < n := by omega
      refine Wl.q (v := Value.bool true) (q_lss (r := true) rfl rfl (decide_eq_true hlt)) ?_
      refine Wl.done ?_
      refine Wx.go ?_
      refine Wc.yes rfl ?_
      refine Wc.skip ?_
      refine Wx.go ?_
      refine Wc.seq ?_
      refine Wc.block ?_
      refine Wc.region ?_
      refine Wl.q (v := Value.slice (some ⟨bl, 0, none⟩) n n) (q_move hE6_0) ?_
      refine Wl.q (v := Value.int .i64 ((k : Nat) : Int)) (q_move hE7_0) ?_
      refine Wl.q (v := Value.int .u8 ((b : Nat) : Int)) (q_move hE0_0) ?_
      refine Wl.q (v := Value.int .i64 ((k : Nat) : Int)) (q_move hE7_0) ?_
      refine Wl.q (v := Value.int .i64 (((k % 2) : Nat) : Int)) (q_rem (c := (((k % 2) : Nat) : Int)) rfl rfl (by decide) (tmod2 k)) ?_
      refine Wl.q (v := Value.int .u8 (IntKind.u8.wrap ((k % 2 : Nat) : Int))) (q_conv_int (c := (IntKind.u8.wrap ((k % 2 : Nat) : Int))) Try.underlying5 (by rw [Try.underlying3]; rfl) rfl rfl) ?_
      refine Wl.q (v := Value.int .u8 ((fillB b k).toNat : Int)) (q_add (c := ((fillB b k).toNat : Int)) rfl rfl (fill_val b k hb)) ?_
      refine Wl.q (v := Value.pointer (some ⟨bl, k, none⟩)) (q_idx (m := k) se_57 rfl rfl (by omega) (by omega) (by simp)) ?_
      refine Wl.e (e_store (i := 0) (v := Value.int .u8 ((fillB b k).toNat : Int)) sz_5 rfl rfl (fun _ _ => rfl) rfl (by simp [filledL]; omega)) (fun _ _ => ?_)
      refine Wl.imp (L' := (pt bl 5 ((filledL b (k + 1) ++ List.replicate (n - (k + 1)) 0).map byteV)) :: F) (fun _ h => by rw [← fill_step hlt', List.map_set]; exact h) ?_
      refine Wl.done ?_
      refine Wx.blockEnd ?_
      refine Wx.go ?_
      refine Wc.region ?_
      refine Wl.q (v := Value.int .i64 ((k : Nat) : Int)) (q_move hE7_0) ?_
      refine Wl.q (v := Value.int .i64 ((k + 1 : Nat) : Int)) (q_add (c := ((k + 1 : Nat) : Int)) rfl rfl (by rw [wrap_i64] <;> omega)) ?_
      refine Wl.q (v := Value.int .i64 ((k + 1 : Nat) : Int)) (q_assign rfl) ?_
      refine Wl.done ?_
      refine Wx.at (k + 1) ⟨(by omega), rfl, hE0_0, hE6_0, (by omega)⟩ (fun w hs => hs)
    ·
      have hend : k = n := by omega
      refine Wl.q (v := Value.bool false) (q_lss (r := false) rfl rfl (decide_eq_false hlt)) ?_
      refine Wl.done ?_
      refine Wx.go ?_
      refine Wc.no rfl ?_
      refine Wc.exit ?_
      refine Wx.thenExit ?_
      refine Wx.thenExit ?_
      refine Wx.out ?_
      refine Wx.go ?_
      refine Wc.seq ?_
      refine Wc.region ?_
      refine Wl.q (v := Value.slice (some ⟨bl, 0, none⟩) n n) (q_move hE6_0) ?_
      refine Wl.q (v := Value.string (⟨((filledL b n)).toArray⟩)) (q_str_of (l := (filledL b n)) Try.underlying57 Try.underlying5 Try.underlying9 rfl (by simp [filledL]) (fun j u hj => .cel (i := 0) rfl (by rw [hend, Nat.sub_self, List.replicate_zero, List.append_nil, Nat.zero_add]; exact hj))) ?_
      refine Wl.q (v := Value.string (⟨((filledL b n)).toArray⟩)) (q_assign rfl) ?_
      refine Wl.done ?_
      refine Wx.go ?_
      refine Wc.ret ?_
      refine Wx.fin1 rfl (.inl rfl) (fun w hs => ?_)
      exact ⟨(), trivial, by rw [hn]; rfl, st_drop hs⟩

theorem filled_c (W0 : World) (b : Nat) (hb : b < 256) (less : Int) :
    Con Try.prog W0 21 #[Value.int .u8 ((b : Nat) : Int), Value.int .i64 less] [] (X := Unit) (fun _ => True) (fun _ => .string (filled b less)) (fun _ => []) := by
  by_cases h0 : IntKind.i64.wrap (64 - less) < 0
  · exact filled_neg W0 b hb less _ rfl h0 0 (by simp only [filled, filledN]; rw [if_pos (.inl h0)]) rfl
  · by_cases h1 : IntKind.i64.wrap (64 - less) > 128
    · exact filled_big W0 b hb less _ rfl h1 0 (by simp only [filled, filledN]; rw [if_pos (.inr h1)]) rfl
    · exact filled_in W0 b hb less _ rfl (by omega) (by omega) (IntKind.i64.wrap (64 - less)).toNat (by simp only [filled, filledN]; rw [if_neg (by omega)]) (by omega)

end Go.Proofs.Ytbnglfbfgannhaa
