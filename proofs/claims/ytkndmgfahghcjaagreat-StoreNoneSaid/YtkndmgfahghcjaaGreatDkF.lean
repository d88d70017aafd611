import Derived.Test.YtkndmgfahghcjaaGreatDkE
import Derived.Test.YtkndmgfahghcjaaGreatDkL
/- Contracts of the calls. -/
namespace Go.Proofs.YtkndmgfahghcjaaGreat
open Go Go.SL Go.Dk Go.RowKit
set_option linter.unusedVariables false
set_option maxRecDepth 8000
theorem by_9 : (Tryz.prog.info? 9).map (·.bytes) = some 16 := by kernel_rfl
theorem zo_9 : zeroOf Tryz.prog 9 = some (Value.string (⟨#[]⟩)) := by kernel_rfl
theorem zo_82 : zeroOf Tryz.prog 82 = some (Value.agg #[Value.slice none 0 0, Value.slice none 0 0, Value.bool false, Value.int .i64 0, Value.nilFunc]) := by kernel_rfl
theorem sz_5 : sizeIs Tryz.prog 5 = some 1 := by kernel_rfl
theorem by_5 : (Tryz.prog.info? 5).map (·.bytes) = some 1 := by kernel_rfl
theorem zo_5 : zeroOf Tryz.prog 5 = some (Value.int .u8 0) := by kernel_rfl
theorem new_ok (W0 : World) (n : Nat) (h1 : 1 ≤ n) (h2 : n ≤ 4096) :
    Con Tryz.prog W0 18 #[Value.int .i64 ((n : Nat) : Int)] [] (X := Nat) (fun _ => True) (fun pp => .tuple #[.pointer (some ⟨pp, 0, none⟩), .int .i64 0]) (fun pp => [isDisk pp (DS.new n)]) := by
  refine Con.of (args := [Value.int .i64 ((n : Nat) : Int)]) Tryz.func18 rfl Tryz.ntmps18 rfl (fun F => ?_)
  show Wc _ W0 _ _ _ _ _ (F)
  refine Wc.seq ?_
  refine Wc.region ?_
  refine Wl.q (v := Value.pointer none) (q_assign rfl) ?_
  refine Wl.q (v := Value.int .i64 0) (q_assign rfl) ?_
  refine Wl.done ?_
  refine Wx.go ?_
  refine Wc.seq ?_
  refine Wc.block ?_
  refine Wc.seq ?_
  refine Wc.region ?_
  refine Wl.q (v := Value.int .i64 ((n : Nat) : Int)) (q_move rfl) ?_
  refine Wl.q (v := Value.bool false) (q_lss (r := false) rfl rfl (decide_eq_false (by omega))) ?_
  refine Wl.q (v := Value.bool false) (q_assign rfl) ?_
  refine Wl.done ?_
  refine Wx.go ?_
  refine Wc.no rfl ?_
  refine Wc.seq ?_
  refine Wc.region ?_
  refine Wl.q (v := Value.int .i64 ((n : Nat) : Int)) (q_move rfl) ?_
  refine Wl.q (v := Value.bool false) (q_gtr (r := false) rfl rfl (decide_eq_false (by omega))) ?_
  refine Wl.q (v := Value.bool false) (q_assign rfl) ?_
  refine Wl.done ?_
  refine Wx.go ?_
  refine Wc.no rfl ?_
  refine Wc.skip ?_
  refine Wx.blockEnd ?_
  refine Wx.go ?_
  refine Wc.seq ?_
  refine Wc.region ?_
  refine Wl.q (v := Value.int .i64 ((n : Nat) : Int)) (q_move rfl) ?_
  refine Wl.e (e_makeSlice (len := n) Tryz.underlying50 sz_9 by_9 zo_9 rfl rfl (by omega) (by omega)) (fun bs _ => ?_)
  refine Wl.imp (L' := (pt bs 9 ((madeCells (Value.string (⟨#[]⟩) : Value).cells (n * 1)).toList)) :: F) (fun _ h => h) ?_
  refine Wl.q (v := Value.agg #[Value.slice (some ⟨bs, 0, none⟩) n n, Value.slice none 0 0, Value.bool false, Value.int .i64 0, Value.nilFunc]) (q_build (pl := [(0, 1), (1, 1), (2, 1), (3, 1), (4, 1)]) Tryz.underlying82 zo_82 (by kernel_rfl) (by kernel_rfl)) ?_
  refine Wl.e (e_box (x := .tmp 14) (vs := [Value.slice (some ⟨bs, 0, none⟩) n n, Value.slice none 0 0, Value.bool false, Value.int .i64 0, Value.nilFunc]) rfl) (fun pp _ => ?_)
  refine Wl.imp (L' := (pt pp 82 [Value.slice (some ⟨bs, 0, none⟩) n n, Value.slice none 0 0, Value.bool false, Value.int .i64 0, Value.nilFunc]) :: (pt bs 9 ((madeCells (Value.string (⟨#[]⟩) : Value).cells (n * 1)).toList)) :: F) (fun _ h => h) ?_
  refine Wl.q (v := Value.pointer (some ⟨pp, 0, none⟩)) (q_assign rfl) ?_
  refine Wl.done ?_
  refine Wx.go ?_
  refine Wc.seq ?_
  refine Wc.seq ?_
  refine Wc.region ?_
  refine Wl.q (v := Value.pointer (some ⟨pp, 0, none⟩)) (q_move rfl) ?_
  refine Wl.q (v := Value.pointer (some ⟨pp, 0, none⟩)) (q_nil_ptr rfl) ?_
  refine Wl.q (v := Value.pointer (some ⟨pp, 0, none⟩)) (q_field (m := 0) fo_82_0 rfl rfl) ?_
  refine Wl.q (v := Value.slice (some ⟨bs, 0, none⟩) n n) (q_load sc_50 rfl (.cel (i := 0) rfl rfl)) ?_
  refine Wl.q (v := Value.int .i64 ((n : Nat) : Int)) (q_len_slice Tryz.underlying50 rfl) ?_
  refine Wl.q (v := Value.int .i64 0) (q_move rfl) ?_
  refine Wl.done ?_
  refine Wx.go ?_
  refine Wc.block ?_
  refine Wc.loop (X := Nat) (fun k E => E 21 = Value.int .i64 ((k : Nat) : Int) ∧ E 4 = Value.pointer (some ⟨pp, 0, none⟩) ∧ E 20 = Value.int .i64 ((n : Nat) : Int) ∧ k ≤ n) (fun k => (pt pp 82 [Value.slice (some ⟨bs, 0, none⟩) n n, Value.slice none 0 0, Value.bool false, Value.int .i64 0, Value.nilFunc]) :: (pt bs 9 ((List.replicate k noughts ++ List.replicate (n - k) (ByteArray.mk #[])).map Value.string)) :: F) (fun k => n - k) 0 ?_ ?_ ?_
  · exact ⟨rfl, rfl, rfl, (by omega)⟩
  · exact fun w hs => by rw [made_texts] at hs; simpa using hs
  · rintro k E2 ⟨hE21_0, hE4_0, hE20_0, hp0⟩
    refine Wc.seq ?_
    refine Wc.region ?_
    by_cases hlt : ((k : Nat) : Int) < ((n : Nat) : Int)
    ·
      have hlt' : k < n := by omega
      refine Wl.q (v := Value.bool true) (q_lss (r := true) hE21_0 hE20_0 (decide_eq_true hlt)) ?_
      refine Wl.done ?_
      refine Wx.go ?_
      refine Wc.seq ?_
      refine Wc.yes rfl ?_
      refine Wc.skip ?_
      refine Wx.go ?_
      refine Wc.seq ?_
      refine Wc.block ?_
      refine Wc.seq ?_
      refine Wc.region ?_
      refine Wl.q (v := Value.int .i64 ((k : Nat) : Int)) (q_move hE21_0) ?_
      refine Wl.q (v := Value.int .i64 ((k : Nat) : Int)) (q_assign rfl) ?_
      refine Wl.done ?_
      refine Wx.go ?_
      refine Wc.drawsS [8] ((pt pp 82 [Value.slice (some ⟨bs, 0, none⟩) n n, Value.slice none 0 0, Value.bool false, Value.int .i64 0, Value.nilFunc]) :: (pt bs 9 ((List.replicate k noughts ++ List.replicate (n - k) (ByteArray.mk #[])).map Value.string)) :: []) (by kernel_rfl) ?_
      refine Wr.pure (v := Value.pointer (some ⟨pp, 0, none⟩)) 0 rfl (by kernel_rfl) (.inr (fun _ h => st_take [0, 0] h)) (.inl ⟨rfl, fun _ => q_move hE4_0⟩) ?_
      refine Wr.pure (v := Value.pointer (some ⟨pp, 0, none⟩)) 1 rfl (by kernel_rfl) (.inr (fun _ h => st_take [0, 0] h)) (.inl ⟨rfl, fun _ => q_nil_ptr rfl⟩) ?_
      refine Wr.pure (v := Value.pointer (some ⟨pp, 0, none⟩)) 2 rfl (by kernel_rfl) (.inr (fun _ h => st_take [0, 0] h)) (.inl ⟨rfl, fun _ => q_field (m := 0) fo_82_0 rfl rfl⟩) ?_
      refine Wr.take (v := Value.slice (some ⟨bs, 0, none⟩) n n) 3 rfl (by kernel_rfl) (fun _ h => st_take [0, 0] h) (.inl ⟨rfl, q_load sc_50 rfl (.cel (i := 0) rfl rfl)⟩) ?_
      refine Wr.pure (v := Value.int .i64 ((k : Nat) : Int)) 4 rfl (by kernel_rfl) (.inr (fun _ h => st_take [0, 0] h)) (.inl ⟨rfl, fun _ => q_move rfl⟩) ?_
      refine Wr.e 5 (by kernel_rfl) rfl (e_makeSlice (len := 64) Tryz.underlying65 sz_5 by_5 zo_5 rfl rfl (by omega) (by omega)) (.inr fun _ _ _ h => st_take [1, 1] h) (fun b3 _ => ?_)
      refine Wr.imp (L' := (pt b3 5 ((madeCells (Value.int .u8 0 : Value).cells (64 * 1)).toList)) :: (pt pp 82 [Value.slice (some ⟨bs, 0, none⟩) n n, Value.slice none 0 0, Value.bool false, Value.int .i64 0, Value.nilFunc]) :: (pt bs 9 ((List.replicate k noughts ++ List.replicate (n - k) (ByteArray.mk #[])).map Value.string)) :: F) (fun _ h => h) ?_
      refine Wr.more (S' := (pt b3 5 ((madeCells (Value.int .u8 0 : Value).cells (64 * 1)).toList)) :: (pt pp 82 [Value.slice (some ⟨bs, 0, none⟩) n n, Value.slice none 0 0, Value.bool false, Value.int .i64 0, Value.nilFunc]) :: (pt bs 9 ((List.replicate k noughts ++ List.replicate (n - k) (ByteArray.mk #[])).map Value.string)) :: []) (fun _ h => st_drop h) ?_
      refine Wr.take (v := Value.string (⟨((List.replicate 64 (0 : UInt8))).toArray⟩)) 6 rfl (by kernel_rfl) (fun _ h => st_take [0, 0, 0] h) (.inl ⟨rfl, q_str_of (l := (List.replicate 64 (0 : UInt8))) Tryz.underlying65 Tryz.underlying5 Tryz.underlying9 rfl (by simp) (fun j u hj => .cel (i := 0) rfl (by rw [made_bytes, Nat.zero_add]; exact hj))⟩) ?_
      refine Wr.pure (v := Value.pointer (some ⟨bs, k, none⟩)) 7 rfl (by kernel_rfl) (.inr (fun _ h => st_take [0, 0, 0] h)) (.inl ⟨rfl, fun _ => q_idx (m := k) se_50 rfl rfl (by omega) (by omega) (by simp)⟩) ?_
      refine Wr.e 8 (by kernel_rfl) rfl (e_store (i := 2) (v := Value.string (⟨((List.replicate 64 (0 : UInt8))).toArray⟩)) sz_9 rfl rfl (fun _ _ => rfl) rfl (by simp; omega)) (.inl (by kernel_rfl)) (fun _ _ => ?_)
      refine Wr.imp (L' := (pt b3 5 ((madeCells (Value.int .u8 0 : Value).cells (64 * 1)).toList)) :: (pt pp 82 [Value.slice (some ⟨bs, 0, none⟩) n n, Value.slice none 0 0, Value.bool false, Value.int .i64 0, Value.nilFunc]) :: (pt bs 9 ((List.replicate (k + 1) noughts ++ List.replicate (n - (k + 1)) (ByteArray.mk #[])).map Value.string)) :: F) (fun _ h => by rw [← new_step hlt' noughts (ByteArray.mk #[]), List.map_set]; exact h) ?_
      refine Wr.rebaseS [] ((pt b3 5 ((madeCells (Value.int .u8 0 : Value).cells (64 * 1)).toList)) :: (pt pp 82 [Value.slice (some ⟨bs, 0, none⟩) n n, Value.slice none 0 0, Value.bool false, Value.int .i64 0, Value.nilFunc]) :: (pt bs 9 ((List.replicate (k + 1) noughts ++ List.replicate (n - (k + 1)) (ByteArray.mk #[])).map Value.string)) :: []) (by kernel_rfl) ?_
      refine Wr.done (by kernel_rfl) ?_
      refine Wx.blockEnd ?_
      refine Wx.go ?_
      refine Wc.region ?_
      refine Wl.q (v := Value.int .i64 ((k + 1 : Nat) : Int)) (q_add (c := ((k + 1 : Nat) : Int)) hE21_0 rfl (by rw [wrap_i64] <;> omega)) ?_
      refine Wl.q (v := Value.int .i64 ((k + 1 : Nat) : Int)) (q_move rfl) ?_
      refine Wl.done ?_
      refine Wx.at (k + 1) ⟨(by omega), rfl, hE4_0, hE20_0, (by omega)⟩ (fun w hs => (st_drop (st_pull [0] hs)))
    ·
      refine Wl.q (v := Value.bool false) (q_lss (r := false) hE21_0 hE20_0 (decide_eq_false hlt)) ?_
      refine Wl.done ?_
      refine Wx.go ?_
      refine Wc.seq ?_
      refine Wc.no rfl ?_
      refine Wc.exit ?_
      refine Wx.thenExit ?_
      refine Wx.thenExit ?_
      refine Wx.out ?_
      refine Wx.go ?_
      refine Wc.seq ?_
      refine Wc.region ?_
      refine Wl.q (v := Value.pointer (some ⟨pp, 0, none⟩)) (q_move hE4_0) ?_
      refine Wl.q (v := Value.pointer (some ⟨pp, 0, none⟩)) (q_move hE4_0) ?_
      refine Wl.q (v := Value.func (.func 47) #[Value.pointer (some ⟨pp, 0, none⟩)] #[]) (q_makeFunc (us := [Value.pointer (some ⟨pp, 0, none⟩)]) (vs := []) rfl rfl) ?_
      refine Wl.q (v := Value.pointer (some ⟨pp, 0, none⟩)) (q_nil_ptr rfl) ?_
      refine Wl.q (v := Value.pointer (some ⟨pp, 4, none⟩)) (q_field (m := 4) fo_82_4 rfl rfl) ?_
      refine Wl.e (e_store (i := 0) (v := Value.func (.func 47) #[Value.pointer (some ⟨pp, 0, none⟩)] #[]) sz_31 rfl rfl (fun _ _ => rfl) rfl (by simp)) (fun _ _ => ?_)
      refine Wl.imp (L' := (pt pp 82 ([Value.slice (some ⟨bs, 0, none⟩) n n, Value.slice none 0 0, Value.bool false, Value.int .i64 0, Value.func (.func 47) #[Value.pointer (some ⟨pp, 0, none⟩)] #[]])) :: (pt bs 9 ((List.replicate k noughts ++ List.replicate (n - k) (ByteArray.mk #[])).map Value.string)) :: F) (fun _ h => h) ?_
      refine Wl.done ?_
      refine Wx.go ?_
      refine Wc.seq ?_
      refine Wc.region ?_
      refine Wl.q (v := Value.pointer (some ⟨pp, 0, none⟩)) (q_move hE4_0) ?_
      refine Wl.q (v := Value.pointer (some ⟨pp, 0, none⟩)) (q_assign rfl) ?_
      refine Wl.q (v := Value.int .i64 0) (q_assign rfl) ?_
      refine Wl.done ?_
      refine Wx.go ?_
      refine Wc.ret ?_
      refine Wx.fin2 rfl (.inl rfl) (fun w hs => ?_)
      have hend : k = n := by omega
      subst hend
      exact ⟨pp, trivial, rfl, isDisk_mk (d := DS.new k) (n := k) (by simp [DS.new]) (by simp only [Nat.sub_self, List.replicate_zero, List.append_nil] at hs; exact st_pull [2, 2] (st_sl_nil (mayR_none hs)))⟩

end Go.Proofs.YtkndmgfahghcjaaGreat

