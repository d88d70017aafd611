import Derived.Test.YtkndmgfahghcjaaGreatWrO
/- Contracts of the calls. -/
namespace Go.Proofs.YtkndmgfahghcjaaGreat
open Go Go.SL Go.Wr Go.RowKit
open Go.Dk (beyondF beyondB beyond_step beyond_le beyond_one beyond_two)
set_option linter.unusedVariables false
set_option maxRecDepth 8000













theorem rlist_bad (W0 : World) (r : Nat) (s : ByteArray) (a0 : Nat) (ha0 : a0 ≤ s.size) (hsz : s.size ≤ 9223372036854775807) (h : takeList s a0 = none) :
    Con Tryz.prog W0 41 #[Value.pointer (some ⟨r, 0, none⟩)] [pt r 101 [Value.bool true, Value.string s, Value.int .i64 ((a0 : Nat) : Int)]] (X := Unit) (fun _ => True) (fun _ => .tuple #[.int .i64 0, .int .i64 4]) (fun _ => [pt r 101 [Value.bool true, Value.string s, Value.int .i64 ((a0 : Nat) : Int)]]) := by
  unfold takeList at h
  split at h
  · rename_i p hp
    split at h
    · cases h
    · rename_i hr
      by_cases h0 : p.1 < 0
      · exact rlist_neg W0 r s a0 ha0 hsz p.1 p.2 hp h0
      · exact rlist_big W0 r s a0 ha0 hsz p.1 p.2 hp (by omega) (by omega)
  · rename_i hp; exact rlist_none W0 r s a0 ha0 hsz hp

theorem text1_none (W0 : World) (r rb nb : Nat) (s : ByteArray) (a0 : Nat) (ha0 : a0 ≤ s.size) (hsz : s.size ≤ 9223372036854775807) (h : takeList s a0 = none) :
  Con Tryz.prog W0 68 #[Value.pointer (some ⟨rb, 0, none⟩), Value.pointer (some ⟨nb, 0, none⟩)] [pt rb 71 [Value.pointer (some ⟨r, 0, none⟩)], pt nb 9 ([Value.string (⟨#[]⟩)]), pt r 101 [Value.bool true, Value.string s, Value.int .i64 ((a0 : Nat) : Int)]] (X := Nat) (fun _ => True) (fun _ => .int .i64 4) (fun a => [pt rb 71 [Value.pointer (some ⟨r, 0, none⟩)], pt nb 9 ([Value.string (⟨#[]⟩)]), pt r 101 [Value.bool true, Value.string s, Value.int .i64 ((a : Nat) : Int)]]) := by
 refine Con.of (args := [Value.pointer (some ⟨rb, 0, none⟩), Value.pointer (some ⟨nb, 0, none⟩)]) Tryz.func68 rfl Tryz.ntmps68 rfl (fun F => ?_)
 show Wc _ W0 _ _ _ _ _ ((pt rb 71 [Value.pointer (some ⟨r, 0, none⟩)]) :: (pt nb 9 ([Value.string (⟨#[]⟩)])) :: (pt r 101 [Value.bool true, Value.string s, Value.int .i64 ((a0 : Nat) : Int)]) :: F)
 refine Wc.seq (Wc.region (Wl.q (v := Value.int .i64 0) (q_assign rfl) (Wl.done (Wx.go (Wc.seq (Wc.region (Wl.q (v := Value.pointer (some ⟨r, 0, none⟩)) (q_load sc_71 rfl (.cel (i := 0) rfl rfl)) (Wl.imp (L' := (pt r 101 [Value.bool true, Value.string s, Value.int .i64 ((a0 : Nat) : Int)]) :: (pt rb 71 [Value.pointer (some ⟨r, 0, none⟩)]) :: (pt nb 9 ([Value.string (⟨#[]⟩)])) :: F) (fun _ h => st_pull [2] h) (Wl.e (e_call (F := (pt rb 71 [Value.pointer (some ⟨r, 0, none⟩)]) :: (pt nb 9 ([Value.string (⟨#[]⟩)])) :: F) (args := [Value.pointer (some ⟨r, 0, none⟩)]) Tryz.call41 rfl (rlist_bad W0 r s a0 ha0 hsz h)) (fun _ _ => Wl.imp (L' := (pt r 101 [Value.bool true, Value.string s, Value.int .i64 ((a0 : Nat) : Int)]) :: (pt rb 71 [Value.pointer (some ⟨r, 0, none⟩)]) :: (pt nb 9 ([Value.string (⟨#[]⟩)])) :: F) (fun _ h => h) (Wl.q (v := Value.tuple #[Value.int .i64 0, Value.int .i64 4]) (q_move rfl) ?_)))))))))))
 refine Wl.q (v := Value.int .i64 0) (q_extract (i := 0) rfl rfl) (Wl.q (v := Value.int .i64 4) (q_extract (i := 1) rfl rfl) (Wl.q (v := Value.int .i64 0) (q_assign rfl) (Wl.q (v := Value.int .i64 4) (q_assign rfl) (Wl.done (Wx.go (Wc.seq (Wc.seq (Wc.drawsS [] ((pt r 101 [Value.bool true, Value.string s, Value.int .i64 ((a0 : Nat) : Int)]) :: (pt rb 71 [Value.pointer (some ⟨r, 0, none⟩)]) :: (pt nb 9 ([Value.string (⟨#[]⟩)])) :: []) (by kernel_rfl) (Wr.pure (v := Value.int .i64 4) 0 rfl (by kernel_rfl) (.inr (fun _ h => st_take [0, 0, 0] h)) (.inl ⟨rfl, fun _ => q_move rfl⟩) (Wr.pure (v := Value.bool true) 1 rfl (by kernel_rfl) (.inr (fun _ h => st_take [0, 0, 0] h)) (.inl ⟨rfl, fun _ => q_neq (r := false) rfl rfl (decide_eq_false (by decide))⟩) (Wr.pure (v := Value.bool true) 2 rfl (by kernel_rfl) (.inr (fun _ h => st_take [0, 0, 0] h)) (.inl ⟨rfl, fun _ => q_move rfl⟩) ?_)))))))))))
 refine Wr.pure (v := undef) 3 rfl (by kernel_rfl) (.inr (fun _ h => st_take [0, 0, 0] h)) (.inr ⟨rfl, rfl⟩) (Wr.pure (v := undef) 4 rfl (by kernel_rfl) (.inr (fun _ h => st_take [0, 0, 0] h)) (.inr ⟨rfl, rfl⟩) (Wr.pure (v := undef) 5 rfl (by kernel_rfl) (.inr (fun _ h => st_take [0, 0, 0] h)) (.inr ⟨rfl, rfl⟩) (Wr.pure (v := undef) 6 rfl (by kernel_rfl) (.inr (fun _ h => st_take [0, 0, 0] h)) (.inr ⟨rfl, rfl⟩) (Wr.pure (v := undef) 7 rfl (by kernel_rfl) (.inr (fun _ h => st_take [0, 0, 0] h)) (.inr ⟨rfl, rfl⟩) (Wr.pure (v := undef) 8 rfl (by kernel_rfl) (.inr (fun _ h => st_take [0, 0, 0] h)) (.inr ⟨rfl, rfl⟩) (Wr.pure (v := undef) 9 rfl (by kernel_rfl) (.inr (fun _ h => st_take [0, 0, 0] h)) (.inr ⟨rfl, rfl⟩) (Wr.pure (v := undef) 10 rfl (by kernel_rfl) (.inr (fun _ h => st_take [0, 0, 0] h)) (.inr ⟨rfl, rfl⟩) (Wr.pure (v := undef) 11 rfl (by kernel_rfl) (.inr (fun _ h => st_take [0, 0, 0] h)) (.inr ⟨rfl, rfl⟩) (Wr.pure (v := undef) 12 rfl (by kernel_rfl) (.inr (fun _ h => st_take [0, 0, 0] h)) (.inr ⟨rfl, rfl⟩) (Wr.pure (v := undef) 13 rfl (by kernel_rfl) (.inr (fun _ h => st_take [0, 0, 0] h)) (.inr ⟨rfl, rfl⟩) (Wr.pure (v := undef) 14 rfl (by kernel_rfl) (.inr (fun _ h => st_take [0, 0, 0] h)) (.inr ⟨rfl, rfl⟩) ?_)))))))))))
 refine Wr.pure (v := Value.bool true) 15 rfl (by kernel_rfl) (.inr (fun _ h => st_take [0, 0, 0] h)) (.inl ⟨rfl, fun _ => q_pick (t := true) rfl rfl⟩) (Wr.done (by kernel_rfl) (Wx.go (Wc.yes rfl (Wc.seq (Wc.region (Wl.q (v := Value.int .i64 4) (q_assign rfl) (Wl.done (Wx.go (Wc.ret (Wx.thenRet (Wx.fin1 rfl (.inl rfl) (fun w hs => ?_))))))))))))
 exact ⟨a0, trivial, rfl, (st_pull [1, 1, 0] (hs))⟩

theorem text1_long (W0 : World) (r rb nb : Nat) (s : ByteArray) (a0 : Nat) (ha0 : a0 ≤ s.size) (hsz : s.size ≤ 9223372036854775807) (n a : Nat) (htk : takeNum s a0 = some ((n : Int), a)) (hn : n ≤ 65536) (ha : a ≤ s.size) (hna : ¬ a + n ≤ s.size) :
  Con Tryz.prog W0 68 #[Value.pointer (some ⟨rb, 0, none⟩), Value.pointer (some ⟨nb, 0, none⟩)] [pt rb 71 [Value.pointer (some ⟨r, 0, none⟩)], pt nb 9 ([Value.string (⟨#[]⟩)]), pt r 101 [Value.bool true, Value.string s, Value.int .i64 ((a0 : Nat) : Int)]] (X := Nat) (fun _ => True) (fun _ => .int .i64 4) (fun a => [pt rb 71 [Value.pointer (some ⟨r, 0, none⟩)], pt nb 9 ([Value.string (⟨#[]⟩)]), pt r 101 [Value.bool true, Value.string s, Value.int .i64 ((a : Nat) : Int)]]) := by
 refine Con.of (args := [Value.pointer (some ⟨rb, 0, none⟩), Value.pointer (some ⟨nb, 0, none⟩)]) Tryz.func68 rfl Tryz.ntmps68 rfl (fun F => ?_)
 show Wc _ W0 _ _ _ _ _ ((pt rb 71 [Value.pointer (some ⟨r, 0, none⟩)]) :: (pt nb 9 ([Value.string (⟨#[]⟩)])) :: (pt r 101 [Value.bool true, Value.string s, Value.int .i64 ((a0 : Nat) : Int)]) :: F)
 refine Wc.seq (Wc.region (Wl.q (v := Value.int .i64 0) (q_assign rfl) (Wl.done (Wx.go (Wc.seq (Wc.region (Wl.q (v := Value.pointer (some ⟨r, 0, none⟩)) (q_load sc_71 rfl (.cel (i := 0) rfl rfl)) (Wl.imp (L' := (pt r 101 [Value.bool true, Value.string s, Value.int .i64 ((a0 : Nat) : Int)]) :: (pt rb 71 [Value.pointer (some ⟨r, 0, none⟩)]) :: (pt nb 9 ([Value.string (⟨#[]⟩)])) :: F) (fun _ h => st_pull [2] h) (Wl.e (e_call (F := (pt rb 71 [Value.pointer (some ⟨r, 0, none⟩)]) :: (pt nb 9 ([Value.string (⟨#[]⟩)])) :: F) (args := [Value.pointer (some ⟨r, 0, none⟩)]) Tryz.call41 rfl (rlist_ok W0 r s a0 ha0 hsz (n : Int) a htk (by omega) (by omega))) (fun _ _ => Wl.imp (L' := (pt r 101 [Value.bool true, Value.string s, Value.int .i64 ((a : Nat) : Int)]) :: (pt rb 71 [Value.pointer (some ⟨r, 0, none⟩)]) :: (pt nb 9 ([Value.string (⟨#[]⟩)])) :: F) (fun _ h => h) (Wl.q (v := Value.tuple #[Value.int .i64 ((n : Nat) : Int), Value.int .i64 0]) (q_move rfl) ?_)))))))))))
 refine Wl.q (v := Value.int .i64 ((n : Nat) : Int)) (q_extract (i := 0) rfl rfl) (Wl.q (v := Value.int .i64 0) (q_extract (i := 1) rfl rfl) (Wl.q (v := Value.int .i64 ((n : Nat) : Int)) (q_assign rfl) (Wl.q (v := Value.int .i64 0) (q_assign rfl) (Wl.done (Wx.go (Wc.seq (Wc.seq (Wc.drawsS [] ((pt r 101 [Value.bool true, Value.string s, Value.int .i64 ((a : Nat) : Int)]) :: (pt rb 71 [Value.pointer (some ⟨r, 0, none⟩)]) :: (pt nb 9 ([Value.string (⟨#[]⟩)])) :: []) (by kernel_rfl) (Wr.pure (v := Value.int .i64 0) 0 rfl (by kernel_rfl) (.inr (fun _ h => st_take [0, 0, 0] h)) (.inl ⟨rfl, fun _ => q_move rfl⟩) (Wr.pure (v := Value.bool false) 1 rfl (by kernel_rfl) (.inr (fun _ h => st_take [0, 0, 0] h)) (.inl ⟨rfl, fun _ => q_neq (r := true) rfl rfl (decide_eq_true (by decide))⟩) (Wr.pure (v := Value.bool false) 2 rfl (by kernel_rfl) (.inr (fun _ h => st_take [0, 0, 0] h)) (.inl ⟨rfl, fun _ => q_move rfl⟩) ?_)))))))))))
 refine Wr.pure (v := Value.int .i64 ((n : Nat) : Int)) 3 rfl (by kernel_rfl) (.inr (fun _ h => st_take [0, 0, 0] h)) (.inl ⟨rfl, fun _ => q_move rfl⟩) (Wr.take (v := Value.pointer (some ⟨r, 0, none⟩)) 4 rfl (by kernel_rfl) (fun _ h => st_take [0, 0, 0] h) (.inl ⟨rfl, q_load sc_71 rfl (.cel (i := 1) rfl rfl)⟩) (Wr.pure (v := Value.pointer (some ⟨r, 0, none⟩)) 5 rfl (by kernel_rfl) (.inr (fun _ h => st_take [0, 0, 0] h)) (.inl ⟨rfl, fun _ => q_nil_ptr rfl⟩) (Wr.pure (v := Value.pointer (some ⟨r, 1, none⟩)) 6 rfl (by kernel_rfl) (.inr (fun _ h => st_take [0, 0, 0] h)) (.inl ⟨rfl, fun _ => q_field (m := 1) fo_101_1 rfl rfl⟩) (Wr.take (v := Value.string s) 7 rfl (by kernel_rfl) (fun _ h => st_take [0, 0, 0] h) (.inl ⟨rfl, q_load sc_9 rfl (.cel (i := 0) rfl rfl)⟩) (Wr.take (v := Value.int .i64 ((s.size : Nat) : Int)) 8 rfl (by kernel_rfl) (fun _ h => st_take [0, 0, 0] h) (.inl ⟨rfl, q_len_str Tryz.underlying9 rfl⟩) (Wr.take (v := Value.pointer (some ⟨r, 0, none⟩)) 9 rfl (by kernel_rfl) (fun _ h => st_take [0, 0, 0] h) (.inl ⟨rfl, q_load sc_71 rfl (.cel (i := 1) rfl rfl)⟩) (Wr.pure (v := Value.pointer (some ⟨r, 0, none⟩)) 10 rfl (by kernel_rfl) (.inr (fun _ h => st_take [0, 0, 0] h)) (.inl ⟨rfl, fun _ => q_nil_ptr rfl⟩) (Wr.pure (v := Value.pointer (some ⟨r, 2, none⟩)) 11 rfl (by kernel_rfl) (.inr (fun _ h => st_take [0, 0, 0] h)) (.inl ⟨rfl, fun _ => q_field (m := 2) fo_101_2 rfl rfl⟩) (Wr.take (v := Value.int .i64 ((a : Nat) : Int)) 12 rfl (by kernel_rfl) (fun _ h => st_take [0, 0, 0] h) (.inl ⟨rfl, q_load sc_3 rfl (.cel (i := 0) rfl rfl)⟩) (Wr.pure (v := Value.int .i64 (((s.size : Nat) : Int) - ((a : Nat) : Int))) 13 rfl (by kernel_rfl) (.inr (fun _ h => st_take [0, 0, 0] h)) (.inl ⟨rfl, fun _ => q_sub (c := (((s.size : Nat) : Int) - ((a : Nat) : Int))) rfl rfl (wrap_i64 (by omega) (by omega))⟩) (Wr.pure (v := Value.bool true) 14 rfl (by kernel_rfl) (.inr (fun _ h => st_take [0, 0, 0] h)) (.inl ⟨rfl, fun _ => q_gtr (r := true) rfl rfl (decide_eq_true (by omega))⟩) ?_)))))))))))
 refine Wr.pure (v := Value.bool true) 15 rfl (by kernel_rfl) (.inr (fun _ h => st_take [0, 0, 0] h)) (.inl ⟨rfl, fun _ => q_pick (t := false) rfl rfl⟩) (Wr.done (by kernel_rfl) (Wx.go (Wc.yes rfl (Wc.seq (Wc.region (Wl.q (v := Value.int .i64 4) (q_assign rfl) (Wl.done (Wx.go (Wc.ret (Wx.thenRet (Wx.fin1 rfl (.inl rfl) (fun w hs => ?_))))))))))))
 exact ⟨a, trivial, rfl, (st_pull [1, 1, 0] (hs))⟩

theorem rtext_none (W0 : World) (r : Nat) (s : ByteArray) (a0 : Nat) (ha0 : a0 ≤ s.size) (hsz : s.size ≤ 9223372036854775807) (h : takeList s a0 = none) :
  Con Tryz.prog W0 42 #[Value.pointer (some ⟨r, 0, none⟩)] [pt r 101 [Value.bool true, Value.string s, Value.int .i64 ((a0 : Nat) : Int)]] (X := Unit) (fun _ => True) (fun _ => .tuple #[Value.string (⟨#[]⟩), .int .i64 4]) (fun _ => [pt r 101 [Value.bool true, Value.string s, Value.int .i64 ((a0 : Nat) : Int)]]) := by
 refine Con.of (args := [Value.pointer (some ⟨r, 0, none⟩)]) Tryz.func42 rfl Tryz.ntmps42 rfl (fun F => ?_)
 show Wc _ W0 _ _ _ _ _ ((pt r 101 [Value.bool true, Value.string s, Value.int .i64 ((a0 : Nat) : Int)]) :: F)
 refine Wc.seq (Wc.region (Wl.e (e_box (x := .tmp 0) (vs := [Value.pointer (some ⟨r, 0, none⟩)]) rfl) (fun rb _ => Wl.imp (L' := (pt rb 71 [Value.pointer (some ⟨r, 0, none⟩)]) :: (pt r 101 [Value.bool true, Value.string s, Value.int .i64 ((a0 : Nat) : Int)]) :: F) (fun _ h => h) (Wl.e (e_alloc (vs := [Value.string (⟨#[]⟩)]) zo_9 rfl) (fun nb _ => Wl.imp (L' := (pt nb 9 ([Value.string (⟨#[]⟩)])) :: (pt rb 71 [Value.pointer (some ⟨r, 0, none⟩)]) :: (pt r 101 [Value.bool true, Value.string s, Value.int .i64 ((a0 : Nat) : Int)]) :: F) (fun _ h => h) (Wl.q (v := Value.int .i64 0) (q_assign rfl) (Wl.done (Wx.go (Wc.seq (Wc.region (Wl.q (v := Value.pointer (some ⟨r, 0, none⟩)) (q_load sc_71 rfl (.cel (i := 1) rfl rfl)) ?_)))))))))))
 refine Wl.q (v := Value.func (.func 68) #[] #[Value.pointer (some ⟨rb, 0, none⟩), Value.pointer (some ⟨nb, 0, none⟩)]) (q_makeFunc (us := []) (vs := [Value.pointer (some ⟨rb, 0, none⟩), Value.pointer (some ⟨nb, 0, none⟩)]) rfl rfl) (Wl.imp (L' := (pt rb 71 [Value.pointer (some ⟨r, 0, none⟩)]) :: (pt nb 9 ([Value.string (⟨#[]⟩)])) :: (pt r 101 [Value.bool true, Value.string s, Value.int .i64 ((a0 : Nat) : Int)]) :: F) (fun _ h => st_pull [1, 0, 0] h) (Wl.e (e_call (F := F) (args := [Value.pointer (some ⟨r, 0, none⟩), Value.func (.func 68) #[] #[Value.pointer (some ⟨rb, 0, none⟩), Value.pointer (some ⟨nb, 0, none⟩)]]) Tryz.call65 rfl (take_Text_bad W0 r rb nb s a0 (Value.string (⟨#[]⟩)) (text1_none W0 r rb nb s a0 ha0 hsz h))) (fun _ _ => Wl.imp (L' := (pt rb 71 [Value.pointer (some ⟨r, 0, none⟩)]) :: (pt nb 9 ([Value.string (⟨#[]⟩)])) :: (pt r 101 [Value.bool true, Value.string s, Value.int .i64 ((a0 : Nat) : Int)]) :: F) (fun _ h => h) (Wl.q (v := Value.int .i64 4) (q_assign rfl) (Wl.done (Wx.go (Wc.seq (Wc.region (Wl.q (v := Value.string (⟨#[]⟩)) (q_load sc_9 rfl (.cel (i := 1) rfl rfl)) (Wl.q (v := Value.int .i64 4) (q_move rfl) (Wl.e (e_store (i := 1) (v := Value.string (⟨#[]⟩)) sz_9 rfl rfl (fun _ _ => rfl) rfl (by simp)) (fun _ _ => ?_))))))))))))
 refine Wl.imp (L' := (pt rb 71 [Value.pointer (some ⟨r, 0, none⟩)]) :: (pt nb 9 ([Value.string (⟨#[]⟩)])) :: (pt r 101 [Value.bool true, Value.string s, Value.int .i64 ((a0 : Nat) : Int)]) :: F) (fun _ h => h) (Wl.q (v := Value.int .i64 4) (q_assign rfl) (Wl.done (Wx.go (Wc.ret (Wx.finC2 rfl (.inl rfl) sc_9 rfl (.cel (i := 1) rfl rfl) (fun w hs => ?_))))))
 exact ⟨(), trivial, rfl, (st_drop (st_drop (st_pull [0, 0] hs)))⟩

theorem rtext_long (W0 : World) (r : Nat) (s : ByteArray) (a0 : Nat) (ha0 : a0 ≤ s.size) (hsz : s.size ≤ 9223372036854775807) (n a : Nat) (htk : takeNum s a0 = some ((n : Int), a)) (hn : n ≤ 65536) (ha : a ≤ s.size) (hna : ¬ a + n ≤ s.size) :
  Con Tryz.prog W0 42 #[Value.pointer (some ⟨r, 0, none⟩)] [pt r 101 [Value.bool true, Value.string s, Value.int .i64 ((a0 : Nat) : Int)]] (X := Unit) (fun _ => True) (fun _ => .tuple #[Value.string (⟨#[]⟩), .int .i64 4]) (fun _ => [pt r 101 [Value.bool true, Value.string s, Value.int .i64 ((a0 : Nat) : Int)]]) := by
 refine Con.of (args := [Value.pointer (some ⟨r, 0, none⟩)]) Tryz.func42 rfl Tryz.ntmps42 rfl (fun F => ?_)
 show Wc _ W0 _ _ _ _ _ ((pt r 101 [Value.bool true, Value.string s, Value.int .i64 ((a0 : Nat) : Int)]) :: F)
 refine Wc.seq (Wc.region (Wl.e (e_box (x := .tmp 0) (vs := [Value.pointer (some ⟨r, 0, none⟩)]) rfl) (fun rb _ => Wl.imp (L' := (pt rb 71 [Value.pointer (some ⟨r, 0, none⟩)]) :: (pt r 101 [Value.bool true, Value.string s, Value.int .i64 ((a0 : Nat) : Int)]) :: F) (fun _ h => h) (Wl.e (e_alloc (vs := [Value.string (⟨#[]⟩)]) zo_9 rfl) (fun nb _ => Wl.imp (L' := (pt nb 9 ([Value.string (⟨#[]⟩)])) :: (pt rb 71 [Value.pointer (some ⟨r, 0, none⟩)]) :: (pt r 101 [Value.bool true, Value.string s, Value.int .i64 ((a0 : Nat) : Int)]) :: F) (fun _ h => h) (Wl.q (v := Value.int .i64 0) (q_assign rfl) (Wl.done (Wx.go (Wc.seq (Wc.region (Wl.q (v := Value.pointer (some ⟨r, 0, none⟩)) (q_load sc_71 rfl (.cel (i := 1) rfl rfl)) ?_)))))))))))
 refine Wl.q (v := Value.func (.func 68) #[] #[Value.pointer (some ⟨rb, 0, none⟩), Value.pointer (some ⟨nb, 0, none⟩)]) (q_makeFunc (us := []) (vs := [Value.pointer (some ⟨rb, 0, none⟩), Value.pointer (some ⟨nb, 0, none⟩)]) rfl rfl) (Wl.imp (L' := (pt rb 71 [Value.pointer (some ⟨r, 0, none⟩)]) :: (pt nb 9 ([Value.string (⟨#[]⟩)])) :: (pt r 101 [Value.bool true, Value.string s, Value.int .i64 ((a0 : Nat) : Int)]) :: F) (fun _ h => st_pull [1, 0, 0] h) (Wl.e (e_call (F := F) (args := [Value.pointer (some ⟨r, 0, none⟩), Value.func (.func 68) #[] #[Value.pointer (some ⟨rb, 0, none⟩), Value.pointer (some ⟨nb, 0, none⟩)]]) Tryz.call65 rfl (take_Text_bad W0 r rb nb s a0 (Value.string (⟨#[]⟩)) (text1_long W0 r rb nb s a0 ha0 hsz n a htk hn ha hna))) (fun _ _ => Wl.imp (L' := (pt rb 71 [Value.pointer (some ⟨r, 0, none⟩)]) :: (pt nb 9 ([Value.string (⟨#[]⟩)])) :: (pt r 101 [Value.bool true, Value.string s, Value.int .i64 ((a0 : Nat) : Int)]) :: F) (fun _ h => h) (Wl.q (v := Value.int .i64 4) (q_assign rfl) (Wl.done (Wx.go (Wc.seq (Wc.region (Wl.q (v := Value.string (⟨#[]⟩)) (q_load sc_9 rfl (.cel (i := 1) rfl rfl)) (Wl.q (v := Value.int .i64 4) (q_move rfl) (Wl.e (e_store (i := 1) (v := Value.string (⟨#[]⟩)) sz_9 rfl rfl (fun _ _ => rfl) rfl (by simp)) (fun _ _ => ?_))))))))))))
 refine Wl.imp (L' := (pt rb 71 [Value.pointer (some ⟨r, 0, none⟩)]) :: (pt nb 9 ([Value.string (⟨#[]⟩)])) :: (pt r 101 [Value.bool true, Value.string s, Value.int .i64 ((a0 : Nat) : Int)]) :: F) (fun _ h => h) (Wl.q (v := Value.int .i64 4) (q_assign rfl) (Wl.done (Wx.go (Wc.ret (Wx.finC2 rfl (.inl rfl) sc_9 rfl (.cel (i := 1) rfl rfl) (fun w hs => ?_))))))
 exact ⟨(), trivial, rfl, (st_drop (st_drop (st_pull [0, 0] hs)))⟩




theorem rlist_c (W0 : World) (r : Nat) (s : ByteArray) (a0 : Nat) (ha0 : a0 ≤ s.size) (hsz : s.size ≤ 9223372036854775807) :
  Con Tryz.prog W0 41 #[Value.pointer (some ⟨r, 0, none⟩)] [pt r 101 [Value.bool true, Value.string s, Value.int .i64 ((a0 : Nat) : Int)]] (X := Unit) (fun _ => True) (fun _ => .tuple #[.int .i64 ((gv 0 (takeList s a0) : Nat) : Int), .int .i64 (ge (takeList s a0))]) (fun _ => [pt r 101 [Value.bool true, Value.string s, Value.int .i64 (((gn a0 (takeList s a0)) : Nat) : Int)]]) := by
 rcases h : takeList s a0 with _ | ⟨n, a⟩
 · exact rlist_bad W0 r s a0 ha0 hsz h
 · have := takeList_le h; simp only at this; exact rlist_ok W0 r s a0 ha0 hsz (n : Int) a (takeList_of h) (by omega) (by omega)

theorem rtext_c (W0 : World) (r : Nat) (s : ByteArray) (a0 : Nat) (ha0 : a0 ≤ s.size) (hsz : s.size ≤ 9223372036854775807) :
  Con Tryz.prog W0 42 #[Value.pointer (some ⟨r, 0, none⟩)] [pt r 101 [Value.bool true, Value.string s, Value.int .i64 ((a0 : Nat) : Int)]] (X := Unit) (fun _ => True) (fun _ => .tuple #[.string (gv ⟨#[]⟩ (takeText s a0)), .int .i64 (ge (takeText s a0))]) (fun _ => [pt r 101 [Value.bool true, Value.string s, Value.int .i64 (((gn a0 (takeText s a0)) : Nat) : Int)]]) := by
 rcases h : takeList s a0 with _ | ⟨n, a⟩
 · rw [show takeText s a0 = none from by simp [takeText, h]]; exact rtext_none W0 r s a0 ha0 hsz h
 have hl := takeList_le h
 simp only at hl
 by_cases h1 : a + n ≤ s.size
 · rw [show takeText s a0 = some (s.extract a (a + n), a + n) from by simp [takeText, h, h1]]; exact rtext_ok W0 r s a0 ha0 hsz n a (takeList_of h) (by omega) h1
 · rw [show takeText s a0 = none from by simp [takeText, h, h1]]; exact rtext_long W0 r s a0 ha0 hsz n a (takeList_of h) (by omega) (by omega) h1







theorem end_c (W0 : World) (r : Nat) (s : ByteArray) (a : Nat) : Con Tryz.prog W0 43 #[Value.pointer (some ⟨r, 0, none⟩)] [pt r 101 [Value.bool true, Value.string s, Value.int .i64 ((a : Nat) : Int)]] (X := Unit) (fun _ => True) (fun _ => .int .i64 (if a = s.size then 0 else 4)) (fun _ => [pt r 101 [Value.bool true, Value.string s, Value.int .i64 ((a : Nat) : Int)]]) := by
 by_cases h : a = s.size
 · rw [if_pos h]; exact end_yes W0 r s a h
 · rw [if_neg h]; exact end_no W0 r s a h

end Go.Proofs.YtkndmgfahghcjaaGreat

