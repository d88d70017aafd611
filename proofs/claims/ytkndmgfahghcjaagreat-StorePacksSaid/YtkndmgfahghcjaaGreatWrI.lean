import Derived.Test.YtkndmgfahghcjaaGreatWrH
import Derived.Test.YtkndmgfahghcjaaGreatWrO
/- Contracts of the calls. -/
namespace Go.Proofs.YtkndmgfahghcjaaGreat
open Go Go.SL Go.Wr Go.RowKit
open Go.Dk (beyondF beyondB beyond_step beyond_le beyond_one beyond_two)
set_option linter.unusedVariables false
set_option maxRecDepth 8000













theorem rlist_bad (W0 : World) (r : Nat) (s : ByteArray) (a0 : Nat) (ha0 : a0 ≤ s.size) (hsz : s.size ≤ 9223372036854775807) (h : takeList s a0 = none) :
    Con Tryz.prog W0 41 #[Value.pointer (some ⟨r, 0, none⟩)] [pt r 101 [Value.bool true, Value.string s, Value.int .i64 ((a0 : Nat) : Int)]] (X := Unit) (fun _ => True) (fun _ => .tuple #[.int .i64 0, .int .i64 4]) (fun _ => [pt r 101 [Value.bool true, Value.string s, Value.int .i64 ((a0 : Nat) : Int)]]) := by
  unfold takeList at h
  split at h
  · rename_i p hp
    split at h
    · cases h
    · rename_i hr
      by_cases h0 : p.1 < 0
      · exact rlist_neg W0 r s a0 ha0 hsz p.1 p.2 hp h0
      · exact rlist_big W0 r s a0 ha0 hsz p.1 p.2 hp (by omega) (by omega)
  · rename_i hp; exact rlist_none W0 r s a0 ha0 hsz hp

theorem text1_none (W0 : World) (r rb nb : Nat) (s : ByteArray) (a0 : Nat) (ha0 : a0 ≤ s.size) (hsz : s.size ≤ 9223372036854775807) (h : takeList s a0 = none) :
  Con Tryz.prog W0 68 #[Value.pointer (some ⟨rb, 0, none⟩), Value.pointer (some ⟨nb, 0, none⟩)] [pt rb 71 [Value.pointer (some ⟨r, 0, none⟩)], pt nb 9 ([Value.string (⟨#[]⟩)]), pt r 101 [Value.bool true, Value.string s, Value.int .i64 ((a0 : Nat) : Int)]] (X := Nat) (fun _ => True) (fun _ => .int .i64 4) (fun a => [pt rb 71 [Value.pointer (some ⟨r, 0, none⟩)], pt nb 9 ([Value.string (⟨#[]⟩)]), pt r 101 [Value.bool true, Value.string s, Value.int .i64 ((a : Nat) : Int)]]) := by
 refine Con.of (args := [Value.pointer (some ⟨rb, 0, none⟩), Value.pointer (some ⟨nb, 0, none⟩)]) Tryz.func68 rfl Tryz.ntmps68 rfl (fun F => ?_)
 show Wc _ W0 _ _ _ _ _ ((pt rb 71 [Value.pointer (some ⟨r, 0, none⟩)]) :: (pt nb 9 ([Value.string (⟨#[]⟩)])) :: (pt r 101 [Value.bool true, Value.string s, Value.int .i64 ((a0 : Nat) : Int)]) :: F)
 refine Wc.seq (Wc.region (Wl.q (v := Value.int .i64 0) (q_assign rfl) (Wl.done (Wx.go (Wc.seq (Wc.region (Wl.q (v := Value.pointer (some ⟨r, 0, none⟩)) (q_load sc_71 rfl (.cel (i := 0) rfl rfl)) (Wl.imp (L' := (pt r 101 [Value.bool true, Value.string s, Value.int .i64 ((a0 : Nat) : Int)]) :: (pt rb 71 [Value.pointer (some ⟨r, 0, none⟩)]) :: (pt nb 9 ([Value.string (⟨#[]⟩)])) :: F) (fun _ h => st_pull [2] h) (Wl.e (e_call (F := (pt rb 71 [Value.pointer (some ⟨r, 0, none⟩)]) :: (pt nb 9 ([Value.string (⟨#[]⟩)])) :: F) (args := [Value.pointer (some ⟨r, 0, none⟩)]) Tryz.call41 rfl (rlist_bad W0 r s a0 ha0 hsz h)) (fun _ _ => Wl.imp (L' := (pt r 101 [Value.bool true, Value.string s, Value.int .i64 ((a0 : Nat) : Int)]) :: (pt rb 71 [Value.pointer (some ⟨r, 0, none⟩)]) :: (pt nb 9 ([Value.string (⟨#[]⟩)])) :: F) (fun _ h => h) (Wl.q (v := Value.tuple #[Value.int .i64 0, Value.int .i64 4]) (q_move rfl) ?_)))))))))))
 refine Wl.q (v := Value.int .i64 0) (q_extract (i := 0) rfl rfl) (Wl.q (v := Value.int .i64 4) (q_extract (i := 1) rfl rfl) (Wl.q (v := Value.int .i64 0) (q_assign rfl) (Wl.q (v := Value.int .i64 4) (q_assign rfl) (Wl.done (Wx.go (Wc.seq (Wc.seq (Wc.drawsS [] ((pt r 101 [Value.bool true, Value.string s, Value.int .i64 ((a0 : Nat) : Int)]) :: (pt rb 71 [Value.pointer (some ⟨r, 0, none⟩)]) :: (pt nb 9 ([Value.string (⟨#[]⟩)])) :: []) (by kernel_rfl) (Wr.pure (v := Value.int .i64 4) 0 rfl (by kernel_rfl) (.inr (fun _ h => st_take [0, 0, 0] h)) (.inl ⟨rfl, fun _ => q_move rfl⟩) (Wr.pure (v := Value.bool true) 1 rfl (by kernel_rfl) (.inr (fun _ h => st_take [0, 0, 0] h)) (.inl ⟨rfl, fun _ => q_neq (r := false) rfl rfl (decide_eq_false (by decide))⟩) (Wr.pure (v := Value.bool true) 2 rfl (by kernel_rfl) (.inr (fun _ h => st_take [0, 0, 0] h)) (.inl ⟨rfl, fun _ => q_move rfl⟩) ?_)))))))))))
 refine Wr.pure (v := undef) 3 rfl (by kernel_rfl) (.inr (fun _ h => st_take [0, 0, 0] h)) (.inr ⟨rfl, rfl⟩) (Wr.pure (v := undef) 4 rfl (by kernel_rfl) (.inr (fun _ h => st_take [0, 0, 0] h)) (.inr ⟨rfl, rfl⟩) (Wr.pure (v := undef) 5 rfl (by kernel_rfl) (.inr (fun _ h => st_take [0, 0, 0] h)) (.inr ⟨rfl, rfl⟩) (Wr.pure (v := undef) 6 rfl (by kernel_rfl) (.inr (fun _ h => st_take [0, 0, 0] h)) (.inr ⟨rfl, rfl⟩) (Wr.pure (v := undef) 7 rfl (by kernel_rfl) (.inr (fun _ h => st_take [0, 0, 0] h)) (.inr ⟨rfl, rfl⟩) (Wr.pure (v := undef) 8 rfl (by kernel_rfl) (.inr (fun _ h => st_take [0, 0, 0] h)) (.inr ⟨rfl, rfl⟩) (Wr.pure (v := undef) 9 rfl (by kernel_rfl) (.inr (fun _ h => st_take [0, 0, 0] h)) (.inr ⟨rfl, rfl⟩) (Wr.pure (v := undef) 10 rfl (by kernel_rfl) (.inr (fun _ h => st_take [0, 0, 0] h)) (.inr ⟨rfl, rfl⟩) (Wr.pure (v := undef) 11 rfl (by kernel_rfl) (.inr (fun _ h => st_take [0, 0, 0] h)) (.inr ⟨rfl, rfl⟩) (Wr.pure (v := undef) 12 rfl (by kernel_rfl) (.inr (fun _ h => st_take [0, 0, 0] h)) (.inr ⟨rfl, rfl⟩) (Wr.pure (v := undef) 13 rfl (by kernel_rfl) (.inr (fun _ h => st_take [0, 0, 0] h)) (.inr ⟨rfl, rfl⟩) (Wr.pure (v := undef) 14 rfl (by kernel_rfl) (.inr (fun _ h => st_take [0, 0, 0] h)) (.inr ⟨rfl, rfl⟩) ?_)))))))))))
 refine Wr.pure (v := Value.bool true) 15 rfl (by kernel_rfl) (.inr (fun _ h => st_take [0, 0, 0] h)) (.inl ⟨rfl, fun _ => q_pick (t := true) rfl rfl⟩) (Wr.done (by kernel_rfl) (Wx.go (Wc.yes rfl (Wc.seq (Wc.region (Wl.q (v := Value.int .i64 4) (q_assign rfl) (Wl.done (Wx.go (Wc.ret (Wx.thenRet (Wx.fin1 rfl (.inl rfl) (fun w hs => ?_))))))))))))
 exact ⟨a0, trivial, rfl, (st_pull [1, 1, 0] (hs))⟩

theorem text1_long (W0 : World) (r rb nb : Nat) (s : ByteArray) (a0 : Nat) (ha0 : a0 ≤ s.size) (hsz : s.size ≤ 9223372036854775807) (n a : Nat) (htk : takeNum s a0 = some ((n : Int), a)) (hn : n ≤ 65536) (ha : a ≤ s.size) (hna : ¬ a + n ≤ s.size) :
  Con Tryz.prog W0 68 #[Value.pointer (some ⟨rb, 0, none⟩), Value.pointer (some ⟨nb, 0, none⟩)] [pt rb 71 [Value.pointer (some ⟨r, 0, none⟩)], pt nb 9 ([Value.string (⟨#[]⟩)]), pt r 101 [Value.bool true, Value.string s, Value.int .i64 ((a0 : Nat) : Int)]] (X := Nat) (fun _ => True) (fun _ => .int .i64 4) (fun a => [pt rb 71 [Value.pointer (some ⟨r, 0, none⟩)], pt nb 9 ([Value.string (⟨#[]⟩)]), pt r 101 [Value.bool true, Value.string s, Value.int .i64 ((a : Nat) : Int)]]) := by
 refine Con.of (args := [Value.pointer (some ⟨rb, 0, none⟩), Value.pointer (some ⟨nb, 0, none⟩)]) Tryz.func68 rfl Tryz.ntmps68 rfl (fun F => ?_)
 show Wc _ W0 _ _ _ _ _ ((pt rb 71 [Value.pointer (some ⟨r, 0, none⟩)]) :: (pt nb 9 ([Value.string (⟨#[]⟩)])) :: (pt r 101 [Value.bool true, Value.string s, Value.int .i64 ((a0 : Nat) : Int)]) :: F)
 refine Wc.seq (Wc.region (Wl.q (v := Value.int .i64 0) (q_assign rfl) (Wl.done (Wx.go (Wc.seq (Wc.region (Wl.q (v := Value.pointer (some ⟨r, 0, none⟩)) (q_load sc_71 rfl (.cel (i := 0) rfl rfl)) (Wl.imp (L' := (pt r 101 [Value.bool true, Value.string s, Value.int .i64 ((a0 : Nat) : Int)]) :: (pt rb 71 [Value.pointer (some ⟨r, 0, none⟩)]) :: (pt nb 9 ([Value.string (⟨#[]⟩)])) :: F) (fun _ h => st_pull [2] h) (Wl.e (e_call (F := (pt rb 71 [Value.pointer (some ⟨r, 0, none⟩)]) :: (pt nb 9 ([Value.string (⟨#[]⟩)])) :: F) (args := [Value.pointer (some ⟨r, 0, none⟩)]) Tryz.call41 rfl (rlist_ok W0 r s a0 ha0 hsz (n : Int) a htk (by omega) (by omega))) (fun _ _ => Wl.imp (L' := (pt r 101 [Value.bool true, Value.string s, Value.int .i64 ((a : Nat) : Int)]) :: (pt rb 71 [Value.pointer (some ⟨r, 0, none⟩)]) :: (pt nb 9 ([Value.string (⟨#[]⟩)])) :: F) (fun _ h => h) (Wl.q (v := Value.tuple #[Value.int .i64 ((n : Nat) : Int), Value.int .i64 0]) (q_move rfl) ?_)))))))))))
 refine Wl.q (v := Value.int .i64 ((n : Nat) : Int)) (q_extract (i := 0) rfl rfl) (Wl.q (v := Value.int .i64 0) (q_extract (i := 1) rfl rfl) (Wl.q (v := Value.int .i64 ((n : Nat) : Int)) (q_assign rfl) (Wl.q (v := Value.int .i64 0) (q_assign rfl) (Wl.done (Wx.go (Wc.seq (Wc.seq (Wc.drawsS [] ((pt r 101 [Value.bool true, Value.string s, Value.int .i64 ((a : Nat) : Int)]) :: (pt rb 71 [Value.pointer (some ⟨r, 0, none⟩)]) :: (pt nb 9 ([Value.string (⟨#[]⟩)])) :: []) (by kernel_rfl) (Wr.pure (v := Value.int .i64 0) 0 rfl (by kernel_rfl) (.inr (fun _ h => st_take [0, 0, 0] h)) (.inl ⟨rfl, fun _ => q_move rfl⟩) (Wr.pure (v := Value.bool false) 1 rfl (by kernel_rfl) (.inr (fun _ h => st_take [0, 0, 0] h)) (.inl ⟨rfl, fun _ => q_neq (r := true) rfl rfl (decide_eq_true (by decide))⟩) (Wr.pure (v := Value.bool false) 2 rfl (by kernel_rfl) (.inr (fun _ h => st_take [0, 0, 0] h)) (.inl ⟨rfl, fun _ => q_move rfl⟩) ?_)))))))))))
 refine Wr.pure (v := Value.int .i64 ((n : Nat) : Int)) 3 rfl (by kernel_rfl) (.inr (fun _ h => st_take [0, 0, 0] h)) (.inl ⟨rfl, fun _ => q_move rfl⟩) (Wr.take (v := Value.pointer (some ⟨r, 0, none⟩)) 4 rfl (by kernel_rfl) (fun _ h => st_take [0, 0, 0] h) (.inl ⟨rfl, q_load sc_71 rfl (.cel (i := 1) rfl rfl)⟩) (Wr.pure (v := Value.pointer (some ⟨r, 0, none⟩)) 5 rfl (by kernel_rfl) (.inr (fun _ h => st_take [0, 0, 0] h)) (.inl ⟨rfl, fun _ => q_nil_ptr rfl⟩) (Wr.pure (v := Value.pointer (some ⟨r, 1, none⟩)) 6 rfl (by kernel_rfl) (.inr (fun _ h => st_take [0, 0, 0] h)) (.inl ⟨rfl, fun _ => q_field (m := 1) fo_101_1 rfl rfl⟩) (Wr.take (v := Value.string s) 7 rfl (by kernel_rfl) (fun _ h => st_take [0, 0, 0] h) (.inl ⟨rfl, q_load sc_9 rfl (.cel (i := 0) rfl rfl)⟩) (Wr.take (v := Value.int .i64 ((s.size : Nat) : Int)) 8 rfl (by kernel_rfl) (fun _ h => st_take [0, 0, 0] h) (.inl ⟨rfl, q_len_str Tryz.underlying9 rfl⟩) (Wr.take (v := Value.pointer (some ⟨r, 0, none⟩)) 9 rfl (by kernel_rfl) (fun _ h => st_take [0, 0, 0] h) (.inl ⟨rfl, q_load sc_71 rfl (.cel (i := 1) rfl rfl)⟩) (Wr.pure (v := Value.pointer (some ⟨r, 0, none⟩)) 10 rfl (by kernel_rfl) (.inr (fun _ h => st_take [0, 0, 0] h)) (.inl ⟨rfl, fun _ => q_nil_ptr rfl⟩) (Wr.pure (v := Value.pointer (some ⟨r, 2, none⟩)) 11 rfl (by kernel_rfl) (.inr (fun _ h => st_take [0, 0, 0] h)) (.inl ⟨rfl, fun _ => q_field (m := 2) fo_101_2 rfl rfl⟩) (Wr.take (v := Value.int .i64 ((a : Nat) : Int)) 12 rfl (by kernel_rfl) (fun _ h => st_take [0, 0, 0] h) (.inl ⟨rfl, q_load sc_3 rfl (.cel (i := 0) rfl rfl)⟩) (Wr.pure (v := Value.int .i64 (((s.size : Nat) : Int) - ((a : Nat) : Int))) 13 rfl (by kernel_rfl) (.inr (fun _ h => st_take [0, 0, 0] h)) (.inl ⟨rfl, fun _ => q_sub (c := (((s.size : Nat) : Int) - ((a : Nat) : Int))) rfl rfl (wrap_i64 (by omega) (by omega))⟩) (Wr.pure (v := Value.bool true) 14 rfl (by kernel_rfl) (.inr (fun _ h => st_take [0, 0, 0] h)) (.inl ⟨rfl, fun _ => q_gtr (r := true) rfl rfl (decide_eq_true (by omega))⟩) ?_)))))))))))
 refine Wr.pure (v := Value.bool true) 15 rfl (by kernel_rfl) (.inr (fun _ h => st_take [0, 0, 0] h)) (.inl ⟨rfl, fun _ => q_pick (t := false) rfl rfl⟩) (Wr.done (by kernel_rfl) (Wx.go (Wc.yes rfl (Wc.seq (Wc.region (Wl.q (v := Value.int .i64 4) (q_assign rfl) (Wl.done (Wx.go (Wc.ret (Wx.thenRet (Wx.fin1 rfl (.inl rfl) (fun w hs => ?_))))))))))))
 exact ⟨a, trivial, rfl, (st_pull [1, 1, 0] (hs))⟩

theorem rtext_none (W0 : World) (r : Nat) (s : ByteArray) (a0 : Nat) (ha0 : a0 ≤ s.size) (hsz : s.size ≤ 9223372036854775807) (h : takeList s a0 = none) :
  Con Tryz.prog W0 42 #[Value.pointer (some ⟨r, 0, none⟩)] [pt r 101 [Value.bool true, Value.string s, Value.int .i64 ((a0 : Nat) : Int)]] (X := Unit) (fun _ => True) (fun _ => .tuple #[Value.string (⟨#[]⟩), .int .i64 4]) (fun _ => [pt r 101 [Value.bool true, Value.string s, Value.int .i64 ((a0 : Nat) : Int)]]) := by
 refine Con.of (args := [Value.pointer (some ⟨r, 0, none⟩)]) Tryz.func42 rfl Tryz.ntmps42 rfl (fun F => ?_)
 show Wc _ W0 _ _ _ _ _ ((pt r 101 [Value.bool true, Value.string s, Value.int .i64 ((a0 : Nat) : Int)]) :: F)
 refine Wc.seq (Wc.region (Wl.e (e_box (x := .tmp 0) (vs := [Value.pointer (some ⟨r, 0, none⟩)]) rfl) (fun rb _ => Wl.imp (L' := (pt rb 71 [Value.pointer (some ⟨r, 0, none⟩)]) :: (pt r 101 [Value.bool true, Value.string s, Value.int .i64 ((a0 : Nat) : Int)]) :: F) (fun _ h => h) (Wl.e (e_alloc (vs := [Value.string (⟨#[]⟩)]) zo_9 rfl) (fun nb _ => Wl.imp (L' := (pt nb 9 ([Value.string (⟨#[]⟩)])) :: (pt rb 71 [Value.pointer (some ⟨r, 0, none⟩)]) :: (pt r 101 [Value.bool true, Value.string s, Value.int .i64 ((a0 : Nat) : Int)]) :: F) (fun _ h => h) (Wl.q (v := Value.int .i64 0) (q_assign rfl) (Wl.done (Wx.go (Wc.seq (Wc.region (Wl.q (v := Value.pointer (some ⟨r, 0, none⟩)) (q_load sc_71 rfl (.cel (i := 1) rfl rfl)) ?_)))))))))))
 refine Wl.q (v := Value.func (.func 68) #[] #[Value.pointer (some ⟨rb, 0, none⟩), Value.pointer (some ⟨nb, 0, none⟩)]) (q_makeFunc (us := []) (vs := [Value.pointer (some ⟨rb, 0, none⟩), Value.pointer (some ⟨nb, 0, none⟩)]) rfl rfl) (Wl.imp (L' := (pt rb 71 [Value.pointer (some ⟨r, 0, none⟩)]) :: (pt nb 9 ([Value.string (⟨#[]⟩)])) :: (pt r 101 [Value.bool true, Value.string s, Value.int .i64 ((a0 : Nat) : Int)]) :: F) (fun _ h => st_pull [1, 0, 0] h) (Wl.e (e_call (F := F) (args := [Value.pointer (some ⟨r, 0, none⟩), Value.func (.func 68) #[] #[Value.pointer (some ⟨rb, 0, none⟩), Value.pointer (some ⟨nb, 0, none⟩)]]) Tryz.call65 rfl (take_Text_bad W0 r rb nb s a0 (Value.string (⟨#[]⟩)) (text1_none W0 r rb nb s a0 ha0 hsz h))) (fun _ _ => Wl.imp (L' := (pt rb 71 [Value.pointer (some ⟨r, 0, none⟩)]) :: (pt nb 9 ([Value.string (⟨#[]⟩)])) :: (pt r 101 [Value.bool true, Value.string s, Value.int .i64 ((a0 : Nat) : Int)]) :: F) (fun _ h => h) (Wl.q (v := Value.int .i64 4) (q_assign rfl) (Wl.done (Wx.go (Wc.seq (Wc.region (Wl.q (v := Value.string (⟨#[]⟩)) (q_load sc_9 rfl (.cel (i := 1) rfl rfl)) (Wl.q (v := Value.int .i64 4) (q_move rfl) (Wl.e (e_store (i := 1) (v := Value.string (⟨#[]⟩)) sz_9 rfl rfl (fun _ _ => rfl) rfl (by simp)) (fun _ _ => ?_))))))))))))
 refine Wl.imp (L' := (pt rb 71 [Value.pointer (some ⟨r, 0, none⟩)]) :: (pt nb 9 ([Value.string (⟨#[]⟩)])) :: (pt r 101 [Value.bool true, Value.string s, Value.int .i64 ((a0 : Nat) : Int)]) :: F) (fun _ h => h) (Wl.q (v := Value.int .i64 4) (q_assign rfl) (Wl.done (Wx.go (Wc.ret (Wx.finC2 rfl (.inl rfl) sc_9 rfl (.cel (i := 1) rfl rfl) (fun w hs => ?_))))))
 exact ⟨(), trivial, rfl, (st_drop (st_drop (st_pull [0, 0] hs)))⟩

theorem rtext_long (W0 : World) (r : Nat) (s : ByteArray) (a0 : Nat) (ha0 : a0 ≤ s.size) (hsz : s.size ≤ 9223372036854775807) (n a : Nat) (htk : takeNum s a0 = some ((n : Int), a)) (hn : n ≤ 65536) (ha : a ≤ s.size) (hna : ¬ a + n ≤ s.size) :
  Con Tryz.prog W0 42 #[Value.pointer (some ⟨r, 0, none⟩)] [pt r 101 [Value.bool true, Value.string s, Value.int .i64 ((a0 : Nat) : Int)]] (X := Unit) (fun _ => True) (fun _ => .tuple #[Value.string (⟨#[]⟩), .int .i64 4]) (fun _ => [pt r 101 [Value.bool true, Value.string s, Value.int .i64 ((a0 : Nat) : Int)]]) := by
 refine Con.of (args := [Value.pointer (some ⟨r, 0, none⟩)]) Tryz.func42 rfl Tryz.ntmps42 rfl (fun F => ?_)
 show Wc _ W0 _ _ _ _ _ ((pt r 101 [Value.bool true, Value.string s, Value.int .i64 ((a0 : Nat) : Int)]) :: F)
 refine Wc.seq (Wc.region (Wl.e (e_box (x := .tmp 0) (vs := [Value.pointer (some ⟨r, 0, none⟩)]) rfl) (fun rb _ => Wl.imp (L' := (pt rb 71 [Value.pointer (some ⟨r, 0, none⟩)]) :: (pt r 101 [Value.bool true, Value.string s, Value.int .i64 ((a0 : Nat) : Int)]) :: F) (fun _ h => h) (Wl.e (e_alloc (vs := [Value.string (⟨#[]⟩)]) zo_9 rfl) (fun nb _ => Wl.imp (L' := (pt nb 9 ([Value.string (⟨#[]⟩)])) :: (pt rb 71 [Value.pointer (some ⟨r, 0, none⟩)]) :: (pt r 101 [Value.bool true, Value.string s, Value.int .i64 ((a0 : Nat) : Int)]) :: F) (fun _ h => h) (Wl.q (v := Value.int .i64 0) (q_assign rfl) (Wl.done (Wx.go (Wc.seq (Wc.region (Wl.q (v := Value.pointer (some ⟨r, 0, none⟩)) (q_load sc_71 rfl (.cel (i := 1) rfl rfl)) ?_)))))))))))
 refine Wl.q (v := Value.func (.func 68) #[] #[Value.pointer (some ⟨rb, 0, none⟩), Value.pointer (some ⟨nb, 0, none⟩)]) (q_makeFunc (us := []) (vs := [Value.pointer (some ⟨rb, 0, none⟩), Value.pointer (some ⟨nb, 0, none⟩)]) rfl rfl) (Wl.imp (L' := (pt rb 71 [Value.pointer (some ⟨r, 0, none⟩)]) :: (pt nb 9 ([Value.string (⟨#[]⟩)])) :: (pt r 101 [Value.bool true, Value.string s, Value.int .i64 ((a0 : Nat) : Int)]) :: F) (fun _ h => st_pull [1, 0, 0] h) (Wl.e (e_call (F := F) (args := [Value.pointer (some ⟨r, 0, none⟩), Value.func (.func 68) #[] #[Value.pointer (some ⟨rb, 0, none⟩), Value.pointer (some ⟨nb, 0, none⟩)]]) Tryz.call65 rfl (take_Text_bad W0 r rb nb s a0 (Value.string (⟨#[]⟩)) (text1_long W0 r rb nb s a0 ha0 hsz n a htk hn ha hna))) (fun _ _ => Wl.imp (L' := (pt rb 71 [Value.pointer (some ⟨r, 0, none⟩)]) :: (pt nb 9 ([Value.string (⟨#[]⟩)])) :: (pt r 101 [Value.bool true, Value.string s, Value.int .i64 ((a0 : Nat) : Int)]) :: F) (fun _ h => h) (Wl.q (v := Value.int .i64 4) (q_assign rfl) (Wl.done (Wx.go (Wc.seq (Wc.region (Wl.q (v := Value.string (⟨#[]⟩)) (q_load sc_9 rfl (.cel (i := 1) rfl rfl)) (Wl.q (v := Value.int .i64 4) (q_move rfl) (Wl.e (e_store (i := 1) (v := Value.string (⟨#[]⟩)) sz_9 rfl rfl (fun _ _ => rfl) rfl (by simp)) (fun _ _ => ?_))))))))))))
 refine Wl.imp (L' := (pt rb 71 [Value.pointer (some ⟨r, 0, none⟩)]) :: (pt nb 9 ([Value.string (⟨#[]⟩)])) :: (pt r 101 [Value.bool true, Value.string s, Value.int .i64 ((a0 : Nat) : Int)]) :: F) (fun _ h => h) (Wl.q (v := Value.int .i64 4) (q_assign rfl) (Wl.done (Wx.go (Wc.ret (Wx.finC2 rfl (.inl rfl) sc_9 rfl (.cel (i := 1) rfl rfl) (fun w hs => ?_))))))
 exact ⟨(), trivial, rfl, (st_drop (st_drop (st_pull [0, 0] hs)))⟩




theorem rlist_c (W0 : World) (r : Nat) (s : ByteArray) (a0 : Nat) (ha0 : a0 ≤ s.size) (hsz : s.size ≤ 9223372036854775807) :
  Con Tryz.prog W0 41 #[Value.pointer (some ⟨r, 0, none⟩)] [pt r 101 [Value.bool true, Value.string s, Value.int .i64 ((a0 : Nat) : Int)]] (X := Unit) (fun _ => True) (fun _ => .tuple #[.int .i64 ((gv 0 (takeList s a0) : Nat) : Int), .int .i64 (ge (takeList s a0))]) (fun _ => [pt r 101 [Value.bool true, Value.string s, Value.int .i64 (((gn a0 (takeList s a0)) : Nat) : Int)]]) := by
 rcases h : takeList s a0 with _ | ⟨n, a⟩
 · exact rlist_bad W0 r s a0 ha0 hsz h
 · have := takeList_le h; simp only at this; exact rlist_ok W0 r s a0 ha0 hsz (n : Int) a (takeList_of h) (by omega) (by omega)

theorem rtext_c (W0 : World) (r : Nat) (s : ByteArray) (a0 : Nat) (ha0 : a0 ≤ s.size) (hsz : s.size ≤ 9223372036854775807) :
  Con Tryz.prog W0 42 #[Value.pointer (some ⟨r, 0, none⟩)] [pt r 101 [Value.bool true, Value.string s, Value.int .i64 ((a0 : Nat) : Int)]] (X := Unit) (fun _ => True) (fun _ => .tuple #[.string (gv ⟨#[]⟩ (takeText s a0)), .int .i64 (ge (takeText s a0))]) (fun _ => [pt r 101 [Value.bool true, Value.string s, Value.int .i64 (((gn a0 (takeText s a0)) : Nat) : Int)]]) := by
 rcases h : takeList s a0 with _ | ⟨n, a⟩
 · rw [show takeText s a0 = none from by simp [takeText, h]]; exact rtext_none W0 r s a0 ha0 hsz h
 have hl := takeList_le h
 simp only at hl
 by_cases h1 : a + n ≤ s.size
 · rw [show takeText s a0 = some (s.extract a (a + n), a + n) from by simp [takeText, h, h1]]; exact rtext_ok W0 r s a0 ha0 hsz n a (takeList_of h) (by omega) h1
 · rw [show takeText s a0 = none from by simp [takeText, h, h1]]; exact rtext_long W0 r s a0 ha0 hsz n a (takeList_of h) (by omega) (by omega) h1







theorem tnum_c (W0 : World) (s : ByteArray) (a0 : Nat) (ha0 : a0 ≤ s.size) (hsz : s.size ≤ 9223372036854775807) :
    Con Tryz.prog W0 103 #[Value.string s, Value.int .i64 ((a0 : Nat) : Int)] [] (X := Unit) (fun _ => True) (fun _ => .tuple #[.int .i64 (gv 0 (takeNum s a0)), .int .i64 ((gn a0 (takeNum s a0) : Nat) : Int), .int .i64 (ge (takeNum s a0))]) (fun _ => []) := by
  refine Con.of (args := [Value.string s, Value.int .i64 ((a0 : Nat) : Int)]) Tryz.func103 rfl Tryz.ntmps103 rfl (fun F => ?_)
  show Wc _ W0 _ _ _ _ _ (F)
  refine Wc.seq (Wc.region (Wl.q (v := Value.int .i64 0) (q_assign rfl) (Wl.q (v := Value.int .i64 0) (q_assign rfl) (Wl.q (v := Value.int .i64 0) (q_assign rfl) (Wl.done (Wx.go (Wc.seq (Wc.region (Wl.q (v := Value.int .u64 0) (q_assign rfl) (Wl.done (Wx.go ?_)))))))))))
  refine Wc.seq (Wc.seq (Wc.region (Wl.q (v := Value.int .i64 0) (q_assign rfl) (Wl.done (Wx.go (Wc.block ?_))))))
  refine Wc.loop (X := Nat × Nat) (fun (i, z) E => E 8 = Value.int .i64 ((i : Nat) : Int) ∧ E 7 = Value.int .u64 ((z : Nat) : Int) ∧ E 0 = Value.string s ∧ E 1 = Value.int .i64 ((a0 : Nat) : Int) ∧ dec s a0 10 0 0 = dec s a0 (10 - i) i z ∧ z < 128 ^ i ∧ i ≤ 10 ∧ a0 + i ≤ s.size) (fun (i, z) => F) (fun (i, z) => 10 - i) (0, 0) ?_ ?_ ?_
  · exact ⟨rfl, rfl, rfl, rfl, rfl, (by decide), (by omega), (by omega)⟩
  · exact fun w hs => hs
  · rintro ⟨i, z⟩ E2 ⟨hE8_0, hE7_0, hE0_0, hE1_0, hp0, hz, hi, ha⟩
    dsimp only at *
    refine Wc.seq (Wc.seq (Wc.region (Wl.q (v := Value.int .i64 ((i : Nat) : Int)) (q_move hE8_0) ?_)))
    by_cases hi10 : ((i : Nat) : Int) < 10
    ·
      refine Wl.q (v := Value.bool true) (q_lss (r := true) rfl rfl (decide_eq_true hi10)) (Wl.done (Wx.go (Wc.yes rfl (Wc.skip (Wx.go (Wc.seq (Wc.block (Wc.seq (Wc.seq (Wc.region (Wl.q (v := Value.int .i64 ((a0 : Nat) : Int)) (q_move hE1_0) ?_)))))))))))
      refine Wl.q (v := Value.int .i64 ((i : Nat) : Int)) (q_move hE8_0) (Wl.q (v := Value.int .i64 ((a0 + i : Nat) : Int)) (q_add (c := ((a0 + i : Nat) : Int)) rfl rfl (by rw [wrap_i64] <;> omega)) (Wl.q (v := Value.string s) (q_move hE0_0) (Wl.q (v := Value.int .i64 ((s.size : Nat) : Int)) (q_len_str Tryz.underlying9 rfl) ?_)))
      by_cases hend : ((a0 + i : Nat) : Int) ≥ ((s.size : Nat) : Int)
      ·
        refine Wl.q (v := Value.bool true) (q_geq (r := true) rfl rfl (decide_eq_true hend)) (Wl.done (Wx.go (Wc.yes rfl (Wc.seq (Wc.region (Wl.q (v := Value.int .i64 ((a0 : Nat) : Int)) (q_move hE1_0) (Wl.q (v := Value.int .i64 0) (q_assign rfl) (Wl.q (v := Value.int .i64 ((a0 : Nat) : Int)) (q_assign rfl) (Wl.q (v := Value.int .i64 4) (q_assign rfl) (Wl.done (Wx.go ?_)))))))))))
        refine Wc.ret (Wx.thenRet (Wx.blockRet (Wx.thenRet (Wx.thenRet (Wx.blockRet (Wx.thenRet (Wx.fin3 rfl (.inl rfl) (fun w hs => ?_))))))))
        rw [show 10 - i = (10 - (i + 1)) + 1 by omega] at hp0
        have e : takeNum s a0 = none := take_none hp0 (dec_none (getElem?_neg s (a0 + i) (by omega)))
        exact ⟨(), trivial, by rw [e]; rfl, hs⟩
      ·
        obtain ⟨c, hget⟩ := get_some (show a0 + i < s.size by omega)
        refine Wl.q (v := Value.bool false) (q_geq (r := false) rfl rfl (decide_eq_false hend)) (Wl.done (Wx.go (Wc.no rfl (Wc.skip (Wx.go (Wc.seq (Wc.region (Wl.q (v := Value.string s) (q_move hE0_0) (Wl.q (v := Value.int .i64 ((a0 : Nat) : Int)) (q_move hE1_0) (Wl.q (v := Value.int .i64 ((i : Nat) : Int)) (q_move hE8_0) (Wl.q (v := Value.int .i64 ((a0 + i : Nat) : Int)) (q_add (c := ((a0 + i : Nat) : Int)) rfl rfl (by rw [wrap_i64] <;> omega)) ?_)))))))))))
        refine Wl.q (v := Value.int .u8 ((c.toNat : Nat) : Int)) (q_idx_str Tryz.underlying9 rfl rfl (by omega) (by exact hget)) (Wl.q (v := Value.int .u8 ((c.toNat : Nat) : Int)) (q_assign rfl) (Wl.done (Wx.go (Wc.seq (Wc.seq (Wc.region (Wl.q (v := Value.int .i64 ((i : Nat) : Int)) (q_move hE8_0) ?_)))))))
        by_cases hi9 : ((i : Nat) : Int) = 9
        ·
          refine Wl.q (v := Value.bool true) (q_eql (r := true) rfl rfl (decide_eq_true hi9)) (Wl.q (v := Value.bool true) (q_move rfl) (Wl.q (v := Value.int .u8 ((c.toNat : Nat) : Int)) (q_move rfl) ?_))
          by_cases hc1 : ((c.toNat : Nat) : Int) > 1
          ·
            refine Wl.q (v := Value.bool true) (q_gtr (r := true) rfl rfl (decide_eq_true hc1)) (Wl.q (v := Value.bool true) (q_pick (t := true) rfl rfl) (Wl.q (v := Value.bool true) (q_move rfl) (Wl.no (Wl.no (Wl.no (Wl.no (Wl.no (Wl.no (Wl.q (v := Value.bool true) (q_pick (t := true) rfl rfl) (Wl.done (Wx.go ?_)))))))))))
            refine Wc.yes rfl (Wc.seq (Wc.region (Wl.q (v := Value.int .i64 ((a0 : Nat) : Int)) (q_move hE1_0) (Wl.q (v := Value.int .i64 0) (q_assign rfl) (Wl.q (v := Value.int .i64 ((a0 : Nat) : Int)) (q_assign rfl) (Wl.q (v := Value.int .i64 4) (q_assign rfl) (Wl.done (Wx.go (Wc.ret (Wx.thenRet (Wx.blockRet ?_)))))))))))
            refine Wx.thenRet (Wx.thenRet (Wx.blockRet (Wx.thenRet (Wx.fin3 rfl (.inl rfl) (fun w hs => ?_)))))
            rw [show 10 - i = (10 - (i + 1)) + 1 by omega] at hp0
            have e : takeNum s a0 = none := take_none hp0 (dec_bad hget (by omega))
            exact ⟨(), trivial, by rw [e]; rfl, hs⟩
          ·
            have hc9 : i = 9 → c.toNat % 128 ≤ 1 := fun h => by omega
            refine Wl.q (v := Value.bool false) (q_gtr (r := false) rfl rfl (decide_eq_false hc1)) (Wl.q (v := Value.bool false) (q_pick (t := true) rfl rfl) (Wl.q (v := Value.bool false) (q_move rfl) (Wl.q (v := Value.int .i64 ((i : Nat) : Int)) (q_move hE8_0) ?_)))
            by_cases hi0 : ((i : Nat) : Int) > 0
            ·
              refine Wl.q (v := Value.bool true) (q_gtr (r := true) rfl rfl (decide_eq_true hi0)) (Wl.q (v := Value.bool true) (q_move rfl) (Wl.q (v := Value.int .u8 ((c.toNat : Nat) : Int)) (q_move rfl) ?_))
              by_cases hc0 : ((c.toNat : Nat) : Int) = 0
              ·
                refine Wl.q (v := Value.bool true) (q_eql (r := true) rfl rfl (decide_eq_true hc0)) (Wl.q (v := Value.bool true) (q_pick (t := true) rfl rfl) (Wl.q (v := Value.bool true) (q_pick (t := false) rfl rfl) (Wl.done (Wx.go (Wc.yes rfl (Wc.seq (Wc.region (Wl.q (v := Value.int .i64 ((a0 : Nat) : Int)) (q_move hE1_0) (Wl.q (v := Value.int .i64 0) (q_assign rfl) (Wl.q (v := Value.int .i64 ((a0 : Nat) : Int)) (q_assign rfl) (Wl.q (v := Value.int .i64 4) (q_assign rfl) ?_)))))))))))
                refine Wl.done (Wx.go (Wc.ret (Wx.thenRet (Wx.blockRet (Wx.thenRet (Wx.thenRet (Wx.blockRet (Wx.thenRet (Wx.fin3 rfl (.inl rfl) (fun w hs => ?_))))))))))
                rw [show 10 - i = (10 - (i + 1)) + 1 by omega] at hp0
                have e : takeNum s a0 = none := take_none hp0 (dec_bad hget (by omega))
                exact ⟨(), trivial, by rw [e]; rfl, hs⟩
              ·
                refine Wl.q (v := Value.bool false) (q_eql (r := false) rfl rfl (decide_eq_false hc0)) (Wl.q (v := Value.bool false) (q_pick (t := true) rfl rfl) (Wl.q (v := Value.bool false) (q_pick (t := false) rfl rfl) (Wl.done (Wx.go (Wc.no rfl (Wc.skip (Wx.go (Wc.seq (Wc.region (Wl.q (v := Value.int .u64 ((z : Nat) : Int)) (q_move hE7_0) (Wl.q (v := Value.int .u8 ((c.toNat : Nat) : Int)) (q_move rfl) ?_)))))))))))
                refine Wl.q (v := Value.int .u8 ((c.toNat % 128 : Nat) : Int)) (q_and (c := ((c.toNat % 128 : Nat) : Int)) rfl rfl (and127 c)) (Wl.q (v := Value.int .u64 ((c.toNat % 128 : Nat) : Int)) (q_conv_int (c := ((c.toNat % 128 : Nat) : Int)) Tryz.underlying125 (by rw [Tryz.underlying5]; rfl) rfl (wrap_u64 (by omega) (by omega))) (Wl.q (v := Value.int .i64 ((i : Nat) : Int)) (q_move hE8_0) (Wl.q (v := Value.int .i64 ((7 * i : Nat) : Int)) (q_mul (c := ((7 * i : Nat) : Int)) rfl rfl (by rw [wrap_i64] <;> omega)) (Wl.q (v := Value.int .u64 ((c.toNat % 128 * 128 ^ i : Nat) : Int)) (q_shl (c := ((c.toNat % 128 * 128 ^ i : Nat) : Int)) rfl rfl (by omega) (shl7 (by omega) hc9 (by omega))) (Wl.q (v := Value.int .u64 (((z + c.toNat % 128 * 128 ^ i) : Nat) : Int)) (q_or (c := (((z + c.toNat % 128 * 128 ^ i) : Nat) : Int)) rfl rfl (or7 hz (by omega) hc9 (by omega)).2) (Wl.q (v := Value.int .u64 (((z + c.toNat % 128 * 128 ^ i) : Nat) : Int)) (q_assign rfl) (Wl.done (Wx.go (Wc.seq (Wc.region (Wl.q (v := Value.int .u8 ((c.toNat : Nat) : Int)) (q_move rfl) ?_)))))))))))
                by_cases hc128 : ((c.toNat : Nat) : Int) < 128
                ·
                  have hZ := (or7 hz (by omega) hc9 (by omega)).1
                  refine Wl.q (v := Value.bool true) (q_lss (r := true) rfl rfl (decide_eq_true hc128)) (Wl.done (Wx.go (Wc.yes rfl (Wc.seq (Wc.region (Wl.q (v := Value.int .u64 (((z + c.toNat % 128 * 128 ^ i) : Nat) : Int)) (q_move rfl) (Wl.q (v := Value.int .u64 (((z + c.toNat % 128 * 128 ^ i) / 2 : Nat) : Int)) (q_quo (c := (((z + c.toNat % 128 * 128 ^ i) / 2 : Nat) : Int)) rfl rfl (by decide) (by rw [Int.tdiv_eq_ediv_of_nonneg (by omega), wrap_u64 (by omega) (by omega)]; omega)) (Wl.q (v := Value.int .i64 (((z + c.toNat % 128 * 128 ^ i) / 2 : Nat) : Int)) (q_conv_int (c := (((z + c.toNat % 128 * 128 ^ i) / 2 : Nat) : Int)) Tryz.underlying2 (by rw [Tryz.underlying125]; rfl) rfl (wrap_i64 (by omega) (by omega))) (Wl.q (v := Value.int .i64 (((z + c.toNat % 128 * 128 ^ i) / 2 : Nat) : Int)) (q_assign rfl) (Wl.done (Wx.go ?_)))))))))))
                  refine Wc.seq (Wc.seq (Wc.region (Wl.q (v := Value.int .u64 (((z + c.toNat % 128 * 128 ^ i) : Nat) : Int)) (q_move rfl) (Wl.q (v := Value.int .u64 (((z + c.toNat % 128 * 128 ^ i) % 2 : Nat) : Int)) (q_rem (c := (((z + c.toNat % 128 * 128 ^ i) % 2 : Nat) : Int)) rfl rfl (by decide) (by rw [Int.tmod_eq_emod_of_nonneg (by omega)]; omega)) ?_))))
                  by_cases hodd : (((z + c.toNat % 128 * 128 ^ i) % 2 : Nat) : Int) = 1
                  ·
                    refine Wl.q (v := Value.bool true) (q_eql (r := true) rfl rfl (decide_eq_true hodd)) (Wl.done (Wx.go (Wc.yes rfl (Wc.region (Wl.q (v := Value.int .i64 (((z + c.toNat % 128 * 128 ^ i) / 2 : Nat) : Int)) (q_move rfl) (Wl.q (v := Value.int .i64 (-(((z + c.toNat % 128 * 128 ^ i) / 2 : Nat) : Int))) (q_neg (c := (-(((z + c.toNat % 128 * 128 ^ i) / 2 : Nat) : Int))) rfl (wrap_i64 (by omega) (by omega))) (Wl.q (v := Value.int .i64 (-(((z + c.toNat % 128 * 128 ^ i) / 2 : Nat) : Int) - 1)) (q_sub (c := (-(((z + c.toNat % 128 * 128 ^ i) / 2 : Nat) : Int) - 1)) rfl rfl (wrap_i64 (by omega) (by omega))) (Wl.q (v := Value.int .i64 (-(((z + c.toNat % 128 * 128 ^ i) / 2 : Nat) : Int) - 1)) (q_assign rfl) (Wl.done (Wx.go (Wc.seq ?_)))))))))))
                    refine Wc.region (Wl.q (v := Value.int .i64 (-(((z + c.toNat % 128 * 128 ^ i) / 2 : Nat) : Int) - 1)) (q_move rfl) (Wl.q (v := Value.int .i64 ((a0 : Nat) : Int)) (q_move hE1_0) (Wl.q (v := Value.int .i64 ((i : Nat) : Int)) (q_move hE8_0) (Wl.q (v := Value.int .i64 ((a0 + i : Nat) : Int)) (q_add (c := ((a0 + i : Nat) : Int)) rfl rfl (by rw [wrap_i64] <;> omega)) (Wl.q (v := Value.int .i64 (((a0 + i) + 1 : Nat) : Int)) (q_add (c := (((a0 + i) + 1 : Nat) : Int)) rfl rfl (by rw [wrap_i64] <;> omega)) (Wl.q (v := Value.int .i64 (-(((z + c.toNat % 128 * 128 ^ i) / 2 : Nat) : Int) - 1)) (q_assign rfl) (Wl.q (v := Value.int .i64 (((a0 + i) + 1 : Nat) : Int)) (q_assign rfl) (Wl.q (v := Value.int .i64 0) (q_assign rfl) (Wl.done (Wx.go (Wc.ret ?_)))))))))))
                    refine Wx.blockRet (Wx.thenRet (Wx.thenRet (Wx.blockRet (Wx.thenRet (Wx.fin3 rfl (.inl rfl) (fun w hs => ?_))))))
                    rw [show 10 - i = (10 - (i + 1)) + 1 by omega] at hp0
                    have e : takeNum s a0 = some (un (z + c.toNat % 128 * 128 ^ i), a0 + i + 1) := take_some hp0 (dec_end hget (by omega) (by omega))
                    exact ⟨(), trivial, by rw [e, ← un_odd hodd]; rfl, hs⟩
                  ·
                    refine Wl.q (v := Value.bool false) (q_eql (r := false) rfl rfl (decide_eq_false hodd)) (Wl.done (Wx.go (Wc.no rfl (Wc.skip (Wx.go (Wc.seq (Wc.region (Wl.q (v := Value.int .i64 (((z + c.toNat % 128 * 128 ^ i) / 2 : Nat) : Int)) (q_move rfl) (Wl.q (v := Value.int .i64 ((a0 : Nat) : Int)) (q_move hE1_0) (Wl.q (v := Value.int .i64 ((i : Nat) : Int)) (q_move hE8_0) (Wl.q (v := Value.int .i64 ((a0 + i : Nat) : Int)) (q_add (c := ((a0 + i : Nat) : Int)) rfl rfl (by rw [wrap_i64] <;> omega)) ?_)))))))))))
                    refine Wl.q (v := Value.int .i64 (((a0 + i) + 1 : Nat) : Int)) (q_add (c := (((a0 + i) + 1 : Nat) : Int)) rfl rfl (by rw [wrap_i64] <;> omega)) (Wl.q (v := Value.int .i64 (((z + c.toNat % 128 * 128 ^ i) / 2 : Nat) : Int)) (q_assign rfl) (Wl.q (v := Value.int .i64 (((a0 + i) + 1 : Nat) : Int)) (q_assign rfl) (Wl.q (v := Value.int .i64 0) (q_assign rfl) (Wl.done (Wx.go (Wc.ret (Wx.blockRet (Wx.thenRet (Wx.thenRet (Wx.blockRet (Wx.thenRet ?_)))))))))))
                    refine Wx.fin3 rfl (.inl rfl) (fun w hs => ?_)
                    rw [show 10 - i = (10 - (i + 1)) + 1 by omega] at hp0
                    have e : takeNum s a0 = some (un (z + c.toNat % 128 * 128 ^ i), a0 + i + 1) := take_some hp0 (dec_end hget (by omega) (by omega))
                    exact ⟨(), trivial, by rw [e, ← un_even hodd]; rfl, hs⟩
                ·
                  refine Wl.q (v := Value.bool false) (q_lss (r := false) rfl rfl (decide_eq_false hc128)) (Wl.done (Wx.go (Wc.no rfl (Wc.skip (Wx.blockEnd (Wx.go (Wc.region (Wl.q (v := Value.int .i64 ((i : Nat) : Int)) (q_move hE8_0) (Wl.q (v := Value.int .i64 ((i + 1 : Nat) : Int)) (q_add (c := ((i + 1 : Nat) : Int)) rfl rfl (by rw [wrap_i64] <;> omega)) (Wl.q (v := Value.int .i64 ((i + 1 : Nat) : Int)) (q_assign rfl) (Wl.done ?_)))))))))))
                  refine Wx.at (i + 1, (z + c.toNat % 128 * 128 ^ i)) ⟨(by simp only; omega), rfl, rfl, hE0_0, hE1_0, (by simp only; rw [hp0, show 10 - i = (10 - (i + 1)) + 1 by omega]; exact dec_more hget (by omega) (by omega)), (pow_next hz), (by simp only; omega), (by simp only; omega)⟩ (fun w hs => hs)
            ·
              refine Wl.q (v := Value.bool false) (q_gtr (r := false) rfl rfl (decide_eq_false hi0)) (Wl.q (v := Value.bool false) (q_move rfl) (Wl.no (Wl.no (Wl.q (v := Value.bool false) (q_pick (t := false) rfl rfl) (Wl.q (v := Value.bool false) (q_pick (t := false) rfl rfl) (Wl.done (Wx.go (Wc.no rfl (Wc.skip (Wx.go (Wc.seq ?_)))))))))))
              refine Wc.region (Wl.q (v := Value.int .u64 ((z : Nat) : Int)) (q_move hE7_0) (Wl.q (v := Value.int .u8 ((c.toNat : Nat) : Int)) (q_move rfl) (Wl.q (v := Value.int .u8 ((c.toNat % 128 : Nat) : Int)) (q_and (c := ((c.toNat % 128 : Nat) : Int)) rfl rfl (and127 c)) (Wl.q (v := Value.int .u64 ((c.toNat % 128 : Nat) : Int)) (q_conv_int (c := ((c.toNat % 128 : Nat) : Int)) Tryz.underlying125 (by rw [Tryz.underlying5]; rfl) rfl (wrap_u64 (by omega) (by omega))) (Wl.q (v := Value.int .i64 ((i : Nat) : Int)) (q_move hE8_0) (Wl.q (v := Value.int .i64 ((7 * i : Nat) : Int)) (q_mul (c := ((7 * i : Nat) : Int)) rfl rfl (by rw [wrap_i64] <;> omega)) (Wl.q (v := Value.int .u64 ((c.toNat % 128 * 128 ^ i : Nat) : Int)) (q_shl (c := ((c.toNat % 128 * 128 ^ i : Nat) : Int)) rfl rfl (by omega) (shl7 (by omega) hc9 (by omega))) (Wl.q (v := Value.int .u64 (((z + c.toNat % 128 * 128 ^ i) : Nat) : Int)) (q_or (c := (((z + c.toNat % 128 * 128 ^ i) : Nat) : Int)) rfl rfl (or7 hz (by omega) hc9 (by omega)).2) (Wl.q (v := Value.int .u64 (((z + c.toNat % 128 * 128 ^ i) : Nat) : Int)) (q_assign rfl) (Wl.done (Wx.go ?_)))))))))))
              refine Wc.seq (Wc.region (Wl.q (v := Value.int .u8 ((c.toNat : Nat) : Int)) (q_move rfl) ?_))
              by_cases hc128 : ((c.toNat : Nat) : Int) < 128
              ·
                have hZ := (or7 hz (by omega) hc9 (by omega)).1
                refine Wl.q (v := Value.bool true) (q_lss (r := true) rfl rfl (decide_eq_true hc128)) (Wl.done (Wx.go (Wc.yes rfl (Wc.seq (Wc.region (Wl.q (v := Value.int .u64 (((z + c.toNat % 128 * 128 ^ i) : Nat) : Int)) (q_move rfl) (Wl.q (v := Value.int .u64 (((z + c.toNat % 128 * 128 ^ i) / 2 : Nat) : Int)) (q_quo (c := (((z + c.toNat % 128 * 128 ^ i) / 2 : Nat) : Int)) rfl rfl (by decide) (by rw [Int.tdiv_eq_ediv_of_nonneg (by omega), wrap_u64 (by omega) (by omega)]; omega)) (Wl.q (v := Value.int .i64 (((z + c.toNat % 128 * 128 ^ i) / 2 : Nat) : Int)) (q_conv_int (c := (((z + c.toNat % 128 * 128 ^ i) / 2 : Nat) : Int)) Tryz.underlying2 (by rw [Tryz.underlying125]; rfl) rfl (wrap_i64 (by omega) (by omega))) (Wl.q (v := Value.int .i64 (((z + c.toNat % 128 * 128 ^ i) / 2 : Nat) : Int)) (q_assign rfl) (Wl.done (Wx.go ?_)))))))))))
                refine Wc.seq (Wc.seq (Wc.region (Wl.q (v := Value.int .u64 (((z + c.toNat % 128 * 128 ^ i) : Nat) : Int)) (q_move rfl) (Wl.q (v := Value.int .u64 (((z + c.toNat % 128 * 128 ^ i) % 2 : Nat) : Int)) (q_rem (c := (((z + c.toNat % 128 * 128 ^ i) % 2 : Nat) : Int)) rfl rfl (by decide) (by rw [Int.tmod_eq_emod_of_nonneg (by omega)]; omega)) ?_))))
                by_cases hodd : (((z + c.toNat % 128 * 128 ^ i) % 2 : Nat) : Int) = 1
                ·
                  refine Wl.q (v := Value.bool true) (q_eql (r := true) rfl rfl (decide_eq_true hodd)) (Wl.done (Wx.go (Wc.yes rfl (Wc.region (Wl.q (v := Value.int .i64 (((z + c.toNat % 128 * 128 ^ i) / 2 : Nat) : Int)) (q_move rfl) (Wl.q (v := Value.int .i64 (-(((z + c.toNat % 128 * 128 ^ i) / 2 : Nat) : Int))) (q_neg (c := (-(((z + c.toNat % 128 * 128 ^ i) / 2 : Nat) : Int))) rfl (wrap_i64 (by omega) (by omega))) (Wl.q (v := Value.int .i64 (-(((z + c.toNat % 128 * 128 ^ i) / 2 : Nat) : Int) - 1)) (q_sub (c := (-(((z + c.toNat % 128 * 128 ^ i) / 2 : Nat) : Int) - 1)) rfl rfl (wrap_i64 (by omega) (by omega))) (Wl.q (v := Value.int .i64 (-(((z + c.toNat % 128 * 128 ^ i) / 2 : Nat) : Int) - 1)) (q_assign rfl) (Wl.done (Wx.go (Wc.seq ?_)))))))))))
                  refine Wc.region (Wl.q (v := Value.int .i64 (-(((z + c.toNat % 128 * 128 ^ i) / 2 : Nat) : Int) - 1)) (q_move rfl) (Wl.q (v := Value.int .i64 ((a0 : Nat) : Int)) (q_move hE1_0) (Wl.q (v := Value.int .i64 ((i : Nat) : Int)) (q_move hE8_0) (Wl.q (v := Value.int .i64 ((a0 + i : Nat) : Int)) (q_add (c := ((a0 + i : Nat) : Int)) rfl rfl (by rw [wrap_i64] <;> omega)) (Wl.q (v := Value.int .i64 (((a0 + i) + 1 : Nat) : Int)) (q_add (c := (((a0 + i) + 1 : Nat) : Int)) rfl rfl (by rw [wrap_i64] <;> omega)) (Wl.q (v := Value.int .i64 (-(((z + c.toNat % 128 * 128 ^ i) / 2 : Nat) : Int) - 1)) (q_assign rfl) (Wl.q (v := Value.int .i64 (((a0 + i) + 1 : Nat) : Int)) (q_assign rfl) (Wl.q (v := Value.int .i64 0) (q_assign rfl) (Wl.done (Wx.go (Wc.ret ?_)))))))))))
                  refine Wx.blockRet (Wx.thenRet (Wx.thenRet (Wx.blockRet (Wx.thenRet (Wx.fin3 rfl (.inl rfl) (fun w hs => ?_))))))
                  rw [show 10 - i = (10 - (i + 1)) + 1 by omega] at hp0
                  have e : takeNum s a0 = some (un (z + c.toNat % 128 * 128 ^ i), a0 + i + 1) := take_some hp0 (dec_end hget (by omega) (by omega))
                  exact ⟨(), trivial, by rw [e, ← un_odd hodd]; rfl, hs⟩
                ·
                  refine Wl.q (v := Value.bool false) (q_eql (r := false) rfl rfl (decide_eq_false hodd)) (Wl.done (Wx.go (Wc.no rfl (Wc.skip (Wx.go (Wc.seq (Wc.region (Wl.q (v := Value.int .i64 (((z + c.toNat % 128 * 128 ^ i) / 2 : Nat) : Int)) (q_move rfl) (Wl.q (v := Value.int .i64 ((a0 : Nat) : Int)) (q_move hE1_0) (Wl.q (v := Value.int .i64 ((i : Nat) : Int)) (q_move hE8_0) (Wl.q (v := Value.int .i64 ((a0 + i : Nat) : Int)) (q_add (c := ((a0 + i : Nat) : Int)) rfl rfl (by rw [wrap_i64] <;> omega)) ?_)))))))))))
                  refine Wl.q (v := Value.int .i64 (((a0 + i) + 1 : Nat) : Int)) (q_add (c := (((a0 + i) + 1 : Nat) : Int)) rfl rfl (by rw [wrap_i64] <;> omega)) (Wl.q (v := Value.int .i64 (((z + c.toNat % 128 * 128 ^ i) / 2 : Nat) : Int)) (q_assign rfl) (Wl.q (v := Value.int .i64 (((a0 + i) + 1 : Nat) : Int)) (q_assign rfl) (Wl.q (v := Value.int .i64 0) (q_assign rfl) (Wl.done (Wx.go (Wc.ret (Wx.blockRet (Wx.thenRet (Wx.thenRet (Wx.blockRet (Wx.thenRet ?_)))))))))))
                  refine Wx.fin3 rfl (.inl rfl) (fun w hs => ?_)
                  rw [show 10 - i = (10 - (i + 1)) + 1 by omega] at hp0
                  have e : takeNum s a0 = some (un (z + c.toNat % 128 * 128 ^ i), a0 + i + 1) := take_some hp0 (dec_end hget (by omega) (by omega))
                  exact ⟨(), trivial, by rw [e, ← un_even hodd]; rfl, hs⟩
              ·
                refine Wl.q (v := Value.bool false) (q_lss (r := false) rfl rfl (decide_eq_false hc128)) (Wl.done (Wx.go (Wc.no rfl (Wc.skip (Wx.blockEnd (Wx.go (Wc.region (Wl.q (v := Value.int .i64 ((i : Nat) : Int)) (q_move hE8_0) (Wl.q (v := Value.int .i64 ((i + 1 : Nat) : Int)) (q_add (c := ((i + 1 : Nat) : Int)) rfl rfl (by rw [wrap_i64] <;> omega)) (Wl.q (v := Value.int .i64 ((i + 1 : Nat) : Int)) (q_assign rfl) (Wl.done ?_)))))))))))
                refine Wx.at (i + 1, (z + c.toNat % 128 * 128 ^ i)) ⟨(by simp only; omega), rfl, rfl, hE0_0, hE1_0, (by simp only; rw [hp0, show 10 - i = (10 - (i + 1)) + 1 by omega]; exact dec_more hget (by omega) (by omega)), (pow_next hz), (by simp only; omega), (by simp only; omega)⟩ (fun w hs => hs)
        ·
          have hc9 : i = 9 → c.toNat % 128 ≤ 1 := fun h => by omega
          refine Wl.q (v := Value.bool false) (q_eql (r := false) rfl rfl (decide_eq_false hi9)) (Wl.q (v := Value.bool false) (q_move rfl) (Wl.no (Wl.no (Wl.q (v := Value.bool false) (q_pick (t := false) rfl rfl) (Wl.q (v := Value.bool false) (q_move rfl) (Wl.q (v := Value.int .i64 ((i : Nat) : Int)) (q_move hE8_0) ?_))))))
          by_cases hi0 : ((i : Nat) : Int) > 0
          ·
            refine Wl.q (v := Value.bool true) (q_gtr (r := true) rfl rfl (decide_eq_true hi0)) (Wl.q (v := Value.bool true) (q_move rfl) (Wl.q (v := Value.int .u8 ((c.toNat : Nat) : Int)) (q_move rfl) ?_))
            by_cases hc0 : ((c.toNat : Nat) : Int) = 0
            ·
              refine Wl.q (v := Value.bool true) (q_eql (r := true) rfl rfl (decide_eq_true hc0)) (Wl.q (v := Value.bool true) (q_pick (t := true) rfl rfl) (Wl.q (v := Value.bool true) (q_pick (t := false) rfl rfl) (Wl.done (Wx.go (Wc.yes rfl (Wc.seq (Wc.region (Wl.q (v := Value.int .i64 ((a0 : Nat) : Int)) (q_move hE1_0) (Wl.q (v := Value.int .i64 0) (q_assign rfl) (Wl.q (v := Value.int .i64 ((a0 : Nat) : Int)) (q_assign rfl) (Wl.q (v := Value.int .i64 4) (q_assign rfl) ?_)))))))))))
              refine Wl.done (Wx.go (Wc.ret (Wx.thenRet (Wx.blockRet (Wx.thenRet (Wx.thenRet (Wx.blockRet (Wx.thenRet (Wx.fin3 rfl (.inl rfl) (fun w hs => ?_))))))))))
              rw [show 10 - i = (10 - (i + 1)) + 1 by omega] at hp0
              have e : takeNum s a0 = none := take_none hp0 (dec_bad hget (by omega))
              exact ⟨(), trivial, by rw [e]; rfl, hs⟩
            ·
              refine Wl.q (v := Value.bool false) (q_eql (r := false) rfl rfl (decide_eq_false hc0)) (Wl.q (v := Value.bool false) (q_pick (t := true) rfl rfl) (Wl.q (v := Value.bool false) (q_pick (t := false) rfl rfl) (Wl.done (Wx.go (Wc.no rfl (Wc.skip (Wx.go (Wc.seq (Wc.region (Wl.q (v := Value.int .u64 ((z : Nat) : Int)) (q_move hE7_0) (Wl.q (v := Value.int .u8 ((c.toNat : Nat) : Int)) (q_move rfl) ?_)))))))))))
              refine Wl.q (v := Value.int .u8 ((c.toNat % 128 : Nat) : Int)) (q_and (c := ((c.toNat % 128 : Nat) : Int)) rfl rfl (and127 c)) (Wl.q (v := Value.int .u64 ((c.toNat % 128 : Nat) : Int)) (q_conv_int (c := ((c.toNat % 128 : Nat) : Int)) Tryz.underlying125 (by rw [Tryz.underlying5]; rfl) rfl (wrap_u64 (by omega) (by omega))) (Wl.q (v := Value.int .i64 ((i : Nat) : Int)) (q_move hE8_0) (Wl.q (v := Value.int .i64 ((7 * i : Nat) : Int)) (q_mul (c := ((7 * i : Nat) : Int)) rfl rfl (by rw [wrap_i64] <;> omega)) (Wl.q (v := Value.int .u64 ((c.toNat % 128 * 128 ^ i : Nat) : Int)) (q_shl (c := ((c.toNat % 128 * 128 ^ i : Nat) : Int)) rfl rfl (by omega) (shl7 (by omega) hc9 (by omega))) (Wl.q (v := Value.int .u64 (((z + c.toNat % 128 * 128 ^ i) : Nat) : Int)) (q_or (c := (((z + c.toNat % 128 * 128 ^ i) : Nat) : Int)) rfl rfl (or7 hz (by omega) hc9 (by omega)).2) (Wl.q (v := Value.int .u64 (((z + c.toNat % 128 * 128 ^ i) : Nat) : Int)) (q_assign rfl) (Wl.done (Wx.go (Wc.seq (Wc.region (Wl.q (v := Value.int .u8 ((c.toNat : Nat) : Int)) (q_move rfl) ?_)))))))))))
              by_cases hc128 : ((c.toNat : Nat) : Int) < 128
              ·
                have hZ := (or7 hz (by omega) hc9 (by omega)).1
                refine Wl.q (v := Value.bool true) (q_lss (r := true) rfl rfl (decide_eq_true hc128)) (Wl.done (Wx.go (Wc.yes rfl (Wc.seq (Wc.region (Wl.q (v := Value.int .u64 (((z + c.toNat % 128 * 128 ^ i) : Nat) : Int)) (q_move rfl) (Wl.q (v := Value.int .u64 (((z + c.toNat % 128 * 128 ^ i) / 2 : Nat) : Int)) (q_quo (c := (((z + c.toNat % 128 * 128 ^ i) / 2 : Nat) : Int)) rfl rfl (by decide) (by rw [Int.tdiv_eq_ediv_of_nonneg (by omega), wrap_u64 (by omega) (by omega)]; omega)) (Wl.q (v := Value.int .i64 (((z + c.toNat % 128 * 128 ^ i) / 2 : Nat) : Int)) (q_conv_int (c := (((z + c.toNat % 128 * 128 ^ i) / 2 : Nat) : Int)) Tryz.underlying2 (by rw [Tryz.underlying125]; rfl) rfl (wrap_i64 (by omega) (by omega))) (Wl.q (v := Value.int .i64 (((z + c.toNat % 128 * 128 ^ i) / 2 : Nat) : Int)) (q_assign rfl) (Wl.done (Wx.go ?_)))))))))))
                refine Wc.seq (Wc.seq (Wc.region (Wl.q (v := Value.int .u64 (((z + c.toNat % 128 * 128 ^ i) : Nat) : Int)) (q_move rfl) (Wl.q (v := Value.int .u64 (((z + c.toNat % 128 * 128 ^ i) % 2 : Nat) : Int)) (q_rem (c := (((z + c.toNat % 128 * 128 ^ i) % 2 : Nat) : Int)) rfl rfl (by decide) (by rw [Int.tmod_eq_emod_of_nonneg (by omega)]; omega)) ?_))))
                by_cases hodd : (((z + c.toNat % 128 * 128 ^ i) % 2 : Nat) : Int) = 1
                ·
                  refine Wl.q (v := Value.bool true) (q_eql (r := true) rfl rfl (decide_eq_true hodd)) (Wl.done (Wx.go (Wc.yes rfl (Wc.region (Wl.q (v := Value.int .i64 (((z + c.toNat % 128 * 128 ^ i) / 2 : Nat) : Int)) (q_move rfl) (Wl.q (v := Value.int .i64 (-(((z + c.toNat % 128 * 128 ^ i) / 2 : Nat) : Int))) (q_neg (c := (-(((z + c.toNat % 128 * 128 ^ i) / 2 : Nat) : Int))) rfl (wrap_i64 (by omega) (by omega))) (Wl.q (v := Value.int .i64 (-(((z + c.toNat % 128 * 128 ^ i) / 2 : Nat) : Int) - 1)) (q_sub (c := (-(((z + c.toNat % 128 * 128 ^ i) / 2 : Nat) : Int) - 1)) rfl rfl (wrap_i64 (by omega) (by omega))) (Wl.q (v := Value.int .i64 (-(((z + c.toNat % 128 * 128 ^ i) / 2 : Nat) : Int) - 1)) (q_assign rfl) (Wl.done (Wx.go (Wc.seq ?_)))))))))))
                  refine Wc.region (Wl.q (v := Value.int .i64 (-(((z + c.toNat % 128 * 128 ^ i) / 2 : Nat) : Int) - 1)) (q_move rfl) (Wl.q (v := Value.int .i64 ((a0 : Nat) : Int)) (q_move hE1_0) (Wl.q (v := Value.int .i64 ((i : Nat) : Int)) (q_move hE8_0) (Wl.q (v := Value.int .i64 ((a0 + i : Nat) : Int)) (q_add (c := ((a0 + i : Nat) : Int)) rfl rfl (by rw [wrap_i64] <;> omega)) (Wl.q (v := Value.int .i64 (((a0 + i) + 1 : Nat) : Int)) (q_add (c := (((a0 + i) + 1 : Nat) : Int)) rfl rfl (by rw [wrap_i64] <;> omega)) (Wl.q (v := Value.int .i64 (-(((z + c.toNat % 128 * 128 ^ i) / 2 : Nat) : Int) - 1)) (q_assign rfl) (Wl.q (v := Value.int .i64 (((a0 + i) + 1 : Nat) : Int)) (q_assign rfl) (Wl.q (v := Value.int .i64 0) (q_assign rfl) (Wl.done (Wx.go (Wc.ret ?_)))))))))))
                  refine Wx.blockRet (Wx.thenRet (Wx.thenRet (Wx.blockRet (Wx.thenRet (Wx.fin3 rfl (.inl rfl) (fun w hs => ?_))))))
                  rw [show 10 - i = (10 - (i + 1)) + 1 by omega] at hp0
                  have e : takeNum s a0 = some (un (z + c.toNat % 128 * 128 ^ i), a0 + i + 1) := take_some hp0 (dec_end hget (by omega) (by omega))
                  exact ⟨(), trivial, by rw [e, ← un_odd hodd]; rfl, hs⟩
                ·
                  refine Wl.q (v := Value.bool false) (q_eql (r := false) rfl rfl (decide_eq_false hodd)) (Wl.done (Wx.go (Wc.no rfl (Wc.skip (Wx.go (Wc.seq (Wc.region (Wl.q (v := Value.int .i64 (((z + c.toNat % 128 * 128 ^ i) / 2 : Nat) : Int)) (q_move rfl) (Wl.q (v := Value.int .i64 ((a0 : Nat) : Int)) (q_move hE1_0) (Wl.q (v := Value.int .i64 ((i : Nat) : Int)) (q_move hE8_0) (Wl.q (v := Value.int .i64 ((a0 + i : Nat) : Int)) (q_add (c := ((a0 + i : Nat) : Int)) rfl rfl (by rw [wrap_i64] <;> omega)) ?_)))))))))))
                  refine Wl.q (v := Value.int .i64 (((a0 + i) + 1 : Nat) : Int)) (q_add (c := (((a0 + i) + 1 : Nat) : Int)) rfl rfl (by rw [wrap_i64] <;> omega)) (Wl.q (v := Value.int .i64 (((z + c.toNat % 128 * 128 ^ i) / 2 : Nat) : Int)) (q_assign rfl) (Wl.q (v := Value.int .i64 (((a0 + i) + 1 : Nat) : Int)) (q_assign rfl) (Wl.q (v := Value.int .i64 0) (q_assign rfl) (Wl.done (Wx.go (Wc.ret (Wx.blockRet (Wx.thenRet (Wx.thenRet (Wx.blockRet (Wx.thenRet ?_)))))))))))
                  refine Wx.fin3 rfl (.inl rfl) (fun w hs => ?_)
                  rw [show 10 - i = (10 - (i + 1)) + 1 by omega] at hp0
                  have e : takeNum s a0 = some (un (z + c.toNat % 128 * 128 ^ i), a0 + i + 1) := take_some hp0 (dec_end hget (by omega) (by omega))
                  exact ⟨(), trivial, by rw [e, ← un_even hodd]; rfl, hs⟩
              ·
                refine Wl.q (v := Value.bool false) (q_lss (r := false) rfl rfl (decide_eq_false hc128)) (Wl.done (Wx.go (Wc.no rfl (Wc.skip (Wx.blockEnd (Wx.go (Wc.region (Wl.q (v := Value.int .i64 ((i : Nat) : Int)) (q_move hE8_0) (Wl.q (v := Value.int .i64 ((i + 1 : Nat) : Int)) (q_add (c := ((i + 1 : Nat) : Int)) rfl rfl (by rw [wrap_i64] <;> omega)) (Wl.q (v := Value.int .i64 ((i + 1 : Nat) : Int)) (q_assign rfl) (Wl.done ?_)))))))))))
                refine Wx.at (i + 1, (z + c.toNat % 128 * 128 ^ i)) ⟨(by simp only; omega), rfl, rfl, hE0_0, hE1_0, (by simp only; rw [hp0, show 10 - i = (10 - (i + 1)) + 1 by omega]; exact dec_more hget (by omega) (by omega)), (pow_next hz), (by simp only; omega), (by simp only; omega)⟩ (fun w hs => hs)
          ·
            refine Wl.q (v := Value.bool false) (q_gtr (r := false) rfl rfl (decide_eq_false hi0)) (Wl.q (v := Value.bool false) (q_move rfl) (Wl.no (Wl.no (Wl.q (v := Value.bool false) (q_pick (t := false) rfl rfl) (Wl.q (v := Value.bool false) (q_pick (t := false) rfl rfl) (Wl.done (Wx.go (Wc.no rfl (Wc.skip (Wx.go (Wc.seq ?_)))))))))))
            refine Wc.region (Wl.q (v := Value.int .u64 ((z : Nat) : Int)) (q_move hE7_0) (Wl.q (v := Value.int .u8 ((c.toNat : Nat) : Int)) (q_move rfl) (Wl.q (v := Value.int .u8 ((c.toNat % 128 : Nat) : Int)) (q_and (c := ((c.toNat % 128 : Nat) : Int)) rfl rfl (and127 c)) (Wl.q (v := Value.int .u64 ((c.toNat % 128 : Nat) : Int)) (q_conv_int (c := ((c.toNat % 128 : Nat) : Int)) Tryz.underlying125 (by rw [Tryz.underlying5]; rfl) rfl (wrap_u64 (by omega) (by omega))) (Wl.q (v := Value.int .i64 ((i : Nat) : Int)) (q_move hE8_0) (Wl.q (v := Value.int .i64 ((7 * i : Nat) : Int)) (q_mul (c := ((7 * i : Nat) : Int)) rfl rfl (by rw [wrap_i64] <;> omega)) (Wl.q (v := Value.int .u64 ((c.toNat % 128 * 128 ^ i : Nat) : Int)) (q_shl (c := ((c.toNat % 128 * 128 ^ i : Nat) : Int)) rfl rfl (by omega) (shl7 (by omega) hc9 (by omega))) (Wl.q (v := Value.int .u64 (((z + c.toNat % 128 * 128 ^ i) : Nat) : Int)) (q_or (c := (((z + c.toNat % 128 * 128 ^ i) : Nat) : Int)) rfl rfl (or7 hz (by omega) hc9 (by omega)).2) (Wl.q (v := Value.int .u64 (((z + c.toNat % 128 * 128 ^ i) : Nat) : Int)) (q_assign rfl) (Wl.done (Wx.go ?_)))))))))))
            refine Wc.seq (Wc.region (Wl.q (v := Value.int .u8 ((c.toNat : Nat) : Int)) (q_move rfl) ?_))
            by_cases hc128 : ((c.toNat : Nat) : Int) < 128
            ·
              have hZ := (or7 hz (by omega) hc9 (by omega)).1
              refine Wl.q (v := Value.bool true) (q_lss (r := true) rfl rfl (decide_eq_true hc128)) (Wl.done (Wx.go (Wc.yes rfl (Wc.seq (Wc.region (Wl.q (v := Value.int .u64 (((z + c.toNat % 128 * 128 ^ i) : Nat) : Int)) (q_move rfl) (Wl.q (v := Value.int .u64 (((z + c.toNat % 128 * 128 ^ i) / 2 : Nat) : Int)) (q_quo (c := (((z + c.toNat % 128 * 128 ^ i) / 2 : Nat) : Int)) rfl rfl (by decide) (by rw [Int.tdiv_eq_ediv_of_nonneg (by omega), wrap_u64 (by omega) (by omega)]; omega)) (Wl.q (v := Value.int .i64 (((z + c.toNat % 128 * 128 ^ i) / 2 : Nat) : Int)) (q_conv_int (c := (((z + c.toNat % 128 * 128 ^ i) / 2 : Nat) : Int)) Tryz.underlying2 (by rw [Tryz.underlying125]; rfl) rfl (wrap_i64 (by omega) (by omega))) (Wl.q (v := Value.int .i64 (((z + c.toNat % 128 * 128 ^ i) / 2 : Nat) : Int)) (q_assign rfl) (Wl.done (Wx.go ?_)))))))))))
              refine Wc.seq (Wc.seq (Wc.region (Wl.q (v := Value.int .u64 (((z + c.toNat % 128 * 128 ^ i) : Nat) : Int)) (q_move rfl) (Wl.q (v := Value.int .u64 (((z + c.toNat % 128 * 128 ^ i) % 2 : Nat) : Int)) (q_rem (c := (((z + c.toNat % 128 * 128 ^ i) % 2 : Nat) : Int)) rfl rfl (by decide) (by rw [Int.tmod_eq_emod_of_nonneg (by omega)]; omega)) ?_))))
              by_cases hodd : (((z + c.toNat % 128 * 128 ^ i) % 2 : Nat) : Int) = 1
              ·
                refine Wl.q (v := Value.bool true) (q_eql (r := true) rfl rfl (decide_eq_true hodd)) (Wl.done (Wx.go (Wc.yes rfl (Wc.region (Wl.q (v := Value.int .i64 (((z + c.toNat % 128 * 128 ^ i) / 2 : Nat) : Int)) (q_move rfl) (Wl.q (v := Value.int .i64 (-(((z + c.toNat % 128 * 128 ^ i) / 2 : Nat) : Int))) (q_neg (c := (-(((z + c.toNat % 128 * 128 ^ i) / 2 : Nat) : Int))) rfl (wrap_i64 (by omega) (by omega))) (Wl.q (v := Value.int .i64 (-(((z + c.toNat % 128 * 128 ^ i) / 2 : Nat) : Int) - 1)) (q_sub (c := (-(((z + c.toNat % 128 * 128 ^ i) / 2 : Nat) : Int) - 1)) rfl rfl (wrap_i64 (by omega) (by omega))) (Wl.q (v := Value.int .i64 (-(((z + c.toNat % 128 * 128 ^ i) / 2 : Nat) : Int) - 1)) (q_assign rfl) (Wl.done (Wx.go (Wc.seq ?_)))))))))))
                refine Wc.region (Wl.q (v := Value.int .i64 (-(((z + c.toNat % 128 * 128 ^ i) / 2 : Nat) : Int) - 1)) (q_move rfl) (Wl.q (v := Value.int .i64 ((a0 : Nat) : Int)) (q_move hE1_0) (Wl.q (v := Value.int .i64 ((i : Nat) : Int)) (q_move hE8_0) (Wl.q (v := Value.int .i64 ((a0 + i : Nat) : Int)) (q_add (c := ((a0 + i : Nat) : Int)) rfl rfl (by rw [wrap_i64] <;> omega)) (Wl.q (v := Value.int .i64 (((a0 + i) + 1 : Nat) : Int)) (q_add (c := (((a0 + i) + 1 : Nat) : Int)) rfl rfl (by rw [wrap_i64] <;> omega)) (Wl.q (v := Value.int .i64 (-(((z + c.toNat % 128 * 128 ^ i) / 2 : Nat) : Int) - 1)) (q_assign rfl) (Wl.q (v := Value.int .i64 (((a0 + i) + 1 : Nat) : Int)) (q_assign rfl) (Wl.q (v := Value.int .i64 0) (q_assign rfl) (Wl.done (Wx.go (Wc.ret ?_)))))))))))
                refine Wx.blockRet (Wx.thenRet (Wx.thenRet (Wx.blockRet (Wx.thenRet (Wx.fin3 rfl (.inl rfl) (fun w hs => ?_))))))
                rw [show 10 - i = (10 - (i + 1)) + 1 by omega] at hp0
                have e : takeNum s a0 = some (un (z + c.toNat % 128 * 128 ^ i), a0 + i + 1) := take_some hp0 (dec_end hget (by omega) (by omega))
                exact ⟨(), trivial, by rw [e, ← un_odd hodd]; rfl, hs⟩
              ·
                refine Wl.q (v := Value.bool false) (q_eql (r := false) rfl rfl (decide_eq_false hodd)) (Wl.done (Wx.go (Wc.no rfl (Wc.skip (Wx.go (Wc.seq (Wc.region (Wl.q (v := Value.int .i64 (((z + c.toNat % 128 * 128 ^ i) / 2 : Nat) : Int)) (q_move rfl) (Wl.q (v := Value.int .i64 ((a0 : Nat) : Int)) (q_move hE1_0) (Wl.q (v := Value.int .i64 ((i : Nat) : Int)) (q_move hE8_0) (Wl.q (v := Value.int .i64 ((a0 + i : Nat) : Int)) (q_add (c := ((a0 + i : Nat) : Int)) rfl rfl (by rw [wrap_i64] <;> omega)) ?_)))))))))))
                refine Wl.q (v := Value.int .i64 (((a0 + i) + 1 : Nat) : Int)) (q_add (c := (((a0 + i) + 1 : Nat) : Int)) rfl rfl (by rw [wrap_i64] <;> omega)) (Wl.q (v := Value.int .i64 (((z + c.toNat % 128 * 128 ^ i) / 2 : Nat) : Int)) (q_assign rfl) (Wl.q (v := Value.int .i64 (((a0 + i) + 1 : Nat) : Int)) (q_assign rfl) (Wl.q (v := Value.int .i64 0) (q_assign rfl) (Wl.done (Wx.go (Wc.ret (Wx.blockRet (Wx.thenRet (Wx.thenRet (Wx.blockRet (Wx.thenRet ?_)))))))))))
                refine Wx.fin3 rfl (.inl rfl) (fun w hs => ?_)
                rw [show 10 - i = (10 - (i + 1)) + 1 by omega] at hp0
                have e : takeNum s a0 = some (un (z + c.toNat % 128 * 128 ^ i), a0 + i + 1) := take_some hp0 (dec_end hget (by omega) (by omega))
                exact ⟨(), trivial, by rw [e, ← un_even hodd]; rfl, hs⟩
            ·
              refine Wl.q (v := Value.bool false) (q_lss (r := false) rfl rfl (decide_eq_false hc128)) (Wl.done (Wx.go (Wc.no rfl (Wc.skip (Wx.blockEnd (Wx.go (Wc.region (Wl.q (v := Value.int .i64 ((i : Nat) : Int)) (q_move hE8_0) (Wl.q (v := Value.int .i64 ((i + 1 : Nat) : Int)) (q_add (c := ((i + 1 : Nat) : Int)) rfl rfl (by rw [wrap_i64] <;> omega)) (Wl.q (v := Value.int .i64 ((i + 1 : Nat) : Int)) (q_assign rfl) (Wl.done ?_)))))))))))
              refine Wx.at (i + 1, (z + c.toNat % 128 * 128 ^ i)) ⟨(by simp only; omega), rfl, rfl, hE0_0, hE1_0, (by simp only; rw [hp0, show 10 - i = (10 - (i + 1)) + 1 by omega]; exact dec_more hget (by omega) (by omega)), (pow_next hz), (by simp only; omega), (by simp only; omega)⟩ (fun w hs => hs)
    ·
      refine Wl.q (v := Value.bool false) (q_lss (r := false) rfl rfl (decide_eq_false hi10)) (Wl.done (Wx.go (Wc.no rfl (Wc.exit (Wx.thenExit (Wx.thenExit (Wx.out (Wx.go (Wc.seq (Wc.region (Wl.q (v := Value.int .i64 ((a0 : Nat) : Int)) (q_move hE1_0) ?_)))))))))))
      refine Wl.q (v := Value.int .i64 0) (q_assign rfl) (Wl.q (v := Value.int .i64 ((a0 : Nat) : Int)) (q_assign rfl) (Wl.q (v := Value.int .i64 4) (q_assign rfl) (Wl.done (Wx.go (Wc.ret (Wx.fin3 rfl (.inl rfl) (fun w hs => ?_)))))))
      have h10 : i = 10 := by omega
      subst h10
      have e : takeNum s a0 = none := take_none hp0 rfl
      exact ⟨(), trivial, by rw [e]; rfl, hs⟩

theorem tnum_ok (W0 : World) (s : ByteArray) (a0 : Nat) (ha0 : a0 ≤ s.size) (hsz : s.size ≤ 9223372036854775807) (v : Int) (a : Nat) (h : takeNum s a0 = some (v, a)) : Con Tryz.prog W0 103 #[Value.string s, Value.int .i64 ((a0 : Nat) : Int)] [] (X := Unit) (fun _ => True) (fun _ => .tuple #[.int .i64 v, .int .i64 ((a : Nat) : Int), .int .i64 0]) (fun _ => []) := by
 have := tnum_c W0 s a0 ha0 hsz; rw [h] at this; exact this
theorem tnum_bad (W0 : World) (s : ByteArray) (a0 : Nat) (ha0 : a0 ≤ s.size) (hsz : s.size ≤ 9223372036854775807) (h : takeNum s a0 = none) : Con Tryz.prog W0 103 #[Value.string s, Value.int .i64 ((a0 : Nat) : Int)] [] (X := Unit) (fun _ => True) (fun _ => .tuple #[.int .i64 0, .int .i64 ((a0 : Nat) : Int), .int .i64 4]) (fun _ => []) := by
 have := tnum_c W0 s a0 ha0 hsz; rw [h] at this; exact this

theorem tmany_none (W0 : World) (s : ByteArray) (a0 : Nat) (ha0 : a0 ≤ s.size) (hsz : s.size ≤ 9223372036854775807) (htk : takeNum s a0 = none) :
  Con Tryz.prog W0 89 #[Value.string s, Value.int .i64 ((a0 : Nat) : Int)] [] (X := Unit) (fun _ => True) (fun _ => .tuple #[.int .i64 0, .int .i64 ((a0 : Nat) : Int), .int .i64 4]) (fun _ => []) := by
 refine Con.of (args := [Value.string s, Value.int .i64 ((a0 : Nat) : Int)]) Tryz.func89 rfl Tryz.ntmps89 rfl (fun F => ?_)
 show Wc _ W0 _ _ _ _ _ (F)
 refine Wc.seq (Wc.region (Wl.q (v := Value.int .i64 0) (q_assign rfl) (Wl.q (v := Value.int .i64 0) (q_assign rfl) (Wl.q (v := Value.int .i64 0) (q_assign rfl) (Wl.done (Wx.go (Wc.seq (Wc.region (Wl.q (v := Value.string s) (q_move rfl) (Wl.q (v := Value.int .i64 ((a0 : Nat) : Int)) (q_move rfl) (Wl.e (e_call (F := F) (args := [Value.string s, Value.int .i64 ((a0 : Nat) : Int)]) Tryz.call103 rfl (tnum_bad W0 s a0 ha0 hsz htk)) (fun _ _ => ?_))))))))))))
 refine Wl.imp (L' := F) (fun _ h => h) (Wl.q (v := Value.tuple #[Value.int .i64 0, Value.int .i64 ((a0 : Nat) : Int), Value.int .i64 4]) (q_move rfl) (Wl.q (v := Value.int .i64 0) (q_extract (i := 0) rfl rfl) (Wl.q (v := Value.int .i64 ((a0 : Nat) : Int)) (q_extract (i := 1) rfl rfl) (Wl.q (v := Value.int .i64 4) (q_extract (i := 2) rfl rfl) (Wl.q (v := Value.int .i64 0) (q_assign rfl) (Wl.q (v := Value.int .i64 ((a0 : Nat) : Int)) (q_assign rfl) (Wl.q (v := Value.int .i64 4) (q_assign rfl) (Wl.done (Wx.go (Wc.seq (Wc.seq ?_)))))))))))
 refine Wc.region (Wl.q (v := Value.int .i64 4) (q_move rfl) (Wl.q (v := Value.bool true) (q_neq (r := false) rfl rfl (decide_eq_false (by decide))) (Wl.q (v := Value.bool true) (q_move rfl) (Wl.no (Wl.no (Wl.q (v := Value.bool true) (q_pick (t := true) rfl rfl) (Wl.q (v := Value.bool true) (q_move rfl) (Wl.no (Wl.no (Wl.q (v := Value.bool true) (q_pick (t := true) rfl rfl) (Wl.done ?_)))))))))))
 refine Wx.go (Wc.yes rfl (Wc.seq (Wc.region (Wl.q (v := Value.int .i64 ((a0 : Nat) : Int)) (q_move rfl) (Wl.q (v := Value.int .i64 0) (q_assign rfl) (Wl.q (v := Value.int .i64 ((a0 : Nat) : Int)) (q_assign rfl) (Wl.q (v := Value.int .i64 4) (q_assign rfl) (Wl.done (Wx.go (Wc.ret (Wx.thenRet ?_)))))))))))
 refine Wx.fin3 rfl (.inl rfl) (fun w hs => ?_)
 exact ⟨(), trivial, rfl, hs⟩

theorem tmany_ok (W0 : World) (s : ByteArray) (a0 : Nat) (ha0 : a0 ≤ s.size) (hsz : s.size ≤ 9223372036854775807) (v : Int) (a : Nat) (htk : takeNum s a0 = some (v, a)) (hv0 : 0 ≤ v) (hv1 : v ≤ 65536) :
  Con Tryz.prog W0 89 #[Value.string s, Value.int .i64 ((a0 : Nat) : Int)] [] (X := Unit) (fun _ => True) (fun _ => .tuple #[.int .i64 v, .int .i64 ((a : Nat) : Int), .int .i64 0]) (fun _ => []) := by
 refine Con.of (args := [Value.string s, Value.int .i64 ((a0 : Nat) : Int)]) Tryz.func89 rfl Tryz.ntmps89 rfl (fun F => ?_)
 show Wc _ W0 _ _ _ _ _ (F)
 refine Wc.seq (Wc.region (Wl.q (v := Value.int .i64 0) (q_assign rfl) (Wl.q (v := Value.int .i64 0) (q_assign rfl) (Wl.q (v := Value.int .i64 0) (q_assign rfl) (Wl.done (Wx.go (Wc.seq (Wc.region (Wl.q (v := Value.string s) (q_move rfl) (Wl.q (v := Value.int .i64 ((a0 : Nat) : Int)) (q_move rfl) (Wl.e (e_call (F := F) (args := [Value.string s, Value.int .i64 ((a0 : Nat) : Int)]) Tryz.call103 rfl (tnum_ok W0 s a0 ha0 hsz v a htk)) (fun _ _ => ?_))))))))))))
 refine Wl.imp (L' := F) (fun _ h => h) (Wl.q (v := Value.tuple #[Value.int .i64 v, Value.int .i64 ((a : Nat) : Int), Value.int .i64 0]) (q_move rfl) (Wl.q (v := Value.int .i64 v) (q_extract (i := 0) rfl rfl) (Wl.q (v := Value.int .i64 ((a : Nat) : Int)) (q_extract (i := 1) rfl rfl) (Wl.q (v := Value.int .i64 0) (q_extract (i := 2) rfl rfl) (Wl.q (v := Value.int .i64 v) (q_assign rfl) (Wl.q (v := Value.int .i64 ((a : Nat) : Int)) (q_assign rfl) (Wl.q (v := Value.int .i64 0) (q_assign rfl) (Wl.done (Wx.go (Wc.seq (Wc.seq ?_)))))))))))
 refine Wc.region (Wl.q (v := Value.int .i64 0) (q_move rfl) (Wl.q (v := Value.bool false) (q_neq (r := true) rfl rfl (decide_eq_true (by decide))) (Wl.q (v := Value.bool false) (q_move rfl) (Wl.q (v := Value.int .i64 v) (q_move rfl) (Wl.q (v := Value.bool false) (q_lss (r := false) rfl rfl (decide_eq_false (by omega))) (Wl.q (v := Value.bool false) (q_pick (t := false) rfl rfl) (Wl.q (v := Value.bool false) (q_move rfl) (Wl.q (v := Value.int .i64 v) (q_move rfl) (Wl.q (v := Value.bool false) (q_gtr (r := false) rfl rfl (decide_eq_false (by omega))) (Wl.q (v := Value.bool false) (q_pick (t := false) rfl rfl) (Wl.done ?_)))))))))))
 refine Wx.go (Wc.no rfl (Wc.skip (Wx.go (Wc.seq (Wc.region (Wl.q (v := Value.int .i64 v) (q_move rfl) (Wl.q (v := Value.int .i64 ((a : Nat) : Int)) (q_move rfl) (Wl.q (v := Value.int .i64 v) (q_assign rfl) (Wl.q (v := Value.int .i64 ((a : Nat) : Int)) (q_assign rfl) (Wl.q (v := Value.int .i64 0) (q_assign rfl) (Wl.done ?_)))))))))))
 refine Wx.go (Wc.ret (Wx.fin3 rfl (.inl rfl) (fun w hs => ?_)))
 exact ⟨(), trivial, rfl, hs⟩

theorem tmany_neg (W0 : World) (s : ByteArray) (a0 : Nat) (ha0 : a0 ≤ s.size) (hsz : s.size ≤ 9223372036854775807) (v : Int) (a : Nat) (htk : takeNum s a0 = some (v, a)) (hv : v < 0) :
  Con Tryz.prog W0 89 #[Value.string s, Value.int .i64 ((a0 : Nat) : Int)] [] (X := Unit) (fun _ => True) (fun _ => .tuple #[.int .i64 0, .int .i64 ((a0 : Nat) : Int), .int .i64 4]) (fun _ => []) := by
 refine Con.of (args := [Value.string s, Value.int .i64 ((a0 : Nat) : Int)]) Tryz.func89 rfl Tryz.ntmps89 rfl (fun F => ?_)
 show Wc _ W0 _ _ _ _ _ (F)
 refine Wc.seq (Wc.region (Wl.q (v := Value.int .i64 0) (q_assign rfl) (Wl.q (v := Value.int .i64 0) (q_assign rfl) (Wl.q (v := Value.int .i64 0) (q_assign rfl) (Wl.done (Wx.go (Wc.seq (Wc.region (Wl.q (v := Value.string s) (q_move rfl) (Wl.q (v := Value.int .i64 ((a0 : Nat) : Int)) (q_move rfl) (Wl.e (e_call (F := F) (args := [Value.string s, Value.int .i64 ((a0 : Nat) : Int)]) Tryz.call103 rfl (tnum_ok W0 s a0 ha0 hsz v a htk)) (fun _ _ => ?_))))))))))))
 refine Wl.imp (L' := F) (fun _ h => h) (Wl.q (v := Value.tuple #[Value.int .i64 v, Value.int .i64 ((a : Nat) : Int), Value.int .i64 0]) (q_move rfl) (Wl.q (v := Value.int .i64 v) (q_extract (i := 0) rfl rfl) (Wl.q (v := Value.int .i64 ((a : Nat) : Int)) (q_extract (i := 1) rfl rfl) (Wl.q (v := Value.int .i64 0) (q_extract (i := 2) rfl rfl) (Wl.q (v := Value.int .i64 v) (q_assign rfl) (Wl.q (v := Value.int .i64 ((a : Nat) : Int)) (q_assign rfl) (Wl.q (v := Value.int .i64 0) (q_assign rfl) (Wl.done (Wx.go (Wc.seq (Wc.seq ?_)))))))))))
 refine Wc.region (Wl.q (v := Value.int .i64 0) (q_move rfl) (Wl.q (v := Value.bool false) (q_neq (r := true) rfl rfl (decide_eq_true (by decide))) (Wl.q (v := Value.bool false) (q_move rfl) (Wl.q (v := Value.int .i64 v) (q_move rfl) (Wl.q (v := Value.bool true) (q_lss (r := true) rfl rfl (decide_eq_true (by omega))) (Wl.q (v := Value.bool true) (q_pick (t := false) rfl rfl) (Wl.q (v := Value.bool true) (q_move rfl) (Wl.no (Wl.no (Wl.q (v := Value.bool true) (q_pick (t := true) rfl rfl) (Wl.done ?_)))))))))))
 refine Wx.go (Wc.yes rfl (Wc.seq (Wc.region (Wl.q (v := Value.int .i64 ((a0 : Nat) : Int)) (q_move rfl) (Wl.q (v := Value.int .i64 0) (q_assign rfl) (Wl.q (v := Value.int .i64 ((a0 : Nat) : Int)) (q_assign rfl) (Wl.q (v := Value.int .i64 4) (q_assign rfl) (Wl.done (Wx.go (Wc.ret (Wx.thenRet ?_)))))))))))
 refine Wx.fin3 rfl (.inl rfl) (fun w hs => ?_)
 exact ⟨(), trivial, rfl, hs⟩

theorem tmany_big (W0 : World) (s : ByteArray) (a0 : Nat) (ha0 : a0 ≤ s.size) (hsz : s.size ≤ 9223372036854775807) (v : Int) (a : Nat) (htk : takeNum s a0 = some (v, a)) (hv0 : 0 ≤ v) (hv1 : 65536 < v) :
  Con Tryz.prog W0 89 #[Value.string s, Value.int .i64 ((a0 : Nat) : Int)] [] (X := Unit) (fun _ => True) (fun _ => .tuple #[.int .i64 0, .int .i64 ((a0 : Nat) : Int), .int .i64 4]) (fun _ => []) := by
 refine Con.of (args := [Value.string s, Value.int .i64 ((a0 : Nat) : Int)]) Tryz.func89 rfl Tryz.ntmps89 rfl (fun F => ?_)
 show Wc _ W0 _ _ _ _ _ (F)
 refine Wc.seq (Wc.region (Wl.q (v := Value.int .i64 0) (q_assign rfl) (Wl.q (v := Value.int .i64 0) (q_assign rfl) (Wl.q (v := Value.int .i64 0) (q_assign rfl) (Wl.done (Wx.go (Wc.seq (Wc.region (Wl.q (v := Value.string s) (q_move rfl) (Wl.q (v := Value.int .i64 ((a0 : Nat) : Int)) (q_move rfl) (Wl.e (e_call (F := F) (args := [Value.string s, Value.int .i64 ((a0 : Nat) : Int)]) Tryz.call103 rfl (tnum_ok W0 s a0 ha0 hsz v a htk)) (fun _ _ => ?_))))))))))))
 refine Wl.imp (L' := F) (fun _ h => h) (Wl.q (v := Value.tuple #[Value.int .i64 v, Value.int .i64 ((a : Nat) : Int), Value.int .i64 0]) (q_move rfl) (Wl.q (v := Value.int .i64 v) (q_extract (i := 0) rfl rfl) (Wl.q (v := Value.int .i64 ((a : Nat) : Int)) (q_extract (i := 1) rfl rfl) (Wl.q (v := Value.int .i64 0) (q_extract (i := 2) rfl rfl) (Wl.q (v := Value.int .i64 v) (q_assign rfl) (Wl.q (v := Value.int .i64 ((a : Nat) : Int)) (q_assign rfl) (Wl.q (v := Value.int .i64 0) (q_assign rfl) (Wl.done (Wx.go (Wc.seq (Wc.seq ?_)))))))))))
 refine Wc.region (Wl.q (v := Value.int .i64 0) (q_move rfl) (Wl.q (v := Value.bool false) (q_neq (r := true) rfl rfl (decide_eq_true (by decide))) (Wl.q (v := Value.bool false) (q_move rfl) (Wl.q (v := Value.int .i64 v) (q_move rfl) (Wl.q (v := Value.bool false) (q_lss (r := false) rfl rfl (decide_eq_false (by omega))) (Wl.q (v := Value.bool false) (q_pick (t := false) rfl rfl) (Wl.q (v := Value.bool false) (q_move rfl) (Wl.q (v := Value.int .i64 v) (q_move rfl) (Wl.q (v := Value.bool true) (q_gtr (r := true) rfl rfl (decide_eq_true (by omega))) (Wl.q (v := Value.bool true) (q_pick (t := false) rfl rfl) (Wl.done ?_)))))))))))
 refine Wx.go (Wc.yes rfl (Wc.seq (Wc.region (Wl.q (v := Value.int .i64 ((a0 : Nat) : Int)) (q_move rfl) (Wl.q (v := Value.int .i64 0) (q_assign rfl) (Wl.q (v := Value.int .i64 ((a0 : Nat) : Int)) (q_assign rfl) (Wl.q (v := Value.int .i64 4) (q_assign rfl) (Wl.done (Wx.go (Wc.ret (Wx.thenRet ?_)))))))))))
 refine Wx.fin3 rfl (.inl rfl) (fun w hs => ?_)
 exact ⟨(), trivial, rfl, hs⟩

theorem tmany_bad (W0 : World) (s : ByteArray) (a0 : Nat) (ha0 : a0 ≤ s.size) (hsz : s.size ≤ 9223372036854775807) (h : takeList s a0 = none) : Con Tryz.prog W0 89 #[Value.string s, Value.int .i64 ((a0 : Nat) : Int)] [] (X := Unit) (fun _ => True) (fun _ => .tuple #[.int .i64 0, .int .i64 ((a0 : Nat) : Int), .int .i64 4]) (fun _ => []) := by
  unfold takeList at h
  split at h
  · rename_i p hp
    split at h
    · cases h
    · rename_i hr
      by_cases h0 : p.1 < 0
      · exact tmany_neg W0 s a0 ha0 hsz p.1 p.2 hp h0
      · exact tmany_big W0 s a0 ha0 hsz p.1 p.2 hp (by omega) (by omega)
  · rename_i hp; exact tmany_none W0 s a0 ha0 hsz hp

theorem tlist_bad (W0 : World) (s : ByteArray) (a0 : Nat) (ha0 : a0 ≤ s.size) (hsz : s.size ≤ 9223372036854775807) (h : takeList s a0 = none) :
  Con Tryz.prog W0 70 #[Value.string s, Value.int .i64 ((a0 : Nat) : Int)] [] (X := Unit) (fun _ => True) (fun _ => .tuple #[.int .i64 0, .int .i64 ((a0 : Nat) : Int), .int .i64 4]) (fun _ => []) := by
 refine Con.of (args := [Value.string s, Value.int .i64 ((a0 : Nat) : Int)]) Tryz.func70 rfl Tryz.ntmps70 rfl (fun F => ?_)
 show Wc _ W0 _ _ _ _ _ (F)
 refine Wc.seq (Wc.region (Wl.q (v := Value.int .i64 0) (q_assign rfl) (Wl.q (v := Value.int .i64 0) (q_assign rfl) (Wl.q (v := Value.int .i64 0) (q_assign rfl) (Wl.done (Wx.go (Wc.seq (Wc.region (Wl.q (v := Value.string s) (q_move rfl) (Wl.q (v := Value.int .i64 ((a0 : Nat) : Int)) (q_move rfl) (Wl.e (e_call (F := F) (args := [Value.string s, Value.int .i64 ((a0 : Nat) : Int)]) Tryz.call89 rfl (tmany_bad W0 s a0 ha0 hsz h)) (fun _ _ => ?_))))))))))))
 refine Wl.imp (L' := F) (fun _ h => h) (Wl.q (v := Value.int .i64 0) (q_extract (i := 0) rfl rfl) (Wl.q (v := Value.int .i64 ((a0 : Nat) : Int)) (q_extract (i := 1) rfl rfl) (Wl.q (v := Value.int .i64 4) (q_extract (i := 2) rfl rfl) (Wl.q (v := Value.int .i64 0) (q_assign rfl) (Wl.q (v := Value.int .i64 ((a0 : Nat) : Int)) (q_assign rfl) (Wl.q (v := Value.int .i64 4) (q_assign rfl) (Wl.done (Wx.go (Wc.ret (Wx.fin3 rfl (.inl rfl) (fun w hs => ?_)))))))))))
 exact ⟨(), trivial, rfl, hs⟩

theorem tlist_ok (W0 : World) (s : ByteArray) (a0 : Nat) (ha0 : a0 ≤ s.size) (hsz : s.size ≤ 9223372036854775807) (n a : Nat) (h : takeList s a0 = some (n, a)) :
  Con Tryz.prog W0 70 #[Value.string s, Value.int .i64 ((a0 : Nat) : Int)] [] (X := Unit) (fun _ => True) (fun _ => .tuple #[.int .i64 ((n : Nat) : Int), .int .i64 ((a : Nat) : Int), .int .i64 0]) (fun _ => []) := by
 refine Con.of (args := [Value.string s, Value.int .i64 ((a0 : Nat) : Int)]) Tryz.func70 rfl Tryz.ntmps70 rfl (fun F => ?_)
 show Wc _ W0 _ _ _ _ _ (F)
 refine Wc.seq (Wc.region (Wl.q (v := Value.int .i64 0) (q_assign rfl) (Wl.q (v := Value.int .i64 0) (q_assign rfl) (Wl.q (v := Value.int .i64 0) (q_assign rfl) (Wl.done (Wx.go (Wc.seq (Wc.region (Wl.q (v := Value.string s) (q_move rfl) (Wl.q (v := Value.int .i64 ((a0 : Nat) : Int)) (q_move rfl) (Wl.e (e_call (F := F) (args := [Value.string s, Value.int .i64 ((a0 : Nat) : Int)]) Tryz.call89 rfl (tmany_ok W0 s a0 ha0 hsz (n : Int) a (takeList_of h) (by omega) (by have := takeList_le h; simp only at this; omega))) (fun _ _ => ?_))))))))))))
 refine Wl.imp (L' := F) (fun _ h => h) (Wl.q (v := Value.int .i64 ((n : Nat) : Int)) (q_extract (i := 0) rfl rfl) (Wl.q (v := Value.int .i64 ((a : Nat) : Int)) (q_extract (i := 1) rfl rfl) (Wl.q (v := Value.int .i64 0) (q_extract (i := 2) rfl rfl) (Wl.q (v := Value.int .i64 ((n : Nat) : Int)) (q_assign rfl) (Wl.q (v := Value.int .i64 ((a : Nat) : Int)) (q_assign rfl) (Wl.q (v := Value.int .i64 0) (q_assign rfl) (Wl.done (Wx.go (Wc.ret (Wx.fin3 rfl (.inl rfl) (fun w hs => ?_)))))))))))
 exact ⟨(), trivial, rfl, hs⟩

theorem ttext_none (W0 : World) (s : ByteArray) (a0 : Nat) (ha0 : a0 ≤ s.size) (hsz : s.size ≤ 9223372036854775807) (h : takeList s a0 = none) :
  Con Tryz.prog W0 72 #[Value.string s, Value.int .i64 ((a0 : Nat) : Int)] [] (X := Unit) (fun _ => True) (fun _ => .tuple #[.string ⟨#[]⟩, .int .i64 ((a0 : Nat) : Int), .int .i64 4]) (fun _ => []) := by
 refine Con.of (args := [Value.string s, Value.int .i64 ((a0 : Nat) : Int)]) Tryz.func72 rfl Tryz.ntmps72 rfl (fun F => ?_)
 show Wc _ W0 _ _ _ _ _ (F)
 refine Wc.seq (Wc.region (Wl.q (v := Value.string (⟨#[]⟩)) (q_assign rfl) (Wl.q (v := Value.int .i64 0) (q_assign rfl) (Wl.q (v := Value.int .i64 0) (q_assign rfl) (Wl.done (Wx.go (Wc.seq (Wc.region (Wl.q (v := Value.string s) (q_move rfl) (Wl.q (v := Value.int .i64 ((a0 : Nat) : Int)) (q_move rfl) (Wl.e (e_call (F := F) (args := [Value.string s, Value.int .i64 ((a0 : Nat) : Int)]) Tryz.call89 rfl (tmany_bad W0 s a0 ha0 hsz h)) (fun _ _ => ?_))))))))))))
 refine Wl.imp (L' := F) (fun _ h => h) (Wl.q (v := Value.tuple #[Value.int .i64 0, Value.int .i64 ((a0 : Nat) : Int), Value.int .i64 4]) (q_move rfl) (Wl.q (v := Value.int .i64 0) (q_extract (i := 0) rfl rfl) (Wl.q (v := Value.int .i64 ((a0 : Nat) : Int)) (q_extract (i := 1) rfl rfl) (Wl.q (v := Value.int .i64 4) (q_extract (i := 2) rfl rfl) (Wl.q (v := Value.int .i64 0) (q_assign rfl) (Wl.q (v := Value.int .i64 ((a0 : Nat) : Int)) (q_assign rfl) (Wl.q (v := Value.int .i64 4) (q_assign rfl) (Wl.done (Wx.go (Wc.seq (Wc.seq ?_)))))))))))
 refine Wc.region (Wl.q (v := Value.int .i64 4) (q_move rfl) (Wl.q (v := Value.bool true) (q_neq (r := false) rfl rfl (decide_eq_false (by decide))) (Wl.q (v := Value.bool true) (q_move rfl) (Wl.no (Wl.no (Wl.no (Wl.no (Wl.no (Wl.no (Wl.q (v := Value.bool true) (q_pick (t := true) rfl rfl) (Wl.done ?_)))))))))))
 refine Wx.go (Wc.yes rfl (Wc.seq (Wc.region (Wl.q (v := Value.int .i64 ((a0 : Nat) : Int)) (q_move rfl) (Wl.q (v := Value.string (⟨#[]⟩)) (q_assign rfl) (Wl.q (v := Value.int .i64 ((a0 : Nat) : Int)) (q_assign rfl) (Wl.q (v := Value.int .i64 4) (q_assign rfl) (Wl.done (Wx.go (Wc.ret (Wx.thenRet ?_)))))))))))
 refine Wx.fin3 rfl (.inl rfl) (fun w hs => ?_)
 exact ⟨(), trivial, rfl, hs⟩

theorem ttext_long (W0 : World) (s : ByteArray) (a0 : Nat) (ha0 : a0 ≤ s.size) (hsz : s.size ≤ 9223372036854775807) (n a : Nat) (h : takeList s a0 = some (n, a)) (ha : a ≤ s.size) (hna : ¬ a + n ≤ s.size) :
  Con Tryz.prog W0 72 #[Value.string s, Value.int .i64 ((a0 : Nat) : Int)] [] (X := Unit) (fun _ => True) (fun _ => .tuple #[.string ⟨#[]⟩, .int .i64 ((a0 : Nat) : Int), .int .i64 4]) (fun _ => []) := by
 refine Con.of (args := [Value.string s, Value.int .i64 ((a0 : Nat) : Int)]) Tryz.func72 rfl Tryz.ntmps72 rfl (fun F => ?_)
 show Wc _ W0 _ _ _ _ _ (F)
 refine Wc.seq (Wc.region (Wl.q (v := Value.string (⟨#[]⟩)) (q_assign rfl) (Wl.q (v := Value.int .i64 0) (q_assign rfl) (Wl.q (v := Value.int .i64 0) (q_assign rfl) (Wl.done (Wx.go (Wc.seq (Wc.region (Wl.q (v := Value.string s) (q_move rfl) (Wl.q (v := Value.int .i64 ((a0 : Nat) : Int)) (q_move rfl) (Wl.e (e_call (F := F) (args := [Value.string s, Value.int .i64 ((a0 : Nat) : Int)]) Tryz.call89 rfl (tmany_ok W0 s a0 ha0 hsz (n : Int) a (takeList_of h) (by omega) (by have := takeList_le h; simp only at this; omega))) (fun _ _ => ?_))))))))))))
 refine Wl.imp (L' := F) (fun _ h => h) (Wl.q (v := Value.tuple #[Value.int .i64 ((n : Nat) : Int), Value.int .i64 ((a : Nat) : Int), Value.int .i64 0]) (q_move rfl) (Wl.q (v := Value.int .i64 ((n : Nat) : Int)) (q_extract (i := 0) rfl rfl) (Wl.q (v := Value.int .i64 ((a : Nat) : Int)) (q_extract (i := 1) rfl rfl) (Wl.q (v := Value.int .i64 0) (q_extract (i := 2) rfl rfl) (Wl.q (v := Value.int .i64 ((n : Nat) : Int)) (q_assign rfl) (Wl.q (v := Value.int .i64 ((a : Nat) : Int)) (q_assign rfl) (Wl.q (v := Value.int .i64 0) (q_assign rfl) (Wl.done (Wx.go (Wc.seq (Wc.seq ?_)))))))))))
 refine Wc.region (Wl.q (v := Value.int .i64 0) (q_move rfl) (Wl.q (v := Value.bool false) (q_neq (r := true) rfl rfl (decide_eq_true (by decide))) (Wl.q (v := Value.bool false) (q_move rfl) (Wl.q (v := Value.int .i64 ((n : Nat) : Int)) (q_move rfl) (Wl.q (v := Value.string s) (q_move rfl) (Wl.q (v := Value.int .i64 ((s.size : Nat) : Int)) (q_len_str Tryz.underlying9 rfl) (Wl.q (v := Value.int .i64 ((a : Nat) : Int)) (q_move rfl) (Wl.q (v := Value.int .i64 (((s.size : Nat) : Int) - ((a : Nat) : Int))) (q_sub (c := (((s.size : Nat) : Int) - ((a : Nat) : Int))) rfl rfl (wrap_i64 (by omega) (by omega))) (Wl.q (v := Value.bool true) (q_gtr (r := true) rfl rfl (decide_eq_true (by omega))) (Wl.q (v := Value.bool true) (q_pick (t := false) rfl rfl) (Wl.done ?_)))))))))))
 refine Wx.go (Wc.yes rfl (Wc.seq (Wc.region (Wl.q (v := Value.int .i64 ((a0 : Nat) : Int)) (q_move rfl) (Wl.q (v := Value.string (⟨#[]⟩)) (q_assign rfl) (Wl.q (v := Value.int .i64 ((a0 : Nat) : Int)) (q_assign rfl) (Wl.q (v := Value.int .i64 4) (q_assign rfl) (Wl.done (Wx.go (Wc.ret (Wx.thenRet ?_)))))))))))
 refine Wx.fin3 rfl (.inl rfl) (fun w hs => ?_)
 exact ⟨(), trivial, rfl, hs⟩

theorem ttext_ok (W0 : World) (s : ByteArray) (a0 : Nat) (ha0 : a0 ≤ s.size) (hsz : s.size ≤ 9223372036854775807) (n a : Nat) (h : takeList s a0 = some (n, a)) (hna : a + n ≤ s.size) :
  Con Tryz.prog W0 72 #[Value.string s, Value.int .i64 ((a0 : Nat) : Int)] [] (X := Unit) (fun _ => True) (fun _ => .tuple #[.string (s.extract a (a + n)), .int .i64 ((a + n : Nat) : Int), .int .i64 0]) (fun _ => []) := by
 refine Con.of (args := [Value.string s, Value.int .i64 ((a0 : Nat) : Int)]) Tryz.func72 rfl Tryz.ntmps72 rfl (fun F => ?_)
 show Wc _ W0 _ _ _ _ _ (F)
 refine Wc.seq (Wc.region (Wl.q (v := Value.string (⟨#[]⟩)) (q_assign rfl) (Wl.q (v := Value.int .i64 0) (q_assign rfl) (Wl.q (v := Value.int .i64 0) (q_assign rfl) (Wl.done (Wx.go (Wc.seq (Wc.region (Wl.q (v := Value.string s) (q_move rfl) (Wl.q (v := Value.int .i64 ((a0 : Nat) : Int)) (q_move rfl) (Wl.e (e_call (F := F) (args := [Value.string s, Value.int .i64 ((a0 : Nat) : Int)]) Tryz.call89 rfl (tmany_ok W0 s a0 ha0 hsz (n : Int) a (takeList_of h) (by omega) (by have := takeList_le h; simp only at this; omega))) (fun _ _ => ?_))))))))))))
 refine Wl.imp (L' := F) (fun _ h => h) (Wl.q (v := Value.tuple #[Value.int .i64 ((n : Nat) : Int), Value.int .i64 ((a : Nat) : Int), Value.int .i64 0]) (q_move rfl) (Wl.q (v := Value.int .i64 ((n : Nat) : Int)) (q_extract (i := 0) rfl rfl) (Wl.q (v := Value.int .i64 ((a : Nat) : Int)) (q_extract (i := 1) rfl rfl) (Wl.q (v := Value.int .i64 0) (q_extract (i := 2) rfl rfl) (Wl.q (v := Value.int .i64 ((n : Nat) : Int)) (q_assign rfl) (Wl.q (v := Value.int .i64 ((a : Nat) : Int)) (q_assign rfl) (Wl.q (v := Value.int .i64 0) (q_assign rfl) (Wl.done (Wx.go (Wc.seq (Wc.seq ?_)))))))))))
 refine Wc.region (Wl.q (v := Value.int .i64 0) (q_move rfl) (Wl.q (v := Value.bool false) (q_neq (r := true) rfl rfl (decide_eq_true (by decide))) (Wl.q (v := Value.bool false) (q_move rfl) (Wl.q (v := Value.int .i64 ((n : Nat) : Int)) (q_move rfl) (Wl.q (v := Value.string s) (q_move rfl) (Wl.q (v := Value.int .i64 ((s.size : Nat) : Int)) (q_len_str Tryz.underlying9 rfl) (Wl.q (v := Value.int .i64 ((a : Nat) : Int)) (q_move rfl) (Wl.q (v := Value.int .i64 (((s.size : Nat) : Int) - ((a : Nat) : Int))) (q_sub (c := (((s.size : Nat) : Int) - ((a : Nat) : Int))) rfl rfl (wrap_i64 (by omega) (by omega))) (Wl.q (v := Value.bool false) (q_gtr (r := false) rfl rfl (decide_eq_false (by omega))) (Wl.q (v := Value.bool false) (q_pick (t := false) rfl rfl) (Wl.done ?_)))))))))))
 refine Wx.go (Wc.no rfl (Wc.skip (Wx.go (Wc.seq (Wc.region (Wl.q (v := Value.string s) (q_move rfl) (Wl.q (v := Value.int .i64 ((a : Nat) : Int)) (q_move rfl) (Wl.q (v := Value.int .i64 ((a : Nat) : Int)) (q_move rfl) (Wl.q (v := Value.int .i64 ((n : Nat) : Int)) (q_move rfl) (Wl.q (v := Value.int .i64 ((a + n : Nat) : Int)) (q_add (c := ((a + n : Nat) : Int)) rfl rfl (by rw [wrap_i64] <;> omega)) (Wl.q (v := Value.string (s.extract a (a + n))) (q_slice_str (l := a) (h := a + n) Tryz.underlying9 rfl ⟨_, rfl⟩ ⟨_, rfl⟩ (by omega) (by omega) rfl) ?_)))))))))))
 refine Wl.q (v := Value.int .i64 ((a : Nat) : Int)) (q_move rfl) (Wl.q (v := Value.int .i64 ((n : Nat) : Int)) (q_move rfl) (Wl.q (v := Value.int .i64 ((a + n : Nat) : Int)) (q_add (c := ((a + n : Nat) : Int)) rfl rfl (by rw [wrap_i64] <;> omega)) (Wl.q (v := Value.string (s.extract a (a + n))) (q_assign rfl) (Wl.q (v := Value.int .i64 ((a + n : Nat) : Int)) (q_assign rfl) (Wl.q (v := Value.int .i64 0) (q_assign rfl) (Wl.done (Wx.go (Wc.ret (Wx.fin3 rfl (.inl rfl) (fun w hs => ?_))))))))))
 exact ⟨(), trivial, rfl, hs⟩



theorem tlist_c (W0 : World) (s : ByteArray) (a0 : Nat) (ha0 : a0 ≤ s.size) (hsz : s.size ≤ 9223372036854775807) : Con Tryz.prog W0 70 #[Value.string s, Value.int .i64 ((a0 : Nat) : Int)] [] (X := Unit) (fun _ => True) (fun _ => .tuple #[.int .i64 ((gv 0 (takeList s a0) : Nat) : Int), .int .i64 ((gn a0 (takeList s a0) : Nat) : Int), .int .i64 (ge (takeList s a0))]) (fun _ => []) := by
 rcases h : takeList s a0 with _ | ⟨n, a⟩
 · exact tlist_bad W0 s a0 ha0 hsz h
 · have := takeList_le h; simp only at this; exact tlist_ok W0 s a0 ha0 hsz n a h

theorem ttext_c (W0 : World) (s : ByteArray) (a0 : Nat) (ha0 : a0 ≤ s.size) (hsz : s.size ≤ 9223372036854775807) : Con Tryz.prog W0 72 #[Value.string s, Value.int .i64 ((a0 : Nat) : Int)] [] (X := Unit) (fun _ => True) (fun _ => .tuple #[.string (gv ⟨#[]⟩ (takeText s a0)), .int .i64 ((gn a0 (takeText s a0) : Nat) : Int), .int .i64 (ge (takeText s a0))]) (fun _ => []) := by
 rcases h : takeList s a0 with _ | ⟨n, a⟩
 · rw [show takeText s a0 = none from by simp [takeText, h]]; exact ttext_none W0 s a0 ha0 hsz h
 have hl := takeList_le h
 simp only at hl
 by_cases h1 : a + n ≤ s.size
 · rw [show takeText s a0 = some (s.extract a (a + n), a + n) from by simp [takeText, h, h1]]; exact ttext_ok W0 s a0 ha0 hsz n a h h1
 · rw [show takeText s a0 = none from by simp [takeText, h, h1]]; exact ttext_long W0 s a0 ha0 hsz n a h (by omega) h1



theorem end_c (W0 : World) (r : Nat) (s : ByteArray) (a : Nat) : Con Tryz.prog W0 43 #[Value.pointer (some ⟨r, 0, none⟩)] [pt r 101 [Value.bool true, Value.string s, Value.int .i64 ((a : Nat) : Int)]] (X := Unit) (fun _ => True) (fun _ => .int .i64 (if a = s.size then 0 else 4)) (fun _ => [pt r 101 [Value.bool true, Value.string s, Value.int .i64 ((a : Nat) : Int)]]) := by
 by_cases h : a = s.size
 · rw [if_pos h]; exact end_yes W0 r s a h
 · rw [if_neg h]; exact end_no W0 r s a h

end Go.Proofs.YtkndmgfahghcjaaGreat

