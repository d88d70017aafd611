import Derived.Test.YtkndmgfahghcjaaGreatJnO
import Derived.Test.YtkndmgfahghcjaaGreatJnX
import Derived.Test.YtkndmgfahghcjaaGreatSLG
/- Contracts of the calls. -/
namespace Go.Proofs.YtkndmgfahghcjaaGreat
open Go Go.SL Go.Dk Go.Jn Go.RowKit
set_option linter.unusedVariables false
set_option maxRecDepth 8000

theorem pieces_c (W0 : World) (s : ByteArray) (n : Int) :
  Con Tryz.prog W0 99 #[Value.string s, Value.int .i64 n] [] (X := Nat × Nat) (fun _ => True) (fun c => .func (.func 117) #[] #[.pointer (some ⟨c.1, 0, none⟩), .pointer (some ⟨c.2, 0, none⟩)]) (fun c => [pt c.1 9 [.string s], pt c.2 3 [.int .i64 n]]) := by
 refine Con.of (args := [Value.string s, Value.int .i64 n]) Tryz.func99 rfl Tryz.ntmps99 rfl (fun F => ?_)
 show Wc _ W0 _ _ _ _ _ (F)
 refine Wc.seq (Wc.region (Wl.e (e_box (x := .tmp 0) (vs := [Value.string s]) rfl) (fun c1 _ => ?_)))
 refine Wl.imp (L' := (pt c1 9 [Value.string s]) :: F) (fun _ h => h) (Wl.e (e_box (x := .tmp 1) (vs := [Value.int .i64 n]) rfl) (fun c2 _ => ?_))
 refine Wl.imp (L' := (pt c2 3 [Value.int .i64 n]) :: (pt c1 9 [Value.string s]) :: F) (fun _ h => h) (Wl.q (v := Value.nilFunc) (q_assign rfl) (Wl.done (Wx.go (Wc.seq (Wc.region (Wl.q (v := Value.func (.func 117) #[] #[Value.pointer (some ⟨c1, 0, none⟩), Value.pointer (some ⟨c2, 0, none⟩)]) (q_makeFunc (us := []) (vs := [Value.pointer (some ⟨c1, 0, none⟩), Value.pointer (some ⟨c2, 0, none⟩)]) rfl rfl) (Wl.q (v := Value.func (.func 117) #[] #[Value.pointer (some ⟨c1, 0, none⟩), Value.pointer (some ⟨c2, 0, none⟩)]) (q_assign rfl) (Wl.done (Wx.go (Wc.ret (Wx.fin1 rfl (.inl rfl) (fun w hs => ?_))))))))))))
 exact ⟨(c1, c2), trivial, rfl, (st_pull [1, 0] (hs))⟩

theorem pieces_iter (W0 : World) (l c1 c2 f : Nat) (s : ByteArray) (d0 : DS) (ls : LpS) (H : Int × DS → HP) (hsz : s.size ≤ 262144) (hf : f ≤ 4096) (hw : WF d0) (hy0 : ∀ (i : Nat) (d : DS), Kp d0 d i → i < nPieces s → (d.write ((f + i : Nat) : Int) (piece s i)).1 = 0 → ConY Tryz.prog W0 l #[.int .i64 ((f + i : Nat) : Int), .string (piece s i)] [lp ls l .ready none, H (0, d)] (X := Unit) (fun _ => True) (fun _ => .bool true) (fun _ => [lp ls l .ready none, H (0, (d.write ((f + i : Nat) : Int) (piece s i)).2)])) (hy1 : ∀ (i : Nat) (d : DS), Kp d0 d i → i < nPieces s → ¬ (d.write ((f + i : Nat) : Int) (piece s i)).1 = 0 → ConY Tryz.prog W0 l #[.int .i64 ((f + i : Nat) : Int), .string (piece s i)] [lp ls l .ready none, H (0, d)] (X := Unit) (fun _ => True) (fun _ => .bool false) (fun _ => [lp ls l .done (some .ret), H (d.write ((f + i : Nat) : Int) (piece s i))])) :
    Con Tryz.prog W0 117 #[Value.func (.yield l) #[] #[], Value.pointer (some ⟨c1, 0, none⟩), Value.pointer (some ⟨c2, 0, none⟩)] [lp ls l .ready none, pt c1 9 [Value.string s], pt c2 3 [Value.int .i64 ((f : Nat) : Int)], H (0, d0)] (X := Unit) (fun _ => True) (fun _ => .tuple #[]) (fun _ => [lp ls l (if (wall d0 (pieces s f)).1 = 0 then .ready else .done) (if (wall d0 (pieces s f)).1 = 0 then none else some .ret), H (wall d0 (pieces s f))]) := by
  refine Con.of (args := [Value.func (.yield l) #[] #[], Value.pointer (some ⟨c1, 0, none⟩), Value.pointer (some ⟨c2, 0, none⟩)]) Tryz.func117 rfl Tryz.ntmps117 rfl (fun F => ?_)
  show Wc _ W0 _ _ _ _ _ ((lp ls l .ready none) :: (pt c1 9 [Value.string s]) :: (pt c2 3 [Value.int .i64 ((f : Nat) : Int)]) :: (H (0, d0)) :: F)
  refine Wc.block ?_
  refine Wc.loop (X := Nat × DS) (fun (i, d) E => E 0 = Value.func (.yield l) #[] #[] ∧ E 1 = Value.pointer (some ⟨c1, 0, none⟩) ∧ E 2 = Value.pointer (some ⟨c2, 0, none⟩) ∧ Kp d0 d i ∧ i ≤ nPieces s ∧ (wall d0 (pieces s f)) = wall d ((pieces s f).drop i)) (fun (i, d) => (lp ls l .ready none) :: (pt c1 9 [Value.string (rest s i)]) :: (pt c2 3 [Value.int .i64 (((f + i) : Nat) : Int)]) :: (H (0, d)) :: F) (fun (i, d) => nPieces s - i) (0, d0) ?_ ?_ ?_
  · exact ⟨rfl, rfl, rfl, (Kp.refl hw), (Nat.zero_le _), (by rw [List.drop_zero])⟩
  · exact fun w hs => by have h2 : st W0 w ((lp ls l .ready none) :: (pt c1 9 [Value.string (rest s 0)]) :: (pt c2 3 [Value.int .i64 (((f + 0) : Nat) : Int)]) :: (H (0, d0)) :: F) := (by rw [rest_zero]; exact hs); exact h2
  · rintro ⟨i, d⟩ E2 ⟨hE0_0, hE1_0, hE2_0, hk, hi, hw3⟩
    dsimp only at *
    have hrs := rest_size s i
    refine Wc.seq (Wc.seq (Wc.region (Wl.q (v := Value.string (rest s i)) (q_load sc_9 hE1_0 (.cel (i := 1) rfl rfl)) ?_)))
    by_cases he : (rest s i) = (⟨#[]⟩)
    ·
      refine Wl.q (v := Value.bool false) (q_neq_str (r := true) rfl rfl (text_true he)) (Wl.done (Wx.go (Wc.no rfl (Wc.exit (Wx.thenExit (Wx.thenExit (Wx.out (Wx.fin0 rfl (.inr rfl) (fun w hs => ?_)))))))))
      have e := rest_end hi he
      have er : (wall d0 (pieces s f)) = (0, d) := by rw [hw3, e]; exact wall_done d
      exact ⟨(), trivial, rfl, by rw [er]; exact (st_drop (st_drop (st_pull [1, 1] hs)))⟩
    ·
      have hm := rest_more he
      refine Wl.q (v := Value.bool true) (q_neq_str (r := false) rfl rfl (text_false he)) (Wl.done (Wx.go (Wc.yes rfl (Wc.skip (Wx.go (Wc.seq (Wc.block (Wc.seq (Wc.region (Wl.q (v := Value.string (rest s i)) (q_load sc_9 hE1_0 (.cel (i := 1) rfl rfl)) (Wl.q (v := Value.int .i64 (((rest s i).size : Nat) : Int)) (q_len_str Tryz.underlying9 rfl) ?_)))))))))))
      refine Wl.q (v := Value.int .i64 (((min (rest s i).size 64) : Nat) : Int)) (q_min (c := (((min (rest s i).size 64) : Nat) : Int)) rfl rfl (by omega)) ?_
      by_cases hw0 : (d.write ((f + i : Nat) : Int) (piece s i)).1 = 0
      ·
        refine Wl.q (v := Value.int .i64 (((min (rest s i).size 64) : Nat) : Int)) (q_assign rfl) (Wl.done (Wx.go (Wc.seq (Wc.seq (Wc.inn ?_)))))
        refine Ri.drawsS [9] ((lp ls l .ready none) :: (pt c1 9 [Value.string (rest s i)]) :: (pt c2 3 [Value.int .i64 (((f + i) : Nat) : Int)]) :: (H (0, d)) :: []) (by kernel_rfl) ?_
        refine Rr.pure (v := Value.func (.yield l) #[] #[]) 0 rfl (by kernel_rfl) (.inr (fun _ h => st_take [0, 0, 0, 0] h)) (.inl ⟨rfl, fun _ => q_move hE0_0⟩) ?_
        refine Rr.take (v := Value.int .i64 (((f + i) : Nat) : Int)) 1 rfl (by kernel_rfl) (fun _ h => st_take [0, 0, 0, 0] h) (.inl ⟨rfl, q_load sc_3 hE2_0 (.cel (i := 2) rfl rfl)⟩) ?_
        refine Rr.take (v := Value.string (rest s i)) 2 rfl (by kernel_rfl) (fun _ h => st_take [0, 0, 0, 0] h) (.inl ⟨rfl, q_load sc_9 hE1_0 (.cel (i := 1) rfl rfl)⟩) ?_
        refine Rr.pure (v := Value.int .i64 (((min (rest s i).size 64) : Nat) : Int)) 3 rfl (by kernel_rfl) (.inr (fun _ h => st_take [0, 0, 0, 0] h)) (.inl ⟨rfl, fun _ => q_move rfl⟩) ?_
        refine Rr.pure (v := Value.string ((rest s i).extract 0 (min (rest s i).size 64))) 4 rfl (by kernel_rfl) (.inr (fun _ h => st_take [0, 0, 0, 0] h)) (.inl ⟨rfl, fun _ => q_slice_str (l := 0) (h := (min (rest s i).size 64)) Tryz.underlying9 rfl rfl ⟨_, rfl⟩ (by omega) (by omega) rfl⟩) ?_
        refine Rr.pure (v := Value.int .i64 (((min (rest s i).size 64) : Nat) : Int)) 6 rfl (by kernel_rfl) (.inr (fun _ h => st_take [0, 0, 0, 0] h)) (.inl ⟨rfl, fun _ => q_move rfl⟩) ?_
        refine Rr.e 5 (by kernel_rfl) rfl (e_call (F := (lp ls l .ready none) :: (pt c1 9 [Value.string (rest s i)]) :: (pt c2 3 [Value.int .i64 (((f + i) : Nat) : Int)]) :: (H (0, d)) :: F) (args := []) Tryz.call90 rfl (none_c W0)) (.inr fun _ _ _ h => st_take [0, 0, 0, 0] h) (fun _ _ => ?_)
        refine Rr.imp (L' := (lp ls l .ready none) :: (pt c1 9 [Value.string (rest s i)]) :: (pt c2 3 [Value.int .i64 (((f + i) : Nat) : Int)]) :: (H (0, d)) :: F) (fun _ h => h) ?_
        refine Rr.pure (v := Value.string (noughts.extract (min (rest s i).size 64) noughts.size)) 7 rfl (by kernel_rfl) (.inr (fun _ h => st_take [0, 0, 0, 0] h)) (.inl ⟨rfl, fun _ => q_slice_str (l := (min (rest s i).size 64)) (h := noughts.size) Tryz.underlying9 rfl ⟨_, rfl⟩ rfl (by rw [noughts_size]; omega) (by omega) rfl⟩) ?_
        refine Rr.pure (v := Value.string (piece s i)) 8 rfl (by kernel_rfl) (.inr (fun _ h => st_take [0, 0, 0, 0] h)) (.inl ⟨rfl, fun _ => q_cat (z := (piece s i)) rfl rfl (by rw [ByteArray.size_extract, ByteArray.size_extract, noughts_size]; omega) (by rw [noughts_size]; rfl)⟩) ?_
        refine Rr.imp (L' := (lp ls l .ready none) :: (H (0, d)) :: (pt c1 9 [Value.string (rest s i)]) :: (pt c2 3 [Value.int .i64 (((f + i) : Nat) : Int)]) :: F) (fun _ h => st_pull [0, 2] h) ?_
        refine Rr.ei 9 (by kernel_rfl) rfl (e_yield (F := (pt c1 9 [Value.string (rest s i)]) :: (pt c2 3 [Value.int .i64 (((f + i) : Nat) : Int)]) :: F) (args := [Value.int .i64 (((f + i) : Nat) : Int), Value.string (piece s i)]) (pre := [lp ls l .ready none, H (0, d)]) rfl rfl (hy0 i d hk hm.1 hw0)) (.inl (by kernel_rfl)) (fun _ _ => ?_)
        refine Rr.imp (L' := (lp ls l .ready none) :: (H (0, (d.write ((f + i : Nat) : Int) (piece s i)).2)) :: (pt c1 9 [Value.string (rest s i)]) :: (pt c2 3 [Value.int .i64 (((f + i) : Nat) : Int)]) :: F) (fun _ h => h) ?_
        refine Rr.rebaseS [] ((lp ls l .ready none) :: (H (0, (d.write ((f + i : Nat) : Int) (piece s i)).2)) :: (pt c1 9 [Value.string (rest s i)]) :: (pt c2 3 [Value.int .i64 (((f + i) : Nat) : Int)]) :: []) (by kernel_rfl) ?_
        refine Rr.pure (v := Value.bool false) 10 rfl (by kernel_rfl) (.inr (fun _ h => st_take [0, 0, 0, 0] h)) (.inl ⟨rfl, fun _ => q_not rfl rfl⟩) ?_
        refine Rr.done (by kernel_rfl) ?_
        refine Wx.go (Wc.no rfl (Wc.skip (Wx.go (Wc.region (Wl.q (v := Value.string (rest s i)) (q_load sc_9 hE1_0 (.cel (i := 2) rfl rfl)) (Wl.q (v := Value.int .i64 (((min (rest s i).size 64) : Nat) : Int)) (q_move rfl) (Wl.q (v := Value.string ((rest s i).extract (min (rest s i).size 64) ((rest s i).size))) (q_slice_str (l := (min (rest s i).size 64)) (h := (rest s i).size) Tryz.underlying9 rfl ⟨_, rfl⟩ rfl (by omega) (by omega) rfl) (Wl.e (e_store (i := 2) (v := Value.string ((rest s i).extract (min (rest s i).size 64) ((rest s i).size))) sz_9 hE1_0 rfl (fun _ _ => rfl) rfl (by simp)) (fun _ _ => Wl.imp (L' := (lp ls l .ready none) :: (H (0, (d.write ((f + i : Nat) : Int) (piece s i)).2)) :: (pt c1 9 [Value.string ((rest s i).extract (min (rest s i).size 64) ((rest s i).size))]) :: (pt c2 3 [Value.int .i64 (((f + i) : Nat) : Int)]) :: F) (fun _ h => h) (Wl.done (Wx.blockEnd ?_)))))))))))
        refine Wx.go (Wc.region (Wl.q (v := Value.int .i64 (((f + i) : Nat) : Int)) (q_load sc_3 hE2_0 (.cel (i := 3) rfl rfl)) (Wl.q (v := Value.int .i64 (((f + i) + 1 : Nat) : Int)) (q_add (c := (((f + i) + 1 : Nat) : Int)) rfl rfl (by rw [wrap_i64] <;> omega)) (Wl.e (e_store (i := 3) (v := Value.int .i64 (((f + i) + 1 : Nat) : Int)) sz_3 hE2_0 rfl (fun _ _ => rfl) rfl (by simp)) (fun _ _ => Wl.imp (L' := (lp ls l .ready none) :: (H (0, (d.write ((f + i : Nat) : Int) (piece s i)).2)) :: (pt c1 9 [Value.string ((rest s i).extract (min (rest s i).size 64) ((rest s i).size))]) :: (pt c2 3 [Value.int .i64 (((f + i) + 1 : Nat) : Int)]) :: F) (fun _ h => h) (Wl.done ?_))))))
        refine Wx.at (i + 1, (d.write ((f + i : Nat) : Int) (piece s i)).2) ⟨(by simp only; omega), hE0_0, hE1_0, hE2_0, (hk.write _ _), (by omega), (by rw [hw3, wall_at d hm.1, if_pos hw0])⟩ (fun w hs => by have h2 : st W0 w ((lp ls l .ready none) :: (pt c1 9 [Value.string (rest s (i + 1))]) :: (pt c2 3 [Value.int .i64 (((f + (i + 1)) : Nat) : Int)]) :: (H (0, (d.write ((f + i : Nat) : Int) (piece s i)).2)) :: F) := (by rw [← rest_next]; exact (st_pull [0, 1, 1, 0] (hs))); exact h2)
      ·
        refine Wl.q (v := Value.int .i64 (((min (rest s i).size 64) : Nat) : Int)) (q_assign rfl) (Wl.done (Wx.go (Wc.seq (Wc.seq (Wc.inn ?_)))))
        refine Ri.drawsS [9] ((lp ls l .ready none) :: (pt c1 9 [Value.string (rest s i)]) :: (pt c2 3 [Value.int .i64 (((f + i) : Nat) : Int)]) :: (H (0, d)) :: []) (by kernel_rfl) ?_
        refine Rr.pure (v := Value.func (.yield l) #[] #[]) 0 rfl (by kernel_rfl) (.inr (fun _ h => st_take [0, 0, 0, 0] h)) (.inl ⟨rfl, fun _ => q_move hE0_0⟩) ?_
        refine Rr.take (v := Value.int .i64 (((f + i) : Nat) : Int)) 1 rfl (by kernel_rfl) (fun _ h => st_take [0, 0, 0, 0] h) (.inl ⟨rfl, q_load sc_3 hE2_0 (.cel (i := 2) rfl rfl)⟩) ?_
        refine Rr.take (v := Value.string (rest s i)) 2 rfl (by kernel_rfl) (fun _ h => st_take [0, 0, 0, 0] h) (.inl ⟨rfl, q_load sc_9 hE1_0 (.cel (i := 1) rfl rfl)⟩) ?_
        refine Rr.pure (v := Value.int .i64 (((min (rest s i).size 64) : Nat) : Int)) 3 rfl (by kernel_rfl) (.inr (fun _ h => st_take [0, 0, 0, 0] h)) (.inl ⟨rfl, fun _ => q_move rfl⟩) ?_
        refine Rr.pure (v := Value.string ((rest s i).extract 0 (min (rest s i).size 64))) 4 rfl (by kernel_rfl) (.inr (fun _ h => st_take [0, 0, 0, 0] h)) (.inl ⟨rfl, fun _ => q_slice_str (l := 0) (h := (min (rest s i).size 64)) Tryz.underlying9 rfl rfl ⟨_, rfl⟩ (by omega) (by omega) rfl⟩) ?_
        refine Rr.pure (v := Value.int .i64 (((min (rest s i).size 64) : Nat) : Int)) 6 rfl (by kernel_rfl) (.inr (fun _ h => st_take [0, 0, 0, 0] h)) (.inl ⟨rfl, fun _ => q_move rfl⟩) ?_
        refine Rr.e 5 (by kernel_rfl) rfl (e_call (F := (lp ls l .ready none) :: (pt c1 9 [Value.string (rest s i)]) :: (pt c2 3 [Value.int .i64 (((f + i) : Nat) : Int)]) :: (H (0, d)) :: F) (args := []) Tryz.call90 rfl (none_c W0)) (.inr fun _ _ _ h => st_take [0, 0, 0, 0] h) (fun _ _ => ?_)
        refine Rr.imp (L' := (lp ls l .ready none) :: (pt c1 9 [Value.string (rest s i)]) :: (pt c2 3 [Value.int .i64 (((f + i) : Nat) : Int)]) :: (H (0, d)) :: F) (fun _ h => h) ?_
        refine Rr.pure (v := Value.string (noughts.extract (min (rest s i).size 64) noughts.size)) 7 rfl (by kernel_rfl) (.inr (fun _ h => st_take [0, 0, 0, 0] h)) (.inl ⟨rfl, fun _ => q_slice_str (l := (min (rest s i).size 64)) (h := noughts.size) Tryz.underlying9 rfl ⟨_, rfl⟩ rfl (by rw [noughts_size]; omega) (by omega) rfl⟩) ?_
        refine Rr.pure (v := Value.string (piece s i)) 8 rfl (by kernel_rfl) (.inr (fun _ h => st_take [0, 0, 0, 0] h)) (.inl ⟨rfl, fun _ => q_cat (z := (piece s i)) rfl rfl (by rw [ByteArray.size_extract, ByteArray.size_extract, noughts_size]; omega) (by rw [noughts_size]; rfl)⟩) ?_
        refine Rr.imp (L' := (lp ls l .ready none) :: (H (0, d)) :: (pt c1 9 [Value.string (rest s i)]) :: (pt c2 3 [Value.int .i64 (((f + i) : Nat) : Int)]) :: F) (fun _ h => st_pull [0, 2] h) ?_
        refine Rr.ei 9 (by kernel_rfl) rfl (e_yield (F := (pt c1 9 [Value.string (rest s i)]) :: (pt c2 3 [Value.int .i64 (((f + i) : Nat) : Int)]) :: F) (args := [Value.int .i64 (((f + i) : Nat) : Int), Value.string (piece s i)]) (pre := [lp ls l .ready none, H (0, d)]) rfl rfl (hy1 i d hk hm.1 hw0)) (.inl (by kernel_rfl)) (fun _ _ => ?_)
        refine Rr.imp (L' := (lp ls l .done (some .ret)) :: (H (d.write ((f + i : Nat) : Int) (piece s i))) :: (pt c1 9 [Value.string (rest s i)]) :: (pt c2 3 [Value.int .i64 (((f + i) : Nat) : Int)]) :: F) (fun _ h => h) ?_
        refine Rr.rebaseS [] ((lp ls l .done (some .ret)) :: (H (d.write ((f + i : Nat) : Int) (piece s i))) :: (pt c1 9 [Value.string (rest s i)]) :: (pt c2 3 [Value.int .i64 (((f + i) : Nat) : Int)]) :: []) (by kernel_rfl) ?_
        refine Rr.pure (v := Value.bool true) 10 rfl (by kernel_rfl) (.inr (fun _ h => st_take [0, 0, 0, 0] h)) (.inl ⟨rfl, fun _ => q_not rfl rfl⟩) ?_
        refine Rr.done (by kernel_rfl) ?_
        refine Wx.go (Wc.yes rfl (Wc.ret (Wx.thenRet (Wx.blockRet (Wx.thenRet (Wx.thenRet (Wx.blockRet (Wx.fin0 rfl (.inl rfl) (fun w hs => ?_)))))))))
        have er : (wall d0 (pieces s f)) = (d.write ((f + i : Nat) : Int) (piece s i)) := by rw [hw3, wall_at d hm.1, if_neg hw0]
        exact ⟨(), trivial, rfl, by rw [er, if_neg hw0, if_neg hw0]; exact (st_drop (st_drop (st_pull [2, 2] hs)))⟩

end Go.Proofs.YtkndmgfahghcjaaGreat

