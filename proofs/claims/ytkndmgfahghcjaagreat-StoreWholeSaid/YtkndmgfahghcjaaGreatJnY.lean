import Derived.Test.YtkndmgfahghcjaaGreatJnW
/- Contracts of the calls. -/
namespace Go.Proofs.YtkndmgfahghcjaaGreat
open Go Go.SL Go.Dk Go.Jn Go.RowKit
set_option linter.unusedVariables false
set_option maxRecDepth 8000
theorem zo_25 : zeroOf Tryz.prog 25 = some (Value.int .i64 0) := by kernel_rfl
theorem sc_46 : scalar Tryz.prog 46 = true := by kernel_rfl
theorem sz_25 : sizeIs Tryz.prog 25 = some 1 := by kernel_rfl
theorem sc_25 : scalar Tryz.prog 25 = true := by kernel_rfl
theorem wall_kp : ∀ (ws : List (Nat × ByteArray)) {d0 d : DS} {m : Nat}, Kp d0 d m → Kp d0 (wall d ws).2 (m + ws.length)
  | [], _, _, _, h => h
  | p :: r, d0, d, m, h => by
    rw [wall]
    split
    · have := wall_kp r (h.write p.1 p.2)
      rw [show m + (p :: r).length = m + 1 + r.length by simp only [List.length_cons]; omega]
      exact this
    · exact (h.write p.1 p.2).le (by simp only [List.length_cons]; omega)

set_option maxHeartbeats 4000000 in
theorem put_in (W0 : World) (j dp : Nat) (t : ByteArray) (q : Int) (d : DS) (s : ByteArray) (hw : WF d) (hn1 : 1 ≤ d.secs.length) (hsn : d.since.length < 1000000000000) (hct : d.count < 4000000000000000000) (hq0 : 0 ≤ q) (hq : q < 9223372036854775807) (hsz : s.size ≤ 262144) :
  Con Tryz.prog W0 85 #[Value.pointer (some ⟨j, 0, none⟩), Value.string s] [pt j 117 [Value.pointer (some ⟨dp, 0, none⟩), Value.string t, Value.int .i64 q, Value.bool false], isDisk dp d] (X := Unit) (fun _ => True) (fun _ => .int .i64 (putD d q s).1) (fun _ => [pt j 117 [Value.pointer (some ⟨dp, 0, none⟩), Value.string t, Value.int .i64 q, Value.bool false], isDisk dp (putD d q s).2]) := by
 refine Con.ofM (args := [Value.pointer (some ⟨j, 0, none⟩), Value.string s]) Tryz.func85 rfl Tryz.ntmps85 rfl (fun F => ?_)
 have hm := hw.l.len
 have hh : half d.secs ≤ 2047 := by unfold half; omega
 have hf2 : first d.secs (q + 1) ≤ 4096 := by unfold first; split <;> omega
 have hkW := (wall_kp (pieces s (first d.secs (q + 1))) (Kp.refl hw))
 rw [pieces_len, Nat.zero_add] at hkW
 have hn := pieces_le (n := 4096) (s := s) (by omega)
 have hksW := hkW.since
 have hkcW := hkW.count
 have hkS := hkW.sync
 have hksS := hkS.since
 have hkcS := hkS.count
 have hkH := hkS.write (q % 2) (headB (q + 1) (s.size : Int))
 have hksH := hkH.since
 have hkcH := hkH.count
 show Wc _ W0 _ _ _ _ _ ((pt j 117 [Value.pointer (some ⟨dp, 0, none⟩), Value.string t, Value.int .i64 q, Value.bool false]) :: (isDisk dp d) :: F)
 refine Wc.seq (Wc.region (Wl.e (e_box (x := .tmp 0) (vs := [Value.pointer (some ⟨j, 0, none⟩)]) rfl) (fun cj _ => ?_)))
 refine Wl.imp (L' := (pt cj 46 [Value.pointer (some ⟨j, 0, none⟩)]) :: (pt j 117 [Value.pointer (some ⟨dp, 0, none⟩), Value.string t, Value.int .i64 q, Value.bool false]) :: (isDisk dp d) :: F) (fun _ h => h) (Wl.e (e_alloc (vs := [Value.int .i64 0]) zo_25 rfl) (fun cr _ => ?_))
 refine Wl.imp (L' := (pt cr 25 [Value.int .i64 0]) :: (pt cj 46 [Value.pointer (some ⟨j, 0, none⟩)]) :: (pt j 117 [Value.pointer (some ⟨dp, 0, none⟩), Value.string t, Value.int .i64 q, Value.bool false]) :: (isDisk dp d) :: F) (fun _ h => h) (Wl.done (Wx.go (Wc.seq (Wc.seq (Wc.drawsS [11] ((pt cr 25 [Value.int .i64 0]) :: (pt cj 46 [Value.pointer (some ⟨j, 0, none⟩)]) :: (pt j 117 [Value.pointer (some ⟨dp, 0, none⟩), Value.string t, Value.int .i64 q, Value.bool false]) :: (isDisk dp d) :: []) (by kernel_rfl) (Wr.pure (v := Value.string s) 0 rfl (by kernel_rfl) (.inr (fun _ h => st_take [0, 0, 0, 0] h)) (.inl ⟨rfl, fun _ => q_move rfl⟩) (Wr.take (v := Value.pointer (some ⟨j, 0, none⟩)) 1 rfl (by kernel_rfl) (fun _ h => st_take [0, 0, 0, 0] h) (.inl ⟨rfl, q_load sc_46 rfl (.cel (i := 1) rfl rfl)⟩) (Wr.pure (v := Value.pointer (some ⟨j, 0, none⟩)) 2 rfl (by kernel_rfl) (.inr (fun _ h => st_take [0, 0, 0, 0] h)) (.inl ⟨rfl, fun _ => q_nil_ptr rfl⟩) (Wr.pure (v := Value.pointer (some ⟨j, 0, none⟩)) 3 rfl (by kernel_rfl) (.inr (fun _ h => st_take [0, 0, 0, 0] h)) (.inl ⟨rfl, fun _ => q_field (m := 0) fo_117_0 rfl rfl⟩) (Wr.take (v := Value.pointer (some ⟨dp, 0, none⟩)) 4 rfl (by kernel_rfl) (fun _ h => st_take [0, 0, 0, 0] h) (.inl ⟨rfl, q_load sc_33 rfl (.cel (i := 2) rfl rfl)⟩) (Wr.take (v := Value.pointer (some ⟨j, 0, none⟩)) 5 rfl (by kernel_rfl) (fun _ h => st_take [0, 0, 0, 0] h) (.inl ⟨rfl, q_load sc_46 rfl (.cel (i := 1) rfl rfl)⟩) ?_)))))))))))
 refine Wr.pure (v := Value.pointer (some ⟨j, 0, none⟩)) 6 rfl (by kernel_rfl) (.inr (fun _ h => st_take [0, 0, 0, 0] h)) (.inl ⟨rfl, fun _ => q_nil_ptr rfl⟩) (Wr.pure (v := Value.pointer (some ⟨j, 2, none⟩)) 7 rfl (by kernel_rfl) (.inr (fun _ h => st_take [0, 0, 0, 0] h)) (.inl ⟨rfl, fun _ => q_field (m := 2) fo_117_2 rfl rfl⟩) (Wr.take (v := Value.int .i64 q) 8 rfl (by kernel_rfl) (fun _ h => st_take [0, 0, 0, 0] h) (.inl ⟨rfl, q_load sc_3 rfl (.cel (i := 2) rfl rfl)⟩) (Wr.pure (v := Value.int .i64 (q + 1)) 9 rfl (by kernel_rfl) (.inr (fun _ h => st_take [0, 0, 0, 0] h)) (.inl ⟨rfl, fun _ => q_add (c := (q + 1)) rfl rfl (wrap_i64 (by omega) (by omega))⟩) (Wr.imp (L' := (isDisk dp d) :: (pt cr 25 [Value.int .i64 0]) :: (pt cj 46 [Value.pointer (some ⟨j, 0, none⟩)]) :: (pt j 117 [Value.pointer (some ⟨dp, 0, none⟩), Value.string t, Value.int .i64 q, Value.bool false]) :: F) (fun _ h => st_pull [3] h) (Wr.e 10 (by kernel_rfl) rfl (e_call (F := (pt cr 25 [Value.int .i64 0]) :: (pt cj 46 [Value.pointer (some ⟨j, 0, none⟩)]) :: (pt j 117 [Value.pointer (some ⟨dp, 0, none⟩), Value.string t, Value.int .i64 q, Value.bool false]) :: F) (args := [Value.pointer (some ⟨dp, 0, none⟩), Value.int .i64 (q + 1)]) Tryz.call92 rfl (first_c W0 dp d (q + 1) (by omega) hn1 hm)) (.inr fun _ _ _ h => st_take [1, 1, 1, 0] h) (fun _ _ => Wr.imp (L' := (isDisk dp d) :: (pt cr 25 [Value.int .i64 0]) :: (pt cj 46 [Value.pointer (some ⟨j, 0, none⟩)]) :: (pt j 117 [Value.pointer (some ⟨dp, 0, none⟩), Value.string t, Value.int .i64 q, Value.bool false]) :: F) (fun _ h => h) (Wr.e 11 (by kernel_rfl) rfl (e_call (F := (isDisk dp d) :: (pt cr 25 [Value.int .i64 0]) :: (pt cj 46 [Value.pointer (some ⟨j, 0, none⟩)]) :: (pt j 117 [Value.pointer (some ⟨dp, 0, none⟩), Value.string t, Value.int .i64 q, Value.bool false]) :: F) (args := [Value.string s, Value.int .i64 ((first d.secs (q + 1) : Nat) : Int)]) Tryz.call99 rfl (pieces_c W0 s ((first d.secs (q + 1) : Nat) : Int))) (.inl (by kernel_rfl)) (fun ⟨c1, c2⟩ _ => Wr.imp (L' := (pt c1 9 [Value.string s]) :: (pt c2 3 [Value.int .i64 ((first d.secs (q + 1) : Nat) : Int)]) :: (isDisk dp d) :: (pt cr 25 [Value.int .i64 0]) :: (pt cj 46 [Value.pointer (some ⟨j, 0, none⟩)]) :: (pt j 117 [Value.pointer (some ⟨dp, 0, none⟩), Value.string t, Value.int .i64 q, Value.bool false]) :: F) (fun _ h => h) (Wr.rebaseS [] ((pt c1 9 [Value.string s]) :: (pt c2 3 [Value.int .i64 ((first d.secs (q + 1) : Nat) : Int)]) :: (isDisk dp d) :: (pt cr 25 [Value.int .i64 0]) :: (pt cj 46 [Value.pointer (some ⟨j, 0, none⟩)]) :: (pt j 117 [Value.pointer (some ⟨dp, 0, none⟩), Value.string t, Value.int .i64 q, Value.bool false]) :: []) (by kernel_rfl) (Wr.done (by kernel_rfl) (Wx.go ?_)))))))))))
 refine Wc.block (Wc.imp (L' := (pt c1 9 [Value.string s]) :: (pt c2 3 [Value.int .i64 ((first d.secs (q + 1) : Nat) : Int)]) :: (fun r : Int × DS => grp [pt cj 46 [Value.pointer (some ⟨j, 0, none⟩)], pt cr 25 [Value.int .i64 r.1], pt j 117 [Value.pointer (some ⟨dp, 0, none⟩), Value.string t, Value.int .i64 q, Value.bool false], isDisk dp r.2]) (0, d) :: F) (fun w hs => st_pull [1, 1] ((st_grp (M := [pt cj 46 [Value.pointer (some ⟨j, 0, none⟩)], pt cr 25 [Value.int .i64 0], pt j 117 [Value.pointer (some ⟨dp, 0, none⟩), Value.string t, Value.int .i64 q, Value.bool false], isDisk dp d])).2 (st_pull [4, 3, 3, 2, 0, 0] (hs)))) ?_)
 refine Wc.rangeFunc (lb := [Value.pointer (some ⟨c1, 0, none⟩), Value.pointer (some ⟨c2, 0, none⟩)]) (pre := [pt c1 9 [Value.string s], pt c2 3 [Value.int .i64 ((first d.secs (q + 1) : Nat) : Int)], (fun r : Int × DS => grp [pt cj 46 [Value.pointer (some ⟨j, 0, none⟩)], pt cr 25 [Value.int .i64 r.1], pt j 117 [Value.pointer (some ⟨dp, 0, none⟩), Value.string t, Value.int .i64 q, Value.bool false], isDisk dp r.2]) (0, d)]) (F := F) (X := Unit) (φ := fun _ => True) (val := fun _ => .tuple #[]) (z := fun _ => if (wall d (pieces s (first d.secs (q + 1)))).1 = 0 then .ready else .done) (pe := fun _ => if (wall d (pieces s (first d.secs (q + 1)))).1 = 0 then none else some .ret) (post := fun _ => [(fun r : Int × DS => grp [pt cj 46 [Value.pointer (some ⟨j, 0, none⟩)], pt cr 25 [Value.int .i64 r.1], pt j 117 [Value.pointer (some ⟨dp, 0, none⟩), Value.string t, Value.int .i64 q, Value.bool false], isDisk dp r.2]) (wall d (pieces s (first d.secs (q + 1))))]) rfl Tryz.call117 (fun _ => by split <;> (intro h; cases h)) ?_ ?_ ?_
 ·
  intro l
  refine pieces_iter W0 l c1 c2 (first d.secs (q + 1)) s d _ (fun r : Int × DS => grp [pt cj 46 [Value.pointer (some ⟨j, 0, none⟩)], pt cr 25 [Value.int .i64 r.1], pt j 117 [Value.pointer (some ⟨dp, 0, none⟩), Value.string t, Value.int .i64 q, Value.bool false], isDisk dp r.2]) (by omega) (by omega) hw ?_ ?_
  ·
   intro i d2 hk hi h0
   have hks := hk.since
   have hkc := hk.count
   refine ConY.of (args := [Value.int .i64 (((first d.secs (q + 1) + i) : Nat) : Int), Value.string (piece s i)]) (pre := [grp [pt cj 46 [Value.pointer (some ⟨j, 0, none⟩)], pt cr 25 [Value.int .i64 0], pt j 117 [Value.pointer (some ⟨dp, 0, none⟩), Value.string t, Value.int .i64 q, Value.bool false], isDisk dp d2]]) rfl (by kernel_rfl) (fun F2 => ?_)
   refine Ri.imp (L' := (lp _ l .ready none) :: (pt cj 46 [Value.pointer (some ⟨j, 0, none⟩)]) :: (pt cr 25 [Value.int .i64 0]) :: (pt j 117 [Value.pointer (some ⟨dp, 0, none⟩), Value.string t, Value.int .i64 q, Value.bool false]) :: (isDisk dp d2) :: F2) (fun _ h => st_pull [4] (st_grp.1 (st_pull [1] h))) ?_
   refine Ri.seq ?_
   refine Ri.region ?_
   refine Rl.q (v := Value.int .i64 (((first d.secs (q + 1) + i) : Nat) : Int)) (q_assign rfl) ?_
   refine Rl.done ?_
   refine Wx.goI ?_
   refine Ri.region ?_
   refine Rl.q (v := Value.string (piece s i)) (q_assign rfl) ?_
   refine Rl.done ?_
   refine Wx.begin ?_
   refine Ri.block ?_
   refine Ri.seq ?_
   refine Ri.region ?_
   refine Rl.q (v := Value.pointer (some ⟨j, 0, none⟩)) (q_load sc_46 rfl (.cel (i := 1) rfl rfl)) ?_
   refine Rl.q (v := Value.pointer (some ⟨j, 0, none⟩)) (q_nil_ptr rfl) ?_
   refine Rl.q (v := Value.pointer (some ⟨j, 0, none⟩)) (q_field (m := 0) fo_117_0 rfl rfl) ?_
   refine Rl.q (v := Value.pointer (some ⟨dp, 0, none⟩)) (q_load sc_33 rfl (.cel (i := 3) rfl rfl)) ?_
   refine Rl.q (v := Value.int .i64 (((first d.secs (q + 1) + i) : Nat) : Int)) (q_move rfl) ?_
   refine Rl.q (v := Value.string (piece s i)) (q_move rfl) ?_
   refine Rl.imp (L' := (isDisk dp d2) :: (lp _ l .busy none) :: (pt cj 46 [Value.pointer (some ⟨j, 0, none⟩)]) :: (pt cr 25 [Value.int .i64 0]) :: (pt j 117 [Value.pointer (some ⟨dp, 0, none⟩), Value.string t, Value.int .i64 q, Value.bool false]) :: F2) (fun _ h => st_pull [4] h) ?_
   refine Rl.e (e_call (F := (lp _ l .busy none) :: (pt cj 46 [Value.pointer (some ⟨j, 0, none⟩)]) :: (pt cr 25 [Value.int .i64 0]) :: (pt j 117 [Value.pointer (some ⟨dp, 0, none⟩), Value.string t, Value.int .i64 q, Value.bool false]) :: F2) (args := [Value.pointer (some ⟨dp, 0, none⟩), Value.int .i64 (((first d.secs (q + 1) + i) : Nat) : Int), Value.string (piece s i)]) Tryz.call100 rfl (Con.eqs (val' := fun _ => Value.int .i64 0) (post' := fun _ => [isDisk dp ((d2.write (((first d.secs (q + 1) + i) : Nat) : Int) (piece s i)).2)]) (write_c W0 dp d2 (((first d.secs (q + 1) + i) : Nat) : Int) (piece s i) hk.wf (by omega) (by omega)) (fun _ => (by rw [h0])) (fun _ => rfl))) (fun _ _ => ?_)
   refine Rl.imp (L' := (isDisk dp ((d2.write (((first d.secs (q + 1) + i) : Nat) : Int) (piece s i)).2)) :: (lp _ l .busy none) :: (pt cj 46 [Value.pointer (some ⟨j, 0, none⟩)]) :: (pt cr 25 [Value.int .i64 0]) :: (pt j 117 [Value.pointer (some ⟨dp, 0, none⟩), Value.string t, Value.int .i64 q, Value.bool false]) :: F2) (fun _ h => h) ?_
   refine Rl.q (v := Value.int .i64 0) (q_assign rfl) ?_
   refine Rl.done ?_
   refine Wx.goI ?_
   refine Ri.seq ?_
   refine Ri.region ?_
   refine Rl.q (v := Value.int .i64 0) (q_move rfl) ?_
   refine Rl.q (v := Value.bool false) (q_neq (r := true) rfl rfl (decide_eq_true (by decide))) ?_
   refine Rl.done ?_
   refine Wx.goI ?_
   refine Ri.no rfl ?_
   refine Ri.skip ?_
   refine Wx.blockEnd ?_
   exact Wx.roundEnd () trivial rfl rfl (fun w hs => st_pull [1] ((st_grp (M := [pt cj 46 [Value.pointer (some ⟨j, 0, none⟩)], pt cr 25 [Value.int .i64 0], pt j 117 [Value.pointer (some ⟨dp, 0, none⟩), Value.string t, Value.int .i64 q, Value.bool false], isDisk dp ((d2.write ((first d.secs (q + 1) + i : Nat) : Int) (piece s i)).2)])).2 (st_pull [2, 2, 2, 0, 0] (hs))))
  ·
   intro i d2 hk hi h0
   have hks := hk.since
   have hkc := hk.count
   refine ConY.of (args := [Value.int .i64 (((first d.secs (q + 1) + i) : Nat) : Int), Value.string (piece s i)]) (pre := [grp [pt cj 46 [Value.pointer (some ⟨j, 0, none⟩)], pt cr 25 [Value.int .i64 0], pt j 117 [Value.pointer (some ⟨dp, 0, none⟩), Value.string t, Value.int .i64 q, Value.bool false], isDisk dp d2]]) rfl (by kernel_rfl) (fun F2 => ?_)
   refine Ri.imp (L' := (lp _ l .ready none) :: (pt cj 46 [Value.pointer (some ⟨j, 0, none⟩)]) :: (pt cr 25 [Value.int .i64 0]) :: (pt j 117 [Value.pointer (some ⟨dp, 0, none⟩), Value.string t, Value.int .i64 q, Value.bool false]) :: (isDisk dp d2) :: F2) (fun _ h => st_pull [4] (st_grp.1 (st_pull [1] h))) ?_
   refine Ri.seq ?_
   refine Ri.region ?_
   refine Rl.q (v := Value.int .i64 (((first d.secs (q + 1) + i) : Nat) : Int)) (q_assign rfl) ?_
   refine Rl.done ?_
   refine Wx.goI ?_
   refine Ri.region ?_
   refine Rl.q (v := Value.string (piece s i)) (q_assign rfl) ?_
   refine Rl.done ?_
   refine Wx.begin ?_
   refine Ri.block ?_
   refine Ri.seq ?_
   refine Ri.region ?_
   refine Rl.q (v := Value.pointer (some ⟨j, 0, none⟩)) (q_load sc_46 rfl (.cel (i := 1) rfl rfl)) ?_
   refine Rl.q (v := Value.pointer (some ⟨j, 0, none⟩)) (q_nil_ptr rfl) ?_
   refine Rl.q (v := Value.pointer (some ⟨j, 0, none⟩)) (q_field (m := 0) fo_117_0 rfl rfl) ?_
   refine Rl.q (v := Value.pointer (some ⟨dp, 0, none⟩)) (q_load sc_33 rfl (.cel (i := 3) rfl rfl)) ?_
   refine Rl.q (v := Value.int .i64 (((first d.secs (q + 1) + i) : Nat) : Int)) (q_move rfl) ?_
   refine Rl.q (v := Value.string (piece s i)) (q_move rfl) ?_
   refine Rl.imp (L' := (isDisk dp d2) :: (lp _ l .busy none) :: (pt cj 46 [Value.pointer (some ⟨j, 0, none⟩)]) :: (pt cr 25 [Value.int .i64 0]) :: (pt j 117 [Value.pointer (some ⟨dp, 0, none⟩), Value.string t, Value.int .i64 q, Value.bool false]) :: F2) (fun _ h => st_pull [4] h) ?_
   refine Rl.e (e_call (F := (lp _ l .busy none) :: (pt cj 46 [Value.pointer (some ⟨j, 0, none⟩)]) :: (pt cr 25 [Value.int .i64 0]) :: (pt j 117 [Value.pointer (some ⟨dp, 0, none⟩), Value.string t, Value.int .i64 q, Value.bool false]) :: F2) (args := [Value.pointer (some ⟨dp, 0, none⟩), Value.int .i64 (((first d.secs (q + 1) + i) : Nat) : Int), Value.string (piece s i)]) Tryz.call100 rfl (write_c W0 dp d2 (((first d.secs (q + 1) + i) : Nat) : Int) (piece s i) hk.wf (by omega) (by omega))) (fun _ _ => ?_)
   refine Rl.imp (L' := (isDisk dp ((d2.write (((first d.secs (q + 1) + i) : Nat) : Int) (piece s i)).2)) :: (lp _ l .busy none) :: (pt cj 46 [Value.pointer (some ⟨j, 0, none⟩)]) :: (pt cr 25 [Value.int .i64 0]) :: (pt j 117 [Value.pointer (some ⟨dp, 0, none⟩), Value.string t, Value.int .i64 q, Value.bool false]) :: F2) (fun _ h => h) ?_
   refine Rl.q (v := Value.int .i64 ((d2.write (((first d.secs (q + 1) + i) : Nat) : Int) (piece s i)).1)) (q_assign rfl) ?_
   refine Rl.done ?_
   refine Wx.goI ?_
   refine Ri.seq ?_
   refine Ri.region ?_
   refine Rl.q (v := Value.int .i64 ((d2.write (((first d.secs (q + 1) + i) : Nat) : Int) (piece s i)).1)) (q_move rfl) ?_
   refine Rl.q (v := Value.bool true) (q_neq (r := false) rfl rfl (decide_eq_false (h0))) ?_
   refine Rl.done ?_
   refine Wx.goI ?_
   refine Ri.yes rfl ?_
   refine Ri.seq ?_
   refine Ri.region ?_
   refine Rl.q (v := Value.int .i64 ((d2.write (((first d.secs (q + 1) + i) : Nat) : Int) (piece s i)).1)) (q_move rfl) ?_
   refine Rl.e (e_store (i := 3) (v := Value.int .i64 ((d2.write (((first d.secs (q + 1) + i) : Nat) : Int) (piece s i)).1)) sz_25 rfl rfl (fun _ _ => rfl) rfl (by simp)) (fun _ _ => ?_)
   refine Rl.imp (L' := (isDisk dp ((d2.write (((first d.secs (q + 1) + i) : Nat) : Int) (piece s i)).2)) :: (lp _ l .busy none) :: (pt cj 46 [Value.pointer (some ⟨j, 0, none⟩)]) :: (pt cr 25 [Value.int .i64 ((d2.write (((first d.secs (q + 1) + i) : Nat) : Int) (piece s i)).1)]) :: (pt j 117 [Value.pointer (some ⟨dp, 0, none⟩), Value.string t, Value.int .i64 q, Value.bool false]) :: F2) (fun _ h => h) ?_
   refine Rl.done ?_
   refine Wx.goI ?_
   refine Ri.ret ?_
   refine Wx.blockRet ?_
   exact Wx.roundRet () trivial rfl rfl (fun w hs => st_pull [1] ((st_grp (M := [pt cj 46 [Value.pointer (some ⟨j, 0, none⟩)], pt cr 25 [Value.int .i64 ((d2.write ((first d.secs (q + 1) + i : Nat) : Int) (piece s i)).1)], pt j 117 [Value.pointer (some ⟨dp, 0, none⟩), Value.string t, Value.int .i64 q, Value.bool false], isDisk dp ((d2.write ((first d.secs (q + 1) + i : Nat) : Int) (piece s i)).2)])).2 (st_pull [2, 2, 2, 0, 0] (hs))))
 ·
  intro b _ _ hpe
  have hpe : (if (wall d (pieces s (first d.secs (q + 1)))).1 = 0 then none else some Code.ret) = none := hpe
  have h0 : (wall d (pieces s (first d.secs (q + 1)))).1 = 0 := by by_cases h : (wall d (pieces s (first d.secs (q + 1)))).1 = 0; exact h; rw [if_neg h] at hpe; cases hpe
  refine Wx.imp (L' := (dfr b) :: (pt cj 46 [Value.pointer (some ⟨j, 0, none⟩)]) :: (pt cr 25 [Value.int .i64 0]) :: (pt j 117 [Value.pointer (some ⟨dp, 0, none⟩), Value.string t, Value.int .i64 q, Value.bool false]) :: (isDisk dp ((wall d (pieces s (first d.secs (q + 1)))).2)) :: F) (fun _ h => by have h2 := st_pull [4] ((st_grp (M := [pt cj 46 [Value.pointer (some ⟨j, 0, none⟩)], pt cr 25 [Value.int .i64 ((wall d (pieces s (first d.secs (q + 1)))).1)], pt j 117 [Value.pointer (some ⟨dp, 0, none⟩), Value.string t, Value.int .i64 q, Value.bool false], isDisk dp ((wall d (pieces s (first d.secs (q + 1)))).2)])).1 (st_pull [1] h)); rw [h0] at h2; exact h2) (Wx.blockEnd (Wx.go (Wc.seq (Wc.seq (Wc.region (Wl.q (v := Value.pointer (some ⟨j, 0, none⟩)) (q_load sc_46 rfl (.cel (i := 1) rfl rfl)) (Wl.q (v := Value.pointer (some ⟨j, 0, none⟩)) (q_nil_ptr rfl) (Wl.q (v := Value.pointer (some ⟨j, 0, none⟩)) (q_field (m := 0) fo_117_0 rfl rfl) (Wl.q (v := Value.pointer (some ⟨dp, 0, none⟩)) (q_load sc_33 rfl (.cel (i := 3) rfl rfl)) (Wl.imp (L' := (isDisk dp ((wall d (pieces s (first d.secs (q + 1)))).2)) :: (dfr b) :: (pt cj 46 [Value.pointer (some ⟨j, 0, none⟩)]) :: (pt cr 25 [Value.int .i64 0]) :: (pt j 117 [Value.pointer (some ⟨dp, 0, none⟩), Value.string t, Value.int .i64 q, Value.bool false]) :: F) (fun _ h => st_pull [4] h) (Wl.e (e_call (F := (dfr b) :: (pt cj 46 [Value.pointer (some ⟨j, 0, none⟩)]) :: (pt cr 25 [Value.int .i64 0]) :: (pt j 117 [Value.pointer (some ⟨dp, 0, none⟩), Value.string t, Value.int .i64 q, Value.bool false]) :: F) (args := [Value.pointer (some ⟨dp, 0, none⟩)]) Tryz.call101 rfl (sync_c W0 dp ((wall d (pieces s (first d.secs (q + 1)))).2)  hkW.wf (by omega) (by omega))) (fun _ _ => ?_))))))))))))
  refine Wl.imp (L' := (isDisk dp ((((wall d (pieces s (first d.secs (q + 1)))).2).sync).2)) :: (dfr b) :: (pt cj 46 [Value.pointer (some ⟨j, 0, none⟩)]) :: (pt cr 25 [Value.int .i64 0]) :: (pt j 117 [Value.pointer (some ⟨dp, 0, none⟩), Value.string t, Value.int .i64 q, Value.bool false]) :: F) (fun _ h => h) (Wl.q (v := Value.int .i64 ((((wall d (pieces s (first d.secs (q + 1)))).2).sync).1)) (q_assign rfl) (Wl.done (Wx.go (Wc.seq (Wc.region (Wl.q (v := Value.int .i64 ((((wall d (pieces s (first d.secs (q + 1)))).2).sync).1)) (q_move rfl) ?_))))))
  by_cases hs0 : (((wall d (pieces s (first d.secs (q + 1)))).2).sync).1 = 0
  ·
   refine Wl.q (v := Value.bool false) (q_neq (r := true) rfl rfl (decide_eq_true hs0)) (Wl.done (Wx.go (Wc.no rfl (Wc.skip (Wx.go (Wc.seq (Wc.seq (Wc.drawsS [17] ((isDisk dp ((((wall d (pieces s (first d.secs (q + 1)))).2).sync).2)) :: (dfr b) :: (pt cj 46 [Value.pointer (some ⟨j, 0, none⟩)]) :: (pt cr 25 [Value.int .i64 0]) :: (pt j 117 [Value.pointer (some ⟨dp, 0, none⟩), Value.string t, Value.int .i64 q, Value.bool false]) :: []) (by kernel_rfl) (Wr.take (v := Value.pointer (some ⟨j, 0, none⟩)) 0 rfl (by kernel_rfl) (fun _ h => st_take [0, 0, 0, 0, 0] h) (.inl ⟨rfl, q_load sc_46 rfl (.cel (i := 2) rfl rfl)⟩) (Wr.pure (v := Value.pointer (some ⟨j, 0, none⟩)) 1 rfl (by kernel_rfl) (.inr (fun _ h => st_take [0, 0, 0, 0, 0] h)) (.inl ⟨rfl, fun _ => q_nil_ptr rfl⟩) (Wr.pure (v := Value.pointer (some ⟨j, 0, none⟩)) 2 rfl (by kernel_rfl) (.inr (fun _ h => st_take [0, 0, 0, 0, 0] h)) (.inl ⟨rfl, fun _ => q_field (m := 0) fo_117_0 rfl rfl⟩) ?_)))))))))))
   refine Wr.take (v := Value.pointer (some ⟨dp, 0, none⟩)) 3 rfl (by kernel_rfl) (fun _ h => st_take [0, 0, 0, 0, 0] h) (.inl ⟨rfl, q_load sc_33 rfl (.cel (i := 4) rfl rfl)⟩) (Wr.take (v := Value.pointer (some ⟨j, 0, none⟩)) 4 rfl (by kernel_rfl) (fun _ h => st_take [0, 0, 0, 0, 0] h) (.inl ⟨rfl, q_load sc_46 rfl (.cel (i := 2) rfl rfl)⟩) (Wr.pure (v := Value.pointer (some ⟨j, 0, none⟩)) 5 rfl (by kernel_rfl) (.inr (fun _ h => st_take [0, 0, 0, 0, 0] h)) (.inl ⟨rfl, fun _ => q_nil_ptr rfl⟩) (Wr.pure (v := Value.pointer (some ⟨j, 2, none⟩)) 6 rfl (by kernel_rfl) (.inr (fun _ h => st_take [0, 0, 0, 0, 0] h)) (.inl ⟨rfl, fun _ => q_field (m := 2) fo_117_2 rfl rfl⟩) (Wr.take (v := Value.int .i64 q) 7 rfl (by kernel_rfl) (fun _ h => st_take [0, 0, 0, 0, 0] h) (.inl ⟨rfl, q_load sc_3 rfl (.cel (i := 4) rfl rfl)⟩) (Wr.pure (v := Value.int .i64 (q % 2)) 8 rfl (by kernel_rfl) (.inr (fun _ h => st_take [0, 0, 0, 0, 0] h)) (.inl ⟨rfl, fun _ => q_rem (c := (q % 2)) rfl rfl (by decide) (tmod2_eq hq0)⟩) (Wr.take (v := Value.pointer (some ⟨j, 0, none⟩)) 9 rfl (by kernel_rfl) (fun _ h => st_take [0, 0, 0, 0, 0] h) (.inl ⟨rfl, q_load sc_46 rfl (.cel (i := 2) rfl rfl)⟩) (Wr.pure (v := Value.pointer (some ⟨j, 0, none⟩)) 10 rfl (by kernel_rfl) (.inr (fun _ h => st_take [0, 0, 0, 0, 0] h)) (.inl ⟨rfl, fun _ => q_nil_ptr rfl⟩) (Wr.pure (v := Value.pointer (some ⟨j, 2, none⟩)) 11 rfl (by kernel_rfl) (.inr (fun _ h => st_take [0, 0, 0, 0, 0] h)) (.inl ⟨rfl, fun _ => q_field (m := 2) fo_117_2 rfl rfl⟩) (Wr.take (v := Value.int .i64 q) 12 rfl (by kernel_rfl) (fun _ h => st_take [0, 0, 0, 0, 0] h) (.inl ⟨rfl, q_load sc_3 rfl (.cel (i := 4) rfl rfl)⟩) (Wr.pure (v := Value.int .i64 (q + 1)) 13 rfl (by kernel_rfl) (.inr (fun _ h => st_take [0, 0, 0, 0, 0] h)) (.inl ⟨rfl, fun _ => q_add (c := (q + 1)) rfl rfl (wrap_i64 (by omega) (by omega))⟩) (Wr.pure (v := Value.string s) 14 rfl (by kernel_rfl) (.inr (fun _ h => st_take [0, 0, 0, 0, 0] h)) (.inl ⟨rfl, fun _ => q_move rfl⟩) ?_)))))))))))
   refine Wr.take (v := Value.int .i64 ((s.size : Nat) : Int)) 15 rfl (by kernel_rfl) (fun _ h => st_take [0, 0, 0, 0, 0] h) (.inl ⟨rfl, q_len_str Tryz.underlying9 rfl⟩) (Wr.e 16 (by kernel_rfl) rfl (e_call (F := (isDisk dp ((((wall d (pieces s (first d.secs (q + 1)))).2).sync).2)) :: (dfr b) :: (pt cj 46 [Value.pointer (some ⟨j, 0, none⟩)]) :: (pt cr 25 [Value.int .i64 0]) :: (pt j 117 [Value.pointer (some ⟨dp, 0, none⟩), Value.string t, Value.int .i64 q, Value.bool false]) :: F) (args := [Value.int .i64 (q + 1), Value.int .i64 ((s.size : Nat) : Int)]) Tryz.call91 rfl (head_c W0 (q + 1) ((s.size : Nat) : Int))) (.inr fun _ _ _ h => st_take [0, 0, 0, 0, 0] h) (fun _ _ => Wr.imp (L' := (isDisk dp ((((wall d (pieces s (first d.secs (q + 1)))).2).sync).2)) :: (dfr b) :: (pt cj 46 [Value.pointer (some ⟨j, 0, none⟩)]) :: (pt cr 25 [Value.int .i64 0]) :: (pt j 117 [Value.pointer (some ⟨dp, 0, none⟩), Value.string t, Value.int .i64 q, Value.bool false]) :: F) (fun _ h => h) (Wr.e 17 (by kernel_rfl) rfl (e_call (F := (dfr b) :: (pt cj 46 [Value.pointer (some ⟨j, 0, none⟩)]) :: (pt cr 25 [Value.int .i64 0]) :: (pt j 117 [Value.pointer (some ⟨dp, 0, none⟩), Value.string t, Value.int .i64 q, Value.bool false]) :: F) (args := [Value.pointer (some ⟨dp, 0, none⟩), Value.int .i64 (q % 2), Value.string (headB (q + 1) ((s.size : Nat) : Int))]) Tryz.call100 rfl (write_c W0 dp ((((wall d (pieces s (first d.secs (q + 1)))).2).sync).2) (q % 2) (headB (q + 1) ((s.size : Nat) : Int)) hkS.wf (by omega) (by omega))) (.inl (by kernel_rfl)) (fun _ _ => Wr.imp (L' := (isDisk dp ((((((wall d (pieces s (first d.secs (q + 1)))).2).sync).2).write (q % 2) (headB (q + 1) ((s.size : Nat) : Int))).2)) :: (dfr b) :: (pt cj 46 [Value.pointer (some ⟨j, 0, none⟩)]) :: (pt cr 25 [Value.int .i64 0]) :: (pt j 117 [Value.pointer (some ⟨dp, 0, none⟩), Value.string t, Value.int .i64 q, Value.bool false]) :: F) (fun _ h => h) (Wr.rebaseS [] ((isDisk dp ((((((wall d (pieces s (first d.secs (q + 1)))).2).sync).2).write (q % 2) (headB (q + 1) ((s.size : Nat) : Int))).2)) :: (dfr b) :: (pt cj 46 [Value.pointer (some ⟨j, 0, none⟩)]) :: (pt cr 25 [Value.int .i64 0]) :: (pt j 117 [Value.pointer (some ⟨dp, 0, none⟩), Value.string t, Value.int .i64 q, Value.bool false]) :: []) (by kernel_rfl) (Wr.pure (v := Value.int .i64 ((((((wall d (pieces s (first d.secs (q + 1)))).2).sync).2).write (q % 2) (headB (q + 1) ((s.size : Nat) : Int))).1)) 18 rfl (by kernel_rfl) (.inr (fun _ h => st_take [0, 0, 0, 0, 0] h)) (.inl ⟨rfl, fun _ => q_assign rfl⟩) (Wr.done (by kernel_rfl) (Wx.go (Wc.seq (Wc.region (Wl.q (v := Value.int .i64 ((((((wall d (pieces s (first d.secs (q + 1)))).2).sync).2).write (q % 2) (headB (q + 1) ((s.size : Nat) : Int))).1)) (q_move rfl) ?_)))))))))))
   by_cases hw0 : (((((wall d (pieces s (first d.secs (q + 1)))).2).sync).2).write (q % 2) (headB (q + 1) ((s.size : Nat) : Int))).1 = 0
   ·
    refine Wl.q (v := Value.bool false) (q_neq (r := true) rfl rfl (decide_eq_true hw0)) (Wl.done (Wx.go (Wc.no rfl (Wc.skip (Wx.go (Wc.seq (Wc.region (Wl.q (v := Value.pointer (some ⟨j, 0, none⟩)) (q_load sc_46 rfl (.cel (i := 2) rfl rfl)) (Wl.q (v := Value.pointer (some ⟨j, 0, none⟩)) (q_nil_ptr rfl) (Wl.q (v := Value.pointer (some ⟨j, 0, none⟩)) (q_field (m := 0) fo_117_0 rfl rfl) (Wl.q (v := Value.pointer (some ⟨dp, 0, none⟩)) (q_load sc_33 rfl (.cel (i := 4) rfl rfl)) ?_)))))))))))
    refine Wl.e (e_call (F := (dfr b) :: (pt cj 46 [Value.pointer (some ⟨j, 0, none⟩)]) :: (pt cr 25 [Value.int .i64 0]) :: (pt j 117 [Value.pointer (some ⟨dp, 0, none⟩), Value.string t, Value.int .i64 q, Value.bool false]) :: F) (args := [Value.pointer (some ⟨dp, 0, none⟩)]) Tryz.call101 rfl (sync_c W0 dp ((((((wall d (pieces s (first d.secs (q + 1)))).2).sync).2).write (q % 2) (headB (q + 1) ((s.size : Nat) : Int))).2)  hkH.wf (by omega) (by omega))) (fun _ _ => Wl.imp (L' := (isDisk dp ((((((((wall d (pieces s (first d.secs (q + 1)))).2).sync).2).write (q % 2) (headB (q + 1) ((s.size : Nat) : Int))).2).sync).2)) :: (dfr b) :: (pt cj 46 [Value.pointer (some ⟨j, 0, none⟩)]) :: (pt cr 25 [Value.int .i64 0]) :: (pt j 117 [Value.pointer (some ⟨dp, 0, none⟩), Value.string t, Value.int .i64 q, Value.bool false]) :: F) (fun _ h => h) (Wl.e (e_store (i := 3) (v := Value.int .i64 ((((((((wall d (pieces s (first d.secs (q + 1)))).2).sync).2).write (q % 2) (headB (q + 1) ((s.size : Nat) : Int))).2).sync).1)) sz_25 rfl rfl (fun _ _ => rfl) rfl (by simp)) (fun _ _ => Wl.imp (L' := (isDisk dp ((((((((wall d (pieces s (first d.secs (q + 1)))).2).sync).2).write (q % 2) (headB (q + 1) ((s.size : Nat) : Int))).2).sync).2)) :: (dfr b) :: (pt cj 46 [Value.pointer (some ⟨j, 0, none⟩)]) :: (pt cr 25 [Value.int .i64 ((((((((wall d (pieces s (first d.secs (q + 1)))).2).sync).2).write (q % 2) (headB (q + 1) ((s.size : Nat) : Int))).2).sync).1)]) :: (pt j 117 [Value.pointer (some ⟨dp, 0, none⟩), Value.string t, Value.int .i64 q, Value.bool false]) :: F) (fun _ h => h) (Wl.done (Wx.go (Wc.ret (Wx.imp (L' := (dfr b) :: (isDisk dp ((((((((wall d (pieces s (first d.secs (q + 1)))).2).sync).2).write (q % 2) (headB (q + 1) ((s.size : Nat) : Int))).2).sync).2)) :: (pt cj 46 [Value.pointer (some ⟨j, 0, none⟩)]) :: (pt cr 25 [Value.int .i64 ((((((((wall d (pieces s (first d.secs (q + 1)))).2).sync).2).write (q % 2) (headB (q + 1) ((s.size : Nat) : Int))).2).sync).1)]) :: (pt j 117 [Value.pointer (some ⟨dp, 0, none⟩), Value.string t, Value.int .i64 q, Value.bool false]) :: F) (fun _ h => st_pull [1] h) (Wx.finM1 rfl (.inl rfl) sc_25 rfl (.cel (i := 2) rfl rfl) (fun w hs => ?_)))))))))
    have e : putD d q s = (((wall d (pieces s (first d.secs (q + 1)))).2).sync.2.write (q % 2) (headB (q + 1) (s.size : Int))).2.sync := (if_pos h0).trans ((if_pos hs0).trans (if_pos hw0))
    exact ⟨(), trivial, (by first | (rw [e]; done) | (rw [e]; rfl)), by rw [e]; exact (st_pull [1, 0] (st_drop (st_drop (st_pull [1, 1] hs))))⟩
   ·
    refine Wl.q (v := Value.bool true) (q_neq (r := false) rfl rfl (decide_eq_false hw0)) (Wl.done (Wx.go (Wc.yes rfl (Wc.seq (Wc.region (Wl.q (v := Value.int .i64 ((((((wall d (pieces s (first d.secs (q + 1)))).2).sync).2).write (q % 2) (headB (q + 1) ((s.size : Nat) : Int))).1)) (q_move rfl) (Wl.e (e_store (i := 3) (v := Value.int .i64 ((((((wall d (pieces s (first d.secs (q + 1)))).2).sync).2).write (q % 2) (headB (q + 1) ((s.size : Nat) : Int))).1)) sz_25 rfl rfl (fun _ _ => rfl) rfl (by simp)) (fun _ _ => Wl.imp (L' := (isDisk dp ((((((wall d (pieces s (first d.secs (q + 1)))).2).sync).2).write (q % 2) (headB (q + 1) ((s.size : Nat) : Int))).2)) :: (dfr b) :: (pt cj 46 [Value.pointer (some ⟨j, 0, none⟩)]) :: (pt cr 25 [Value.int .i64 ((((((wall d (pieces s (first d.secs (q + 1)))).2).sync).2).write (q % 2) (headB (q + 1) ((s.size : Nat) : Int))).1)]) :: (pt j 117 [Value.pointer (some ⟨dp, 0, none⟩), Value.string t, Value.int .i64 q, Value.bool false]) :: F) (fun _ h => h) (Wl.done (Wx.go (Wc.ret ?_)))))))))))
    refine Wx.thenRet (Wx.imp (L' := (dfr b) :: (isDisk dp ((((((wall d (pieces s (first d.secs (q + 1)))).2).sync).2).write (q % 2) (headB (q + 1) ((s.size : Nat) : Int))).2)) :: (pt cj 46 [Value.pointer (some ⟨j, 0, none⟩)]) :: (pt cr 25 [Value.int .i64 ((((((wall d (pieces s (first d.secs (q + 1)))).2).sync).2).write (q % 2) (headB (q + 1) ((s.size : Nat) : Int))).1)]) :: (pt j 117 [Value.pointer (some ⟨dp, 0, none⟩), Value.string t, Value.int .i64 q, Value.bool false]) :: F) (fun _ h => st_pull [1] h) (Wx.finM1 rfl (.inl rfl) sc_25 rfl (.cel (i := 2) rfl rfl) (fun w hs => ?_)))
    have e : putD d q s = (((wall d (pieces s (first d.secs (q + 1)))).2).sync.2.write (q % 2) (headB (q + 1) (s.size : Int))) := (if_pos h0).trans ((if_pos hs0).trans (if_neg hw0))
    exact ⟨(), trivial, (by first | (rw [e]; done) | (rw [e]; rfl)), by rw [e]; exact (st_pull [1, 0] (st_drop (st_drop (st_pull [1, 1] hs))))⟩
  ·
   refine Wl.q (v := Value.bool true) (q_neq (r := false) rfl rfl (decide_eq_false hs0)) (Wl.done (Wx.go (Wc.yes rfl (Wc.seq (Wc.region (Wl.q (v := Value.int .i64 ((((wall d (pieces s (first d.secs (q + 1)))).2).sync).1)) (q_move rfl) (Wl.e (e_store (i := 3) (v := Value.int .i64 ((((wall d (pieces s (first d.secs (q + 1)))).2).sync).1)) sz_25 rfl rfl (fun _ _ => rfl) rfl (by simp)) (fun _ _ => Wl.imp (L' := (isDisk dp ((((wall d (pieces s (first d.secs (q + 1)))).2).sync).2)) :: (dfr b) :: (pt cj 46 [Value.pointer (some ⟨j, 0, none⟩)]) :: (pt cr 25 [Value.int .i64 ((((wall d (pieces s (first d.secs (q + 1)))).2).sync).1)]) :: (pt j 117 [Value.pointer (some ⟨dp, 0, none⟩), Value.string t, Value.int .i64 q, Value.bool false]) :: F) (fun _ h => h) (Wl.done (Wx.go (Wc.ret ?_)))))))))))
   refine Wx.thenRet (Wx.imp (L' := (dfr b) :: (isDisk dp ((((wall d (pieces s (first d.secs (q + 1)))).2).sync).2)) :: (pt cj 46 [Value.pointer (some ⟨j, 0, none⟩)]) :: (pt cr 25 [Value.int .i64 ((((wall d (pieces s (first d.secs (q + 1)))).2).sync).1)]) :: (pt j 117 [Value.pointer (some ⟨dp, 0, none⟩), Value.string t, Value.int .i64 q, Value.bool false]) :: F) (fun _ h => st_pull [1] h) (Wx.finM1 rfl (.inl rfl) sc_25 rfl (.cel (i := 2) rfl rfl) (fun w hs => ?_)))
   have e : putD d q s = ((wall d (pieces s (first d.secs (q + 1)))).2).sync := (if_pos h0).trans (if_neg hs0)
   exact ⟨(), trivial, (by first | (rw [e]; done) | (rw [e]; rfl)), by rw [e]; exact (st_pull [1, 0] (st_drop (st_drop (st_pull [1, 1] hs))))⟩
 ·
  intro b _ c _ hpe
  have hpe : (if (wall d (pieces s (first d.secs (q + 1)))).1 = 0 then none else some Code.ret) = some c := hpe
  have h0 : ¬ (wall d (pieces s (first d.secs (q + 1)))).1 = 0 := fun h => by rw [if_pos h] at hpe; cases hpe
  obtain rfl : c = .ret := by rw [if_neg h0] at hpe; exact (Option.some.inj hpe).symm
  refine Wc.imp (L' := (dfr b) :: (pt cj 46 [Value.pointer (some ⟨j, 0, none⟩)]) :: (pt cr 25 [Value.int .i64 ((wall d (pieces s (first d.secs (q + 1)))).1)]) :: (pt j 117 [Value.pointer (some ⟨dp, 0, none⟩), Value.string t, Value.int .i64 q, Value.bool false]) :: (isDisk dp ((wall d (pieces s (first d.secs (q + 1)))).2)) :: F) (fun _ h => by have h2 := st_pull [4] ((st_grp (M := [pt cj 46 [Value.pointer (some ⟨j, 0, none⟩)], pt cr 25 [Value.int .i64 ((wall d (pieces s (first d.secs (q + 1)))).1)], pt j 117 [Value.pointer (some ⟨dp, 0, none⟩), Value.string t, Value.int .i64 q, Value.bool false], isDisk dp ((wall d (pieces s (first d.secs (q + 1)))).2)])).1 (st_pull [1] h)); exact h2) (Wc.ret (Wx.blockRet (Wx.thenRet (Wx.finM1 rfl (.inl rfl) sc_25 rfl (.cel (i := 1) rfl rfl) (fun w hs => ?_)))))
  have e : putD d q s = (wall d (pieces s (first d.secs (q + 1)))) := if_neg h0
  exact ⟨(), trivial, (by first | (rw [e]; done) | (rw [e]; rfl)), by rw [e]; exact (st_drop (st_drop (st_pull [0, 0] hs)))⟩

end Go.Proofs.YtkndmgfahghcjaaGreat

