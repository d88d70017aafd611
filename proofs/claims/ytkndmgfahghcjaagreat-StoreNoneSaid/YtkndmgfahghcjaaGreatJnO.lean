import Derived.Test.YtkndmgfahghcjaaGreatJnB
/- Contracts of the calls. -/
namespace Go.Proofs.YtkndmgfahghcjaaGreat
open Go Go.SL Go.Dk Go.Jn Go.RowKit
set_option linter.unusedVariables false
set_option maxRecDepth 8000
theorem zo_111 : zeroOf Tryz.prog 111 = some (Value.agg #[Value.int .i64 0, Value.int .i64 0]) := by kernel_rfl
theorem zo_117 : zeroOf Tryz.prog 117 = some (Value.agg #[Value.pointer none, Value.string (⟨#[]⟩), Value.int .i64 0, Value.bool false]) := by kernel_rfl
theorem ag_111 : aggSize Tryz.prog 111 = some 2 := by kernel_rfl
theorem eg_111 : Tryz.prog.eqGuardType Tryz.prog.depth 111 = false := by kernel_rfl
def openV (r : Int × Option (ByteArray × Int)) (j : Nat) : Value := match r.2 with
 | none => .tuple #[.pointer none, .int .i64 r.1]
 | some _ => .tuple #[.pointer (some ⟨j, 0, none⟩), .int .i64 r.1]
def openP (r : Int × Option (ByteArray × Int)) (j dp : Nat) (d : DS) : List HP := match r.2 with
 | none => [isDisk dp d]
 | some p => [isJ j dp ⟨p.1, p.2, false⟩, isDisk dp d]

set_option maxHeartbeats 4000000 in
theorem open_up (W0 : World) (dp : Nat) (d : DS) (hw : WF d) (hn1 : 1 ≤ d.secs.length) (hsn : d.since.length < 1099511627776) (hd : d.down = false) :
    Con Tryz.prog W0 48 #[Value.pointer (some ⟨dp, 0, none⟩)] [isDisk dp d] (X := Nat) (fun _ => True) (openV (openD d)) (fun j => openP (openD d) j dp d) := by
  refine Con.of (args := [Value.pointer (some ⟨dp, 0, none⟩)]) Tryz.func48 rfl Tryz.ntmps48 rfl (fun F => ?_)
  have hm := hw.l.len
  have hh : half d.secs ≤ 2047 := by unfold half; omega
  show Wc _ W0 _ _ _ _ _ ((isDisk dp d) :: F)
  refine Wc.seq ?_
  refine Wc.region ?_
  refine Wl.q (v := Value.pointer none) (q_assign rfl) ?_
  refine Wl.q (v := Value.int .i64 0) (q_assign rfl) ?_
  refine Wl.done ?_
  refine Wx.go ?_
  refine Wc.seq ?_
  refine Wc.block ?_
  refine Wc.seq ?_
  refine Wc.region ?_
  refine Wl.q (v := Value.pointer (some ⟨dp, 0, none⟩)) (q_move rfl) ?_
  refine Wl.e (e_call (F := F) (args := [Value.pointer (some ⟨dp, 0, none⟩)]) Tryz.call73 rfl (len_c W0 dp d )) (fun _ _ => ?_)
  refine Wl.imp (L' := (isDisk dp d) :: F) (fun _ h => h) ?_
  refine Wl.q (v := Value.bool false) (q_eql (r := false) rfl rfl (decide_eq_false (by omega))) ?_
  refine Wl.q (v := Value.bool false) (q_assign rfl) ?_
  refine Wl.done ?_
  refine Wx.go ?_
  refine Wc.no rfl ?_
  refine Wc.seq ?_
  refine Wc.region ?_
  refine Wl.q (v := Value.pointer (some ⟨dp, 0, none⟩)) (q_move rfl) ?_
  refine Wl.e (e_call (F := F) (args := [Value.pointer (some ⟨dp, 0, none⟩)]) Tryz.call29 rfl (Con.eqs (val' := fun _ => Value.bool true) (post' := fun _ => [isDisk dp d]) (up_c W0 dp d ) (fun _ => (by rw [hd]; rfl)) (fun _ => rfl))) (fun _ _ => ?_)
  refine Wl.imp (L' := (isDisk dp d) :: F) (fun _ h => h) ?_
  refine Wl.q (v := Value.bool false) (q_not rfl rfl) ?_
  refine Wl.q (v := Value.bool false) (q_assign rfl) ?_
  refine Wl.done ?_
  refine Wx.go ?_
  refine Wc.no rfl ?_
  refine Wc.seq ?_
  refine Wc.region ?_
  refine Wl.q (v := Value.pointer (some ⟨dp, 0, none⟩)) (q_move rfl) ?_
  refine Wl.e (e_call (F := F) (args := [Value.pointer (some ⟨dp, 0, none⟩)]) Tryz.call73 rfl (len_c W0 dp d )) (fun _ _ => ?_)
  refine Wl.imp (L' := (isDisk dp d) :: F) (fun _ h => h) ?_
  by_cases hl4 : (((d).secs.length : Nat) : Int) < 4
  ·
    refine Wl.q (v := Value.bool true) (q_lss (r := true) rfl rfl (decide_eq_true hl4)) ?_
    refine Wl.q (v := Value.bool true) (q_assign rfl) ?_
    refine Wl.done ?_
    refine Wx.go ?_
    refine Wc.yes rfl ?_
    refine Wc.seq ?_
    refine Wc.region ?_
    refine Wl.q (v := Value.pointer none) (q_assign rfl) ?_
    refine Wl.q (v := Value.int .i64 1) (q_assign rfl) ?_
    refine Wl.done ?_
    refine Wx.go ?_
    refine Wc.ret ?_
    refine Wx.blockRet ?_
    refine Wx.thenRet ?_
    refine Wx.fin2 rfl (.inl rfl) (fun w hs => ?_)
    have e : openD d = (1, none) := by rw [openD, if_neg (by simp [hd]), openR, if_pos (by omega)]
    exact ⟨0, trivial, by rw [e]; rfl, by rw [e]; exact hs⟩
  ·
    refine Wl.q (v := Value.bool false) (q_lss (r := false) rfl rfl (decide_eq_false hl4)) ?_
    refine Wl.q (v := Value.bool false) (q_assign rfl) ?_
    refine Wl.done ?_
    refine Wx.go ?_
    refine Wc.no rfl ?_
    refine Wc.skip ?_
    refine Wx.blockEnd ?_
    refine Wx.go ?_
    refine Wc.seq ?_
    refine Wc.region ?_
    refine Wl.e (e_alloc (vs := [Value.int .i64 0, Value.int .i64 0]) zo_111 rfl) (fun ba _ => ?_)
    refine Wl.imp (L' := (pt ba 111 [Value.int .i64 0, Value.int .i64 0]) :: (isDisk dp d) :: F) (fun _ h => h) ?_
    refine Wl.e (e_alloc (vs := [Value.int .i64 0, Value.int .i64 0]) zo_111 rfl) (fun bb _ => ?_)
    refine Wl.imp (L' := (pt bb 111 [Value.int .i64 0, Value.int .i64 0]) :: (pt ba 111 [Value.int .i64 0, Value.int .i64 0]) :: (isDisk dp d) :: F) (fun _ h => h) ?_
    refine Wl.done ?_
    refine Wx.go ?_
    refine Wc.meet (X := Unit) (fun _ E => E 0 = Value.pointer (some ⟨dp, 0, none⟩) ∧ E 4 = Value.pointer (some ⟨ba, 0, none⟩) ∧ E 5 = Value.pointer (some ⟨bb, 0, none⟩) ∧ (parseT (rd d 0)).2.2 = true ∧ (parseT (rd d 1)).2.2 = true ∧ ¬ ((parseT (rd d 0)).2.1 > ((half d.secs * 64 : Nat) : Int) ∨ (parseT (rd d 1)).2.1 > ((half d.secs * 64 : Nat) : Int) ∨ (0 < (parseT (rd d 0)).1 ∧ (parseT (rd d 0)).1 % 2 = 0) ∨ (0 < (parseT (rd d 1)).1 ∧ (parseT (rd d 1)).1 % 2 = 1))) (fun _ => (pt ba 111 [Value.int .i64 ((parseT (rd d 0)).1), Value.int .i64 ((parseT (rd d 1)).1)]) :: (pt bb 111 [Value.int .i64 ((parseT (rd d 0)).2.1), Value.int .i64 ((parseT (rd d 1)).2.1)]) :: (isDisk dp d) :: F) ?_ ?_
    ·
      refine Wc.seq ?_
      refine Wc.region ?_
      refine Wl.q (v := Value.int .i64 0) (q_move rfl) ?_
      refine Wl.done ?_
      refine Wx.go ?_
      refine Wc.block ?_
      refine Wc.rounds 3 ?_
      refine Wn.round ?_
      refine Wc.seq ?_
      refine Wc.region ?_
      refine Wl.q (v := Value.bool true) (q_lss (r := true) rfl rfl (decide_eq_true (by decide))) ?_
      refine Wl.done ?_
      refine Wx.go ?_
      refine Wc.seq ?_
      refine Wc.yes rfl ?_
      refine Wc.skip ?_
      refine Wx.go ?_
      refine Wc.seq ?_
      refine Wc.block ?_
      refine Wc.seq ?_
      refine Wc.region ?_
      refine Wl.q (v := Value.int .i64 0) (q_move rfl) ?_
      refine Wl.q (v := Value.int .i64 0) (q_assign rfl) ?_
      refine Wl.done ?_
      refine Wx.go ?_
      refine Wc.seq ?_
      refine Wc.region ?_
      refine Wl.q (v := Value.pointer (some ⟨dp, 0, none⟩)) (q_move rfl) ?_
      refine Wl.q (v := Value.int .i64 0) (q_move rfl) ?_
      refine Wl.imp (L' := (isDisk dp d) :: (pt bb 111 [Value.int .i64 0, Value.int .i64 0]) :: (pt ba 111 [Value.int .i64 0, Value.int .i64 0]) :: F) (fun _ h => st_pull [2] h) ?_
      refine Wl.e (e_call (F := (pt bb 111 [Value.int .i64 0, Value.int .i64 0]) :: (pt ba 111 [Value.int .i64 0, Value.int .i64 0]) :: F) (args := [Value.pointer (some ⟨dp, 0, none⟩), Value.int .i64 0]) Tryz.call74 rfl (Con.eqs (val' := fun _ => Value.tuple #[Value.string (rd d 0), Value.int .i64 0]) (post' := fun _ => [isDisk dp d]) (read_c W0 dp d 0 hsn) (fun _ => (by rw [show d.read 0 = (rd d 0, 0) from rd_read (i := 0) hd (by omega)])) (fun _ => rfl))) (fun _ _ => ?_)
      refine Wl.imp (L' := (isDisk dp d) :: (pt bb 111 [Value.int .i64 0, Value.int .i64 0]) :: (pt ba 111 [Value.int .i64 0, Value.int .i64 0]) :: F) (fun _ h => h) ?_
      refine Wl.q (v := Value.tuple #[Value.string (rd d 0), Value.int .i64 0]) (q_move rfl) ?_
      refine Wl.q (v := Value.string (rd d 0)) (q_extract (i := 0) rfl rfl) ?_
      refine Wl.q (v := Value.int .i64 0) (q_extract (i := 1) rfl rfl) ?_
      refine Wl.q (v := Value.string (rd d 0)) (q_assign rfl) ?_
      refine Wl.q (v := Value.int .i64 0) (q_assign rfl) ?_
      refine Wl.done ?_
      refine Wx.go ?_
      refine Wc.seq ?_
      refine Wc.seq ?_
      refine Wc.region ?_
      refine Wl.q (v := Value.int .i64 0) (q_move rfl) ?_
      refine Wl.q (v := Value.bool false) (q_neq (r := true) rfl rfl (decide_eq_true (by decide))) ?_
      refine Wl.done ?_
      refine Wx.go ?_
      refine Wc.no rfl ?_
      refine Wc.skip ?_
      refine Wx.go ?_
      refine Wc.seq ?_
      refine Wc.region ?_
      refine Wl.q (v := Value.bool false) (q_assign rfl) ?_
      refine Wl.done ?_
      refine Wx.go ?_
      refine Wc.seq ?_
      refine Wc.region ?_
      refine Wl.q (v := Value.int .i64 0) (q_move rfl) ?_
      refine Wl.q (v := Value.int .i64 0) (q_move rfl) ?_
      refine Wl.q (v := Value.string (rd d 0)) (q_move rfl) ?_
      refine Wl.e (e_call (F := (isDisk dp d) :: (pt bb 111 [Value.int .i64 0, Value.int .i64 0]) :: (pt ba 111 [Value.int .i64 0, Value.int .i64 0]) :: F) (args := [Value.string (rd d 0)]) Tryz.call75 rfl (parse_c W0 (rd d 0) (rd_size hw (by omega)))) (fun _ _ => ?_)
      refine Wl.imp (L' := (isDisk dp d) :: (pt bb 111 [Value.int .i64 0, Value.int .i64 0]) :: (pt ba 111 [Value.int .i64 0, Value.int .i64 0]) :: F) (fun _ h => h) ?_
      refine Wl.q (v := Value.tuple #[Value.int .i64 ((parseT (rd d 0)).1), Value.int .i64 ((parseT (rd d 0)).2.1), Value.bool ((parseT (rd d 0)).2.2)]) (q_move rfl) ?_
      refine Wl.q (v := Value.int .i64 ((parseT (rd d 0)).1)) (q_extract (i := 0) rfl rfl) ?_
      refine Wl.q (v := Value.int .i64 ((parseT (rd d 0)).2.1)) (q_extract (i := 1) rfl rfl) ?_
      refine Wl.q (v := Value.bool ((parseT (rd d 0)).2.2)) (q_extract (i := 2) rfl rfl) ?_
      refine Wl.q (v := Value.pointer (some ⟨ba, 0, none⟩)) (q_idx_arr (m := 0) Tryz.underlying111 sz_3 rfl rfl (by decide) (by decide) rfl) ?_
      refine Wl.e (e_store (i := 2) (v := Value.int .i64 ((parseT (rd d 0)).1)) sz_3 rfl rfl (fun _ _ => rfl) rfl (by simp)) (fun _ _ => ?_)
      refine Wl.imp (L' := (isDisk dp d) :: (pt bb 111 [Value.int .i64 0, Value.int .i64 0]) :: (pt ba 111 [Value.int .i64 ((parseT (rd d 0)).1), Value.int .i64 0]) :: F) (fun _ h => h) ?_
      refine Wl.q (v := Value.pointer (some ⟨bb, 0, none⟩)) (q_idx_arr (m := 0) Tryz.underlying111 sz_3 rfl rfl (by decide) (by decide) rfl) ?_
      refine Wl.e (e_store (i := 1) (v := Value.int .i64 ((parseT (rd d 0)).2.1)) sz_3 rfl rfl (fun _ _ => rfl) rfl (by simp)) (fun _ _ => ?_)
      refine Wl.imp (L' := (isDisk dp d) :: (pt bb 111 [Value.int .i64 ((parseT (rd d 0)).2.1), Value.int .i64 0]) :: (pt ba 111 [Value.int .i64 ((parseT (rd d 0)).1), Value.int .i64 0]) :: F) (fun _ h => h) ?_
      rcases Bool.eq_false_or_eq_true (parseT (rd d 0)).2.2 with p0 | p0
      ·
        have r0 := parseT_rng p0
        have w0 := wrap_succ r0.1 r0.2.1
        refine Wl.q (v := Value.bool true) (q_assign (Eq.trans rfl (congrArg Value.bool p0))) ?_
        refine Wl.done ?_
        refine Wx.go ?_
        refine Wc.seq ?_
        refine Wc.drawsS [] ((isDisk dp d) :: (pt bb 111 [Value.int .i64 ((parseT (rd d 0)).2.1), Value.int .i64 0]) :: (pt ba 111 [Value.int .i64 ((parseT (rd d 0)).1), Value.int .i64 0]) :: []) (by kernel_rfl) ?_
        refine Wr.pure (v := Value.bool true) 0 rfl (by kernel_rfl) (.inr (fun _ h => st_take [0, 0, 0] h)) (.inl ⟨rfl, fun _ => q_move rfl⟩) ?_
        refine Wr.pure (v := Value.bool false) 1 rfl (by kernel_rfl) (.inr (fun _ h => st_take [0, 0, 0] h)) (.inl ⟨rfl, fun _ => q_not rfl rfl⟩) ?_
        refine Wr.pure (v := Value.bool false) 2 rfl (by kernel_rfl) (.inr (fun _ h => st_take [0, 0, 0] h)) (.inl ⟨rfl, fun _ => q_move rfl⟩) ?_
        refine Wr.pure (v := Value.int .i64 0) 3 rfl (by kernel_rfl) (.inr (fun _ h => st_take [0, 0, 0] h)) (.inl ⟨rfl, fun _ => q_move rfl⟩) ?_
        refine Wr.pure (v := Value.pointer (some ⟨bb, 0, none⟩)) 4 rfl (by kernel_rfl) (.inr (fun _ h => st_take [0, 0, 0] h)) (.inl ⟨rfl, fun _ => q_idx_arr (m := 0) Tryz.underlying111 sz_3 rfl rfl (by decide) (by decide) rfl⟩) ?_
        refine Wr.take (v := Value.int .i64 ((parseT (rd d 0)).2.1)) 5 rfl (by kernel_rfl) (fun _ h => st_take [0, 0, 0] h) (.inl ⟨rfl, q_load sc_3 rfl (.cel (i := 1) rfl rfl)⟩) ?_
        refine Wr.pure (v := Value.pointer (some ⟨dp, 0, none⟩)) 6 rfl (by kernel_rfl) (.inr (fun _ h => st_take [0, 0, 0] h)) (.inl ⟨rfl, fun _ => q_move rfl⟩) ?_
        refine Wr.e 7 (by kernel_rfl) rfl (e_call (F := (pt bb 111 [Value.int .i64 ((parseT (rd d 0)).2.1), Value.int .i64 0]) :: (pt ba 111 [Value.int .i64 ((parseT (rd d 0)).1), Value.int .i64 0]) :: F) (args := [Value.pointer (some ⟨dp, 0, none⟩)]) Tryz.call76 rfl (sectors_c W0 dp d hn1 hm)) (.inr fun _ _ _ h => st_take [0, 0, 0] h) (fun _ _ => ?_)
        refine Wr.imp (L' := (isDisk dp d) :: (pt bb 111 [Value.int .i64 ((parseT (rd d 0)).2.1), Value.int .i64 0]) :: (pt ba 111 [Value.int .i64 ((parseT (rd d 0)).1), Value.int .i64 0]) :: F) (fun _ h => h) ?_
        refine Wr.pure (v := Value.int .i64 (((half d.secs) * 64 : Nat) : Int)) 8 rfl (by kernel_rfl) (.inr (fun _ h => st_take [0, 0, 0] h)) (.inl ⟨rfl, fun _ => q_mul (c := (((half d.secs) * 64 : Nat) : Int)) rfl rfl (by rw [wrap_i64] <;> omega)⟩) ?_
        by_cases h1 : (parseT (rd d 0)).2.1 > (((half d.secs) * 64 : Nat) : Int)
        ·
          refine Wr.pure (v := Value.bool true) 9 rfl (by kernel_rfl) (.inr (fun _ h => st_take [0, 0, 0] h)) (.inl ⟨rfl, fun _ => q_gtr (r := true) rfl rfl (decide_eq_true h1)⟩) ?_
          refine Wr.pure (v := Value.bool true) 10 rfl (by kernel_rfl) (.inr (fun _ h => st_take [0, 0, 0] h)) (.inl ⟨rfl, fun _ => q_pick (t := false) rfl rfl⟩) ?_
          refine Wr.pure (v := Value.bool true) 11 rfl (by kernel_rfl) (.inr (fun _ h => st_take [0, 0, 0] h)) (.inl ⟨rfl, fun _ => q_move rfl⟩) ?_
          refine Wr.pure (v := undef) 12 rfl (by kernel_rfl) (.inr (fun _ h => st_take [0, 0, 0] h)) (.inr ⟨rfl, rfl⟩) ?_
          refine Wr.pure (v := undef) 13 rfl (by kernel_rfl) (.inr (fun _ h => st_take [0, 0, 0] h)) (.inr ⟨rfl, rfl⟩) ?_
          refine Wr.pure (v := undef) 14 rfl (by kernel_rfl) (.inr (fun _ h => st_take [0, 0, 0] h)) (.inr ⟨rfl, rfl⟩) ?_
          refine Wr.pure (v := undef) 15 rfl (by kernel_rfl) (.inr (fun _ h => st_take [0, 0, 0] h)) (.inr ⟨rfl, rfl⟩) ?_
          refine Wr.pure (v := undef) 16 rfl (by kernel_rfl) (.inr (fun _ h => st_take [0, 0, 0] h)) (.inr ⟨rfl, rfl⟩) ?_
          refine Wr.pure (v := undef) 17 rfl (by kernel_rfl) (.inr (fun _ h => st_take [0, 0, 0] h)) (.inr ⟨rfl, rfl⟩) ?_
          refine Wr.pure (v := undef) 18 rfl (by kernel_rfl) (.inr (fun _ h => st_take [0, 0, 0] h)) (.inr ⟨rfl, rfl⟩) ?_
          refine Wr.pure (v := undef) 19 rfl (by kernel_rfl) (.inr (fun _ h => st_take [0, 0, 0] h)) (.inr ⟨rfl, rfl⟩) ?_
          refine Wr.pure (v := undef) 20 rfl (by kernel_rfl) (.inr (fun _ h => st_take [0, 0, 0] h)) (.inr ⟨rfl, rfl⟩) ?_
          refine Wr.pure (v := undef) 21 rfl (by kernel_rfl) (.inr (fun _ h => st_take [0, 0, 0] h)) (.inr ⟨rfl, rfl⟩) ?_
          refine Wr.pure (v := undef) 22 rfl (by kernel_rfl) (.inr (fun _ h => st_take [0, 0, 0] h)) (.inr ⟨rfl, rfl⟩) ?_
          refine Wr.pure (v := undef) 23 rfl (by kernel_rfl) (.inr (fun _ h => st_take [0, 0, 0] h)) (.inr ⟨rfl, rfl⟩) ?_
          refine Wr.pure (v := Value.bool true) 24 rfl (by kernel_rfl) (.inr (fun _ h => st_take [0, 0, 0] h)) (.inl ⟨rfl, fun _ => q_pick (t := true) rfl rfl⟩) ?_
          refine Wr.done (by kernel_rfl) ?_
          refine Wx.go ?_
          refine Wc.yes rfl ?_
          refine Wc.seq ?_
          refine Wc.region ?_
          refine Wl.q (v := Value.pointer none) (q_assign rfl) ?_
          refine Wl.q (v := Value.int .i64 14) (q_assign rfl) ?_
          refine Wl.done ?_
          refine Wx.go ?_
          refine Wc.ret ?_
          refine Wx.blockRet ?_
          refine Wx.thenRet ?_
          refine Wx.thenRet ?_
          refine Wx.blockRet ?_
          refine Wx.thenRet ?_
          refine Wx.fin2 rfl (.inl rfl) (fun w hs => ?_)
          have e : openD d = (14, none) := (openD_T hd (by omega)).trans (openT_bad2 (by omega))
          exact ⟨0, trivial, by rw [e]; rfl, by rw [e]; exact (st_drop (st_drop (st_pull [1, 1] hs)))⟩
        ·
          refine Wr.pure (v := Value.bool false) 9 rfl (by kernel_rfl) (.inr (fun _ h => st_take [0, 0, 0] h)) (.inl ⟨rfl, fun _ => q_gtr (r := false) rfl rfl (decide_eq_false h1)⟩) ?_
          refine Wr.pure (v := Value.bool false) 10 rfl (by kernel_rfl) (.inr (fun _ h => st_take [0, 0, 0] h)) (.inl ⟨rfl, fun _ => q_pick (t := false) rfl rfl⟩) ?_
          refine Wr.pure (v := Value.bool false) 11 rfl (by kernel_rfl) (.inr (fun _ h => st_take [0, 0, 0] h)) (.inl ⟨rfl, fun _ => q_move rfl⟩) ?_
          refine Wr.pure (v := Value.int .i64 0) 12 rfl (by kernel_rfl) (.inr (fun _ h => st_take [0, 0, 0] h)) (.inl ⟨rfl, fun _ => q_move rfl⟩) ?_
          refine Wr.pure (v := Value.pointer (some ⟨ba, 0, none⟩)) 13 rfl (by kernel_rfl) (.inr (fun _ h => st_take [0, 0, 0] h)) (.inl ⟨rfl, fun _ => q_idx_arr (m := 0) Tryz.underlying111 sz_3 rfl rfl (by decide) (by decide) rfl⟩) ?_
          refine Wr.take (v := Value.int .i64 ((parseT (rd d 0)).1)) 14 rfl (by kernel_rfl) (fun _ h => st_take [0, 0, 0] h) (.inl ⟨rfl, q_load sc_3 rfl (.cel (i := 2) rfl rfl)⟩) ?_
          by_cases h2 : (parseT (rd d 0)).1 > 0
          ·
            refine Wr.pure (v := Value.bool true) 15 rfl (by kernel_rfl) (.inr (fun _ h => st_take [0, 0, 0] h)) (.inl ⟨rfl, fun _ => q_gtr (r := true) rfl rfl (decide_eq_true h2)⟩) ?_
            refine Wr.pure (v := Value.bool true) 16 rfl (by kernel_rfl) (.inr (fun _ h => st_take [0, 0, 0] h)) (.inl ⟨rfl, fun _ => q_move rfl⟩) ?_
            refine Wr.pure (v := Value.int .i64 0) 17 rfl (by kernel_rfl) (.inr (fun _ h => st_take [0, 0, 0] h)) (.inl ⟨rfl, fun _ => q_move rfl⟩) ?_
            refine Wr.pure (v := Value.pointer (some ⟨ba, 0, none⟩)) 18 rfl (by kernel_rfl) (.inr (fun _ h => st_take [0, 0, 0] h)) (.inl ⟨rfl, fun _ => q_idx_arr (m := 0) Tryz.underlying111 sz_3 rfl rfl (by decide) (by decide) rfl⟩) ?_
            refine Wr.take (v := Value.int .i64 ((parseT (rd d 0)).1)) 19 rfl (by kernel_rfl) (fun _ h => st_take [0, 0, 0] h) (.inl ⟨rfl, q_load sc_3 rfl (.cel (i := 2) rfl rfl)⟩) ?_
            refine Wr.pure (v := Value.int .i64 ((parseT (rd d 0)).1 % 2)) 20 rfl (by kernel_rfl) (.inr (fun _ h => st_take [0, 0, 0] h)) (.inl ⟨rfl, fun _ => q_rem (c := ((parseT (rd d 0)).1 % 2)) rfl rfl (by decide) (tmod2_eq r0.1)⟩) ?_
            refine Wr.pure (v := Value.int .i64 0) 21 rfl (by kernel_rfl) (.inr (fun _ h => st_take [0, 0, 0] h)) (.inl ⟨rfl, fun _ => q_move rfl⟩) ?_
            by_cases h3 : ((parseT (rd d 0)).1 % 2) = 0
            ·
              refine Wr.pure (v := Value.bool true) 22 rfl (by kernel_rfl) (.inr (fun _ h => st_take [0, 0, 0] h)) (.inl ⟨rfl, fun _ => q_eql (r := true) rfl rfl (decide_eq_true h3)⟩) ?_
              refine Wr.pure (v := Value.bool true) 23 rfl (by kernel_rfl) (.inr (fun _ h => st_take [0, 0, 0] h)) (.inl ⟨rfl, fun _ => q_pick (t := true) rfl rfl⟩) ?_
              refine Wr.pure (v := Value.bool true) 24 rfl (by kernel_rfl) (.inr (fun _ h => st_take [0, 0, 0] h)) (.inl ⟨rfl, fun _ => q_pick (t := false) rfl rfl⟩) ?_
              refine Wr.done (by kernel_rfl) ?_
              refine Wx.go ?_
              refine Wc.yes rfl ?_
              refine Wc.seq ?_
              refine Wc.region ?_
              refine Wl.q (v := Value.pointer none) (q_assign rfl) ?_
              refine Wl.q (v := Value.int .i64 14) (q_assign rfl) ?_
              refine Wl.done ?_
              refine Wx.go ?_
              refine Wc.ret ?_
              refine Wx.blockRet ?_
              refine Wx.thenRet ?_
              refine Wx.thenRet ?_
              refine Wx.blockRet ?_
              refine Wx.thenRet ?_
              refine Wx.fin2 rfl (.inl rfl) (fun w hs => ?_)
              have e : openD d = (14, none) := (openD_T hd (by omega)).trans (openT_bad2 (by omega))
              exact ⟨0, trivial, by rw [e]; rfl, by rw [e]; exact (st_drop (st_drop (st_pull [1, 1] hs)))⟩
            ·
              refine Wr.pure (v := Value.bool false) 22 rfl (by kernel_rfl) (.inr (fun _ h => st_take [0, 0, 0] h)) (.inl ⟨rfl, fun _ => q_eql (r := false) rfl rfl (decide_eq_false h3)⟩) ?_
              refine Wr.pure (v := Value.bool false) 23 rfl (by kernel_rfl) (.inr (fun _ h => st_take [0, 0, 0] h)) (.inl ⟨rfl, fun _ => q_pick (t := true) rfl rfl⟩) ?_
              refine Wr.pure (v := Value.bool false) 24 rfl (by kernel_rfl) (.inr (fun _ h => st_take [0, 0, 0] h)) (.inl ⟨rfl, fun _ => q_pick (t := false) rfl rfl⟩) ?_
              refine Wr.done (by kernel_rfl) ?_
              refine Wx.go ?_
              refine Wc.no rfl ?_
              refine Wc.skip ?_
              refine Wx.blockEnd ?_
              refine Wx.go ?_
              refine Wc.region ?_
              refine Wl.q (v := Value.int .i64 1) (q_add (c := 1) rfl rfl (by decide)) ?_
              refine Wl.q (v := Value.int .i64 1) (q_move rfl) ?_
              refine Wl.done ?_
              refine Wx.again ?_
              refine Wn.round ?_
              refine Wc.seq ?_
              refine Wc.region ?_
              refine Wl.q (v := Value.bool true) (q_lss (r := true) rfl rfl (decide_eq_true (by decide))) ?_
              refine Wl.done ?_
              refine Wx.go ?_
              refine Wc.seq ?_
              refine Wc.yes rfl ?_
              refine Wc.skip ?_
              refine Wx.go ?_
              refine Wc.seq ?_
              refine Wc.block ?_
              refine Wc.seq ?_
              refine Wc.region ?_
              refine Wl.q (v := Value.int .i64 1) (q_move rfl) ?_
              refine Wl.q (v := Value.int .i64 1) (q_assign rfl) ?_
              refine Wl.done ?_
              refine Wx.go ?_
              refine Wc.seq ?_
              refine Wc.region ?_
              refine Wl.q (v := Value.pointer (some ⟨dp, 0, none⟩)) (q_move rfl) ?_
              refine Wl.q (v := Value.int .i64 1) (q_move rfl) ?_
              refine Wl.e (e_call (F := (pt bb 111 [Value.int .i64 ((parseT (rd d 0)).2.1), Value.int .i64 0]) :: (pt ba 111 [Value.int .i64 ((parseT (rd d 0)).1), Value.int .i64 0]) :: F) (args := [Value.pointer (some ⟨dp, 0, none⟩), Value.int .i64 1]) Tryz.call74 rfl (Con.eqs (val' := fun _ => Value.tuple #[Value.string (rd d 1), Value.int .i64 0]) (post' := fun _ => [isDisk dp d]) (read_c W0 dp d 1 hsn) (fun _ => (by rw [show d.read 1 = (rd d 1, 0) from rd_read (i := 1) hd (by omega)])) (fun _ => rfl))) (fun _ _ => ?_)
              refine Wl.imp (L' := (isDisk dp d) :: (pt bb 111 [Value.int .i64 ((parseT (rd d 0)).2.1), Value.int .i64 0]) :: (pt ba 111 [Value.int .i64 ((parseT (rd d 0)).1), Value.int .i64 0]) :: F) (fun _ h => h) ?_
              refine Wl.q (v := Value.tuple #[Value.string (rd d 1), Value.int .i64 0]) (q_move rfl) ?_
              refine Wl.q (v := Value.string (rd d 1)) (q_extract (i := 0) rfl rfl) ?_
              refine Wl.q (v := Value.int .i64 0) (q_extract (i := 1) rfl rfl) ?_
              refine Wl.q (v := Value.string (rd d 1)) (q_assign rfl) ?_
              refine Wl.q (v := Value.int .i64 0) (q_assign rfl) ?_
              refine Wl.done ?_
              refine Wx.go ?_
              refine Wc.seq ?_
              refine Wc.seq ?_
              refine Wc.region ?_
              refine Wl.q (v := Value.int .i64 0) (q_move rfl) ?_
              refine Wl.q (v := Value.bool false) (q_neq (r := true) rfl rfl (decide_eq_true (by decide))) ?_
              refine Wl.done ?_
              refine Wx.go ?_
              refine Wc.no rfl ?_
              refine Wc.skip ?_
              refine Wx.go ?_
              refine Wc.seq ?_
              refine Wc.region ?_
              refine Wl.q (v := Value.bool false) (q_assign rfl) ?_
              refine Wl.done ?_
              refine Wx.go ?_
              refine Wc.seq ?_
              refine Wc.region ?_
              refine Wl.q (v := Value.int .i64 1) (q_move rfl) ?_
              refine Wl.q (v := Value.int .i64 1) (q_move rfl) ?_
              refine Wl.q (v := Value.string (rd d 1)) (q_move rfl) ?_
              refine Wl.e (e_call (F := (isDisk dp d) :: (pt bb 111 [Value.int .i64 ((parseT (rd d 0)).2.1), Value.int .i64 0]) :: (pt ba 111 [Value.int .i64 ((parseT (rd d 0)).1), Value.int .i64 0]) :: F) (args := [Value.string (rd d 1)]) Tryz.call75 rfl (parse_c W0 (rd d 1) (rd_size hw (by omega)))) (fun _ _ => ?_)
              refine Wl.imp (L' := (isDisk dp d) :: (pt bb 111 [Value.int .i64 ((parseT (rd d 0)).2.1), Value.int .i64 0]) :: (pt ba 111 [Value.int .i64 ((parseT (rd d 0)).1), Value.int .i64 0]) :: F) (fun _ h => h) ?_
              refine Wl.q (v := Value.tuple #[Value.int .i64 ((parseT (rd d 1)).1), Value.int .i64 ((parseT (rd d 1)).2.1), Value.bool ((parseT (rd d 1)).2.2)]) (q_move rfl) ?_
              refine Wl.q (v := Value.int .i64 ((parseT (rd d 1)).1)) (q_extract (i := 0) rfl rfl) ?_
              refine Wl.q (v := Value.int .i64 ((parseT (rd d 1)).2.1)) (q_extract (i := 1) rfl rfl) ?_
              refine Wl.q (v := Value.bool ((parseT (rd d 1)).2.2)) (q_extract (i := 2) rfl rfl) ?_
              refine Wl.q (v := Value.pointer (some ⟨ba, 1, none⟩)) (q_idx_arr (m := 1) Tryz.underlying111 sz_3 rfl rfl (by decide) (by decide) rfl) ?_
              refine Wl.e (e_store (i := 2) (v := Value.int .i64 ((parseT (rd d 1)).1)) sz_3 rfl rfl (fun _ _ => rfl) rfl (by simp)) (fun _ _ => ?_)
              refine Wl.imp (L' := (isDisk dp d) :: (pt bb 111 [Value.int .i64 ((parseT (rd d 0)).2.1), Value.int .i64 0]) :: (pt ba 111 [Value.int .i64 ((parseT (rd d 0)).1), Value.int .i64 ((parseT (rd d 1)).1)]) :: F) (fun _ h => h) ?_
              refine Wl.q (v := Value.pointer (some ⟨bb, 1, none⟩)) (q_idx_arr (m := 1) Tryz.underlying111 sz_3 rfl rfl (by decide) (by decide) rfl) ?_
              refine Wl.e (e_store (i := 1) (v := Value.int .i64 ((parseT (rd d 1)).2.1)) sz_3 rfl rfl (fun _ _ => rfl) rfl (by simp)) (fun _ _ => ?_)
              refine Wl.imp (L' := (isDisk dp d) :: (pt bb 111 [Value.int .i64 ((parseT (rd d 0)).2.1), Value.int .i64 ((parseT (rd d 1)).2.1)]) :: (pt ba 111 [Value.int .i64 ((parseT (rd d 0)).1), Value.int .i64 ((parseT (rd d 1)).1)]) :: F) (fun _ h => h) ?_
              rcases Bool.eq_false_or_eq_true (parseT (rd d 1)).2.2 with p1 | p1
              ·
                have r1 := parseT_rng p1
                have w1 := wrap_succ r1.1 r1.2.1
                refine Wl.q (v := Value.bool true) (q_assign (Eq.trans rfl (congrArg Value.bool p1))) ?_
                refine Wl.done ?_
                refine Wx.go ?_
                refine Wc.seq ?_
                refine Wc.drawsS [] ((isDisk dp d) :: (pt bb 111 [Value.int .i64 ((parseT (rd d 0)).2.1), Value.int .i64 ((parseT (rd d 1)).2.1)]) :: (pt ba 111 [Value.int .i64 ((parseT (rd d 0)).1), Value.int .i64 ((parseT (rd d 1)).1)]) :: []) (by kernel_rfl) ?_
                refine Wr.pure (v := Value.bool true) 0 rfl (by kernel_rfl) (.inr (fun _ h => st_take [0, 0, 0] h)) (.inl ⟨rfl, fun _ => q_move rfl⟩) ?_
                refine Wr.pure (v := Value.bool false) 1 rfl (by kernel_rfl) (.inr (fun _ h => st_take [0, 0, 0] h)) (.inl ⟨rfl, fun _ => q_not rfl rfl⟩) ?_
                refine Wr.pure (v := Value.bool false) 2 rfl (by kernel_rfl) (.inr (fun _ h => st_take [0, 0, 0] h)) (.inl ⟨rfl, fun _ => q_move rfl⟩) ?_
                refine Wr.pure (v := Value.int .i64 1) 3 rfl (by kernel_rfl) (.inr (fun _ h => st_take [0, 0, 0] h)) (.inl ⟨rfl, fun _ => q_move rfl⟩) ?_
                refine Wr.pure (v := Value.pointer (some ⟨bb, 1, none⟩)) 4 rfl (by kernel_rfl) (.inr (fun _ h => st_take [0, 0, 0] h)) (.inl ⟨rfl, fun _ => q_idx_arr (m := 1) Tryz.underlying111 sz_3 rfl rfl (by decide) (by decide) rfl⟩) ?_
                refine Wr.take (v := Value.int .i64 ((parseT (rd d 1)).2.1)) 5 rfl (by kernel_rfl) (fun _ h => st_take [0, 0, 0] h) (.inl ⟨rfl, q_load sc_3 rfl (.cel (i := 1) rfl rfl)⟩) ?_
                refine Wr.pure (v := Value.pointer (some ⟨dp, 0, none⟩)) 6 rfl (by kernel_rfl) (.inr (fun _ h => st_take [0, 0, 0] h)) (.inl ⟨rfl, fun _ => q_move rfl⟩) ?_
                refine Wr.e 7 (by kernel_rfl) rfl (e_call (F := (pt bb 111 [Value.int .i64 ((parseT (rd d 0)).2.1), Value.int .i64 ((parseT (rd d 1)).2.1)]) :: (pt ba 111 [Value.int .i64 ((parseT (rd d 0)).1), Value.int .i64 ((parseT (rd d 1)).1)]) :: F) (args := [Value.pointer (some ⟨dp, 0, none⟩)]) Tryz.call76 rfl (sectors_c W0 dp d hn1 hm)) (.inr fun _ _ _ h => st_take [0, 0, 0] h) (fun _ _ => ?_)
                refine Wr.imp (L' := (isDisk dp d) :: (pt bb 111 [Value.int .i64 ((parseT (rd d 0)).2.1), Value.int .i64 ((parseT (rd d 1)).2.1)]) :: (pt ba 111 [Value.int .i64 ((parseT (rd d 0)).1), Value.int .i64 ((parseT (rd d 1)).1)]) :: F) (fun _ h => h) ?_
                refine Wr.pure (v := Value.int .i64 (((half d.secs) * 64 : Nat) : Int)) 8 rfl (by kernel_rfl) (.inr (fun _ h => st_take [0, 0, 0] h)) (.inl ⟨rfl, fun _ => q_mul (c := (((half d.secs) * 64 : Nat) : Int)) rfl rfl (by rw [wrap_i64] <;> omega)⟩) ?_
                by_cases h4 : (parseT (rd d 1)).2.1 > (((half d.secs) * 64 : Nat) : Int)
                ·
                  refine Wr.pure (v := Value.bool true) 9 rfl (by kernel_rfl) (.inr (fun _ h => st_take [0, 0, 0] h)) (.inl ⟨rfl, fun _ => q_gtr (r := true) rfl rfl (decide_eq_true h4)⟩) ?_
                  refine Wr.pure (v := Value.bool true) 10 rfl (by kernel_rfl) (.inr (fun _ h => st_take [0, 0, 0] h)) (.inl ⟨rfl, fun _ => q_pick (t := false) rfl rfl⟩) ?_
                  refine Wr.pure (v := Value.bool true) 11 rfl (by kernel_rfl) (.inr (fun _ h => st_take [0, 0, 0] h)) (.inl ⟨rfl, fun _ => q_move rfl⟩) ?_
                  refine Wr.pure (v := undef) 12 rfl (by kernel_rfl) (.inr (fun _ h => st_take [0, 0, 0] h)) (.inr ⟨rfl, rfl⟩) ?_
                  refine Wr.pure (v := undef) 13 rfl (by kernel_rfl) (.inr (fun _ h => st_take [0, 0, 0] h)) (.inr ⟨rfl, rfl⟩) ?_
                  refine Wr.pure (v := undef) 14 rfl (by kernel_rfl) (.inr (fun _ h => st_take [0, 0, 0] h)) (.inr ⟨rfl, rfl⟩) ?_
                  refine Wr.pure (v := undef) 15 rfl (by kernel_rfl) (.inr (fun _ h => st_take [0, 0, 0] h)) (.inr ⟨rfl, rfl⟩) ?_
                  refine Wr.pure (v := undef) 16 rfl (by kernel_rfl) (.inr (fun _ h => st_take [0, 0, 0] h)) (.inr ⟨rfl, rfl⟩) ?_
                  refine Wr.pure (v := undef) 17 rfl (by kernel_rfl) (.inr (fun _ h => st_take [0, 0, 0] h)) (.inr ⟨rfl, rfl⟩) ?_
                  refine Wr.pure (v := undef) 18 rfl (by kernel_rfl) (.inr (fun _ h => st_take [0, 0, 0] h)) (.inr ⟨rfl, rfl⟩) ?_
                  refine Wr.pure (v := undef) 19 rfl (by kernel_rfl) (.inr (fun _ h => st_take [0, 0, 0] h)) (.inr ⟨rfl, rfl⟩) ?_
                  refine Wr.pure (v := undef) 20 rfl (by kernel_rfl) (.inr (fun _ h => st_take [0, 0, 0] h)) (.inr ⟨rfl, rfl⟩) ?_
                  refine Wr.pure (v := undef) 21 rfl (by kernel_rfl) (.inr (fun _ h => st_take [0, 0, 0] h)) (.inr ⟨rfl, rfl⟩) ?_
                  refine Wr.pure (v := undef) 22 rfl (by kernel_rfl) (.inr (fun _ h => st_take [0, 0, 0] h)) (.inr ⟨rfl, rfl⟩) ?_
                  refine Wr.pure (v := undef) 23 rfl (by kernel_rfl) (.inr (fun _ h => st_take [0, 0, 0] h)) (.inr ⟨rfl, rfl⟩) ?_
                  refine Wr.pure (v := Value.bool true) 24 rfl (by kernel_rfl) (.inr (fun _ h => st_take [0, 0, 0] h)) (.inl ⟨rfl, fun _ => q_pick (t := true) rfl rfl⟩) ?_
                  refine Wr.done (by kernel_rfl) ?_
                  refine Wx.go ?_
                  refine Wc.yes rfl ?_
                  refine Wc.seq ?_
                  refine Wc.region ?_
                  refine Wl.q (v := Value.pointer none) (q_assign rfl) ?_
                  refine Wl.q (v := Value.int .i64 14) (q_assign rfl) ?_
                  refine Wl.done ?_
                  refine Wx.go ?_
                  refine Wc.ret ?_
                  refine Wx.blockRet ?_
                  refine Wx.thenRet ?_
                  refine Wx.thenRet ?_
                  refine Wx.blockRet ?_
                  refine Wx.thenRet ?_
                  refine Wx.fin2 rfl (.inl rfl) (fun w hs => ?_)
                  have e : openD d = (14, none) := (openD_T hd (by omega)).trans (openT_bad2 (by omega))
                  exact ⟨0, trivial, by rw [e]; rfl, by rw [e]; exact (st_drop (st_drop (st_pull [1, 1] hs)))⟩
                ·
                  refine Wr.pure (v := Value.bool false) 9 rfl (by kernel_rfl) (.inr (fun _ h => st_take [0, 0, 0] h)) (.inl ⟨rfl, fun _ => q_gtr (r := false) rfl rfl (decide_eq_false h4)⟩) ?_
                  refine Wr.pure (v := Value.bool false) 10 rfl (by kernel_rfl) (.inr (fun _ h => st_take [0, 0, 0] h)) (.inl ⟨rfl, fun _ => q_pick (t := false) rfl rfl⟩) ?_
                  refine Wr.pure (v := Value.bool false) 11 rfl (by kernel_rfl) (.inr (fun _ h => st_take [0, 0, 0] h)) (.inl ⟨rfl, fun _ => q_move rfl⟩) ?_
                  refine Wr.pure (v := Value.int .i64 1) 12 rfl (by kernel_rfl) (.inr (fun _ h => st_take [0, 0, 0] h)) (.inl ⟨rfl, fun _ => q_move rfl⟩) ?_
                  refine Wr.pure (v := Value.pointer (some ⟨ba, 1, none⟩)) 13 rfl (by kernel_rfl) (.inr (fun _ h => st_take [0, 0, 0] h)) (.inl ⟨rfl, fun _ => q_idx_arr (m := 1) Tryz.underlying111 sz_3 rfl rfl (by decide) (by decide) rfl⟩) ?_
                  refine Wr.take (v := Value.int .i64 ((parseT (rd d 1)).1)) 14 rfl (by kernel_rfl) (fun _ h => st_take [0, 0, 0] h) (.inl ⟨rfl, q_load sc_3 rfl (.cel (i := 2) rfl rfl)⟩) ?_
                  by_cases h5 : (parseT (rd d 1)).1 > 0
                  ·
                    refine Wr.pure (v := Value.bool true) 15 rfl (by kernel_rfl) (.inr (fun _ h => st_take [0, 0, 0] h)) (.inl ⟨rfl, fun _ => q_gtr (r := true) rfl rfl (decide_eq_true h5)⟩) ?_
                    refine Wr.pure (v := Value.bool true) 16 rfl (by kernel_rfl) (.inr (fun _ h => st_take [0, 0, 0] h)) (.inl ⟨rfl, fun _ => q_move rfl⟩) ?_
                    refine Wr.pure (v := Value.int .i64 1) 17 rfl (by kernel_rfl) (.inr (fun _ h => st_take [0, 0, 0] h)) (.inl ⟨rfl, fun _ => q_move rfl⟩) ?_
                    refine Wr.pure (v := Value.pointer (some ⟨ba, 1, none⟩)) 18 rfl (by kernel_rfl) (.inr (fun _ h => st_take [0, 0, 0] h)) (.inl ⟨rfl, fun _ => q_idx_arr (m := 1) Tryz.underlying111 sz_3 rfl rfl (by decide) (by decide) rfl⟩) ?_
                    refine Wr.take (v := Value.int .i64 ((parseT (rd d 1)).1)) 19 rfl (by kernel_rfl) (fun _ h => st_take [0, 0, 0] h) (.inl ⟨rfl, q_load sc_3 rfl (.cel (i := 2) rfl rfl)⟩) ?_
                    refine Wr.pure (v := Value.int .i64 ((parseT (rd d 1)).1 % 2)) 20 rfl (by kernel_rfl) (.inr (fun _ h => st_take [0, 0, 0] h)) (.inl ⟨rfl, fun _ => q_rem (c := ((parseT (rd d 1)).1 % 2)) rfl rfl (by decide) (tmod2_eq r1.1)⟩) ?_
                    refine Wr.pure (v := Value.int .i64 1) 21 rfl (by kernel_rfl) (.inr (fun _ h => st_take [0, 0, 0] h)) (.inl ⟨rfl, fun _ => q_move rfl⟩) ?_
                    by_cases h6 : ((parseT (rd d 1)).1 % 2) = 1
                    ·
                      refine Wr.pure (v := Value.bool true) 22 rfl (by kernel_rfl) (.inr (fun _ h => st_take [0, 0, 0] h)) (.inl ⟨rfl, fun _ => q_eql (r := true) rfl rfl (decide_eq_true h6)⟩) ?_
                      refine Wr.pure (v := Value.bool true) 23 rfl (by kernel_rfl) (.inr (fun _ h => st_take [0, 0, 0] h)) (.inl ⟨rfl, fun _ => q_pick (t := true) rfl rfl⟩) ?_
                      refine Wr.pure (v := Value.bool true) 24 rfl (by kernel_rfl) (.inr (fun _ h => st_take [0, 0, 0] h)) (.inl ⟨rfl, fun _ => q_pick (t := false) rfl rfl⟩) ?_
                      refine Wr.done (by kernel_rfl) ?_
                      refine Wx.go ?_
                      refine Wc.yes rfl ?_
                      refine Wc.seq ?_
                      refine Wc.region ?_
                      refine Wl.q (v := Value.pointer none) (q_assign rfl) ?_
                      refine Wl.q (v := Value.int .i64 14) (q_assign rfl) ?_
                      refine Wl.done ?_
                      refine Wx.go ?_
                      refine Wc.ret ?_
                      refine Wx.blockRet ?_
                      refine Wx.thenRet ?_
                      refine Wx.thenRet ?_
                      refine Wx.blockRet ?_
                      refine Wx.thenRet ?_
                      refine Wx.fin2 rfl (.inl rfl) (fun w hs => ?_)
                      have e : openD d = (14, none) := (openD_T hd (by omega)).trans (openT_bad2 (by omega))
                      exact ⟨0, trivial, by rw [e]; rfl, by rw [e]; exact (st_drop (st_drop (st_pull [1, 1] hs)))⟩
                    ·
                      refine Wr.pure (v := Value.bool false) 22 rfl (by kernel_rfl) (.inr (fun _ h => st_take [0, 0, 0] h)) (.inl ⟨rfl, fun _ => q_eql (r := false) rfl rfl (decide_eq_false h6)⟩) ?_
                      refine Wr.pure (v := Value.bool false) 23 rfl (by kernel_rfl) (.inr (fun _ h => st_take [0, 0, 0] h)) (.inl ⟨rfl, fun _ => q_pick (t := true) rfl rfl⟩) ?_
                      refine Wr.pure (v := Value.bool false) 24 rfl (by kernel_rfl) (.inr (fun _ h => st_take [0, 0, 0] h)) (.inl ⟨rfl, fun _ => q_pick (t := false) rfl rfl⟩) ?_
                      refine Wr.done (by kernel_rfl) ?_
                      refine Wx.go ?_
                      refine Wc.no rfl ?_
                      refine Wc.skip ?_
                      refine Wx.blockEnd ?_
                      refine Wx.go ?_
                      refine Wc.region ?_
                      refine Wl.q (v := Value.int .i64 2) (q_add (c := 2) rfl rfl (by decide)) ?_
                      refine Wl.q (v := Value.int .i64 2) (q_move rfl) ?_
                      refine Wl.done ?_
                      refine Wx.again ?_
                      refine Wn.round ?_
                      refine Wc.seq ?_
                      refine Wc.region ?_
                      refine Wl.q (v := Value.bool false) (q_lss (r := false) rfl rfl (decide_eq_false (by decide))) ?_
                      refine Wl.done ?_
                      refine Wx.go ?_
                      refine Wc.seq ?_
                      refine Wc.no rfl ?_
                      refine Wc.exit ?_
                      refine Wx.thenExit ?_
                      refine Wx.thenExit ?_
                      refine Wx.out ?_
                      refine Wx.at () ⟨rfl, rfl, rfl, p0, p1, (by omega)⟩ (fun w hs => (st_pull [2, 1, 0] (hs)))
                  ·
                    refine Wr.pure (v := Value.bool false) 15 rfl (by kernel_rfl) (.inr (fun _ h => st_take [0, 0, 0] h)) (.inl ⟨rfl, fun _ => q_gtr (r := false) rfl rfl (decide_eq_false h5)⟩) ?_
                    refine Wr.pure (v := Value.bool false) 16 rfl (by kernel_rfl) (.inr (fun _ h => st_take [0, 0, 0] h)) (.inl ⟨rfl, fun _ => q_move rfl⟩) ?_
                    refine Wr.pure (v := undef) 17 rfl (by kernel_rfl) (.inr (fun _ h => st_take [0, 0, 0] h)) (.inr ⟨rfl, rfl⟩) ?_
                    refine Wr.pure (v := undef) 18 rfl (by kernel_rfl) (.inr (fun _ h => st_take [0, 0, 0] h)) (.inr ⟨rfl, rfl⟩) ?_
                    refine Wr.pure (v := undef) 19 rfl (by kernel_rfl) (.inr (fun _ h => st_take [0, 0, 0] h)) (.inr ⟨rfl, rfl⟩) ?_
                    refine Wr.pure (v := undef) 20 rfl (by kernel_rfl) (.inr (fun _ h => st_take [0, 0, 0] h)) (.inr ⟨rfl, rfl⟩) ?_
                    refine Wr.pure (v := undef) 21 rfl (by kernel_rfl) (.inr (fun _ h => st_take [0, 0, 0] h)) (.inr ⟨rfl, rfl⟩) ?_
                    refine Wr.pure (v := undef) 22 rfl (by kernel_rfl) (.inr (fun _ h => st_take [0, 0, 0] h)) (.inr ⟨rfl, rfl⟩) ?_
                    refine Wr.pure (v := Value.bool false) 23 rfl (by kernel_rfl) (.inr (fun _ h => st_take [0, 0, 0] h)) (.inl ⟨rfl, fun _ => q_pick (t := false) rfl rfl⟩) ?_
                    refine Wr.pure (v := Value.bool false) 24 rfl (by kernel_rfl) (.inr (fun _ h => st_take [0, 0, 0] h)) (.inl ⟨rfl, fun _ => q_pick (t := false) rfl rfl⟩) ?_
                    refine Wr.done (by kernel_rfl) ?_
                    refine Wx.go ?_
                    refine Wc.no rfl ?_
                    refine Wc.skip ?_
                    refine Wx.blockEnd ?_
                    refine Wx.go ?_
                    refine Wc.region ?_
                    refine Wl.q (v := Value.int .i64 2) (q_add (c := 2) rfl rfl (by decide)) ?_
                    refine Wl.q (v := Value.int .i64 2) (q_move rfl) ?_
                    refine Wl.done ?_
                    refine Wx.again ?_
                    refine Wn.round ?_
                    refine Wc.seq ?_
                    refine Wc.region ?_
                    refine Wl.q (v := Value.bool false) (q_lss (r := false) rfl rfl (decide_eq_false (by decide))) ?_
                    refine Wl.done ?_
                    refine Wx.go ?_
                    refine Wc.seq ?_
                    refine Wc.no rfl ?_
                    refine Wc.exit ?_
                    refine Wx.thenExit ?_
                    refine Wx.thenExit ?_
                    refine Wx.out ?_
                    refine Wx.at () ⟨rfl, rfl, rfl, p0, p1, (by omega)⟩ (fun w hs => (st_pull [2, 1, 0] (hs)))
              ·
                refine Wl.q (v := Value.bool false) (q_assign (Eq.trans rfl (congrArg Value.bool p1))) ?_
                refine Wl.done ?_
                refine Wx.go ?_
                refine Wc.seq ?_
                refine Wc.drawsS [] ((isDisk dp d) :: (pt bb 111 [Value.int .i64 ((parseT (rd d 0)).2.1), Value.int .i64 ((parseT (rd d 1)).2.1)]) :: (pt ba 111 [Value.int .i64 ((parseT (rd d 0)).1), Value.int .i64 ((parseT (rd d 1)).1)]) :: []) (by kernel_rfl) ?_
                refine Wr.pure (v := Value.bool false) 0 rfl (by kernel_rfl) (.inr (fun _ h => st_take [0, 0, 0] h)) (.inl ⟨rfl, fun _ => q_move rfl⟩) ?_
                refine Wr.pure (v := Value.bool true) 1 rfl (by kernel_rfl) (.inr (fun _ h => st_take [0, 0, 0] h)) (.inl ⟨rfl, fun _ => q_not rfl rfl⟩) ?_
                refine Wr.pure (v := Value.bool true) 2 rfl (by kernel_rfl) (.inr (fun _ h => st_take [0, 0, 0] h)) (.inl ⟨rfl, fun _ => q_move rfl⟩) ?_
                refine Wr.pure (v := undef) 3 rfl (by kernel_rfl) (.inr (fun _ h => st_take [0, 0, 0] h)) (.inr ⟨rfl, rfl⟩) ?_
                refine Wr.pure (v := undef) 4 rfl (by kernel_rfl) (.inr (fun _ h => st_take [0, 0, 0] h)) (.inr ⟨rfl, rfl⟩) ?_
                refine Wr.pure (v := undef) 5 rfl (by kernel_rfl) (.inr (fun _ h => st_take [0, 0, 0] h)) (.inr ⟨rfl, rfl⟩) ?_
                refine Wr.pure (v := undef) 6 rfl (by kernel_rfl) (.inr (fun _ h => st_take [0, 0, 0] h)) (.inr ⟨rfl, rfl⟩) ?_
                refine Wr.pure (v := undef) 7 rfl (by kernel_rfl) (.inr (fun _ h => st_take [0, 0, 0] h)) (.inr ⟨rfl, rfl⟩) ?_
                refine Wr.pure (v := undef) 8 rfl (by kernel_rfl) (.inr (fun _ h => st_take [0, 0, 0] h)) (.inr ⟨rfl, rfl⟩) ?_
                refine Wr.pure (v := undef) 9 rfl (by kernel_rfl) (.inr (fun _ h => st_take [0, 0, 0] h)) (.inr ⟨rfl, rfl⟩) ?_
                refine Wr.pure (v := Value.bool true) 10 rfl (by kernel_rfl) (.inr (fun _ h => st_take [0, 0, 0] h)) (.inl ⟨rfl, fun _ => q_pick (t := true) rfl rfl⟩) ?_
                refine Wr.pure (v := Value.bool true) 11 rfl (by kernel_rfl) (.inr (fun _ h => st_take [0, 0, 0] h)) (.inl ⟨rfl, fun _ => q_move rfl⟩) ?_
                refine Wr.pure (v := undef) 12 rfl (by kernel_rfl) (.inr (fun _ h => st_take [0, 0, 0] h)) (.inr ⟨rfl, rfl⟩) ?_
                refine Wr.pure (v := undef) 13 rfl (by kernel_rfl) (.inr (fun _ h => st_take [0, 0, 0] h)) (.inr ⟨rfl, rfl⟩) ?_
                refine Wr.pure (v := undef) 14 rfl (by kernel_rfl) (.inr (fun _ h => st_take [0, 0, 0] h)) (.inr ⟨rfl, rfl⟩) ?_
                refine Wr.pure (v := undef) 15 rfl (by kernel_rfl) (.inr (fun _ h => st_take [0, 0, 0] h)) (.inr ⟨rfl, rfl⟩) ?_
                refine Wr.pure (v := undef) 16 rfl (by kernel_rfl) (.inr (fun _ h => st_take [0, 0, 0] h)) (.inr ⟨rfl, rfl⟩) ?_
                refine Wr.pure (v := undef) 17 rfl (by kernel_rfl) (.inr (fun _ h => st_take [0, 0, 0] h)) (.inr ⟨rfl, rfl⟩) ?_
                refine Wr.pure (v := undef) 18 rfl (by kernel_rfl) (.inr (fun _ h => st_take [0, 0, 0] h)) (.inr ⟨rfl, rfl⟩) ?_
                refine Wr.pure (v := undef) 19 rfl (by kernel_rfl) (.inr (fun _ h => st_take [0, 0, 0] h)) (.inr ⟨rfl, rfl⟩) ?_
                refine Wr.pure (v := undef) 20 rfl (by kernel_rfl) (.inr (fun _ h => st_take [0, 0, 0] h)) (.inr ⟨rfl, rfl⟩) ?_
                refine Wr.pure (v := undef) 21 rfl (by kernel_rfl) (.inr (fun _ h => st_take [0, 0, 0] h)) (.inr ⟨rfl, rfl⟩) ?_
                refine Wr.pure (v := undef) 22 rfl (by kernel_rfl) (.inr (fun _ h => st_take [0, 0, 0] h)) (.inr ⟨rfl, rfl⟩) ?_
                refine Wr.pure (v := undef) 23 rfl (by kernel_rfl) (.inr (fun _ h => st_take [0, 0, 0] h)) (.inr ⟨rfl, rfl⟩) ?_
                refine Wr.pure (v := Value.bool true) 24 rfl (by kernel_rfl) (.inr (fun _ h => st_take [0, 0, 0] h)) (.inl ⟨rfl, fun _ => q_pick (t := true) rfl rfl⟩) ?_
                refine Wr.done (by kernel_rfl) ?_
                refine Wx.go ?_
                refine Wc.yes rfl ?_
                refine Wc.seq ?_
                refine Wc.region ?_
                refine Wl.q (v := Value.pointer none) (q_assign rfl) ?_
                refine Wl.q (v := Value.int .i64 14) (q_assign rfl) ?_
                refine Wl.done ?_
                refine Wx.go ?_
                refine Wc.ret ?_
                refine Wx.blockRet ?_
                refine Wx.thenRet ?_
                refine Wx.thenRet ?_
                refine Wx.blockRet ?_
                refine Wx.thenRet ?_
                refine Wx.fin2 rfl (.inl rfl) (fun w hs => ?_)
                have e : openD d = (14, none) := (openD_T hd (by omega)).trans (openT_bad1 (.inr p1))
                exact ⟨0, trivial, by rw [e]; rfl, by rw [e]; exact (st_drop (st_drop (st_pull [1, 1] hs)))⟩
          ·
            refine Wr.pure (v := Value.bool false) 15 rfl (by kernel_rfl) (.inr (fun _ h => st_take [0, 0, 0] h)) (.inl ⟨rfl, fun _ => q_gtr (r := false) rfl rfl (decide_eq_false h2)⟩) ?_
            refine Wr.pure (v := Value.bool false) 16 rfl (by kernel_rfl) (.inr (fun _ h => st_take [0, 0, 0] h)) (.inl ⟨rfl, fun _ => q_move rfl⟩) ?_
            refine Wr.pure (v := undef) 17 rfl (by kernel_rfl) (.inr (fun _ h => st_take [0, 0, 0] h)) (.inr ⟨rfl, rfl⟩) ?_
            refine Wr.pure (v := undef) 18 rfl (by kernel_rfl) (.inr (fun _ h => st_take [0, 0, 0] h)) (.inr ⟨rfl, rfl⟩) ?_
            refine Wr.pure (v := undef) 19 rfl (by kernel_rfl) (.inr (fun _ h => st_take [0, 0, 0] h)) (.inr ⟨rfl, rfl⟩) ?_
            refine Wr.pure (v := undef) 20 rfl (by kernel_rfl) (.inr (fun _ h => st_take [0, 0, 0] h)) (.inr ⟨rfl, rfl⟩) ?_
            refine Wr.pure (v := undef) 21 rfl (by kernel_rfl) (.inr (fun _ h => st_take [0, 0, 0] h)) (.inr ⟨rfl, rfl⟩) ?_
            refine Wr.pure (v := undef) 22 rfl (by kernel_rfl) (.inr (fun _ h => st_take [0, 0, 0] h)) (.inr ⟨rfl, rfl⟩) ?_
            refine Wr.pure (v := Value.bool false) 23 rfl (by kernel_rfl) (.inr (fun _ h => st_take [0, 0, 0] h)) (.inl ⟨rfl, fun _ => q_pick (t := false) rfl rfl⟩) ?_
            refine Wr.pure (v := Value.bool false) 24 rfl (by kernel_rfl) (.inr (fun _ h => st_take [0, 0, 0] h)) (.inl ⟨rfl, fun _ => q_pick (t := false) rfl rfl⟩) ?_
            refine Wr.done (by kernel_rfl) ?_
            refine Wx.go ?_
            refine Wc.no rfl ?_
            refine Wc.skip ?_
            refine Wx.blockEnd ?_
            refine Wx.go ?_
            refine Wc.region ?_
            refine Wl.q (v := Value.int .i64 1) (q_add (c := 1) rfl rfl (by decide)) ?_
            refine Wl.q (v := Value.int .i64 1) (q_move rfl) ?_
            refine Wl.done ?_
            refine Wx.again ?_
            refine Wn.round ?_
            refine Wc.seq ?_
            refine Wc.region ?_
            refine Wl.q (v := Value.bool true) (q_lss (r := true) rfl rfl (decide_eq_true (by decide))) ?_
            refine Wl.done ?_
            refine Wx.go ?_
            refine Wc.seq ?_
            refine Wc.yes rfl ?_
            refine Wc.skip ?_
            refine Wx.go ?_
            refine Wc.seq ?_
            refine Wc.block ?_
            refine Wc.seq ?_
            refine Wc.region ?_
            refine Wl.q (v := Value.int .i64 1) (q_move rfl) ?_
            refine Wl.q (v := Value.int .i64 1) (q_assign rfl) ?_
            refine Wl.done ?_
            refine Wx.go ?_
            refine Wc.seq ?_
            refine Wc.region ?_
            refine Wl.q (v := Value.pointer (some ⟨dp, 0, none⟩)) (q_move rfl) ?_
            refine Wl.q (v := Value.int .i64 1) (q_move rfl) ?_
            refine Wl.e (e_call (F := (pt bb 111 [Value.int .i64 ((parseT (rd d 0)).2.1), Value.int .i64 0]) :: (pt ba 111 [Value.int .i64 ((parseT (rd d 0)).1), Value.int .i64 0]) :: F) (args := [Value.pointer (some ⟨dp, 0, none⟩), Value.int .i64 1]) Tryz.call74 rfl (Con.eqs (val' := fun _ => Value.tuple #[Value.string (rd d 1), Value.int .i64 0]) (post' := fun _ => [isDisk dp d]) (read_c W0 dp d 1 hsn) (fun _ => (by rw [show d.read 1 = (rd d 1, 0) from rd_read (i := 1) hd (by omega)])) (fun _ => rfl))) (fun _ _ => ?_)
            refine Wl.imp (L' := (isDisk dp d) :: (pt bb 111 [Value.int .i64 ((parseT (rd d 0)).2.1), Value.int .i64 0]) :: (pt ba 111 [Value.int .i64 ((parseT (rd d 0)).1), Value.int .i64 0]) :: F) (fun _ h => h) ?_
            refine Wl.q (v := Value.tuple #[Value.string (rd d 1), Value.int .i64 0]) (q_move rfl) ?_
            refine Wl.q (v := Value.string (rd d 1)) (q_extract (i := 0) rfl rfl) ?_
            refine Wl.q (v := Value.int .i64 0) (q_extract (i := 1) rfl rfl) ?_
            refine Wl.q (v := Value.string (rd d 1)) (q_assign rfl) ?_
            refine Wl.q (v := Value.int .i64 0) (q_assign rfl) ?_
            refine Wl.done ?_
            refine Wx.go ?_
            refine Wc.seq ?_
            refine Wc.seq ?_
            refine Wc.region ?_
            refine Wl.q (v := Value.int .i64 0) (q_move rfl) ?_
            refine Wl.q (v := Value.bool false) (q_neq (r := true) rfl rfl (decide_eq_true (by decide))) ?_
            refine Wl.done ?_
            refine Wx.go ?_
            refine Wc.no rfl ?_
            refine Wc.skip ?_
            refine Wx.go ?_
            refine Wc.seq ?_
            refine Wc.region ?_
            refine Wl.q (v := Value.bool false) (q_assign rfl) ?_
            refine Wl.done ?_
            refine Wx.go ?_
            refine Wc.seq ?_
            refine Wc.region ?_
            refine Wl.q (v := Value.int .i64 1) (q_move rfl) ?_
            refine Wl.q (v := Value.int .i64 1) (q_move rfl) ?_
            refine Wl.q (v := Value.string (rd d 1)) (q_move rfl) ?_
            refine Wl.e (e_call (F := (isDisk dp d) :: (pt bb 111 [Value.int .i64 ((parseT (rd d 0)).2.1), Value.int .i64 0]) :: (pt ba 111 [Value.int .i64 ((parseT (rd d 0)).1), Value.int .i64 0]) :: F) (args := [Value.string (rd d 1)]) Tryz.call75 rfl (parse_c W0 (rd d 1) (rd_size hw (by omega)))) (fun _ _ => ?_)
            refine Wl.imp (L' := (isDisk dp d) :: (pt bb 111 [Value.int .i64 ((parseT (rd d 0)).2.1), Value.int .i64 0]) :: (pt ba 111 [Value.int .i64 ((parseT (rd d 0)).1), Value.int .i64 0]) :: F) (fun _ h => h) ?_
            refine Wl.q (v := Value.tuple #[Value.int .i64 ((parseT (rd d 1)).1), Value.int .i64 ((parseT (rd d 1)).2.1), Value.bool ((parseT (rd d 1)).2.2)]) (q_move rfl) ?_
            refine Wl.q (v := Value.int .i64 ((parseT (rd d 1)).1)) (q_extract (i := 0) rfl rfl) ?_
            refine Wl.q (v := Value.int .i64 ((parseT (rd d 1)).2.1)) (q_extract (i := 1) rfl rfl) ?_
            refine Wl.q (v := Value.bool ((parseT (rd d 1)).2.2)) (q_extract (i := 2) rfl rfl) ?_
            refine Wl.q (v := Value.pointer (some ⟨ba, 1, none⟩)) (q_idx_arr (m := 1) Tryz.underlying111 sz_3 rfl rfl (by decide) (by decide) rfl) ?_
            refine Wl.e (e_store (i := 2) (v := Value.int .i64 ((parseT (rd d 1)).1)) sz_3 rfl rfl (fun _ _ => rfl) rfl (by simp)) (fun _ _ => ?_)
            refine Wl.imp (L' := (isDisk dp d) :: (pt bb 111 [Value.int .i64 ((parseT (rd d 0)).2.1), Value.int .i64 0]) :: (pt ba 111 [Value.int .i64 ((parseT (rd d 0)).1), Value.int .i64 ((parseT (rd d 1)).1)]) :: F) (fun _ h => h) ?_
            refine Wl.q (v := Value.pointer (some ⟨bb, 1, none⟩)) (q_idx_arr (m := 1) Tryz.underlying111 sz_3 rfl rfl (by decide) (by decide) rfl) ?_
            refine Wl.e (e_store (i := 1) (v := Value.int .i64 ((parseT (rd d 1)).2.1)) sz_3 rfl rfl (fun _ _ => rfl) rfl (by simp)) (fun _ _ => ?_)
            refine Wl.imp (L' := (isDisk dp d) :: (pt bb 111 [Value.int .i64 ((parseT (rd d 0)).2.1), Value.int .i64 ((parseT (rd d 1)).2.1)]) :: (pt ba 111 [Value.int .i64 ((parseT (rd d 0)).1), Value.int .i64 ((parseT (rd d 1)).1)]) :: F) (fun _ h => h) ?_
            rcases Bool.eq_false_or_eq_true (parseT (rd d 1)).2.2 with p1 | p1
            ·
              have r1 := parseT_rng p1
              have w1 := wrap_succ r1.1 r1.2.1
              refine Wl.q (v := Value.bool true) (q_assign (Eq.trans rfl (congrArg Value.bool p1))) ?_
              refine Wl.done ?_
              refine Wx.go ?_
              refine Wc.seq ?_
              refine Wc.drawsS [] ((isDisk dp d) :: (pt bb 111 [Value.int .i64 ((parseT (rd d 0)).2.1), Value.int .i64 ((parseT (rd d 1)).2.1)]) :: (pt ba 111 [Value.int .i64 ((parseT (rd d 0)).1), Value.int .i64 ((parseT (rd d 1)).1)]) :: []) (by kernel_rfl) ?_
              refine Wr.pure (v := Value.bool true) 0 rfl (by kernel_rfl) (.inr (fun _ h => st_take [0, 0, 0] h)) (.inl ⟨rfl, fun _ => q_move rfl⟩) ?_
              refine Wr.pure (v := Value.bool false) 1 rfl (by kernel_rfl) (.inr (fun _ h => st_take [0, 0, 0] h)) (.inl ⟨rfl, fun _ => q_not rfl rfl⟩) ?_
              refine Wr.pure (v := Value.bool false) 2 rfl (by kernel_rfl) (.inr (fun _ h => st_take [0, 0, 0] h)) (.inl ⟨rfl, fun _ => q_move rfl⟩) ?_
              refine Wr.pure (v := Value.int .i64 1) 3 rfl (by kernel_rfl) (.inr (fun _ h => st_take [0, 0, 0] h)) (.inl ⟨rfl, fun _ => q_move rfl⟩) ?_
              refine Wr.pure (v := Value.pointer (some ⟨bb, 1, none⟩)) 4 rfl (by kernel_rfl) (.inr (fun _ h => st_take [0, 0, 0] h)) (.inl ⟨rfl, fun _ => q_idx_arr (m := 1) Tryz.underlying111 sz_3 rfl rfl (by decide) (by decide) rfl⟩) ?_
              refine Wr.take (v := Value.int .i64 ((parseT (rd d 1)).2.1)) 5 rfl (by kernel_rfl) (fun _ h => st_take [0, 0, 0] h) (.inl ⟨rfl, q_load sc_3 rfl (.cel (i := 1) rfl rfl)⟩) ?_
              refine Wr.pure (v := Value.pointer (some ⟨dp, 0, none⟩)) 6 rfl (by kernel_rfl) (.inr (fun _ h => st_take [0, 0, 0] h)) (.inl ⟨rfl, fun _ => q_move rfl⟩) ?_
              refine Wr.e 7 (by kernel_rfl) rfl (e_call (F := (pt bb 111 [Value.int .i64 ((parseT (rd d 0)).2.1), Value.int .i64 ((parseT (rd d 1)).2.1)]) :: (pt ba 111 [Value.int .i64 ((parseT (rd d 0)).1), Value.int .i64 ((parseT (rd d 1)).1)]) :: F) (args := [Value.pointer (some ⟨dp, 0, none⟩)]) Tryz.call76 rfl (sectors_c W0 dp d hn1 hm)) (.inr fun _ _ _ h => st_take [0, 0, 0] h) (fun _ _ => ?_)
              refine Wr.imp (L' := (isDisk dp d) :: (pt bb 111 [Value.int .i64 ((parseT (rd d 0)).2.1), Value.int .i64 ((parseT (rd d 1)).2.1)]) :: (pt ba 111 [Value.int .i64 ((parseT (rd d 0)).1), Value.int .i64 ((parseT (rd d 1)).1)]) :: F) (fun _ h => h) ?_
              refine Wr.pure (v := Value.int .i64 (((half d.secs) * 64 : Nat) : Int)) 8 rfl (by kernel_rfl) (.inr (fun _ h => st_take [0, 0, 0] h)) (.inl ⟨rfl, fun _ => q_mul (c := (((half d.secs) * 64 : Nat) : Int)) rfl rfl (by rw [wrap_i64] <;> omega)⟩) ?_
              by_cases h7 : (parseT (rd d 1)).2.1 > (((half d.secs) * 64 : Nat) : Int)
              ·
                refine Wr.pure (v := Value.bool true) 9 rfl (by kernel_rfl) (.inr (fun _ h => st_take [0, 0, 0] h)) (.inl ⟨rfl, fun _ => q_gtr (r := true) rfl rfl (decide_eq_true h7)⟩) ?_
                refine Wr.pure (v := Value.bool true) 10 rfl (by kernel_rfl) (.inr (fun _ h => st_take [0, 0, 0] h)) (.inl ⟨rfl, fun _ => q_pick (t := false) rfl rfl⟩) ?_
                refine Wr.pure (v := Value.bool true) 11 rfl (by kernel_rfl) (.inr (fun _ h => st_take [0, 0, 0] h)) (.inl ⟨rfl, fun _ => q_move rfl⟩) ?_
                refine Wr.pure (v := undef) 12 rfl (by kernel_rfl) (.inr (fun _ h => st_take [0, 0, 0] h)) (.inr ⟨rfl, rfl⟩) ?_
                refine Wr.pure (v := undef) 13 rfl (by kernel_rfl) (.inr (fun _ h => st_take [0, 0, 0] h)) (.inr ⟨rfl, rfl⟩) ?_
                refine Wr.pure (v := undef) 14 rfl (by kernel_rfl) (.inr (fun _ h => st_take [0, 0, 0] h)) (.inr ⟨rfl, rfl⟩) ?_
                refine Wr.pure (v := undef) 15 rfl (by kernel_rfl) (.inr (fun _ h => st_take [0, 0, 0] h)) (.inr ⟨rfl, rfl⟩) ?_
                refine Wr.pure (v := undef) 16 rfl (by kernel_rfl) (.inr (fun _ h => st_take [0, 0, 0] h)) (.inr ⟨rfl, rfl⟩) ?_
                refine Wr.pure (v := undef) 17 rfl (by kernel_rfl) (.inr (fun _ h => st_take [0, 0, 0] h)) (.inr ⟨rfl, rfl⟩) ?_
                refine Wr.pure (v := undef) 18 rfl (by kernel_rfl) (.inr (fun _ h => st_take [0, 0, 0] h)) (.inr ⟨rfl, rfl⟩) ?_
                refine Wr.pure (v := undef) 19 rfl (by kernel_rfl) (.inr (fun _ h => st_take [0, 0, 0] h)) (.inr ⟨rfl, rfl⟩) ?_
                refine Wr.pure (v := undef) 20 rfl (by kernel_rfl) (.inr (fun _ h => st_take [0, 0, 0] h)) (.inr ⟨rfl, rfl⟩) ?_
                refine Wr.pure (v := undef) 21 rfl (by kernel_rfl) (.inr (fun _ h => st_take [0, 0, 0] h)) (.inr ⟨rfl, rfl⟩) ?_
                refine Wr.pure (v := undef) 22 rfl (by kernel_rfl) (.inr (fun _ h => st_take [0, 0, 0] h)) (.inr ⟨rfl, rfl⟩) ?_
                refine Wr.pure (v := undef) 23 rfl (by kernel_rfl) (.inr (fun _ h => st_take [0, 0, 0] h)) (.inr ⟨rfl, rfl⟩) ?_
                refine Wr.pure (v := Value.bool true) 24 rfl (by kernel_rfl) (.inr (fun _ h => st_take [0, 0, 0] h)) (.inl ⟨rfl, fun _ => q_pick (t := true) rfl rfl⟩) ?_
                refine Wr.done (by kernel_rfl) ?_
                refine Wx.go ?_
                refine Wc.yes rfl ?_
                refine Wc.seq ?_
                refine Wc.region ?_
                refine Wl.q (v := Value.pointer none) (q_assign rfl) ?_
                refine Wl.q (v := Value.int .i64 14) (q_assign rfl) ?_
                refine Wl.done ?_
                refine Wx.go ?_
                refine Wc.ret ?_
                refine Wx.blockRet ?_
                refine Wx.thenRet ?_
                refine Wx.thenRet ?_
                refine Wx.blockRet ?_
                refine Wx.thenRet ?_
                refine Wx.fin2 rfl (.inl rfl) (fun w hs => ?_)
                have e : openD d = (14, none) := (openD_T hd (by omega)).trans (openT_bad2 (by omega))
                exact ⟨0, trivial, by rw [e]; rfl, by rw [e]; exact (st_drop (st_drop (st_pull [1, 1] hs)))⟩
              ·
                refine Wr.pure (v := Value.bool false) 9 rfl (by kernel_rfl) (.inr (fun _ h => st_take [0, 0, 0] h)) (.inl ⟨rfl, fun _ => q_gtr (r := false) rfl rfl (decide_eq_false h7)⟩) ?_
                refine Wr.pure (v := Value.bool false) 10 rfl (by kernel_rfl) (.inr (fun _ h => st_take [0, 0, 0] h)) (.inl ⟨rfl, fun _ => q_pick (t := false) rfl rfl⟩) ?_
                refine Wr.pure (v := Value.bool false) 11 rfl (by kernel_rfl) (.inr (fun _ h => st_take [0, 0, 0] h)) (.inl ⟨rfl, fun _ => q_move rfl⟩) ?_
                refine Wr.pure (v := Value.int .i64 1) 12 rfl (by kernel_rfl) (.inr (fun _ h => st_take [0, 0, 0] h)) (.inl ⟨rfl, fun _ => q_move rfl⟩) ?_
                refine Wr.pure (v := Value.pointer (some ⟨ba, 1, none⟩)) 13 rfl (by kernel_rfl) (.inr (fun _ h => st_take [0, 0, 0] h)) (.inl ⟨rfl, fun _ => q_idx_arr (m := 1) Tryz.underlying111 sz_3 rfl rfl (by decide) (by decide) rfl⟩) ?_
                refine Wr.take (v := Value.int .i64 ((parseT (rd d 1)).1)) 14 rfl (by kernel_rfl) (fun _ h => st_take [0, 0, 0] h) (.inl ⟨rfl, q_load sc_3 rfl (.cel (i := 2) rfl rfl)⟩) ?_
                by_cases h8 : (parseT (rd d 1)).1 > 0
                ·
                  refine Wr.pure (v := Value.bool true) 15 rfl (by kernel_rfl) (.inr (fun _ h => st_take [0, 0, 0] h)) (.inl ⟨rfl, fun _ => q_gtr (r := true) rfl rfl (decide_eq_true h8)⟩) ?_
                  refine Wr.pure (v := Value.bool true) 16 rfl (by kernel_rfl) (.inr (fun _ h => st_take [0, 0, 0] h)) (.inl ⟨rfl, fun _ => q_move rfl⟩) ?_
                  refine Wr.pure (v := Value.int .i64 1) 17 rfl (by kernel_rfl) (.inr (fun _ h => st_take [0, 0, 0] h)) (.inl ⟨rfl, fun _ => q_move rfl⟩) ?_
                  refine Wr.pure (v := Value.pointer (some ⟨ba, 1, none⟩)) 18 rfl (by kernel_rfl) (.inr (fun _ h => st_take [0, 0, 0] h)) (.inl ⟨rfl, fun _ => q_idx_arr (m := 1) Tryz.underlying111 sz_3 rfl rfl (by decide) (by decide) rfl⟩) ?_
                  refine Wr.take (v := Value.int .i64 ((parseT (rd d 1)).1)) 19 rfl (by kernel_rfl) (fun _ h => st_take [0, 0, 0] h) (.inl ⟨rfl, q_load sc_3 rfl (.cel (i := 2) rfl rfl)⟩) ?_
                  refine Wr.pure (v := Value.int .i64 ((parseT (rd d 1)).1 % 2)) 20 rfl (by kernel_rfl) (.inr (fun _ h => st_take [0, 0, 0] h)) (.inl ⟨rfl, fun _ => q_rem (c := ((parseT (rd d 1)).1 % 2)) rfl rfl (by decide) (tmod2_eq r1.1)⟩) ?_
                  refine Wr.pure (v := Value.int .i64 1) 21 rfl (by kernel_rfl) (.inr (fun _ h => st_take [0, 0, 0] h)) (.inl ⟨rfl, fun _ => q_move rfl⟩) ?_
                  by_cases h9 : ((parseT (rd d 1)).1 % 2) = 1
                  ·
                    refine Wr.pure (v := Value.bool true) 22 rfl (by kernel_rfl) (.inr (fun _ h => st_take [0, 0, 0] h)) (.inl ⟨rfl, fun _ => q_eql (r := true) rfl rfl (decide_eq_true h9)⟩) ?_
                    refine Wr.pure (v := Value.bool true) 23 rfl (by kernel_rfl) (.inr (fun _ h => st_take [0, 0, 0] h)) (.inl ⟨rfl, fun _ => q_pick (t := true) rfl rfl⟩) ?_
                    refine Wr.pure (v := Value.bool true) 24 rfl (by kernel_rfl) (.inr (fun _ h => st_take [0, 0, 0] h)) (.inl ⟨rfl, fun _ => q_pick (t := false) rfl rfl⟩) ?_
                    refine Wr.done (by kernel_rfl) ?_
                    refine Wx.go ?_
                    refine Wc.yes rfl ?_
                    refine Wc.seq ?_
                    refine Wc.region ?_
                    refine Wl.q (v := Value.pointer none) (q_assign rfl) ?_
                    refine Wl.q (v := Value.int .i64 14) (q_assign rfl) ?_
                    refine Wl.done ?_
                    refine Wx.go ?_
                    refine Wc.ret ?_
                    refine Wx.blockRet ?_
                    refine Wx.thenRet ?_
                    refine Wx.thenRet ?_
                    refine Wx.blockRet ?_
                    refine Wx.thenRet ?_
                    refine Wx.fin2 rfl (.inl rfl) (fun w hs => ?_)
                    have e : openD d = (14, none) := (openD_T hd (by omega)).trans (openT_bad2 (by omega))
                    exact ⟨0, trivial, by rw [e]; rfl, by rw [e]; exact (st_drop (st_drop (st_pull [1, 1] hs)))⟩
                  ·
                    refine Wr.pure (v := Value.bool false) 22 rfl (by kernel_rfl) (.inr (fun _ h => st_take [0, 0, 0] h)) (.inl ⟨rfl, fun _ => q_eql (r := false) rfl rfl (decide_eq_false h9)⟩) ?_
                    refine Wr.pure (v := Value.bool false) 23 rfl (by kernel_rfl) (.inr (fun _ h => st_take [0, 0, 0] h)) (.inl ⟨rfl, fun _ => q_pick (t := true) rfl rfl⟩) ?_
                    refine Wr.pure (v := Value.bool false) 24 rfl (by kernel_rfl) (.inr (fun _ h => st_take [0, 0, 0] h)) (.inl ⟨rfl, fun _ => q_pick (t := false) rfl rfl⟩) ?_
                    refine Wr.done (by kernel_rfl) ?_
                    refine Wx.go ?_
                    refine Wc.no rfl ?_
                    refine Wc.skip ?_
                    refine Wx.blockEnd ?_
                    refine Wx.go ?_
                    refine Wc.region ?_
                    refine Wl.q (v := Value.int .i64 2) (q_add (c := 2) rfl rfl (by decide)) ?_
                    refine Wl.q (v := Value.int .i64 2) (q_move rfl) ?_
                    refine Wl.done ?_
                    refine Wx.again ?_
                    refine Wn.round ?_
                    refine Wc.seq ?_
                    refine Wc.region ?_
                    refine Wl.q (v := Value.bool false) (q_lss (r := false) rfl rfl (decide_eq_false (by decide))) ?_
                    refine Wl.done ?_
                    refine Wx.go ?_
                    refine Wc.seq ?_
                    refine Wc.no rfl ?_
                    refine Wc.exit ?_
                    refine Wx.thenExit ?_
                    refine Wx.thenExit ?_
                    refine Wx.out ?_
                    refine Wx.at () ⟨rfl, rfl, rfl, p0, p1, (by omega)⟩ (fun w hs => (st_pull [2, 1, 0] (hs)))
                ·
                  refine Wr.pure (v := Value.bool false) 15 rfl (by kernel_rfl) (.inr (fun _ h => st_take [0, 0, 0] h)) (.inl ⟨rfl, fun _ => q_gtr (r := false) rfl rfl (decide_eq_false h8)⟩) ?_
                  refine Wr.pure (v := Value.bool false) 16 rfl (by kernel_rfl) (.inr (fun _ h => st_take [0, 0, 0] h)) (.inl ⟨rfl, fun _ => q_move rfl⟩) ?_
                  refine Wr.pure (v := undef) 17 rfl (by kernel_rfl) (.inr (fun _ h => st_take [0, 0, 0] h)) (.inr ⟨rfl, rfl⟩) ?_
                  refine Wr.pure (v := undef) 18 rfl (by kernel_rfl) (.inr (fun _ h => st_take [0, 0, 0] h)) (.inr ⟨rfl, rfl⟩) ?_
                  refine Wr.pure (v := undef) 19 rfl (by kernel_rfl) (.inr (fun _ h => st_take [0, 0, 0] h)) (.inr ⟨rfl, rfl⟩) ?_
                  refine Wr.pure (v := undef) 20 rfl (by kernel_rfl) (.inr (fun _ h => st_take [0, 0, 0] h)) (.inr ⟨rfl, rfl⟩) ?_
                  refine Wr.pure (v := undef) 21 rfl (by kernel_rfl) (.inr (fun _ h => st_take [0, 0, 0] h)) (.inr ⟨rfl, rfl⟩) ?_
                  refine Wr.pure (v := undef) 22 rfl (by kernel_rfl) (.inr (fun _ h => st_take [0, 0, 0] h)) (.inr ⟨rfl, rfl⟩) ?_
                  refine Wr.pure (v := Value.bool false) 23 rfl (by kernel_rfl) (.inr (fun _ h => st_take [0, 0, 0] h)) (.inl ⟨rfl, fun _ => q_pick (t := false) rfl rfl⟩) ?_
                  refine Wr.pure (v := Value.bool false) 24 rfl (by kernel_rfl) (.inr (fun _ h => st_take [0, 0, 0] h)) (.inl ⟨rfl, fun _ => q_pick (t := false) rfl rfl⟩) ?_
                  refine Wr.done (by kernel_rfl) ?_
                  refine Wx.go ?_
                  refine Wc.no rfl ?_
                  refine Wc.skip ?_
                  refine Wx.blockEnd ?_
                  refine Wx.go ?_
                  refine Wc.region ?_
                  refine Wl.q (v := Value.int .i64 2) (q_add (c := 2) rfl rfl (by decide)) ?_
                  refine Wl.q (v := Value.int .i64 2) (q_move rfl) ?_
                  refine Wl.done ?_
                  refine Wx.again ?_
                  refine Wn.round ?_
                  refine Wc.seq ?_
                  refine Wc.region ?_
                  refine Wl.q (v := Value.bool false) (q_lss (r := false) rfl rfl (decide_eq_false (by decide))) ?_
                  refine Wl.done ?_
                  refine Wx.go ?_
                  refine Wc.seq ?_
                  refine Wc.no rfl ?_
                  refine Wc.exit ?_
                  refine Wx.thenExit ?_
                  refine Wx.thenExit ?_
                  refine Wx.out ?_
                  refine Wx.at () ⟨rfl, rfl, rfl, p0, p1, (by omega)⟩ (fun w hs => (st_pull [2, 1, 0] (hs)))
            ·
              refine Wl.q (v := Value.bool false) (q_assign (Eq.trans rfl (congrArg Value.bool p1))) ?_
              refine Wl.done ?_
              refine Wx.go ?_
              refine Wc.seq ?_
              refine Wc.drawsS [] ((isDisk dp d) :: (pt bb 111 [Value.int .i64 ((parseT (rd d 0)).2.1), Value.int .i64 ((parseT (rd d 1)).2.1)]) :: (pt ba 111 [Value.int .i64 ((parseT (rd d 0)).1), Value.int .i64 ((parseT (rd d 1)).1)]) :: []) (by kernel_rfl) ?_
              refine Wr.pure (v := Value.bool false) 0 rfl (by kernel_rfl) (.inr (fun _ h => st_take [0, 0, 0] h)) (.inl ⟨rfl, fun _ => q_move rfl⟩) ?_
              refine Wr.pure (v := Value.bool true) 1 rfl (by kernel_rfl) (.inr (fun _ h => st_take [0, 0, 0] h)) (.inl ⟨rfl, fun _ => q_not rfl rfl⟩) ?_
              refine Wr.pure (v := Value.bool true) 2 rfl (by kernel_rfl) (.inr (fun _ h => st_take [0, 0, 0] h)) (.inl ⟨rfl, fun _ => q_move rfl⟩) ?_
              refine Wr.pure (v := undef) 3 rfl (by kernel_rfl) (.inr (fun _ h => st_take [0, 0, 0] h)) (.inr ⟨rfl, rfl⟩) ?_
              refine Wr.pure (v := undef) 4 rfl (by kernel_rfl) (.inr (fun _ h => st_take [0, 0, 0] h)) (.inr ⟨rfl, rfl⟩) ?_
              refine Wr.pure (v := undef) 5 rfl (by kernel_rfl) (.inr (fun _ h => st_take [0, 0, 0] h)) (.inr ⟨rfl, rfl⟩) ?_
              refine Wr.pure (v := undef) 6 rfl (by kernel_rfl) (.inr (fun _ h => st_take [0, 0, 0] h)) (.inr ⟨rfl, rfl⟩) ?_
              refine Wr.pure (v := undef) 7 rfl (by kernel_rfl) (.inr (fun _ h => st_take [0, 0, 0] h)) (.inr ⟨rfl, rfl⟩) ?_
              refine Wr.pure (v := undef) 8 rfl (by kernel_rfl) (.inr (fun _ h => st_take [0, 0, 0] h)) (.inr ⟨rfl, rfl⟩) ?_
              refine Wr.pure (v := undef) 9 rfl (by kernel_rfl) (.inr (fun _ h => st_take [0, 0, 0] h)) (.inr ⟨rfl, rfl⟩) ?_
              refine Wr.pure (v := Value.bool true) 10 rfl (by kernel_rfl) (.inr (fun _ h => st_take [0, 0, 0] h)) (.inl ⟨rfl, fun _ => q_pick (t := true) rfl rfl⟩) ?_
              refine Wr.pure (v := Value.bool true) 11 rfl (by kernel_rfl) (.inr (fun _ h => st_take [0, 0, 0] h)) (.inl ⟨rfl, fun _ => q_move rfl⟩) ?_
              refine Wr.pure (v := undef) 12 rfl (by kernel_rfl) (.inr (fun _ h => st_take [0, 0, 0] h)) (.inr ⟨rfl, rfl⟩) ?_
              refine Wr.pure (v := undef) 13 rfl (by kernel_rfl) (.inr (fun _ h => st_take [0, 0, 0] h)) (.inr ⟨rfl, rfl⟩) ?_
              refine Wr.pure (v := undef) 14 rfl (by kernel_rfl) (.inr (fun _ h => st_take [0, 0, 0] h)) (.inr ⟨rfl, rfl⟩) ?_
              refine Wr.pure (v := undef) 15 rfl (by kernel_rfl) (.inr (fun _ h => st_take [0, 0, 0] h)) (.inr ⟨rfl, rfl⟩) ?_
              refine Wr.pure (v := undef) 16 rfl (by kernel_rfl) (.inr (fun _ h => st_take [0, 0, 0] h)) (.inr ⟨rfl, rfl⟩) ?_
              refine Wr.pure (v := undef) 17 rfl (by kernel_rfl) (.inr (fun _ h => st_take [0, 0, 0] h)) (.inr ⟨rfl, rfl⟩) ?_
              refine Wr.pure (v := undef) 18 rfl (by kernel_rfl) (.inr (fun _ h => st_take [0, 0, 0] h)) (.inr ⟨rfl, rfl⟩) ?_
              refine Wr.pure (v := undef) 19 rfl (by kernel_rfl) (.inr (fun _ h => st_take [0, 0, 0] h)) (.inr ⟨rfl, rfl⟩) ?_
              refine Wr.pure (v := undef) 20 rfl (by kernel_rfl) (.inr (fun _ h => st_take [0, 0, 0] h)) (.inr ⟨rfl, rfl⟩) ?_
              refine Wr.pure (v := undef) 21 rfl (by kernel_rfl) (.inr (fun _ h => st_take [0, 0, 0] h)) (.inr ⟨rfl, rfl⟩) ?_
              refine Wr.pure (v := undef) 22 rfl (by kernel_rfl) (.inr (fun _ h => st_take [0, 0, 0] h)) (.inr ⟨rfl, rfl⟩) ?_
              refine Wr.pure (v := undef) 23 rfl (by kernel_rfl) (.inr (fun _ h => st_take [0, 0, 0] h)) (.inr ⟨rfl, rfl⟩) ?_
              refine Wr.pure (v := Value.bool true) 24 rfl (by kernel_rfl) (.inr (fun _ h => st_take [0, 0, 0] h)) (.inl ⟨rfl, fun _ => q_pick (t := true) rfl rfl⟩) ?_
              refine Wr.done (by kernel_rfl) ?_
              refine Wx.go ?_
              refine Wc.yes rfl ?_
              refine Wc.seq ?_
              refine Wc.region ?_
              refine Wl.q (v := Value.pointer none) (q_assign rfl) ?_
              refine Wl.q (v := Value.int .i64 14) (q_assign rfl) ?_
              refine Wl.done ?_
              refine Wx.go ?_
              refine Wc.ret ?_
              refine Wx.blockRet ?_
              refine Wx.thenRet ?_
              refine Wx.thenRet ?_
              refine Wx.blockRet ?_
              refine Wx.thenRet ?_
              refine Wx.fin2 rfl (.inl rfl) (fun w hs => ?_)
              have e : openD d = (14, none) := (openD_T hd (by omega)).trans (openT_bad1 (.inr p1))
              exact ⟨0, trivial, by rw [e]; rfl, by rw [e]; exact (st_drop (st_drop (st_pull [1, 1] hs)))⟩
      ·
        refine Wl.q (v := Value.bool false) (q_assign (Eq.trans rfl (congrArg Value.bool p0))) ?_
        refine Wl.done ?_
        refine Wx.go ?_
        refine Wc.seq ?_
        refine Wc.drawsS [] ((isDisk dp d) :: (pt bb 111 [Value.int .i64 ((parseT (rd d 0)).2.1), Value.int .i64 0]) :: (pt ba 111 [Value.int .i64 ((parseT (rd d 0)).1), Value.int .i64 0]) :: []) (by kernel_rfl) ?_
        refine Wr.pure (v := Value.bool false) 0 rfl (by kernel_rfl) (.inr (fun _ h => st_take [0, 0, 0] h)) (.inl ⟨rfl, fun _ => q_move rfl⟩) ?_
        refine Wr.pure (v := Value.bool true) 1 rfl (by kernel_rfl) (.inr (fun _ h => st_take [0, 0, 0] h)) (.inl ⟨rfl, fun _ => q_not rfl rfl⟩) ?_
        refine Wr.pure (v := Value.bool true) 2 rfl (by kernel_rfl) (.inr (fun _ h => st_take [0, 0, 0] h)) (.inl ⟨rfl, fun _ => q_move rfl⟩) ?_
        refine Wr.pure (v := undef) 3 rfl (by kernel_rfl) (.inr (fun _ h => st_take [0, 0, 0] h)) (.inr ⟨rfl, rfl⟩) ?_
        refine Wr.pure (v := undef) 4 rfl (by kernel_rfl) (.inr (fun _ h => st_take [0, 0, 0] h)) (.inr ⟨rfl, rfl⟩) ?_
        refine Wr.pure (v := undef) 5 rfl (by kernel_rfl) (.inr (fun _ h => st_take [0, 0, 0] h)) (.inr ⟨rfl, rfl⟩) ?_
        refine Wr.pure (v := undef) 6 rfl (by kernel_rfl) (.inr (fun _ h => st_take [0, 0, 0] h)) (.inr ⟨rfl, rfl⟩) ?_
        refine Wr.pure (v := undef) 7 rfl (by kernel_rfl) (.inr (fun _ h => st_take [0, 0, 0] h)) (.inr ⟨rfl, rfl⟩) ?_
        refine Wr.pure (v := undef) 8 rfl (by kernel_rfl) (.inr (fun _ h => st_take [0, 0, 0] h)) (.inr ⟨rfl, rfl⟩) ?_
        refine Wr.pure (v := undef) 9 rfl (by kernel_rfl) (.inr (fun _ h => st_take [0, 0, 0] h)) (.inr ⟨rfl, rfl⟩) ?_
        refine Wr.pure (v := Value.bool true) 10 rfl (by kernel_rfl) (.inr (fun _ h => st_take [0, 0, 0] h)) (.inl ⟨rfl, fun _ => q_pick (t := true) rfl rfl⟩) ?_
        refine Wr.pure (v := Value.bool true) 11 rfl (by kernel_rfl) (.inr (fun _ h => st_take [0, 0, 0] h)) (.inl ⟨rfl, fun _ => q_move rfl⟩) ?_
        refine Wr.pure (v := undef) 12 rfl (by kernel_rfl) (.inr (fun _ h => st_take [0, 0, 0] h)) (.inr ⟨rfl, rfl⟩) ?_
        refine Wr.pure (v := undef) 13 rfl (by kernel_rfl) (.inr (fun _ h => st_take [0, 0, 0] h)) (.inr ⟨rfl, rfl⟩) ?_
        refine Wr.pure (v := undef) 14 rfl (by kernel_rfl) (.inr (fun _ h => st_take [0, 0, 0] h)) (.inr ⟨rfl, rfl⟩) ?_
        refine Wr.pure (v := undef) 15 rfl (by kernel_rfl) (.inr (fun _ h => st_take [0, 0, 0] h)) (.inr ⟨rfl, rfl⟩) ?_
        refine Wr.pure (v := undef) 16 rfl (by kernel_rfl) (.inr (fun _ h => st_take [0, 0, 0] h)) (.inr ⟨rfl, rfl⟩) ?_
        refine Wr.pure (v := undef) 17 rfl (by kernel_rfl) (.inr (fun _ h => st_take [0, 0, 0] h)) (.inr ⟨rfl, rfl⟩) ?_
        refine Wr.pure (v := undef) 18 rfl (by kernel_rfl) (.inr (fun _ h => st_take [0, 0, 0] h)) (.inr ⟨rfl, rfl⟩) ?_
        refine Wr.pure (v := undef) 19 rfl (by kernel_rfl) (.inr (fun _ h => st_take [0, 0, 0] h)) (.inr ⟨rfl, rfl⟩) ?_
        refine Wr.pure (v := undef) 20 rfl (by kernel_rfl) (.inr (fun _ h => st_take [0, 0, 0] h)) (.inr ⟨rfl, rfl⟩) ?_
        refine Wr.pure (v := undef) 21 rfl (by kernel_rfl) (.inr (fun _ h => st_take [0, 0, 0] h)) (.inr ⟨rfl, rfl⟩) ?_
        refine Wr.pure (v := undef) 22 rfl (by kernel_rfl) (.inr (fun _ h => st_take [0, 0, 0] h)) (.inr ⟨rfl, rfl⟩) ?_
        refine Wr.pure (v := undef) 23 rfl (by kernel_rfl) (.inr (fun _ h => st_take [0, 0, 0] h)) (.inr ⟨rfl, rfl⟩) ?_
        refine Wr.pure (v := Value.bool true) 24 rfl (by kernel_rfl) (.inr (fun _ h => st_take [0, 0, 0] h)) (.inl ⟨rfl, fun _ => q_pick (t := true) rfl rfl⟩) ?_
        refine Wr.done (by kernel_rfl) ?_
        refine Wx.go ?_
        refine Wc.yes rfl ?_
        refine Wc.seq ?_
        refine Wc.region ?_
        refine Wl.q (v := Value.pointer none) (q_assign rfl) ?_
        refine Wl.q (v := Value.int .i64 14) (q_assign rfl) ?_
        refine Wl.done ?_
        refine Wx.go ?_
        refine Wc.ret ?_
        refine Wx.blockRet ?_
        refine Wx.thenRet ?_
        refine Wx.thenRet ?_
        refine Wx.blockRet ?_
        refine Wx.thenRet ?_
        refine Wx.fin2 rfl (.inl rfl) (fun w hs => ?_)
        have e : openD d = (14, none) := (openD_T hd (by omega)).trans (openT_bad1 (.inl p0))
        exact ⟨0, trivial, by rw [e]; rfl, by rw [e]; exact (st_drop (st_drop (st_pull [1, 1] hs)))⟩
    · rintro _ E11 ⟨hE0_9, hE4_9, hE5_9, p0, p1, hnb⟩
      have r0 := parseT_rng p0
      have r1 := parseT_rng p1
      have w0 := wrap_succ r0.1 r0.2.1
      have w1 := wrap_succ r1.1 r1.2.1
      refine Wc.seq ?_
      refine Wc.region ?_
      refine Wl.q (v := Value.pointer (some ⟨dp, 0, none⟩)) (q_move hE0_9) ?_
      refine Wl.q (v := Value.agg #[Value.pointer (some ⟨dp, 0, none⟩), Value.string (⟨#[]⟩), Value.int .i64 0, Value.bool false]) (q_build (pl := [(0, 1), (1, 1), (2, 1), (3, 1)]) Tryz.underlying117 zo_117 (by kernel_rfl) (by kernel_rfl)) ?_
      refine Wl.e (e_box (x := .tmp 73) (vs := [Value.pointer (some ⟨dp, 0, none⟩), Value.string (⟨#[]⟩), Value.int .i64 0, Value.bool false]) rfl) (fun jb _ => ?_)
      refine Wl.imp (L' := (pt jb 117 ([Value.pointer (some ⟨dp, 0, none⟩), Value.string (⟨#[]⟩), Value.int .i64 0, Value.bool false])) :: (pt ba 111 [Value.int .i64 ((parseT (rd d 0)).1), Value.int .i64 ((parseT (rd d 1)).1)]) :: (pt bb 111 [Value.int .i64 ((parseT (rd d 0)).2.1), Value.int .i64 ((parseT (rd d 1)).2.1)]) :: (isDisk dp d) :: F) (fun _ h => h) ?_
      refine Wl.q (v := Value.pointer (some ⟨jb, 0, none⟩)) (q_assign rfl) ?_
      refine Wl.done ?_
      refine Wx.go ?_
      refine Wc.seq ?_
      refine Wc.seq ?_
      refine Wc.region ?_
      refine Wl.q (v := Value.int .i64 0) (q_assign rfl) ?_
      refine Wl.done ?_
      refine Wx.go ?_
      refine Wc.block ?_
      refine Wc.seq ?_
      refine Wc.region ?_
      refine Wl.q (v := Value.agg #[Value.int .i64 ((parseT (rd d 0)).1), Value.int .i64 ((parseT (rd d 1)).1)]) (q_loadAgg (vs := [Value.int .i64 ((parseT (rd d 0)).1), Value.int .i64 ((parseT (rd d 1)).1)]) ag_111 hE4_9 (Has.of_pt (i := 1) rfl rfl)) ?_
      refine Wl.q (v := Value.agg #[Value.int .i64 0, Value.int .i64 0]) (q_buildArr Tryz.underlying111 zo_111 sz_3 (by kernel_rfl)) ?_
      by_cases hz : (parseT (rd d 0)).1 = 0 ∧ (parseT (rd d 1)).1 = 0
      ·
        refine Wl.q (v := Value.bool true) (q_eql_agg (r := true) rfl rfl eg_111 (fun w => by rw [eqI2, decide_eq_true hz])) ?_
        refine Wl.q (v := Value.bool true) (q_assign rfl) ?_
        refine Wl.done ?_
        refine Wx.go ?_
        refine Wc.yes rfl ?_
        refine Wc.skip ?_
        refine Wx.blockEnd ?_
        refine Wx.go ?_
        refine Wc.seq ?_
        refine Wc.region ?_
        refine Wl.q (v := Value.pointer (some ⟨jb, 0, none⟩)) (q_move rfl) ?_
        refine Wl.q (v := Value.pointer (some ⟨jb, 0, none⟩)) (q_assign rfl) ?_
        refine Wl.q (v := Value.int .i64 0) (q_assign rfl) ?_
        refine Wl.done ?_
        refine Wx.go ?_
        refine Wc.ret ?_
        refine Wx.fin2 rfl (.inl rfl) (fun w hs => ?_)
        have e : openD d = (0, some (ByteArray.empty, 0)) := (openD_T hd (by omega)).trans (openT_zero p0 p1 (by omega) hz)
        exact ⟨jb, trivial, by rw [e]; rfl, by rw [e]; exact (st_drop (st_drop (st_pull [1, 1] hs)))⟩
      ·
        refine Wl.q (v := Value.bool false) (q_eql_agg (r := false) rfl rfl eg_111 (fun w => by rw [eqI2, decide_eq_false hz])) ?_
        refine Wl.q (v := Value.bool false) (q_assign rfl) ?_
        refine Wl.done ?_
        refine Wx.go ?_
        refine Wc.no rfl ?_
        refine Wc.seq ?_
        refine Wc.seq ?_
        refine Wc.region ?_
        refine Wl.q (v := Value.pointer (some ⟨ba, 0, none⟩)) (q_idx_arr (m := 0) Tryz.underlying111 sz_3 hE4_9 rfl (by decide) (by decide) rfl) ?_
        refine Wl.q (v := Value.int .i64 ((parseT (rd d 0)).1)) (q_load sc_3 rfl (.cel (i := 1) rfl rfl)) ?_
        refine Wl.q (v := Value.pointer (some ⟨ba, 1, none⟩)) (q_idx_arr (m := 1) Tryz.underlying111 sz_3 hE4_9 rfl (by decide) (by decide) rfl) ?_
        refine Wl.q (v := Value.int .i64 ((parseT (rd d 1)).1)) (q_load sc_3 rfl (.cel (i := 1) rfl rfl)) ?_
        refine Wl.q (v := Value.int .i64 (IntKind.i64.wrap ((parseT (rd d 1)).1 + 1))) (q_add (c := (IntKind.i64.wrap ((parseT (rd d 1)).1 + 1))) rfl rfl rfl) ?_
        by_cases h12 : (parseT (rd d 0)).1 = (IntKind.i64.wrap ((parseT (rd d 1)).1 + 1))
        ·
          refine Wl.q (v := Value.bool true) (q_eql (r := true) rfl rfl (decide_eq_true h12)) ?_
          refine Wl.q (v := Value.bool true) (q_assign rfl) ?_
          refine Wl.done ?_
          refine Wx.go ?_
          refine Wc.yes rfl ?_
          refine Wc.skip ?_
          refine Wx.go ?_
          refine Wc.yes rfl ?_
          refine Wc.seq ?_
          refine Wc.seq ?_
          refine Wc.region ?_
          refine Wl.q (v := Value.pointer (some ⟨ba, 1, none⟩)) (q_idx_arr (m := 1) Tryz.underlying111 sz_3 hE4_9 rfl (by decide) (by decide) rfl) ?_
          refine Wl.q (v := Value.int .i64 ((parseT (rd d 1)).1)) (q_load sc_3 rfl (.cel (i := 1) rfl rfl)) ?_
          refine Wl.q (v := Value.pointer (some ⟨ba, 0, none⟩)) (q_idx_arr (m := 0) Tryz.underlying111 sz_3 hE4_9 rfl (by decide) (by decide) rfl) ?_
          refine Wl.q (v := Value.int .i64 ((parseT (rd d 0)).1)) (q_load sc_3 rfl (.cel (i := 1) rfl rfl)) ?_
          by_cases h13 : (parseT (rd d 1)).1 > (parseT (rd d 0)).1
          ·
            refine Wl.q (v := Value.bool true) (q_gtr (r := true) rfl rfl (decide_eq_true h13)) ?_
            refine Wl.done ?_
            refine Wx.go ?_
            refine Wc.yes rfl ?_
            refine Wc.region ?_
            refine Wl.q (v := Value.int .i64 1) (q_assign rfl) ?_
            refine Wl.done ?_
            refine Wx.go ?_
            refine Wc.seq ?_
            refine Wc.region ?_
            refine Wl.q (v := Value.pointer (some ⟨jb, 0, none⟩)) (q_move rfl) ?_
            refine Wl.q (v := Value.int .i64 1) (q_move rfl) ?_
            refine Wl.q (v := Value.pointer (some ⟨ba, 1, none⟩)) (q_idx_arr (m := 1) Tryz.underlying111 sz_3 hE4_9 rfl (by decide) (by decide) rfl) ?_
            refine Wl.q (v := Value.int .i64 ((parseT (rd d 1)).1)) (q_load sc_3 rfl (.cel (i := 1) rfl rfl)) ?_
            refine Wl.q (v := Value.pointer (some ⟨jb, 0, none⟩)) (q_nil_ptr rfl) ?_
            refine Wl.q (v := Value.pointer (some ⟨jb, 2, none⟩)) (q_field (m := 2) fo_117_2 rfl rfl) ?_
            refine Wl.e (e_store (i := 0) (v := Value.int .i64 ((parseT (rd d 1)).1)) sz_3 rfl rfl (fun _ _ => rfl) rfl (by simp)) (fun _ _ => ?_)
            refine Wl.imp (L' := (pt jb 117 ([Value.pointer (some ⟨dp, 0, none⟩), Value.string (⟨#[]⟩), Value.int .i64 ((parseT (rd d 1)).1), Value.bool false])) :: (pt ba 111 [Value.int .i64 ((parseT (rd d 0)).1), Value.int .i64 ((parseT (rd d 1)).1)]) :: (pt bb 111 [Value.int .i64 ((parseT (rd d 0)).2.1), Value.int .i64 ((parseT (rd d 1)).2.1)]) :: (isDisk dp d) :: F) (fun _ h => h) ?_
            refine Wl.done ?_
            refine Wx.go ?_
            refine Wc.seq ?_
            refine Wc.region ?_
            refine Wl.q (v := Value.pointer (some ⟨jb, 0, none⟩)) (q_move rfl) ?_
            refine Wl.q (v := Value.pointer (some ⟨jb, 0, none⟩)) (q_move rfl) ?_
            refine Wl.q (v := Value.int .i64 1) (q_move rfl) ?_
            refine Wl.q (v := Value.pointer (some ⟨bb, 1, none⟩)) (q_idx_arr (m := 1) Tryz.underlying111 sz_3 hE5_9 rfl (by decide) (by decide) rfl) ?_
            refine Wl.q (v := Value.int .i64 ((parseT (rd d 1)).2.1)) (q_load sc_3 rfl (.cel (i := 2) rfl rfl)) ?_
            refine Wl.imp (L' := (pt jb 117 ([Value.pointer (some ⟨dp, 0, none⟩), Value.string (⟨#[]⟩), Value.int .i64 ((parseT (rd d 1)).1), Value.bool false])) :: (isDisk dp d) :: (pt ba 111 [Value.int .i64 ((parseT (rd d 0)).1), Value.int .i64 ((parseT (rd d 1)).1)]) :: (pt bb 111 [Value.int .i64 ((parseT (rd d 0)).2.1), Value.int .i64 ((parseT (rd d 1)).2.1)]) :: F) (fun _ h => st_pull [0, 2] h) ?_
            refine Wl.e (e_call (F := (pt ba 111 [Value.int .i64 ((parseT (rd d 0)).1), Value.int .i64 ((parseT (rd d 1)).1)]) :: (pt bb 111 [Value.int .i64 ((parseT (rd d 0)).2.1), Value.int .i64 ((parseT (rd d 1)).2.1)]) :: F) (args := [Value.pointer (some ⟨jb, 0, none⟩), Value.int .i64 ((parseT (rd d 1)).2.1)]) Tryz.call77 rfl (load_c W0 jb dp (⟨#[]⟩) ((parseT (rd d 1)).1) ((parseT (rd d 1)).2.1) false d hw hd (by omega) hsn r1.2.2.1 (by omega) r1.1)) (fun _ _ => ?_)
            refine Wl.imp (L' := (isDisk dp d) :: (pt jb 117 [Value.pointer (some ⟨dp, 0, none⟩), Value.string (textR (rd d) (first d.secs ((parseT (rd d 1)).1)) ((parseT (rd d 1)).2.1)), Value.int .i64 ((parseT (rd d 1)).1), Value.bool false]) :: (pt ba 111 [Value.int .i64 ((parseT (rd d 0)).1), Value.int .i64 ((parseT (rd d 1)).1)]) :: (pt bb 111 [Value.int .i64 ((parseT (rd d 0)).2.1), Value.int .i64 ((parseT (rd d 1)).2.1)]) :: F) (fun _ h => h) ?_
            refine Wl.q (v := Value.pointer (some ⟨jb, 0, none⟩)) (q_assign rfl) ?_
            refine Wl.q (v := Value.int .i64 0) (q_assign rfl) ?_
            refine Wl.done ?_
            refine Wx.go ?_
            refine Wc.ret ?_
            refine Wx.blockRet ?_
            refine Wx.thenRet ?_
            refine Wx.fin2 rfl (.inl rfl) (fun w hs => ?_)
            have e : openD d = (0, some (textR (rd d) (first d.secs (parseT (rd d 1)).1) (parseT (rd d 1)).2.1, (parseT (rd d 1)).1)) := (openD_T hd (by omega)).trans (openT_b p0 p1 (by omega) hz (by omega) (by omega))
            exact ⟨jb, trivial, by rw [e]; rfl, by rw [e]; exact (st_pull [1, 0] (st_drop (st_drop (st_pull [2, 2] hs))))⟩
          ·
            refine Wl.q (v := Value.bool false) (q_gtr (r := false) rfl rfl (decide_eq_false h13)) ?_
            refine Wl.done ?_
            refine Wx.go ?_
            refine Wc.no rfl ?_
            refine Wc.skip ?_
            refine Wx.go ?_
            refine Wc.seq ?_
            refine Wc.region ?_
            refine Wl.q (v := Value.pointer (some ⟨jb, 0, none⟩)) (q_move rfl) ?_
            refine Wl.q (v := Value.int .i64 0) (q_move rfl) ?_
            refine Wl.q (v := Value.pointer (some ⟨ba, 0, none⟩)) (q_idx_arr (m := 0) Tryz.underlying111 sz_3 hE4_9 rfl (by decide) (by decide) rfl) ?_
            refine Wl.q (v := Value.int .i64 ((parseT (rd d 0)).1)) (q_load sc_3 rfl (.cel (i := 1) rfl rfl)) ?_
            refine Wl.q (v := Value.pointer (some ⟨jb, 0, none⟩)) (q_nil_ptr rfl) ?_
            refine Wl.q (v := Value.pointer (some ⟨jb, 2, none⟩)) (q_field (m := 2) fo_117_2 rfl rfl) ?_
            refine Wl.e (e_store (i := 0) (v := Value.int .i64 ((parseT (rd d 0)).1)) sz_3 rfl rfl (fun _ _ => rfl) rfl (by simp)) (fun _ _ => ?_)
            refine Wl.imp (L' := (pt jb 117 ([Value.pointer (some ⟨dp, 0, none⟩), Value.string (⟨#[]⟩), Value.int .i64 ((parseT (rd d 0)).1), Value.bool false])) :: (pt ba 111 [Value.int .i64 ((parseT (rd d 0)).1), Value.int .i64 ((parseT (rd d 1)).1)]) :: (pt bb 111 [Value.int .i64 ((parseT (rd d 0)).2.1), Value.int .i64 ((parseT (rd d 1)).2.1)]) :: (isDisk dp d) :: F) (fun _ h => h) ?_
            refine Wl.done ?_
            refine Wx.go ?_
            refine Wc.seq ?_
            refine Wc.region ?_
            refine Wl.q (v := Value.pointer (some ⟨jb, 0, none⟩)) (q_move rfl) ?_
            refine Wl.q (v := Value.pointer (some ⟨jb, 0, none⟩)) (q_move rfl) ?_
            refine Wl.q (v := Value.int .i64 0) (q_move rfl) ?_
            refine Wl.q (v := Value.pointer (some ⟨bb, 0, none⟩)) (q_idx_arr (m := 0) Tryz.underlying111 sz_3 hE5_9 rfl (by decide) (by decide) rfl) ?_
            refine Wl.q (v := Value.int .i64 ((parseT (rd d 0)).2.1)) (q_load sc_3 rfl (.cel (i := 2) rfl rfl)) ?_
            refine Wl.imp (L' := (pt jb 117 ([Value.pointer (some ⟨dp, 0, none⟩), Value.string (⟨#[]⟩), Value.int .i64 ((parseT (rd d 0)).1), Value.bool false])) :: (isDisk dp d) :: (pt ba 111 [Value.int .i64 ((parseT (rd d 0)).1), Value.int .i64 ((parseT (rd d 1)).1)]) :: (pt bb 111 [Value.int .i64 ((parseT (rd d 0)).2.1), Value.int .i64 ((parseT (rd d 1)).2.1)]) :: F) (fun _ h => st_pull [0, 2] h) ?_
            refine Wl.e (e_call (F := (pt ba 111 [Value.int .i64 ((parseT (rd d 0)).1), Value.int .i64 ((parseT (rd d 1)).1)]) :: (pt bb 111 [Value.int .i64 ((parseT (rd d 0)).2.1), Value.int .i64 ((parseT (rd d 1)).2.1)]) :: F) (args := [Value.pointer (some ⟨jb, 0, none⟩), Value.int .i64 ((parseT (rd d 0)).2.1)]) Tryz.call77 rfl (load_c W0 jb dp (⟨#[]⟩) ((parseT (rd d 0)).1) ((parseT (rd d 0)).2.1) false d hw hd (by omega) hsn r0.2.2.1 (by omega) r0.1)) (fun _ _ => ?_)
            refine Wl.imp (L' := (isDisk dp d) :: (pt jb 117 [Value.pointer (some ⟨dp, 0, none⟩), Value.string (textR (rd d) (first d.secs ((parseT (rd d 0)).1)) ((parseT (rd d 0)).2.1)), Value.int .i64 ((parseT (rd d 0)).1), Value.bool false]) :: (pt ba 111 [Value.int .i64 ((parseT (rd d 0)).1), Value.int .i64 ((parseT (rd d 1)).1)]) :: (pt bb 111 [Value.int .i64 ((parseT (rd d 0)).2.1), Value.int .i64 ((parseT (rd d 1)).2.1)]) :: F) (fun _ h => h) ?_
            refine Wl.q (v := Value.pointer (some ⟨jb, 0, none⟩)) (q_assign rfl) ?_
            refine Wl.q (v := Value.int .i64 0) (q_assign rfl) ?_
            refine Wl.done ?_
            refine Wx.go ?_
            refine Wc.ret ?_
            refine Wx.blockRet ?_
            refine Wx.thenRet ?_
            refine Wx.fin2 rfl (.inl rfl) (fun w hs => ?_)
            have e : openD d = (0, some (textR (rd d) (first d.secs (parseT (rd d 0)).1) (parseT (rd d 0)).2.1, (parseT (rd d 0)).1)) := (openD_T hd (by omega)).trans (openT_a p0 p1 (by omega) hz (by omega))
            exact ⟨jb, trivial, by rw [e]; rfl, by rw [e]; exact (st_pull [1, 0] (st_drop (st_drop (st_pull [2, 2] hs))))⟩
        ·
          refine Wl.q (v := Value.bool false) (q_eql (r := false) rfl rfl (decide_eq_false h12)) ?_
          refine Wl.q (v := Value.bool false) (q_assign rfl) ?_
          refine Wl.done ?_
          refine Wx.go ?_
          refine Wc.no rfl ?_
          refine Wc.region ?_
          refine Wl.q (v := Value.pointer (some ⟨ba, 0, none⟩)) (q_idx_arr (m := 0) Tryz.underlying111 sz_3 hE4_9 rfl (by decide) (by decide) rfl) ?_
          refine Wl.q (v := Value.int .i64 ((parseT (rd d 0)).1)) (q_load sc_3 rfl (.cel (i := 1) rfl rfl)) ?_
          by_cases h14 : (parseT (rd d 0)).1 > 0
          ·
            refine Wl.q (v := Value.bool true) (q_gtr (r := true) rfl rfl (decide_eq_true h14)) ?_
            refine Wl.q (v := Value.bool true) (q_move rfl) ?_
            refine Wl.q (v := Value.pointer (some ⟨ba, 1, none⟩)) (q_idx_arr (m := 1) Tryz.underlying111 sz_3 hE4_9 rfl (by decide) (by decide) rfl) ?_
            refine Wl.q (v := Value.int .i64 ((parseT (rd d 1)).1)) (q_load sc_3 rfl (.cel (i := 1) rfl rfl)) ?_
            refine Wl.q (v := Value.pointer (some ⟨ba, 0, none⟩)) (q_idx_arr (m := 0) Tryz.underlying111 sz_3 hE4_9 rfl (by decide) (by decide) rfl) ?_
            refine Wl.q (v := Value.int .i64 ((parseT (rd d 0)).1)) (q_load sc_3 rfl (.cel (i := 1) rfl rfl)) ?_
            refine Wl.q (v := Value.int .i64 (IntKind.i64.wrap ((parseT (rd d 0)).1 + 1))) (q_add (c := (IntKind.i64.wrap ((parseT (rd d 0)).1 + 1))) rfl rfl rfl) ?_
            by_cases h15 : (parseT (rd d 1)).1 = (IntKind.i64.wrap ((parseT (rd d 0)).1 + 1))
            ·
              refine Wl.q (v := Value.bool true) (q_eql (r := true) rfl rfl (decide_eq_true h15)) ?_
              refine Wl.q (v := Value.bool true) (q_pick (t := true) rfl rfl) ?_
              refine Wl.q (v := Value.bool true) (q_assign rfl) ?_
              refine Wl.done ?_
              refine Wx.go ?_
              refine Wc.yes rfl ?_
              refine Wc.seq ?_
              refine Wc.seq ?_
              refine Wc.region ?_
              refine Wl.q (v := Value.pointer (some ⟨ba, 1, none⟩)) (q_idx_arr (m := 1) Tryz.underlying111 sz_3 hE4_9 rfl (by decide) (by decide) rfl) ?_
              refine Wl.q (v := Value.int .i64 ((parseT (rd d 1)).1)) (q_load sc_3 rfl (.cel (i := 1) rfl rfl)) ?_
              refine Wl.q (v := Value.pointer (some ⟨ba, 0, none⟩)) (q_idx_arr (m := 0) Tryz.underlying111 sz_3 hE4_9 rfl (by decide) (by decide) rfl) ?_
              refine Wl.q (v := Value.int .i64 ((parseT (rd d 0)).1)) (q_load sc_3 rfl (.cel (i := 1) rfl rfl)) ?_
              by_cases h16 : (parseT (rd d 1)).1 > (parseT (rd d 0)).1
              ·
                refine Wl.q (v := Value.bool true) (q_gtr (r := true) rfl rfl (decide_eq_true h16)) ?_
                refine Wl.done ?_
                refine Wx.go ?_
                refine Wc.yes rfl ?_
                refine Wc.region ?_
                refine Wl.q (v := Value.int .i64 1) (q_assign rfl) ?_
                refine Wl.done ?_
                refine Wx.go ?_
                refine Wc.seq ?_
                refine Wc.region ?_
                refine Wl.q (v := Value.pointer (some ⟨jb, 0, none⟩)) (q_move rfl) ?_
                refine Wl.q (v := Value.int .i64 1) (q_move rfl) ?_
                refine Wl.q (v := Value.pointer (some ⟨ba, 1, none⟩)) (q_idx_arr (m := 1) Tryz.underlying111 sz_3 hE4_9 rfl (by decide) (by decide) rfl) ?_
                refine Wl.q (v := Value.int .i64 ((parseT (rd d 1)).1)) (q_load sc_3 rfl (.cel (i := 1) rfl rfl)) ?_
                refine Wl.q (v := Value.pointer (some ⟨jb, 0, none⟩)) (q_nil_ptr rfl) ?_
                refine Wl.q (v := Value.pointer (some ⟨jb, 2, none⟩)) (q_field (m := 2) fo_117_2 rfl rfl) ?_
                refine Wl.e (e_store (i := 0) (v := Value.int .i64 ((parseT (rd d 1)).1)) sz_3 rfl rfl (fun _ _ => rfl) rfl (by simp)) (fun _ _ => ?_)
                refine Wl.imp (L' := (pt jb 117 ([Value.pointer (some ⟨dp, 0, none⟩), Value.string (⟨#[]⟩), Value.int .i64 ((parseT (rd d 1)).1), Value.bool false])) :: (pt ba 111 [Value.int .i64 ((parseT (rd d 0)).1), Value.int .i64 ((parseT (rd d 1)).1)]) :: (pt bb 111 [Value.int .i64 ((parseT (rd d 0)).2.1), Value.int .i64 ((parseT (rd d 1)).2.1)]) :: (isDisk dp d) :: F) (fun _ h => h) ?_
                refine Wl.done ?_
                refine Wx.go ?_
                refine Wc.seq ?_
                refine Wc.region ?_
                refine Wl.q (v := Value.pointer (some ⟨jb, 0, none⟩)) (q_move rfl) ?_
                refine Wl.q (v := Value.pointer (some ⟨jb, 0, none⟩)) (q_move rfl) ?_
                refine Wl.q (v := Value.int .i64 1) (q_move rfl) ?_
                refine Wl.q (v := Value.pointer (some ⟨bb, 1, none⟩)) (q_idx_arr (m := 1) Tryz.underlying111 sz_3 hE5_9 rfl (by decide) (by decide) rfl) ?_
                refine Wl.q (v := Value.int .i64 ((parseT (rd d 1)).2.1)) (q_load sc_3 rfl (.cel (i := 2) rfl rfl)) ?_
                refine Wl.imp (L' := (pt jb 117 ([Value.pointer (some ⟨dp, 0, none⟩), Value.string (⟨#[]⟩), Value.int .i64 ((parseT (rd d 1)).1), Value.bool false])) :: (isDisk dp d) :: (pt ba 111 [Value.int .i64 ((parseT (rd d 0)).1), Value.int .i64 ((parseT (rd d 1)).1)]) :: (pt bb 111 [Value.int .i64 ((parseT (rd d 0)).2.1), Value.int .i64 ((parseT (rd d 1)).2.1)]) :: F) (fun _ h => st_pull [0, 2] h) ?_
                refine Wl.e (e_call (F := (pt ba 111 [Value.int .i64 ((parseT (rd d 0)).1), Value.int .i64 ((parseT (rd d 1)).1)]) :: (pt bb 111 [Value.int .i64 ((parseT (rd d 0)).2.1), Value.int .i64 ((parseT (rd d 1)).2.1)]) :: F) (args := [Value.pointer (some ⟨jb, 0, none⟩), Value.int .i64 ((parseT (rd d 1)).2.1)]) Tryz.call77 rfl (load_c W0 jb dp (⟨#[]⟩) ((parseT (rd d 1)).1) ((parseT (rd d 1)).2.1) false d hw hd (by omega) hsn r1.2.2.1 (by omega) r1.1)) (fun _ _ => ?_)
                refine Wl.imp (L' := (isDisk dp d) :: (pt jb 117 [Value.pointer (some ⟨dp, 0, none⟩), Value.string (textR (rd d) (first d.secs ((parseT (rd d 1)).1)) ((parseT (rd d 1)).2.1)), Value.int .i64 ((parseT (rd d 1)).1), Value.bool false]) :: (pt ba 111 [Value.int .i64 ((parseT (rd d 0)).1), Value.int .i64 ((parseT (rd d 1)).1)]) :: (pt bb 111 [Value.int .i64 ((parseT (rd d 0)).2.1), Value.int .i64 ((parseT (rd d 1)).2.1)]) :: F) (fun _ h => h) ?_
                refine Wl.q (v := Value.pointer (some ⟨jb, 0, none⟩)) (q_assign rfl) ?_
                refine Wl.q (v := Value.int .i64 0) (q_assign rfl) ?_
                refine Wl.done ?_
                refine Wx.go ?_
                refine Wc.ret ?_
                refine Wx.blockRet ?_
                refine Wx.thenRet ?_
                refine Wx.fin2 rfl (.inl rfl) (fun w hs => ?_)
                have e : openD d = (0, some (textR (rd d) (first d.secs (parseT (rd d 1)).1) (parseT (rd d 1)).2.1, (parseT (rd d 1)).1)) := (openD_T hd (by omega)).trans (openT_b p0 p1 (by omega) hz (by omega) (by omega))
                exact ⟨jb, trivial, by rw [e]; rfl, by rw [e]; exact (st_pull [1, 0] (st_drop (st_drop (st_pull [2, 2] hs))))⟩
              ·
                refine Wl.q (v := Value.bool false) (q_gtr (r := false) rfl rfl (decide_eq_false h16)) ?_
                refine Wl.done ?_
                refine Wx.go ?_
                refine Wc.no rfl ?_
                refine Wc.skip ?_
                refine Wx.go ?_
                refine Wc.seq ?_
                refine Wc.region ?_
                refine Wl.q (v := Value.pointer (some ⟨jb, 0, none⟩)) (q_move rfl) ?_
                refine Wl.q (v := Value.int .i64 0) (q_move rfl) ?_
                refine Wl.q (v := Value.pointer (some ⟨ba, 0, none⟩)) (q_idx_arr (m := 0) Tryz.underlying111 sz_3 hE4_9 rfl (by decide) (by decide) rfl) ?_
                refine Wl.q (v := Value.int .i64 ((parseT (rd d 0)).1)) (q_load sc_3 rfl (.cel (i := 1) rfl rfl)) ?_
                refine Wl.q (v := Value.pointer (some ⟨jb, 0, none⟩)) (q_nil_ptr rfl) ?_
                refine Wl.q (v := Value.pointer (some ⟨jb, 2, none⟩)) (q_field (m := 2) fo_117_2 rfl rfl) ?_
                refine Wl.e (e_store (i := 0) (v := Value.int .i64 ((parseT (rd d 0)).1)) sz_3 rfl rfl (fun _ _ => rfl) rfl (by simp)) (fun _ _ => ?_)
                refine Wl.imp (L' := (pt jb 117 ([Value.pointer (some ⟨dp, 0, none⟩), Value.string (⟨#[]⟩), Value.int .i64 ((parseT (rd d 0)).1), Value.bool false])) :: (pt ba 111 [Value.int .i64 ((parseT (rd d 0)).1), Value.int .i64 ((parseT (rd d 1)).1)]) :: (pt bb 111 [Value.int .i64 ((parseT (rd d 0)).2.1), Value.int .i64 ((parseT (rd d 1)).2.1)]) :: (isDisk dp d) :: F) (fun _ h => h) ?_
                refine Wl.done ?_
                refine Wx.go ?_
                refine Wc.seq ?_
                refine Wc.region ?_
                refine Wl.q (v := Value.pointer (some ⟨jb, 0, none⟩)) (q_move rfl) ?_
                refine Wl.q (v := Value.pointer (some ⟨jb, 0, none⟩)) (q_move rfl) ?_
                refine Wl.q (v := Value.int .i64 0) (q_move rfl) ?_
                refine Wl.q (v := Value.pointer (some ⟨bb, 0, none⟩)) (q_idx_arr (m := 0) Tryz.underlying111 sz_3 hE5_9 rfl (by decide) (by decide) rfl) ?_
                refine Wl.q (v := Value.int .i64 ((parseT (rd d 0)).2.1)) (q_load sc_3 rfl (.cel (i := 2) rfl rfl)) ?_
                refine Wl.imp (L' := (pt jb 117 ([Value.pointer (some ⟨dp, 0, none⟩), Value.string (⟨#[]⟩), Value.int .i64 ((parseT (rd d 0)).1), Value.bool false])) :: (isDisk dp d) :: (pt ba 111 [Value.int .i64 ((parseT (rd d 0)).1), Value.int .i64 ((parseT (rd d 1)).1)]) :: (pt bb 111 [Value.int .i64 ((parseT (rd d 0)).2.1), Value.int .i64 ((parseT (rd d 1)).2.1)]) :: F) (fun _ h => st_pull [0, 2] h) ?_
                refine Wl.e (e_call (F := (pt ba 111 [Value.int .i64 ((parseT (rd d 0)).1), Value.int .i64 ((parseT (rd d 1)).1)]) :: (pt bb 111 [Value.int .i64 ((parseT (rd d 0)).2.1), Value.int .i64 ((parseT (rd d 1)).2.1)]) :: F) (args := [Value.pointer (some ⟨jb, 0, none⟩), Value.int .i64 ((parseT (rd d 0)).2.1)]) Tryz.call77 rfl (load_c W0 jb dp (⟨#[]⟩) ((parseT (rd d 0)).1) ((parseT (rd d 0)).2.1) false d hw hd (by omega) hsn r0.2.2.1 (by omega) r0.1)) (fun _ _ => ?_)
                refine Wl.imp (L' := (isDisk dp d) :: (pt jb 117 [Value.pointer (some ⟨dp, 0, none⟩), Value.string (textR (rd d) (first d.secs ((parseT (rd d 0)).1)) ((parseT (rd d 0)).2.1)), Value.int .i64 ((parseT (rd d 0)).1), Value.bool false]) :: (pt ba 111 [Value.int .i64 ((parseT (rd d 0)).1), Value.int .i64 ((parseT (rd d 1)).1)]) :: (pt bb 111 [Value.int .i64 ((parseT (rd d 0)).2.1), Value.int .i64 ((parseT (rd d 1)).2.1)]) :: F) (fun _ h => h) ?_
                refine Wl.q (v := Value.pointer (some ⟨jb, 0, none⟩)) (q_assign rfl) ?_
                refine Wl.q (v := Value.int .i64 0) (q_assign rfl) ?_
                refine Wl.done ?_
                refine Wx.go ?_
                refine Wc.ret ?_
                refine Wx.blockRet ?_
                refine Wx.thenRet ?_
                refine Wx.fin2 rfl (.inl rfl) (fun w hs => ?_)
                have e : openD d = (0, some (textR (rd d) (first d.secs (parseT (rd d 0)).1) (parseT (rd d 0)).2.1, (parseT (rd d 0)).1)) := (openD_T hd (by omega)).trans (openT_a p0 p1 (by omega) hz (by omega))
                exact ⟨jb, trivial, by rw [e]; rfl, by rw [e]; exact (st_pull [1, 0] (st_drop (st_drop (st_pull [2, 2] hs))))⟩
            ·
              refine Wl.q (v := Value.bool false) (q_eql (r := false) rfl rfl (decide_eq_false h15)) ?_
              refine Wl.q (v := Value.bool false) (q_pick (t := true) rfl rfl) ?_
              refine Wl.q (v := Value.bool false) (q_assign rfl) ?_
              refine Wl.done ?_
              refine Wx.go ?_
              refine Wc.no rfl ?_
              refine Wc.seq ?_
              refine Wc.region ?_
              refine Wl.q (v := Value.pointer none) (q_assign rfl) ?_
              refine Wl.q (v := Value.int .i64 14) (q_assign rfl) ?_
              refine Wl.done ?_
              refine Wx.go ?_
              refine Wc.ret ?_
              refine Wx.blockRet ?_
              refine Wx.thenRet ?_
              refine Wx.fin2 rfl (.inl rfl) (fun w hs => ?_)
              have e : openD d = (14, none) := (openD_T hd (by omega)).trans (openT_bad3 hz (by omega) (by omega))
              exact ⟨0, trivial, by rw [e]; rfl, by rw [e]; exact (st_drop (st_drop (st_drop (st_pull [0, 0, 0] hs))))⟩
          ·
            refine Wl.q (v := Value.bool false) (q_gtr (r := false) rfl rfl (decide_eq_false h14)) ?_
            refine Wl.q (v := Value.bool false) (q_move rfl) ?_
            refine Wl.no ?_
            refine Wl.no ?_
            refine Wl.no ?_
            refine Wl.no ?_
            refine Wl.no ?_
            refine Wl.no ?_
            refine Wl.q (v := Value.bool false) (q_pick (t := false) rfl rfl) ?_
            refine Wl.q (v := Value.bool false) (q_assign rfl) ?_
            refine Wl.done ?_
            refine Wx.go ?_
            refine Wc.no rfl ?_
            refine Wc.seq ?_
            refine Wc.region ?_
            refine Wl.q (v := Value.pointer none) (q_assign rfl) ?_
            refine Wl.q (v := Value.int .i64 14) (q_assign rfl) ?_
            refine Wl.done ?_
            refine Wx.go ?_
            refine Wc.ret ?_
            refine Wx.blockRet ?_
            refine Wx.thenRet ?_
            refine Wx.fin2 rfl (.inl rfl) (fun w hs => ?_)
            have e : openD d = (14, none) := (openD_T hd (by omega)).trans (openT_bad3 hz (by omega) (by omega))
            exact ⟨0, trivial, by rw [e]; rfl, by rw [e]; exact (st_drop (st_drop (st_drop (st_pull [0, 0, 0] hs))))⟩

theorem open_down (W0 : World) (dp : Nat) (d : DS) (hw : WF d) (hn1 : 1 ≤ d.secs.length) (hsn : d.since.length < 1099511627776) (hd : d.down = true) :
  Con Tryz.prog W0 48 #[Value.pointer (some ⟨dp, 0, none⟩)] [isDisk dp d] (X := Nat) (fun _ => True) (openV (openD d)) (fun j => openP (openD d) j dp d) := by
 refine Con.of (args := [Value.pointer (some ⟨dp, 0, none⟩)]) Tryz.func48 rfl Tryz.ntmps48 rfl (fun F => ?_)
 show Wc _ W0 _ _ _ _ _ ((isDisk dp d) :: F)
 refine Wc.seq ?_
 refine Wc.region ?_
 refine Wl.q (v := Value.pointer none) (q_assign rfl) ?_
 refine Wl.q (v := Value.int .i64 0) (q_assign rfl) ?_
 refine Wl.done ?_
 refine Wx.go ?_
 refine Wc.seq ?_
 refine Wc.block ?_
 refine Wc.seq ?_
 refine Wc.region ?_
 refine Wl.q (v := Value.pointer (some ⟨dp, 0, none⟩)) (q_move rfl) ?_
 refine Wl.e (e_call (F := F) (args := [Value.pointer (some ⟨dp, 0, none⟩)]) Tryz.call73 rfl (len_c W0 dp d )) (fun _ _ => ?_)
 refine Wl.imp (L' := (isDisk dp d) :: F) (fun _ h => h) ?_
 refine Wl.q (v := Value.bool false) (q_eql (r := false) rfl rfl (decide_eq_false (by omega))) ?_
 refine Wl.q (v := Value.bool false) (q_assign rfl) ?_
 refine Wl.done ?_
 refine Wx.go ?_
 refine Wc.no rfl ?_
 refine Wc.seq ?_
 refine Wc.region ?_
 refine Wl.q (v := Value.pointer (some ⟨dp, 0, none⟩)) (q_move rfl) ?_
 refine Wl.e (e_call (F := F) (args := [Value.pointer (some ⟨dp, 0, none⟩)]) Tryz.call29 rfl (Con.eqs (val' := fun _ => Value.bool false) (post' := fun _ => [isDisk dp d]) (up_c W0 dp d ) (fun _ => (by rw [hd]; rfl)) (fun _ => rfl))) (fun _ _ => ?_)
 refine Wl.imp (L' := (isDisk dp d) :: F) (fun _ h => h) ?_
 refine Wl.q (v := Value.bool true) (q_not rfl rfl) ?_
 refine Wl.q (v := Value.bool true) (q_assign rfl) ?_
 refine Wl.done ?_
 refine Wx.go ?_
 refine Wc.yes rfl ?_
 refine Wc.seq ?_
 refine Wc.region ?_
 refine Wl.q (v := Value.pointer none) (q_assign rfl) ?_
 refine Wl.q (v := Value.int .i64 6) (q_assign rfl) ?_
 refine Wl.done ?_
 refine Wx.go ?_
 refine Wc.ret ?_
 refine Wx.blockRet ?_
 refine Wx.thenRet ?_
 refine Wx.fin2 rfl (.inl rfl) (fun w hs => ?_)
 have e : openD d = (6, none) := if_pos hd
 exact ⟨0, trivial, by rw [e]; rfl, by rw [e]; exact hs⟩

theorem open_c (W0 : World) (dp : Nat) (d : DS) (hw : WF d) (hn1 : 1 ≤ d.secs.length) (hsn : d.since.length < 1099511627776) : Con Tryz.prog W0 48 #[.pointer (some ⟨dp, 0, none⟩)] [isDisk dp d] (X := Nat) (fun _ => True) (openV (openD d)) (fun j => openP (openD d) j dp d) := by
 cases hd : d.down
 · exact open_up W0 dp d hw hn1 hsn hd
 · exact open_down W0 dp d hw hn1 hsn hd
theorem open_ok (W0 : World) (dp : Nat) (d : DS) (hw : WF d) (hn1 : 1 ≤ d.secs.length) (hsn : d.since.length < 1099511627776) {t : ByteArray} {q : Int} (h : openD d = (0, some (t, q))) : Con Tryz.prog W0 48 #[.pointer (some ⟨dp, 0, none⟩)] [isDisk dp d] (X := Nat) (fun _ => True) (fun j => .tuple #[.pointer (some ⟨j, 0, none⟩), .int .i64 0]) (fun j => [isJ j dp ⟨t, q, false⟩, isDisk dp d]) := by
 have := open_c W0 dp d hw hn1 hsn
 rw [h] at this
 exact this
end Go.Proofs.YtkndmgfahghcjaaGreat

