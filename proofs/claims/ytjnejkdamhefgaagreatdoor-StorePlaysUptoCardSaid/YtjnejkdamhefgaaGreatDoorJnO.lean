/- A part of the proof. -/
import Derived.Test.YtjnejkdamhefgaaGreatDoorJnB
namespace Go.Proofs.YtjnejkdamhefgaaGreatDoor
open Tryz
open Go Go.SL Go.Dk Go.Jn Go.RowKit
set_option linter.unusedVariables false
set_option maxRecDepth 8000
theorem zo_138 : zeroOf prog 138 = some (Value.agg #[Value.int .i64 0, Value.int .i64 0]) := by kernel_rfl
theorem zo_144 : zeroOf prog 144 = some (Value.agg #[Value.pointer none, Value.string (⟨#[]⟩), Value.int .i64 0, Value.bool false]) := by kernel_rfl
theorem ag_138 : aggSize prog 138 = some 2 := by kernel_rfl
theorem eg_138 : prog.eqGuardType prog.depth 138 = false := by kernel_rfl
def openV (r : Int × Option (ByteArray × Int)) (j : Nat) : Value := match r.2 with
 | none => .tuple #[.pointer none, .int .i64 r.1]
 | some _ => .tuple #[.pointer (some ⟨j, 0, none⟩), .int .i64 r.1]
def openP (r : Int × Option (ByteArray × Int)) (j dp : Nat) (d : DS) : List HP := match r.2 with
 | none => [isDisk dp d]
 | some p => [isJ j dp ⟨p.1, p.2, false⟩, isDisk dp d]
set_option maxHeartbeats 4000000 in
theorem open_up (W0 : World) (dp : Nat) (d : DS) (hw : WF d) (hn1 : 1 ≤ d.secs.length) (hsn : d.since.length < 1099511627776) (hd : d.down = false) :
    Con prog W0 33 #[Vp dp] [isDisk dp d] (X := Nat) (fun _ => True) (openV (openD d)) (fun j => openP (openD d) j dp d) := by
  refine Con.of func33 rfl ntmps33 rfl (fun F => ?_)
  have hm := hw.l.len
  have hh : half d.secs ≤ 2047 := by unfold half; omega
  show Wc _ W0 _ _ _ _ _ ((isDisk dp d) :: F)
  refine Wc.sr (Wl.q (v := Vz) (q_assign rfl) (Wl.q (v := Vi 0) (q_assign rfl) (Wl.dg (Wc.seq (Wc.block (Wc.sr (Wl.q (v := Vp dp) (q_move rfl) (Wl.e (e_c call158 (len_c W0 dp d )) (fun _ _ => Wl.imp (L' := (isDisk dp d) :: F) (fun _ h => h) (Wl.q (q_eql rfl rfl (df (by omega))) (Wl.q (v := Vf) (q_assign rfl) (Wl.dg (Wc.no rfl (Wc.sr (Wl.q (v := Vp dp) (q_move rfl) (Wl.e (e_call (F := F) (args := [Vp dp]) call159 rfl (Con.eqs (val' := fun _ => Vt) (post' := fun _ => [isDisk dp d]) (up_c W0 dp d ) (fun _ => (by rw [hd]; rfl)) (fun _ => rfl))) (fun _ _ => Wl.imp (L' := (isDisk dp d) :: F) (fun _ h => h) (Wl.q (q_not rfl rfl) (Wl.q (v := Vf) (q_assign rfl) (Wl.dg (Wc.no rfl (Wc.sr (Wl.q (v := Vp dp) (q_move rfl) ?_)))))))))))))))))))))))
  refine Wl.e (e_c call158 (len_c W0 dp d )) (fun _ _ => ?_)
  by_cases hl4 : (((d).secs.length : Nat) : Int) < 4
  ·
    refine Wl.q (q_lss rfl rfl (dt hl4)) (Wl.q (v := Vt) (q_assign rfl) (Wl.dg (Wc.yes rfl (Wc.sr (Wl.q (v := Vz) (q_assign rfl) (Wl.q (v := Vi 1) (q_assign rfl) (Wl.dg (Wc.ret (Wx.blockRet (Wx.thenRet (Wx.f2 rfl (fun w hs => ?_))))))))))))
    have e : openD d = (1, none) := by rw [openD, if_neg (by simp [hd]), openR, if_pos (by omega)]
    exact ⟨0, trivial, by rw [e]; rfl, by rw [e]; exact hs⟩
  ·
    refine Wl.q (q_lss rfl rfl (df hl4)) (Wl.q (v := Vf) (q_assign rfl) (Wl.dg (Wc.no rfl (Wc.skip (Wx.blockEnd (Wx.go (Wc.sr (Wl.e (e_alloc (vs := [Vi 0, Vi 0]) zo_138 rfl) (fun ba _ => Wl.e (e_alloc (vs := [Vi 0, Vi 0]) zo_138 rfl) (fun bb _ => Wl.dg ?_))))))))))
    refine Wc.meet (X := Unit) (fun _ E => E 0 = Vp dp ∧ E 4 = Vp ba ∧ E 5 = Vp bb ∧ (parseT (rd d 0)).2.2 = true ∧ (parseT (rd d 1)).2.2 = true ∧ ¬ ((parseT (rd d 0)).2.1 > ((half d.secs * 64 : Nat) : Int) ∨ (parseT (rd d 1)).2.1 > ((half d.secs * 64 : Nat) : Int) ∨ (0 < (parseT (rd d 0)).1 ∧ (parseT (rd d 0)).1 % 2 = 0) ∨ (0 < (parseT (rd d 1)).1 ∧ (parseT (rd d 1)).1 % 2 = 1))) (fun _ => (pt ba 138 [Vi ((parseT (rd d 0)).1), Vi ((parseT (rd d 1)).1)]) :: (pt bb 138 [Vi ((parseT (rd d 0)).2.1), Vi ((parseT (rd d 1)).2.1)]) :: (isDisk dp d) :: F) ?_ ?_
    ·
      refine Wc.sr (Wl.q (v := Vi 0) (q_move rfl) (Wl.dg (Wc.block (Wc.rounds 3 ?_))))
      refine Wn.round ?_
      refine Wc.sr (Wl.q (v := Vt) (q_lss rfl rfl (dt (by decide))) (Wl.dg (Wc.seq (Wc.yes rfl (Wc.skip (Wx.go (Wc.seq (Wc.block (Wc.sr (Wl.q (v := Vi 0) (q_move rfl) (Wl.q (v := Vi 0) (q_assign rfl) (Wl.dg (Wc.sr (Wl.q (v := Vp dp) (q_move rfl) (Wl.q (v := Vi 0) (q_move rfl) (Wl.pull [2] (Wl.e (e_call (F := (pt bb 138 [Vi 0, Vi 0]) :: (pt ba 138 [Vi 0, Vi 0]) :: F) (args := [Vp dp, Vi 0]) call160 rfl (Con.eqs (val' := fun _ => Value.tuple #[Vs (rd d 0), Vi 0]) (post' := fun _ => [isDisk dp d]) (read_c W0 dp d 0 hsn) (fun _ => (by rw [show d.read 0 = (rd d 0, 0) from rd_read (i := 0) hd (by omega)])) (fun _ => rfl))) (fun _ _ => Wl.imp (L' := (isDisk dp d) :: (pt bb 138 [Vi 0, Vi 0]) :: (pt ba 138 [Vi 0, Vi 0]) :: F) (fun _ h => h) (Wl.q (v := Value.tuple #[Vs (rd d 0), Vi 0]) (q_move rfl) (Wl.q (q_extract (i := 0) rfl rfl) (Wl.q (q_extract (i := 1) rfl rfl) (Wl.q (v := Vs (rd d 0)) (q_assign rfl) (Wl.q (v := Vi 0) (q_assign rfl) ?_)))))))))))))))))))))))
      refine Wl.dg (Wc.seq (Wc.sr (Wl.q (v := Vi 0) (q_move rfl) (Wl.q (v := Vf) (q_neq rfl rfl (dt (by decide))) (Wl.dg (Wc.no rfl (Wc.skip (Wx.go (Wc.sr (Wl.q (v := Vf) (q_assign rfl) (Wl.dg (Wc.sr (Wl.q (v := Vi 0) (q_move rfl) (Wl.q (v := Vi 0) (q_move rfl) (Wl.q (v := Vs (rd d 0)) (q_move rfl) (Wl.e (e_call (F := (isDisk dp d) :: (pt bb 138 [Vi 0, Vi 0]) :: (pt ba 138 [Vi 0, Vi 0]) :: F) (args := [Vs (rd d 0)]) call161 rfl (parse_c W0 (rd d 0) (rd_size hw (by omega)))) (fun _ _ => Wl.q (v := Value.tuple #[Vi ((parseT (rd d 0)).1), Vi ((parseT (rd d 0)).2.1), Value.bool ((parseT (rd d 0)).2.2)]) (q_move rfl) (Wl.q (q_extract (i := 0) rfl rfl) (Wl.q (q_extract (i := 1) rfl rfl) (Wl.q (q_extract (i := 2) rfl rfl) (Wl.q (v := Vp ba) (q_idx_arr (m := 0) underlying138 sz_3 rfl rfl (by decide) (by decide) rfl) (Wl.e (e_store (i := 2) (v := Vi ((parseT (rd d 0)).1)) sz_3 rfl rfl (fun _ _ => rfl) rfl (by simp)) (fun _ _ => Wl.q (v := Vp bb) (q_idx_arr (m := 0) underlying138 sz_3 rfl rfl (by decide) (by decide) rfl) ?_)))))))))))))))))))))))
      refine Wl.e (e_store (i := 1) (v := Vi ((parseT (rd d 0)).2.1)) sz_3 rfl rfl (fun _ _ => rfl) rfl (by simp)) (fun _ _ => ?_)
      rcases Bool.eq_false_or_eq_true (parseT (rd d 0)).2.2 with p0 | p0
      ·
        have r0 := parseT_rng p0
        have w0 := wrap_succ r0.1 r0.2.1
        refine Wl.q (v := Vt) (q_assign (Eq.trans rfl (congrArg Value.bool p0))) (Wl.dg (Wc.seq (Wc.drawsS [] ((isDisk dp d) :: (pt bb 138 [Vi ((parseT (rd d 0)).2.1), Vi 0]) :: (pt ba 138 [Vi ((parseT (rd d 0)).1), Vi 0]) :: []) (by kernel_rfl) (Wr.p (v := Vt) 0 oo3 rfl (q_move rfl) (Wr.p 1 oo3 rfl (q_not rfl rfl) (Wr.p (v := Vf) 2 oo3 rfl (q_move rfl) (Wr.p (v := Vi 0) 3 oo3 rfl (q_move rfl) (Wr.p (v := Vp bb) 4 oo3 rfl (q_idx_arr (m := 0) underlying138 sz_3 rfl rfl (by decide) (by decide) rfl) (Wr.t 5 oo3 rfl (q_c 1 sc_3 rfl rfl rfl) (Wr.p (v := Vp dp) 6 oo3 rfl (q_move rfl) (Wr.x 7 oo3 rfl (e_c call162 (sectors_c W0 dp d hn1 hm)) (fun _ _ => Wr.p (v := Vi (((half d.secs) * 64 : Nat) : Int)) 8 oo3 rfl (q_mul (c := (((half d.secs) * 64 : Nat) : Int)) rfl rfl (by rw [wrap_i64] <;> omega)) ?_))))))))))))
        by_cases h1 : (parseT (rd d 0)).2.1 > (((half d.secs) * 64 : Nat) : Int)
        ·
          refine Wr.p 9 oo3 rfl (q_gtr rfl rfl (dt h1)) (Wr.p (v := Vt) 10 oo3 rfl (q_pick (t := false) rfl rfl) (Wr.p (v := Vt) 11 oo3 rfl (q_move rfl) (Wr.u 12 oo3 rfl (Wr.u 13 oo3 rfl (Wr.u 14 oo3 rfl (Wr.u 15 oo3 rfl (Wr.u 16 oo3 rfl (Wr.u 17 oo3 rfl (Wr.u 18 oo3 rfl (Wr.u 19 oo3 rfl (Wr.u 20 oo3 rfl (Wr.u 21 oo3 rfl (Wr.u 22 oo3 rfl (Wr.u 23 oo3 rfl (Wr.p (v := Vt) 24 oo3 rfl (q_pick (t := true) rfl rfl) (Wr.z (Wx.go (Wc.yes rfl (Wc.sr (Wl.q (v := Vz) (q_assign rfl) (Wl.q (v := Vi 14) (q_assign rfl) (Wl.dg (Wc.ret ?_)))))))))))))))))))))))
          refine Wx.blockRet (Wx.thenRet (Wx.thenRet (Wx.blockRet (Wx.thenRet (Wx.f2 rfl (fun w hs => ?_))))))
          have e : openD d = (14, none) := (openD_T hd (by omega)).trans (openT_bad2 (by omega))
          exact ⟨0, trivial, by rw [e]; rfl, by rw [e]; exact (st_drop (st_drop (st_pull [1, 1] hs)))⟩
        ·
          refine Wr.p 9 oo3 rfl (q_gtr rfl rfl (df h1)) (Wr.p (v := Vf) 10 oo3 rfl (q_pick (t := false) rfl rfl) (Wr.p (v := Vf) 11 oo3 rfl (q_move rfl) (Wr.p (v := Vi 0) 12 oo3 rfl (q_move rfl) (Wr.p (v := Vp ba) 13 oo3 rfl (q_idx_arr (m := 0) underlying138 sz_3 rfl rfl (by decide) (by decide) rfl) (Wr.t 14 oo3 rfl (q_c 2 sc_3 rfl rfl rfl) ?_)))))
          by_cases h2 : (parseT (rd d 0)).1 > 0
          ·
            refine Wr.p 15 oo3 rfl (q_gtr rfl rfl (dt h2)) (Wr.p (v := Vt) 16 oo3 rfl (q_move rfl) (Wr.p (v := Vi 0) 17 oo3 rfl (q_move rfl) (Wr.p (v := Vp ba) 18 oo3 rfl (q_idx_arr (m := 0) underlying138 sz_3 rfl rfl (by decide) (by decide) rfl) (Wr.t 19 oo3 rfl (q_c 2 sc_3 rfl rfl rfl) (Wr.p (v := Vi ((parseT (rd d 0)).1 % 2)) 20 oo3 rfl (q_rem (c := ((parseT (rd d 0)).1 % 2)) rfl rfl (by decide) (tmod2_eq r0.1)) (Wr.p (v := Vi 0) 21 oo3 rfl (q_move rfl) ?_))))))
            by_cases h3 : ((parseT (rd d 0)).1 % 2) = 0
            ·
              refine Wr.p 22 oo3 rfl (q_eql rfl rfl (dt h3)) (Wr.p (v := Vt) 23 oo3 rfl (q_pick (t := true) rfl rfl) (Wr.p (v := Vt) 24 oo3 rfl (q_pick (t := false) rfl rfl) (Wr.z (Wx.go (Wc.yes rfl (Wc.sr (Wl.q (v := Vz) (q_assign rfl) (Wl.q (v := Vi 14) (q_assign rfl) (Wl.dg (Wc.ret (Wx.blockRet (Wx.thenRet (Wx.thenRet (Wx.blockRet (Wx.thenRet (Wx.f2 rfl (fun w hs => ?_)))))))))))))))))
              have e : openD d = (14, none) := (openD_T hd (by omega)).trans (openT_bad2 (by omega))
              exact ⟨0, trivial, by rw [e]; rfl, by rw [e]; exact (st_drop (st_drop (st_pull [1, 1] hs)))⟩
            ·
              refine Wr.p 22 oo3 rfl (q_eql rfl rfl (df h3)) (Wr.p (v := Vf) 23 oo3 rfl (q_pick (t := true) rfl rfl) (Wr.p (v := Vf) 24 oo3 rfl (q_pick (t := false) rfl rfl) (Wr.z (Wx.go (Wc.no rfl (Wc.skip (Wx.blockEnd (Wx.go (Wc.region (Wl.q (v := Vi 1) (q_add (c := 1) rfl rfl (by decide)) (Wl.q (v := Vi 1) (q_move rfl) (Wl.done (Wx.again ?_)))))))))))))
              refine Wn.round ?_
              refine Wc.sr (Wl.q (v := Vt) (q_lss rfl rfl (dt (by decide))) (Wl.dg (Wc.seq (Wc.yes rfl (Wc.skip (Wx.go (Wc.seq (Wc.block (Wc.sr (Wl.q (v := Vi 1) (q_move rfl) (Wl.q (v := Vi 1) (q_assign rfl) (Wl.dg (Wc.sr (Wl.q (v := Vp dp) (q_move rfl) (Wl.q (v := Vi 1) (q_move rfl) (Wl.e (e_call (F := (pt bb 138 [Vi ((parseT (rd d 0)).2.1), Vi 0]) :: (pt ba 138 [Vi ((parseT (rd d 0)).1), Vi 0]) :: F) (args := [Vp dp, Vi 1]) call160 rfl (Con.eqs (val' := fun _ => Value.tuple #[Vs (rd d 1), Vi 0]) (post' := fun _ => [isDisk dp d]) (read_c W0 dp d 1 hsn) (fun _ => (by rw [show d.read 1 = (rd d 1, 0) from rd_read (i := 1) hd (by omega)])) (fun _ => rfl))) (fun _ _ => Wl.imp (L' := (isDisk dp d) :: (pt bb 138 [Vi ((parseT (rd d 0)).2.1), Vi 0]) :: (pt ba 138 [Vi ((parseT (rd d 0)).1), Vi 0]) :: F) (fun _ h => h) (Wl.q (v := Value.tuple #[Vs (rd d 1), Vi 0]) (q_move rfl) (Wl.q (q_extract (i := 0) rfl rfl) (Wl.q (q_extract (i := 1) rfl rfl) (Wl.q (v := Vs (rd d 1)) (q_assign rfl) (Wl.q (v := Vi 0) (q_assign rfl) (Wl.dg ?_)))))))))))))))))))))))
              refine Wc.seq (Wc.sr (Wl.q (v := Vi 0) (q_move rfl) (Wl.q (v := Vf) (q_neq rfl rfl (dt (by decide))) (Wl.dg (Wc.no rfl (Wc.skip (Wx.go (Wc.sr (Wl.q (v := Vf) (q_assign rfl) (Wl.dg (Wc.sr (Wl.q (v := Vi 1) (q_move rfl) (Wl.q (v := Vi 1) (q_move rfl) (Wl.q (v := Vs (rd d 1)) (q_move rfl) (Wl.e (e_call (F := (isDisk dp d) :: (pt bb 138 [Vi ((parseT (rd d 0)).2.1), Vi 0]) :: (pt ba 138 [Vi ((parseT (rd d 0)).1), Vi 0]) :: F) (args := [Vs (rd d 1)]) call161 rfl (parse_c W0 (rd d 1) (rd_size hw (by omega)))) (fun _ _ => Wl.q (v := Value.tuple #[Vi ((parseT (rd d 1)).1), Vi ((parseT (rd d 1)).2.1), Value.bool ((parseT (rd d 1)).2.2)]) (q_move rfl) (Wl.q (q_extract (i := 0) rfl rfl) (Wl.q (q_extract (i := 1) rfl rfl) (Wl.q (q_extract (i := 2) rfl rfl) (Wl.q (v := Value.pointer (some ⟨ba, 1, none⟩)) (q_idx_arr (m := 1) underlying138 sz_3 rfl rfl (by decide) (by decide) rfl) (Wl.e (e_store (i := 2) (v := Vi ((parseT (rd d 1)).1)) sz_3 rfl rfl (fun _ _ => rfl) rfl (by simp)) (fun _ _ => Wl.q (v := Value.pointer (some ⟨bb, 1, none⟩)) (q_idx_arr (m := 1) underlying138 sz_3 rfl rfl (by decide) (by decide) rfl) (Wl.e (e_store (i := 1) (v := Vi ((parseT (rd d 1)).2.1)) sz_3 rfl rfl (fun _ _ => rfl) rfl (by simp)) (fun _ _ => ?_))))))))))))))))))))))))
              rcases Bool.eq_false_or_eq_true (parseT (rd d 1)).2.2 with p1 | p1
              ·
                have r1 := parseT_rng p1
                have w1 := wrap_succ r1.1 r1.2.1
                refine Wl.q (v := Vt) (q_assign (Eq.trans rfl (congrArg Value.bool p1))) (Wl.dg (Wc.seq (Wc.drawsS [] ((isDisk dp d) :: (pt bb 138 [Vi ((parseT (rd d 0)).2.1), Vi ((parseT (rd d 1)).2.1)]) :: (pt ba 138 [Vi ((parseT (rd d 0)).1), Vi ((parseT (rd d 1)).1)]) :: []) (by kernel_rfl) (Wr.p (v := Vt) 0 oo3 rfl (q_move rfl) (Wr.p 1 oo3 rfl (q_not rfl rfl) (Wr.p (v := Vf) 2 oo3 rfl (q_move rfl) (Wr.p (v := Vi 1) 3 oo3 rfl (q_move rfl) (Wr.p (v := Value.pointer (some ⟨bb, 1, none⟩)) 4 oo3 rfl (q_idx_arr (m := 1) underlying138 sz_3 rfl rfl (by decide) (by decide) rfl) (Wr.t 5 oo3 rfl (q_c 1 sc_3 rfl rfl rfl) (Wr.p (v := Vp dp) 6 oo3 rfl (q_move rfl) (Wr.x 7 oo3 rfl (e_c call162 (sectors_c W0 dp d hn1 hm)) (fun _ _ => Wr.p (v := Vi (((half d.secs) * 64 : Nat) : Int)) 8 oo3 rfl (q_mul (c := (((half d.secs) * 64 : Nat) : Int)) rfl rfl (by rw [wrap_i64] <;> omega)) ?_))))))))))))
                by_cases h4 : (parseT (rd d 1)).2.1 > (((half d.secs) * 64 : Nat) : Int)
                ·
                  refine Wr.p 9 oo3 rfl (q_gtr rfl rfl (dt h4)) (Wr.p (v := Vt) 10 oo3 rfl (q_pick (t := false) rfl rfl) (Wr.p (v := Vt) 11 oo3 rfl (q_move rfl) (Wr.u 12 oo3 rfl (Wr.u 13 oo3 rfl (Wr.u 14 oo3 rfl (Wr.u 15 oo3 rfl (Wr.u 16 oo3 rfl (Wr.u 17 oo3 rfl (Wr.u 18 oo3 rfl (Wr.u 19 oo3 rfl (Wr.u 20 oo3 rfl (Wr.u 21 oo3 rfl (Wr.u 22 oo3 rfl (Wr.u 23 oo3 rfl (Wr.p (v := Vt) 24 oo3 rfl (q_pick (t := true) rfl rfl) (Wr.z (Wx.go (Wc.yes rfl (Wc.sr (Wl.q (v := Vz) (q_assign rfl) (Wl.q (v := Vi 14) (q_assign rfl) (Wl.dg (Wc.ret ?_)))))))))))))))))))))))
                  refine Wx.blockRet (Wx.thenRet (Wx.thenRet (Wx.blockRet (Wx.thenRet (Wx.f2 rfl (fun w hs => ?_))))))
                  have e : openD d = (14, none) := (openD_T hd (by omega)).trans (openT_bad2 (by omega))
                  exact ⟨0, trivial, by rw [e]; rfl, by rw [e]; exact (st_drop (st_drop (st_pull [1, 1] hs)))⟩
                ·
                  refine Wr.p 9 oo3 rfl (q_gtr rfl rfl (df h4)) (Wr.p (v := Vf) 10 oo3 rfl (q_pick (t := false) rfl rfl) (Wr.p (v := Vf) 11 oo3 rfl (q_move rfl) (Wr.p (v := Vi 1) 12 oo3 rfl (q_move rfl) (Wr.p (v := Value.pointer (some ⟨ba, 1, none⟩)) 13 oo3 rfl (q_idx_arr (m := 1) underlying138 sz_3 rfl rfl (by decide) (by decide) rfl) (Wr.t 14 oo3 rfl (q_c 2 sc_3 rfl rfl rfl) ?_)))))
                  by_cases h5 : (parseT (rd d 1)).1 > 0
                  ·
                    refine Wr.p 15 oo3 rfl (q_gtr rfl rfl (dt h5)) (Wr.p (v := Vt) 16 oo3 rfl (q_move rfl) (Wr.p (v := Vi 1) 17 oo3 rfl (q_move rfl) (Wr.p (v := Value.pointer (some ⟨ba, 1, none⟩)) 18 oo3 rfl (q_idx_arr (m := 1) underlying138 sz_3 rfl rfl (by decide) (by decide) rfl) (Wr.t 19 oo3 rfl (q_c 2 sc_3 rfl rfl rfl) (Wr.p (v := Vi ((parseT (rd d 1)).1 % 2)) 20 oo3 rfl (q_rem (c := ((parseT (rd d 1)).1 % 2)) rfl rfl (by decide) (tmod2_eq r1.1)) (Wr.p (v := Vi 1) 21 oo3 rfl (q_move rfl) ?_))))))
                    by_cases h6 : ((parseT (rd d 1)).1 % 2) = 1
                    ·
                      refine Wr.p 22 oo3 rfl (q_eql rfl rfl (dt h6)) (Wr.p (v := Vt) 23 oo3 rfl (q_pick (t := true) rfl rfl) (Wr.p (v := Vt) 24 oo3 rfl (q_pick (t := false) rfl rfl) (Wr.z (Wx.go (Wc.yes rfl (Wc.sr (Wl.q (v := Vz) (q_assign rfl) (Wl.q (v := Vi 14) (q_assign rfl) (Wl.dg (Wc.ret (Wx.blockRet (Wx.thenRet (Wx.thenRet (Wx.blockRet (Wx.thenRet (Wx.f2 rfl (fun w hs => ?_)))))))))))))))))
                      have e : openD d = (14, none) := (openD_T hd (by omega)).trans (openT_bad2 (by omega))
                      exact ⟨0, trivial, by rw [e]; rfl, by rw [e]; exact (st_drop (st_drop (st_pull [1, 1] hs)))⟩
                    ·
                      refine Wr.p 22 oo3 rfl (q_eql rfl rfl (df h6)) (Wr.p (v := Vf) 23 oo3 rfl (q_pick (t := true) rfl rfl) (Wr.p (v := Vf) 24 oo3 rfl (q_pick (t := false) rfl rfl) (Wr.z (Wx.go (Wc.no rfl (Wc.skip (Wx.blockEnd (Wx.go (Wc.region (Wl.q (v := Vi 2) (q_add (c := 2) rfl rfl (by decide)) (Wl.q (v := Vi 2) (q_move rfl) (Wl.done (Wx.again ?_)))))))))))))
                      refine Wn.round ?_
                      refine Wc.sr (Wl.q (v := Vf) (q_lss rfl rfl (df (by decide))) (Wl.dg (Wc.seq (Wc.no rfl (Wc.exit (Wx.thenExit (Wx.thenExit (Wx.out ?_))))))))
                      refine Wx.at () ⟨rfl, rfl, rfl, p0, p1, (by omega)⟩ (fun w hs => (st_pull [2, 1, 0] (hs)))
                  ·
                    refine Wr.p 15 oo3 rfl (q_gtr rfl rfl (df h5)) (Wr.p (v := Vf) 16 oo3 rfl (q_move rfl) (Wr.u 17 oo3 rfl (Wr.u 18 oo3 rfl (Wr.u 19 oo3 rfl (Wr.u 20 oo3 rfl (Wr.u 21 oo3 rfl (Wr.u 22 oo3 rfl (Wr.p (v := Vf) 23 oo3 rfl (q_pick (t := false) rfl rfl) (Wr.p (v := Vf) 24 oo3 rfl (q_pick (t := false) rfl rfl) (Wr.z (Wx.go (Wc.no rfl (Wc.skip (Wx.blockEnd (Wx.go (Wc.region (Wl.q (v := Vi 2) (q_add (c := 2) rfl rfl (by decide)) (Wl.q (v := Vi 2) (q_move rfl) (Wl.done (Wx.again ?_))))))))))))))))))))
                    refine Wn.round ?_
                    refine Wc.sr (Wl.q (v := Vf) (q_lss rfl rfl (df (by decide))) (Wl.dg (Wc.seq (Wc.no rfl (Wc.exit (Wx.thenExit (Wx.thenExit (Wx.out ?_))))))))
                    refine Wx.at () ⟨rfl, rfl, rfl, p0, p1, (by omega)⟩ (fun w hs => (st_pull [2, 1, 0] (hs)))
              ·
                refine Wl.q (v := Vf) (q_assign (Eq.trans rfl (congrArg Value.bool p1))) (Wl.dg (Wc.seq (Wc.drawsS [] ((isDisk dp d) :: (pt bb 138 [Vi ((parseT (rd d 0)).2.1), Vi ((parseT (rd d 1)).2.1)]) :: (pt ba 138 [Vi ((parseT (rd d 0)).1), Vi ((parseT (rd d 1)).1)]) :: []) (by kernel_rfl) (Wr.p (v := Vf) 0 oo3 rfl (q_move rfl) (Wr.p 1 oo3 rfl (q_not rfl rfl) (Wr.p (v := Vt) 2 oo3 rfl (q_move rfl) (Wr.u 3 oo3 rfl (Wr.u 4 oo3 rfl (Wr.u 5 oo3 rfl (Wr.u 6 oo3 rfl (Wr.u 7 oo3 rfl (Wr.u 8 oo3 rfl (Wr.u 9 oo3 rfl (Wr.p (v := Vt) 10 oo3 rfl (q_pick (t := true) rfl rfl) (Wr.p (v := Vt) 11 oo3 rfl (q_move rfl) (Wr.u 12 oo3 rfl (Wr.u 13 oo3 rfl (Wr.u 14 oo3 rfl (Wr.u 15 oo3 rfl (Wr.u 16 oo3 rfl (Wr.u 17 oo3 rfl (Wr.u 18 oo3 rfl (Wr.u 19 oo3 rfl ?_)))))))))))))))))))))))
                refine Wr.u 20 oo3 rfl (Wr.u 21 oo3 rfl (Wr.u 22 oo3 rfl (Wr.u 23 oo3 rfl (Wr.p (v := Vt) 24 oo3 rfl (q_pick (t := true) rfl rfl) (Wr.z (Wx.go (Wc.yes rfl (Wc.sr (Wl.q (v := Vz) (q_assign rfl) (Wl.q (v := Vi 14) (q_assign rfl) (Wl.dg (Wc.ret (Wx.blockRet (Wx.thenRet (Wx.thenRet (Wx.blockRet (Wx.thenRet (Wx.f2 rfl (fun w hs => ?_)))))))))))))))))))
                have e : openD d = (14, none) := (openD_T hd (by omega)).trans (openT_bad1 (.inr p1))
                exact ⟨0, trivial, by rw [e]; rfl, by rw [e]; exact (st_drop (st_drop (st_pull [1, 1] hs)))⟩
          ·
            refine Wr.p 15 oo3 rfl (q_gtr rfl rfl (df h2)) (Wr.p (v := Vf) 16 oo3 rfl (q_move rfl) (Wr.u 17 oo3 rfl (Wr.u 18 oo3 rfl (Wr.u 19 oo3 rfl (Wr.u 20 oo3 rfl (Wr.u 21 oo3 rfl (Wr.u 22 oo3 rfl (Wr.p (v := Vf) 23 oo3 rfl (q_pick (t := false) rfl rfl) (Wr.p (v := Vf) 24 oo3 rfl (q_pick (t := false) rfl rfl) (Wr.z (Wx.go (Wc.no rfl (Wc.skip (Wx.blockEnd (Wx.go (Wc.region (Wl.q (v := Vi 1) (q_add (c := 1) rfl rfl (by decide)) (Wl.q (v := Vi 1) (q_move rfl) (Wl.done (Wx.again ?_))))))))))))))))))))
            refine Wn.round ?_
            refine Wc.sr (Wl.q (v := Vt) (q_lss rfl rfl (dt (by decide))) (Wl.dg (Wc.seq (Wc.yes rfl (Wc.skip (Wx.go (Wc.seq (Wc.block (Wc.sr (Wl.q (v := Vi 1) (q_move rfl) (Wl.q (v := Vi 1) (q_assign rfl) (Wl.dg (Wc.sr (Wl.q (v := Vp dp) (q_move rfl) (Wl.q (v := Vi 1) (q_move rfl) (Wl.e (e_call (F := (pt bb 138 [Vi ((parseT (rd d 0)).2.1), Vi 0]) :: (pt ba 138 [Vi ((parseT (rd d 0)).1), Vi 0]) :: F) (args := [Vp dp, Vi 1]) call160 rfl (Con.eqs (val' := fun _ => Value.tuple #[Vs (rd d 1), Vi 0]) (post' := fun _ => [isDisk dp d]) (read_c W0 dp d 1 hsn) (fun _ => (by rw [show d.read 1 = (rd d 1, 0) from rd_read (i := 1) hd (by omega)])) (fun _ => rfl))) (fun _ _ => Wl.imp (L' := (isDisk dp d) :: (pt bb 138 [Vi ((parseT (rd d 0)).2.1), Vi 0]) :: (pt ba 138 [Vi ((parseT (rd d 0)).1), Vi 0]) :: F) (fun _ h => h) (Wl.q (v := Value.tuple #[Vs (rd d 1), Vi 0]) (q_move rfl) (Wl.q (q_extract (i := 0) rfl rfl) (Wl.q (q_extract (i := 1) rfl rfl) (Wl.q (v := Vs (rd d 1)) (q_assign rfl) (Wl.q (v := Vi 0) (q_assign rfl) (Wl.dg ?_)))))))))))))))))))))))
            refine Wc.seq (Wc.sr (Wl.q (v := Vi 0) (q_move rfl) (Wl.q (v := Vf) (q_neq rfl rfl (dt (by decide))) (Wl.dg (Wc.no rfl (Wc.skip (Wx.go (Wc.sr (Wl.q (v := Vf) (q_assign rfl) (Wl.dg (Wc.sr (Wl.q (v := Vi 1) (q_move rfl) (Wl.q (v := Vi 1) (q_move rfl) (Wl.q (v := Vs (rd d 1)) (q_move rfl) (Wl.e (e_call (F := (isDisk dp d) :: (pt bb 138 [Vi ((parseT (rd d 0)).2.1), Vi 0]) :: (pt ba 138 [Vi ((parseT (rd d 0)).1), Vi 0]) :: F) (args := [Vs (rd d 1)]) call161 rfl (parse_c W0 (rd d 1) (rd_size hw (by omega)))) (fun _ _ => Wl.q (v := Value.tuple #[Vi ((parseT (rd d 1)).1), Vi ((parseT (rd d 1)).2.1), Value.bool ((parseT (rd d 1)).2.2)]) (q_move rfl) (Wl.q (q_extract (i := 0) rfl rfl) (Wl.q (q_extract (i := 1) rfl rfl) (Wl.q (q_extract (i := 2) rfl rfl) (Wl.q (v := Value.pointer (some ⟨ba, 1, none⟩)) (q_idx_arr (m := 1) underlying138 sz_3 rfl rfl (by decide) (by decide) rfl) (Wl.e (e_store (i := 2) (v := Vi ((parseT (rd d 1)).1)) sz_3 rfl rfl (fun _ _ => rfl) rfl (by simp)) (fun _ _ => Wl.q (v := Value.pointer (some ⟨bb, 1, none⟩)) (q_idx_arr (m := 1) underlying138 sz_3 rfl rfl (by decide) (by decide) rfl) (Wl.e (e_store (i := 1) (v := Vi ((parseT (rd d 1)).2.1)) sz_3 rfl rfl (fun _ _ => rfl) rfl (by simp)) (fun _ _ => ?_))))))))))))))))))))))))
            rcases Bool.eq_false_or_eq_true (parseT (rd d 1)).2.2 with p1 | p1
            ·
              have r1 := parseT_rng p1
              have w1 := wrap_succ r1.1 r1.2.1
              refine Wl.q (v := Vt) (q_assign (Eq.trans rfl (congrArg Value.bool p1))) (Wl.dg (Wc.seq (Wc.drawsS [] ((isDisk dp d) :: (pt bb 138 [Vi ((parseT (rd d 0)).2.1), Vi ((parseT (rd d 1)).2.1)]) :: (pt ba 138 [Vi ((parseT (rd d 0)).1), Vi ((parseT (rd d 1)).1)]) :: []) (by kernel_rfl) (Wr.p (v := Vt) 0 oo3 rfl (q_move rfl) (Wr.p 1 oo3 rfl (q_not rfl rfl) (Wr.p (v := Vf) 2 oo3 rfl (q_move rfl) (Wr.p (v := Vi 1) 3 oo3 rfl (q_move rfl) (Wr.p (v := Value.pointer (some ⟨bb, 1, none⟩)) 4 oo3 rfl (q_idx_arr (m := 1) underlying138 sz_3 rfl rfl (by decide) (by decide) rfl) (Wr.t 5 oo3 rfl (q_c 1 sc_3 rfl rfl rfl) (Wr.p (v := Vp dp) 6 oo3 rfl (q_move rfl) (Wr.x 7 oo3 rfl (e_c call162 (sectors_c W0 dp d hn1 hm)) (fun _ _ => Wr.p (v := Vi (((half d.secs) * 64 : Nat) : Int)) 8 oo3 rfl (q_mul (c := (((half d.secs) * 64 : Nat) : Int)) rfl rfl (by rw [wrap_i64] <;> omega)) ?_))))))))))))
              by_cases h7 : (parseT (rd d 1)).2.1 > (((half d.secs) * 64 : Nat) : Int)
              ·
                refine Wr.p 9 oo3 rfl (q_gtr rfl rfl (dt h7)) (Wr.p (v := Vt) 10 oo3 rfl (q_pick (t := false) rfl rfl) (Wr.p (v := Vt) 11 oo3 rfl (q_move rfl) (Wr.u 12 oo3 rfl (Wr.u 13 oo3 rfl (Wr.u 14 oo3 rfl (Wr.u 15 oo3 rfl (Wr.u 16 oo3 rfl (Wr.u 17 oo3 rfl (Wr.u 18 oo3 rfl (Wr.u 19 oo3 rfl (Wr.u 20 oo3 rfl (Wr.u 21 oo3 rfl (Wr.u 22 oo3 rfl (Wr.u 23 oo3 rfl (Wr.p (v := Vt) 24 oo3 rfl (q_pick (t := true) rfl rfl) (Wr.z (Wx.go (Wc.yes rfl (Wc.sr (Wl.q (v := Vz) (q_assign rfl) (Wl.q (v := Vi 14) (q_assign rfl) (Wl.dg (Wc.ret ?_)))))))))))))))))))))))
                refine Wx.blockRet (Wx.thenRet (Wx.thenRet (Wx.blockRet (Wx.thenRet (Wx.f2 rfl (fun w hs => ?_))))))
                have e : openD d = (14, none) := (openD_T hd (by omega)).trans (openT_bad2 (by omega))
                exact ⟨0, trivial, by rw [e]; rfl, by rw [e]; exact (st_drop (st_drop (st_pull [1, 1] hs)))⟩
              ·
                refine Wr.p 9 oo3 rfl (q_gtr rfl rfl (df h7)) (Wr.p (v := Vf) 10 oo3 rfl (q_pick (t := false) rfl rfl) (Wr.p (v := Vf) 11 oo3 rfl (q_move rfl) (Wr.p (v := Vi 1) 12 oo3 rfl (q_move rfl) (Wr.p (v := Value.pointer (some ⟨ba, 1, none⟩)) 13 oo3 rfl (q_idx_arr (m := 1) underlying138 sz_3 rfl rfl (by decide) (by decide) rfl) (Wr.t 14 oo3 rfl (q_c 2 sc_3 rfl rfl rfl) ?_)))))
                by_cases h8 : (parseT (rd d 1)).1 > 0
                ·
                  refine Wr.p 15 oo3 rfl (q_gtr rfl rfl (dt h8)) (Wr.p (v := Vt) 16 oo3 rfl (q_move rfl) (Wr.p (v := Vi 1) 17 oo3 rfl (q_move rfl) (Wr.p (v := Value.pointer (some ⟨ba, 1, none⟩)) 18 oo3 rfl (q_idx_arr (m := 1) underlying138 sz_3 rfl rfl (by decide) (by decide) rfl) (Wr.t 19 oo3 rfl (q_c 2 sc_3 rfl rfl rfl) (Wr.p (v := Vi ((parseT (rd d 1)).1 % 2)) 20 oo3 rfl (q_rem (c := ((parseT (rd d 1)).1 % 2)) rfl rfl (by decide) (tmod2_eq r1.1)) (Wr.p (v := Vi 1) 21 oo3 rfl (q_move rfl) ?_))))))
                  by_cases h9 : ((parseT (rd d 1)).1 % 2) = 1
                  ·
                    refine Wr.p 22 oo3 rfl (q_eql rfl rfl (dt h9)) (Wr.p (v := Vt) 23 oo3 rfl (q_pick (t := true) rfl rfl) (Wr.p (v := Vt) 24 oo3 rfl (q_pick (t := false) rfl rfl) (Wr.z (Wx.go (Wc.yes rfl (Wc.sr (Wl.q (v := Vz) (q_assign rfl) (Wl.q (v := Vi 14) (q_assign rfl) (Wl.dg (Wc.ret (Wx.blockRet (Wx.thenRet (Wx.thenRet (Wx.blockRet (Wx.thenRet (Wx.f2 rfl (fun w hs => ?_)))))))))))))))))
                    have e : openD d = (14, none) := (openD_T hd (by omega)).trans (openT_bad2 (by omega))
                    exact ⟨0, trivial, by rw [e]; rfl, by rw [e]; exact (st_drop (st_drop (st_pull [1, 1] hs)))⟩
                  ·
                    refine Wr.p 22 oo3 rfl (q_eql rfl rfl (df h9)) (Wr.p (v := Vf) 23 oo3 rfl (q_pick (t := true) rfl rfl) (Wr.p (v := Vf) 24 oo3 rfl (q_pick (t := false) rfl rfl) (Wr.z (Wx.go (Wc.no rfl (Wc.skip (Wx.blockEnd (Wx.go (Wc.region (Wl.q (v := Vi 2) (q_add (c := 2) rfl rfl (by decide)) (Wl.q (v := Vi 2) (q_move rfl) (Wl.done (Wx.again ?_)))))))))))))
                    refine Wn.round ?_
                    refine Wc.sr (Wl.q (v := Vf) (q_lss rfl rfl (df (by decide))) (Wl.dg (Wc.seq (Wc.no rfl (Wc.exit (Wx.thenExit (Wx.thenExit (Wx.out ?_))))))))
                    refine Wx.at () ⟨rfl, rfl, rfl, p0, p1, (by omega)⟩ (fun w hs => (st_pull [2, 1, 0] (hs)))
                ·
                  refine Wr.p 15 oo3 rfl (q_gtr rfl rfl (df h8)) (Wr.p (v := Vf) 16 oo3 rfl (q_move rfl) (Wr.u 17 oo3 rfl (Wr.u 18 oo3 rfl (Wr.u 19 oo3 rfl (Wr.u 20 oo3 rfl (Wr.u 21 oo3 rfl (Wr.u 22 oo3 rfl (Wr.p (v := Vf) 23 oo3 rfl (q_pick (t := false) rfl rfl) (Wr.p (v := Vf) 24 oo3 rfl (q_pick (t := false) rfl rfl) (Wr.z (Wx.go (Wc.no rfl (Wc.skip (Wx.blockEnd (Wx.go (Wc.region (Wl.q (v := Vi 2) (q_add (c := 2) rfl rfl (by decide)) (Wl.q (v := Vi 2) (q_move rfl) (Wl.done (Wx.again ?_))))))))))))))))))))
                  refine Wn.round ?_
                  refine Wc.sr (Wl.q (v := Vf) (q_lss rfl rfl (df (by decide))) (Wl.dg (Wc.seq (Wc.no rfl (Wc.exit (Wx.thenExit (Wx.thenExit (Wx.out ?_))))))))
                  refine Wx.at () ⟨rfl, rfl, rfl, p0, p1, (by omega)⟩ (fun w hs => (st_pull [2, 1, 0] (hs)))
            ·
              refine Wl.q (v := Vf) (q_assign (Eq.trans rfl (congrArg Value.bool p1))) (Wl.dg (Wc.seq (Wc.drawsS [] ((isDisk dp d) :: (pt bb 138 [Vi ((parseT (rd d 0)).2.1), Vi ((parseT (rd d 1)).2.1)]) :: (pt ba 138 [Vi ((parseT (rd d 0)).1), Vi ((parseT (rd d 1)).1)]) :: []) (by kernel_rfl) (Wr.p (v := Vf) 0 oo3 rfl (q_move rfl) (Wr.p 1 oo3 rfl (q_not rfl rfl) (Wr.p (v := Vt) 2 oo3 rfl (q_move rfl) (Wr.u 3 oo3 rfl (Wr.u 4 oo3 rfl (Wr.u 5 oo3 rfl (Wr.u 6 oo3 rfl (Wr.u 7 oo3 rfl (Wr.u 8 oo3 rfl (Wr.u 9 oo3 rfl (Wr.p (v := Vt) 10 oo3 rfl (q_pick (t := true) rfl rfl) (Wr.p (v := Vt) 11 oo3 rfl (q_move rfl) (Wr.u 12 oo3 rfl (Wr.u 13 oo3 rfl (Wr.u 14 oo3 rfl (Wr.u 15 oo3 rfl (Wr.u 16 oo3 rfl (Wr.u 17 oo3 rfl (Wr.u 18 oo3 rfl (Wr.u 19 oo3 rfl ?_)))))))))))))))))))))))
              refine Wr.u 20 oo3 rfl (Wr.u 21 oo3 rfl (Wr.u 22 oo3 rfl (Wr.u 23 oo3 rfl (Wr.p (v := Vt) 24 oo3 rfl (q_pick (t := true) rfl rfl) (Wr.z (Wx.go (Wc.yes rfl (Wc.sr (Wl.q (v := Vz) (q_assign rfl) (Wl.q (v := Vi 14) (q_assign rfl) (Wl.dg (Wc.ret (Wx.blockRet (Wx.thenRet (Wx.thenRet (Wx.blockRet (Wx.thenRet (Wx.f2 rfl (fun w hs => ?_)))))))))))))))))))
              have e : openD d = (14, none) := (openD_T hd (by omega)).trans (openT_bad1 (.inr p1))
              exact ⟨0, trivial, by rw [e]; rfl, by rw [e]; exact (st_drop (st_drop (st_pull [1, 1] hs)))⟩
      ·
        refine Wl.q (v := Vf) (q_assign (Eq.trans rfl (congrArg Value.bool p0))) (Wl.dg (Wc.seq (Wc.drawsS [] ((isDisk dp d) :: (pt bb 138 [Vi ((parseT (rd d 0)).2.1), Vi 0]) :: (pt ba 138 [Vi ((parseT (rd d 0)).1), Vi 0]) :: []) (by kernel_rfl) (Wr.p (v := Vf) 0 oo3 rfl (q_move rfl) (Wr.p 1 oo3 rfl (q_not rfl rfl) (Wr.p (v := Vt) 2 oo3 rfl (q_move rfl) (Wr.u 3 oo3 rfl (Wr.u 4 oo3 rfl (Wr.u 5 oo3 rfl (Wr.u 6 oo3 rfl (Wr.u 7 oo3 rfl (Wr.u 8 oo3 rfl (Wr.u 9 oo3 rfl (Wr.p (v := Vt) 10 oo3 rfl (q_pick (t := true) rfl rfl) (Wr.p (v := Vt) 11 oo3 rfl (q_move rfl) (Wr.u 12 oo3 rfl (Wr.u 13 oo3 rfl (Wr.u 14 oo3 rfl (Wr.u 15 oo3 rfl (Wr.u 16 oo3 rfl (Wr.u 17 oo3 rfl (Wr.u 18 oo3 rfl (Wr.u 19 oo3 rfl ?_)))))))))))))))))))))))
        refine Wr.u 20 oo3 rfl (Wr.u 21 oo3 rfl (Wr.u 22 oo3 rfl (Wr.u 23 oo3 rfl (Wr.p (v := Vt) 24 oo3 rfl (q_pick (t := true) rfl rfl) (Wr.z (Wx.go (Wc.yes rfl (Wc.sr (Wl.q (v := Vz) (q_assign rfl) (Wl.q (v := Vi 14) (q_assign rfl) (Wl.dg (Wc.ret (Wx.blockRet (Wx.thenRet (Wx.thenRet (Wx.blockRet (Wx.thenRet (Wx.f2 rfl (fun w hs => ?_)))))))))))))))))))
        have e : openD d = (14, none) := (openD_T hd (by omega)).trans (openT_bad1 (.inl p0))
        exact ⟨0, trivial, by rw [e]; rfl, by rw [e]; exact (st_drop (st_drop (st_pull [1, 1] hs)))⟩
    · rintro _ E11 ⟨hE0_9, hE4_9, hE5_9, p0, p1, hnb⟩
      have r0 := parseT_rng p0
      have r1 := parseT_rng p1
      have w0 := wrap_succ r0.1 r0.2.1
      have w1 := wrap_succ r1.1 r1.2.1
      refine Wc.sr (Wl.q (v := Vp dp) (q_move hE0_9) (Wl.q (v := Value.agg #[Vp dp, Vs (⟨#[]⟩), Vi 0, Vf]) (q_build (pl := [(0, 1), (1, 1), (2, 1), (3, 1)]) underlying144 zo_144 (by kernel_rfl) (by kernel_rfl)) (Wl.e (e_box (x := .tmp 73) (vs := [Vp dp, Vs (⟨#[]⟩), Vi 0, Vf]) rfl) (fun jb _ => Wl.q (v := Vp jb) (q_assign rfl) (Wl.dg (Wc.seq (Wc.sr (Wl.q (v := Vi 0) (q_assign rfl) (Wl.dg (Wc.block (Wc.sr (Wl.q (v := Value.agg #[Vi ((parseT (rd d 0)).1), Vi ((parseT (rd d 1)).1)]) (q_loadAgg (vs := [Vi ((parseT (rd d 0)).1), Vi ((parseT (rd d 1)).1)]) ag_138 hE4_9 (Has.of_pt (i := 1) rfl rfl)) (Wl.q (v := Value.agg #[Vi 0, Vi 0]) (q_buildArr underlying138 zo_138 sz_3 (by kernel_rfl)) ?_)))))))))))))
      by_cases hz : (parseT (rd d 0)).1 = 0 ∧ (parseT (rd d 1)).1 = 0
      ·
        refine Wl.q (v := Vt) (q_eql_agg (r := true) rfl rfl eg_138 (fun w => by rw [eqI2, dt hz])) (Wl.q (v := Vt) (q_assign rfl) (Wl.dg (Wc.yes rfl (Wc.skip (Wx.blockEnd (Wx.go (Wc.sr (Wl.q (v := Vp jb) (q_move rfl) (Wl.q (v := Vp jb) (q_assign rfl) (Wl.q (v := Vi 0) (q_assign rfl) (Wl.dg (Wc.ret (Wx.f2 rfl (fun w hs => ?_))))))))))))))
        have e : openD d = (0, some (ByteArray.empty, 0)) := (openD_T hd (by omega)).trans (openT_zero p0 p1 (by omega) hz)
        exact ⟨jb, trivial, by rw [e]; rfl, by rw [e]; exact (st_drop (st_drop (st_pull [1, 1] hs)))⟩
      ·
        refine Wl.q (v := Vf) (q_eql_agg (r := false) rfl rfl eg_138 (fun w => by rw [eqI2, df hz])) (Wl.q (v := Vf) (q_assign rfl) (Wl.dg (Wc.no rfl (Wc.seq (Wc.sr (Wl.q (v := Vp ba) (q_idx_arr (m := 0) underlying138 sz_3 hE4_9 rfl (by decide) (by decide) rfl) (Wl.q (q_c 1 sc_3 rfl rfl rfl) (Wl.q (v := Value.pointer (some ⟨ba, 1, none⟩)) (q_idx_arr (m := 1) underlying138 sz_3 hE4_9 rfl (by decide) (by decide) rfl) (Wl.q (q_c 1 sc_3 rfl rfl rfl) (Wl.q (v := Vi (IntKind.i64.wrap ((parseT (rd d 1)).1 + 1))) (q_add (c := (IntKind.i64.wrap ((parseT (rd d 1)).1 + 1))) rfl rfl rfl) ?_))))))))))
        by_cases h12 : (parseT (rd d 0)).1 = (IntKind.i64.wrap ((parseT (rd d 1)).1 + 1))
        ·
          refine Wl.q (q_eql rfl rfl (dt h12)) (Wl.q (v := Vt) (q_assign rfl) (Wl.dg (Wc.yes rfl (Wc.skip (Wx.go (Wc.yes rfl (Wc.seq (Wc.sr (Wl.q (v := Value.pointer (some ⟨ba, 1, none⟩)) (q_idx_arr (m := 1) underlying138 sz_3 hE4_9 rfl (by decide) (by decide) rfl) (Wl.q (q_c 1 sc_3 rfl rfl rfl) (Wl.q (v := Vp ba) (q_idx_arr (m := 0) underlying138 sz_3 hE4_9 rfl (by decide) (by decide) rfl) (Wl.q (q_c 1 sc_3 rfl rfl rfl) ?_))))))))))))
          by_cases h13 : (parseT (rd d 1)).1 > (parseT (rd d 0)).1
          ·
            refine Wl.q (q_gtr rfl rfl (dt h13)) (Wl.dg (Wc.yes rfl (Wc.region (Wl.q (v := Vi 1) (q_assign rfl) (Wl.dg (Wc.sr (Wl.q (v := Vp jb) (q_move rfl) (Wl.q (v := Vi 1) (q_move rfl) (Wl.q (v := Value.pointer (some ⟨ba, 1, none⟩)) (q_idx_arr (m := 1) underlying138 sz_3 hE4_9 rfl (by decide) (by decide) rfl) (Wl.q (q_c 1 sc_3 rfl rfl rfl) (Wl.q (q_nil_ptr rfl) (Wl.q (q_field fo_144_2 rfl rfl) (Wl.e (e_store (i := 0) (v := Vi ((parseT (rd d 1)).1)) sz_3 rfl rfl (fun _ _ => rfl) rfl (by simp)) (fun _ _ => Wl.dg (Wc.sr (Wl.q (v := Vp jb) (q_move rfl) (Wl.q (v := Vp jb) (q_move rfl) (Wl.q (v := Vi 1) (q_move rfl) (Wl.q (v := Value.pointer (some ⟨bb, 1, none⟩)) (q_idx_arr (m := 1) underlying138 sz_3 hE5_9 rfl (by decide) (by decide) rfl) (Wl.q (q_c 2 sc_3 rfl rfl rfl) (Wl.pull [0, 2] (Wl.e (e_c call163 (load_c W0 jb dp (⟨#[]⟩) ((parseT (rd d 1)).1) ((parseT (rd d 1)).2.1) false d hw hd (by omega) hsn r1.2.2.1 (by omega) r1.1)) (fun _ _ => Wl.q (v := Vp jb) (q_assign rfl) ?_)))))))))))))))))))))))
            refine Wl.q (v := Vi 0) (q_assign rfl) (Wl.dg (Wc.ret (Wx.blockRet (Wx.thenRet (Wx.f2 rfl (fun w hs => ?_))))))
            have e : openD d = (0, some (textR (rd d) (first d.secs (parseT (rd d 1)).1) (parseT (rd d 1)).2.1, (parseT (rd d 1)).1)) := (openD_T hd (by omega)).trans (openT_b p0 p1 (by omega) hz (by omega) (by omega))
            exact ⟨jb, trivial, by rw [e]; rfl, by rw [e]; exact (st_pull [1, 0] (st_drop (st_drop (st_pull [2, 2] hs))))⟩
          ·
            refine Wl.q (q_gtr rfl rfl (df h13)) (Wl.dg (Wc.no rfl (Wc.skip (Wx.go (Wc.sr (Wl.q (v := Vp jb) (q_move rfl) (Wl.q (v := Vi 0) (q_move rfl) (Wl.q (v := Vp ba) (q_idx_arr (m := 0) underlying138 sz_3 hE4_9 rfl (by decide) (by decide) rfl) (Wl.q (q_c 1 sc_3 rfl rfl rfl) (Wl.q (q_nil_ptr rfl) (Wl.q (q_field fo_144_2 rfl rfl) (Wl.e (e_store (i := 0) (v := Vi ((parseT (rd d 0)).1)) sz_3 rfl rfl (fun _ _ => rfl) rfl (by simp)) (fun _ _ => Wl.dg (Wc.sr (Wl.q (v := Vp jb) (q_move rfl) (Wl.q (v := Vp jb) (q_move rfl) (Wl.q (v := Vi 0) (q_move rfl) (Wl.q (v := Vp bb) (q_idx_arr (m := 0) underlying138 sz_3 hE5_9 rfl (by decide) (by decide) rfl) (Wl.q (q_c 2 sc_3 rfl rfl rfl) (Wl.pull [0, 2] (Wl.e (e_c call163 (load_c W0 jb dp (⟨#[]⟩) ((parseT (rd d 0)).1) ((parseT (rd d 0)).2.1) false d hw hd (by omega) hsn r0.2.2.1 (by omega) r0.1)) (fun _ _ => Wl.q (v := Vp jb) (q_assign rfl) (Wl.q (v := Vi 0) (q_assign rfl) ?_)))))))))))))))))))))))
            refine Wl.dg (Wc.ret (Wx.blockRet (Wx.thenRet (Wx.f2 rfl (fun w hs => ?_)))))
            have e : openD d = (0, some (textR (rd d) (first d.secs (parseT (rd d 0)).1) (parseT (rd d 0)).2.1, (parseT (rd d 0)).1)) := (openD_T hd (by omega)).trans (openT_a p0 p1 (by omega) hz (by omega))
            exact ⟨jb, trivial, by rw [e]; rfl, by rw [e]; exact (st_pull [1, 0] (st_drop (st_drop (st_pull [2, 2] hs))))⟩
        ·
          refine Wl.q (q_eql rfl rfl (df h12)) (Wl.q (v := Vf) (q_assign rfl) (Wl.dg (Wc.no rfl (Wc.region (Wl.q (v := Vp ba) (q_idx_arr (m := 0) underlying138 sz_3 hE4_9 rfl (by decide) (by decide) rfl) (Wl.q (q_c 1 sc_3 rfl rfl rfl) ?_))))))
          by_cases h14 : (parseT (rd d 0)).1 > 0
          ·
            refine Wl.q (q_gtr rfl rfl (dt h14)) (Wl.q (v := Vt) (q_move rfl) (Wl.q (v := Value.pointer (some ⟨ba, 1, none⟩)) (q_idx_arr (m := 1) underlying138 sz_3 hE4_9 rfl (by decide) (by decide) rfl) (Wl.q (q_c 1 sc_3 rfl rfl rfl) (Wl.q (v := Vp ba) (q_idx_arr (m := 0) underlying138 sz_3 hE4_9 rfl (by decide) (by decide) rfl) (Wl.q (q_c 1 sc_3 rfl rfl rfl) (Wl.q (v := Vi (IntKind.i64.wrap ((parseT (rd d 0)).1 + 1))) (q_add (c := (IntKind.i64.wrap ((parseT (rd d 0)).1 + 1))) rfl rfl rfl) ?_))))))
            by_cases h15 : (parseT (rd d 1)).1 = (IntKind.i64.wrap ((parseT (rd d 0)).1 + 1))
            ·
              refine Wl.q (q_eql rfl rfl (dt h15)) (Wl.q (v := Vt) (q_pick (t := true) rfl rfl) (Wl.q (v := Vt) (q_assign rfl) (Wl.dg (Wc.yes rfl (Wc.seq (Wc.sr (Wl.q (v := Value.pointer (some ⟨ba, 1, none⟩)) (q_idx_arr (m := 1) underlying138 sz_3 hE4_9 rfl (by decide) (by decide) rfl) (Wl.q (q_c 1 sc_3 rfl rfl rfl) (Wl.q (v := Vp ba) (q_idx_arr (m := 0) underlying138 sz_3 hE4_9 rfl (by decide) (by decide) rfl) (Wl.q (q_c 1 sc_3 rfl rfl rfl) ?_))))))))))
              by_cases h16 : (parseT (rd d 1)).1 > (parseT (rd d 0)).1
              ·
                refine Wl.q (q_gtr rfl rfl (dt h16)) (Wl.dg (Wc.yes rfl (Wc.region (Wl.q (v := Vi 1) (q_assign rfl) (Wl.dg (Wc.sr (Wl.q (v := Vp jb) (q_move rfl) (Wl.q (v := Vi 1) (q_move rfl) (Wl.q (v := Value.pointer (some ⟨ba, 1, none⟩)) (q_idx_arr (m := 1) underlying138 sz_3 hE4_9 rfl (by decide) (by decide) rfl) (Wl.q (q_c 1 sc_3 rfl rfl rfl) (Wl.q (q_nil_ptr rfl) (Wl.q (q_field fo_144_2 rfl rfl) (Wl.e (e_store (i := 0) (v := Vi ((parseT (rd d 1)).1)) sz_3 rfl rfl (fun _ _ => rfl) rfl (by simp)) (fun _ _ => Wl.dg (Wc.sr (Wl.q (v := Vp jb) (q_move rfl) (Wl.q (v := Vp jb) (q_move rfl) (Wl.q (v := Vi 1) (q_move rfl) (Wl.q (v := Value.pointer (some ⟨bb, 1, none⟩)) (q_idx_arr (m := 1) underlying138 sz_3 hE5_9 rfl (by decide) (by decide) rfl) (Wl.q (q_c 2 sc_3 rfl rfl rfl) (Wl.pull [0, 2] (Wl.e (e_c call163 (load_c W0 jb dp (⟨#[]⟩) ((parseT (rd d 1)).1) ((parseT (rd d 1)).2.1) false d hw hd (by omega) hsn r1.2.2.1 (by omega) r1.1)) (fun _ _ => Wl.q (v := Vp jb) (q_assign rfl) ?_)))))))))))))))))))))))
                refine Wl.q (v := Vi 0) (q_assign rfl) (Wl.dg (Wc.ret (Wx.blockRet (Wx.thenRet (Wx.f2 rfl (fun w hs => ?_))))))
                have e : openD d = (0, some (textR (rd d) (first d.secs (parseT (rd d 1)).1) (parseT (rd d 1)).2.1, (parseT (rd d 1)).1)) := (openD_T hd (by omega)).trans (openT_b p0 p1 (by omega) hz (by omega) (by omega))
                exact ⟨jb, trivial, by rw [e]; rfl, by rw [e]; exact (st_pull [1, 0] (st_drop (st_drop (st_pull [2, 2] hs))))⟩
              ·
                refine Wl.q (q_gtr rfl rfl (df h16)) (Wl.dg (Wc.no rfl (Wc.skip (Wx.go (Wc.sr (Wl.q (v := Vp jb) (q_move rfl) (Wl.q (v := Vi 0) (q_move rfl) (Wl.q (v := Vp ba) (q_idx_arr (m := 0) underlying138 sz_3 hE4_9 rfl (by decide) (by decide) rfl) (Wl.q (q_c 1 sc_3 rfl rfl rfl) (Wl.q (q_nil_ptr rfl) (Wl.q (q_field fo_144_2 rfl rfl) (Wl.e (e_store (i := 0) (v := Vi ((parseT (rd d 0)).1)) sz_3 rfl rfl (fun _ _ => rfl) rfl (by simp)) (fun _ _ => Wl.dg (Wc.sr (Wl.q (v := Vp jb) (q_move rfl) (Wl.q (v := Vp jb) (q_move rfl) (Wl.q (v := Vi 0) (q_move rfl) (Wl.q (v := Vp bb) (q_idx_arr (m := 0) underlying138 sz_3 hE5_9 rfl (by decide) (by decide) rfl) (Wl.q (q_c 2 sc_3 rfl rfl rfl) (Wl.pull [0, 2] (Wl.e (e_c call163 (load_c W0 jb dp (⟨#[]⟩) ((parseT (rd d 0)).1) ((parseT (rd d 0)).2.1) false d hw hd (by omega) hsn r0.2.2.1 (by omega) r0.1)) (fun _ _ => Wl.q (v := Vp jb) (q_assign rfl) (Wl.q (v := Vi 0) (q_assign rfl) ?_)))))))))))))))))))))))
                refine Wl.dg (Wc.ret (Wx.blockRet (Wx.thenRet (Wx.f2 rfl (fun w hs => ?_)))))
                have e : openD d = (0, some (textR (rd d) (first d.secs (parseT (rd d 0)).1) (parseT (rd d 0)).2.1, (parseT (rd d 0)).1)) := (openD_T hd (by omega)).trans (openT_a p0 p1 (by omega) hz (by omega))
                exact ⟨jb, trivial, by rw [e]; rfl, by rw [e]; exact (st_pull [1, 0] (st_drop (st_drop (st_pull [2, 2] hs))))⟩
            ·
              refine Wl.q (q_eql rfl rfl (df h15)) (Wl.q (v := Vf) (q_pick (t := true) rfl rfl) (Wl.q (v := Vf) (q_assign rfl) (Wl.dg (Wc.no rfl (Wc.sr (Wl.q (v := Vz) (q_assign rfl) (Wl.q (v := Vi 14) (q_assign rfl) (Wl.dg (Wc.ret (Wx.blockRet (Wx.thenRet (Wx.f2 rfl (fun w hs => ?_)))))))))))))
              have e : openD d = (14, none) := (openD_T hd (by omega)).trans (openT_bad3 hz (by omega) (by omega))
              exact ⟨0, trivial, by rw [e]; rfl, by rw [e]; exact (st_drop (st_drop (st_drop (st_pull [0, 0, 0] hs))))⟩
          ·
            refine Wl.q (q_gtr rfl rfl (df h14)) (Wl.q (v := Vf) (q_move rfl) (Wl.no (Wl.no (Wl.no (Wl.no (Wl.no (Wl.no (Wl.q (v := Vf) (q_pick (t := false) rfl rfl) (Wl.q (v := Vf) (q_assign rfl) (Wl.dg (Wc.no rfl (Wc.sr (Wl.q (v := Vz) (q_assign rfl) (Wl.q (v := Vi 14) (q_assign rfl) (Wl.dg (Wc.ret (Wx.blockRet (Wx.thenRet (Wx.f2 rfl (fun w hs => ?_))))))))))))))))))))
            have e : openD d = (14, none) := (openD_T hd (by omega)).trans (openT_bad3 hz (by omega) (by omega))
            exact ⟨0, trivial, by rw [e]; rfl, by rw [e]; exact (st_drop (st_drop (st_drop (st_pull [0, 0, 0] hs))))⟩
theorem open_down (W0 : World) (dp : Nat) (d : DS) (hw : WF d) (hn1 : 1 ≤ d.secs.length) (hsn : d.since.length < 1099511627776) (hd : d.down = true) :
  Con prog W0 33 #[Vp dp] [isDisk dp d] (X := Nat) (fun _ => True) (openV (openD d)) (fun j => openP (openD d) j dp d) := by
 refine Con.of func33 rfl ntmps33 rfl (fun F => ?_)
 show Wc _ W0 _ _ _ _ _ ((isDisk dp d) :: F)
 refine Wc.sr (Wl.q (v := Vz) (q_assign rfl) (Wl.q (v := Vi 0) (q_assign rfl) (Wl.dg (Wc.seq (Wc.block (Wc.sr (Wl.q (v := Vp dp) (q_move rfl) (Wl.e (e_c call158 (len_c W0 dp d )) (fun _ _ => Wl.imp (L' := (isDisk dp d) :: F) (fun _ h => h) (Wl.q (q_eql rfl rfl (df (by omega))) (Wl.q (v := Vf) (q_assign rfl) (Wl.dg (Wc.no rfl (Wc.sr (Wl.q (v := Vp dp) (q_move rfl) (Wl.e (e_call (F := F) (args := [Vp dp]) call159 rfl (Con.eqs (val' := fun _ => Vf) (post' := fun _ => [isDisk dp d]) (up_c W0 dp d ) (fun _ => (by rw [hd]; rfl)) (fun _ => rfl))) (fun _ _ => Wl.q (q_not rfl rfl) (Wl.q (v := Vt) (q_assign rfl) (Wl.dg (Wc.yes rfl (Wc.sr (Wl.q (v := Vz) (q_assign rfl) (Wl.q (v := Vi 6) (q_assign rfl) ?_)))))))))))))))))))))))
 refine Wl.dg (Wc.ret (Wx.blockRet (Wx.thenRet (Wx.f2 rfl (fun w hs => ?_)))))
 have e : openD d = (6, none) := if_pos hd
 exact ⟨0, trivial, by rw [e]; rfl, by rw [e]; exact hs⟩
theorem open_c (W0 : World) (dp : Nat) (d : DS) (hw : WF d) (hn1 : 1 ≤ d.secs.length) (hsn : d.since.length < 1099511627776) : Con prog W0 33 #[.pointer (some ⟨dp, 0, none⟩)] [isDisk dp d] (X := Nat) (fun _ => True) (openV (openD d)) (fun j => openP (openD d) j dp d) := by
 cases hd : d.down
 · exact open_up W0 dp d hw hn1 hsn hd
 · exact open_down W0 dp d hw hn1 hsn hd
theorem open_ok (W0 : World) (dp : Nat) (d : DS) (hw : WF d) (hn1 : 1 ≤ d.secs.length) (hsn : d.since.length < 1099511627776) {t : ByteArray} {q : Int} (h : openD d = (0, some (t, q))) : Con prog W0 33 #[.pointer (some ⟨dp, 0, none⟩)] [isDisk dp d] (X := Nat) (fun _ => True) (fun j => .tuple #[.pointer (some ⟨j, 0, none⟩), .int .i64 0]) (fun j => [isJ j dp ⟨t, q, false⟩, isDisk dp d]) := by
 have := open_c W0 dp d hw hn1 hsn
 rw [h] at this
 exact this
theorem open_bad (W0 : World) (dp : Nat) (d : DS) (hw : WF d) (hn1 : 1 ≤ d.secs.length) (hsn : d.since.length < 1099511627776) {c : Int} (h : openD d = (c, none)) : Con prog W0 33 #[.pointer (some ⟨dp, 0, none⟩)] [isDisk dp d] (X := Nat) (fun _ => True) (fun _ => .tuple #[.pointer none, .int .i64 c]) (fun j => [isDisk dp d]) := by
 have := open_c W0 dp d hw hn1 hsn
 rw [h] at this
 exact this
end Go.Proofs.YtjnejkdamhefgaaGreatDoor
