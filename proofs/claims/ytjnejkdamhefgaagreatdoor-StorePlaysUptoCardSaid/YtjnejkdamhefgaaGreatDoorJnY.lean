/- A part of the proof. -/
import Derived.Test.YtjnejkdamhefgaaGreatDoorJnW
namespace Go.Proofs.YtjnejkdamhefgaaGreatDoor
open Tryz
open Go Go.SL Go.Dk Go.Jn Go.RowKit
set_option linter.unusedVariables false
set_option maxRecDepth 8000
theorem zo_26 : zeroOf prog 26 = some (Value.int .i64 0) := by kernel_rfl
theorem sc_109 : scalar prog 109 = true := by kernel_rfl
theorem sz_26 : sizeIs prog 26 = some 1 := by kernel_rfl
theorem sc_26 : scalar prog 26 = true := by kernel_rfl
theorem wall_kp : ∀ (ws : List (Nat × ByteArray)) {d0 d : DS} {m : Nat}, Kp d0 d m → Kp d0 (wall d ws).2 (m + ws.length)
  | [], _, _, _, h => h
  | p :: r, d0, d, m, h => by
    rw [wall]
    split
    · have := wall_kp r (h.write p.1 p.2)
      rw [show m + (p :: r).length = m + 1 + r.length by simp only [List.length_cons]; omega]
      exact this
    · exact (h.write p.1 p.2).le (by simp only [List.length_cons]; omega)
set_option maxHeartbeats 4000000 in
theorem put_in (W0 : World) (j dp : Nat) (t : ByteArray) (q : Int) (d : DS) (s : ByteArray) (hw : WF d) (hn1 : 1 ≤ d.secs.length) (hsn : d.since.length < 1000000000000) (hct : d.count < 4000000000000000000) (hq0 : 0 ≤ q) (hq : q < 9223372036854775807) (hsz : s.size ≤ 262144) :
  Con prog W0 181 #[Vp j, Vs s] [pt j 144 [Vp dp, Vs t, Vi q, Vf], isDisk dp d] (X := Unit) (fun _ => True) (fun _ => .int .i64 (putD d q s).1) (fun _ => [pt j 144 [Vp dp, Vs t, Vi q, Vf], isDisk dp (putD d q s).2]) := by
 refine Con.ofM (args := [Vp j, Vs s]) func181 rfl ntmps181 rfl (fun F => ?_)
 have hm := hw.l.len
 have hh : half d.secs ≤ 2047 := by unfold half; omega
 have hf2 : first d.secs (q + 1) ≤ 4096 := by unfold first; split <;> omega
 have hkW := (wall_kp (pieces s (first d.secs (q + 1))) (Kp.refl hw))
 rw [pieces_len, Nat.zero_add] at hkW
 have hn := pieces_le (n := 4096) (s := s) (by omega)
 have hksW := hkW.since
 have hkcW := hkW.count
 have hkS := hkW.sync
 have hksS := hkS.since
 have hkcS := hkS.count
 have hkH := hkS.write (q % 2) (headB (q + 1) (s.size : Int))
 have hksH := hkH.since
 have hkcH := hkH.count
 show Wc _ W0 _ _ _ _ _ ((pt j 144 [Vp dp, Vs t, Vi q, Vf]) :: (isDisk dp d) :: F)
 refine Wc.sr (Wl.e (e_box (x := .tmp 0) (vs := [Vp j]) rfl) (fun cj _ => ?_))
 refine Wl.e (e_alloc (vs := [Vi 0]) zo_26 rfl) (fun cr _ => ?_)
 refine Wl.dg (Wc.seq (Wc.seq (Wc.drawsS [11] ((pt cr 26 [Vi 0]) :: (pt cj 109 [Vp j]) :: (pt j 144 [Vp dp, Vs t, Vi q, Vf]) :: (isDisk dp d) :: []) (by kernel_rfl) (Wr.p 0 oo4 rfl (q_move rfl) (Wr.t 1 oo4 rfl (q_c 1 sc_109 rfl rfl rfl) (Wr.p 2 oo4 rfl (q_nil_ptr rfl) (Wr.p 3 oo4 rfl (q_field (m := 0) fo_144_0 rfl rfl) (Wr.t 4 oo4 rfl (q_c 2 sc_25 rfl rfl rfl) (Wr.t 5 oo4 rfl (q_c 1 sc_109 rfl rfl rfl) (Wr.p 6 oo4 rfl (q_nil_ptr rfl) (Wr.p 7 oo4 rfl (q_field (m := 2) fo_144_2 rfl rfl) (Wr.t 8 oo4 rfl (q_c 2 sc_3 rfl rfl rfl) (Wr.p 9 oo4 rfl (q_add (c := (q + 1)) rfl rfl (wrap_i64 (by omega) (by omega))) (Wr.imp (L' := (isDisk dp d) :: (pt cr 26 [Vi 0]) :: (pt cj 109 [Vp j]) :: (pt j 144 [Vp dp, Vs t, Vi q, Vf]) :: F) (fun _ h => st_pull [3] h) (Wr.x 10 [1, 1, 1, 0] rfl (e_call (F := (pt cr 26 [Vi 0]) :: (pt cj 109 [Vp j]) :: (pt j 144 [Vp dp, Vs t, Vi q, Vf]) :: F) (args := [Vp dp, Vi (q + 1)]) call262 rfl (first_c W0 dp d (q + 1) (by omega) hn1 hm)) (fun _ _ => Wr.x0 11 rfl (e_call (F := (isDisk dp d) :: (pt cr 26 [Vi 0]) :: (pt cj 109 [Vp j]) :: (pt j 144 [Vp dp, Vs t, Vi q, Vf]) :: F) (args := [Vs s, Vi ((first d.secs (q + 1) : Nat) : Int)]) call277 rfl (pieces_c W0 s ((first d.secs (q + 1) : Nat) : Int))) (fun ⟨c1, c2⟩ _ => Wr.rebaseS [] ((pt c1 9 [Vs s]) :: (pt c2 3 [Vi ((first d.secs (q + 1) : Nat) : Int)]) :: (isDisk dp d) :: (pt cr 26 [Vi 0]) :: (pt cj 109 [Vp j]) :: (pt j 144 [Vp dp, Vs t, Vi q, Vf]) :: []) (by kernel_rfl) (Wr.z (Wx.go (Wc.block (Wc.imp (L' := (pt c1 9 [Vs s]) :: (pt c2 3 [Vi ((first d.secs (q + 1) : Nat) : Int)]) :: (fun r : Int × DS => grp [pt cj 109 [Vp j], pt cr 26 [Vi r.1], pt j 144 [Vp dp, Vs t, Vi q, Vf], isDisk dp r.2]) (0, d) :: F) (fun w hs => st_pull [1, 1] ((st_grp (M := [pt cj 109 [Vp j], pt cr 26 [Vi 0], pt j 144 [Vp dp, Vs t, Vi q, Vf], isDisk dp d])).2 (st_pull [4, 3, 3, 2, 0, 0] (hs)))) ?_)))))))))))))))))))))
 refine Wc.rangeFunc (lb := [Vp c1, Vp c2]) (pre := [pt c1 9 [Vs s], pt c2 3 [Vi ((first d.secs (q + 1) : Nat) : Int)], (fun r : Int × DS => grp [pt cj 109 [Vp j], pt cr 26 [Vi r.1], pt j 144 [Vp dp, Vs t, Vi q, Vf], isDisk dp r.2]) (0, d)]) (F := F) (X := Unit) (φ := fun _ => True) (val := fun _ => .tuple #[]) (z := fun _ => if (wall d (pieces s (first d.secs (q + 1)))).1 = 0 then .ready else .done) (pe := fun _ => if (wall d (pieces s (first d.secs (q + 1)))).1 = 0 then none else some .ret) (post := fun _ => [(fun r : Int × DS => grp [pt cj 109 [Vp j], pt cr 26 [Vi r.1], pt j 144 [Vp dp, Vs t, Vi q, Vf], isDisk dp r.2]) (wall d (pieces s (first d.secs (q + 1))))]) rfl call301 (fun _ => by split <;> (intro h; cases h)) ?_ ?_ ?_
 ·
  intro l
  refine pieces_iter W0 l c1 c2 (first d.secs (q + 1)) s d _ (fun r : Int × DS => grp [pt cj 109 [Vp j], pt cr 26 [Vi r.1], pt j 144 [Vp dp, Vs t, Vi q, Vf], isDisk dp r.2]) (by omega) (by omega) hw ?_ ?_
  ·
   intro i d2 hk hi h0
   have hks := hk.since
   have hkc := hk.count
   refine ConY.of (args := [Vi (((first d.secs (q + 1) + i) : Nat) : Int), Vs (piece s i)]) (pre := [grp [pt cj 109 [Vp j], pt cr 26 [Vi 0], pt j 144 [Vp dp, Vs t, Vi q, Vf], isDisk dp d2]]) rfl (by kernel_rfl) (fun F2 => ?_)
   refine Ri.imp (L' := (lp _ l .ready none) :: (pt cj 109 [Vp j]) :: (pt cr 26 [Vi 0]) :: (pt j 144 [Vp dp, Vs t, Vi q, Vf]) :: (isDisk dp d2) :: F2) (fun _ h => st_pull [4] (st_grp.1 (st_pull [1] h))) ?_
   refine Ri.seq ?_
   refine Ri.region ?_
   refine Rl.q (v := Vi (((first d.secs (q + 1) + i) : Nat) : Int)) (q_assign rfl) ?_
   refine Rl.done ?_
   refine Wx.goI ?_
   refine Ri.region ?_
   refine Rl.q (v := Vs (piece s i)) (q_assign rfl) ?_
   refine Rl.done ?_
   refine Wx.begin ?_
   refine Ri.block ?_
   refine Ri.seq ?_
   refine Ri.region ?_
   refine Rl.q (v := Vp j) (q_c 1 sc_109 rfl rfl rfl) ?_
   refine Rl.q (v := Vp j) (q_nil_ptr rfl) ?_
   refine Rl.q (v := Vp j) (q_field (m := 0) fo_144_0 rfl rfl) ?_
   refine Rl.q (v := Vp dp) (q_c 3 sc_25 rfl rfl rfl) ?_
   refine Rl.q (v := Vi (((first d.secs (q + 1) + i) : Nat) : Int)) (q_move rfl) ?_
   refine Rl.q (v := Vs (piece s i)) (q_move rfl) ?_
   refine Rl.imp (L' := (isDisk dp d2) :: (lp _ l .busy none) :: (pt cj 109 [Vp j]) :: (pt cr 26 [Vi 0]) :: (pt j 144 [Vp dp, Vs t, Vi q, Vf]) :: F2) (fun _ h => st_pull [4] h) ?_
   refine Rl.e (e_call (F := (lp _ l .busy none) :: (pt cj 109 [Vp j]) :: (pt cr 26 [Vi 0]) :: (pt j 144 [Vp dp, Vs t, Vi q, Vf]) :: F2) (args := [Vp dp, Vi (((first d.secs (q + 1) + i) : Nat) : Int), Vs (piece s i)]) call278 rfl (Con.eqs (val' := fun _ => Vi 0) (post' := fun _ => [isDisk dp ((d2.write (((first d.secs (q + 1) + i) : Nat) : Int) (piece s i)).2)]) (write_c W0 dp d2 (((first d.secs (q + 1) + i) : Nat) : Int) (piece s i) hk.wf (by omega) (by omega)) (fun _ => (by rw [h0])) (fun _ => rfl))) (fun _ _ => ?_)
   refine Rl.imp (L' := (isDisk dp ((d2.write (((first d.secs (q + 1) + i) : Nat) : Int) (piece s i)).2)) :: (lp _ l .busy none) :: (pt cj 109 [Vp j]) :: (pt cr 26 [Vi 0]) :: (pt j 144 [Vp dp, Vs t, Vi q, Vf]) :: F2) (fun _ h => h) ?_
   refine Rl.q (v := Vi 0) (q_assign rfl) ?_
   refine Rl.done ?_
   refine Wx.goI ?_
   refine Ri.seq ?_
   refine Ri.region ?_
   refine Rl.q (v := Vi 0) (q_move rfl) ?_
   refine Rl.q (v := Vf) (q_neq rfl rfl (dt (by decide))) ?_
   refine Rl.done ?_
   refine Wx.goI ?_
   refine Ri.no rfl ?_
   refine Ri.skip ?_
   refine Wx.blockEnd ?_
   exact Wx.roundEnd () trivial rfl rfl (fun w hs => st_pull [1] ((st_grp (M := [pt cj 109 [Vp j], pt cr 26 [Vi 0], pt j 144 [Vp dp, Vs t, Vi q, Vf], isDisk dp ((d2.write ((first d.secs (q + 1) + i : Nat) : Int) (piece s i)).2)])).2 (st_pull [2, 2, 2, 0, 0] (hs))))
  ·
   intro i d2 hk hi h0
   have hks := hk.since
   have hkc := hk.count
   refine ConY.of (args := [Vi (((first d.secs (q + 1) + i) : Nat) : Int), Vs (piece s i)]) (pre := [grp [pt cj 109 [Vp j], pt cr 26 [Vi 0], pt j 144 [Vp dp, Vs t, Vi q, Vf], isDisk dp d2]]) rfl (by kernel_rfl) (fun F2 => ?_)
   refine Ri.imp (L' := (lp _ l .ready none) :: (pt cj 109 [Vp j]) :: (pt cr 26 [Vi 0]) :: (pt j 144 [Vp dp, Vs t, Vi q, Vf]) :: (isDisk dp d2) :: F2) (fun _ h => st_pull [4] (st_grp.1 (st_pull [1] h))) ?_
   refine Ri.seq ?_
   refine Ri.region ?_
   refine Rl.q (v := Vi (((first d.secs (q + 1) + i) : Nat) : Int)) (q_assign rfl) ?_
   refine Rl.done ?_
   refine Wx.goI ?_
   refine Ri.region ?_
   refine Rl.q (v := Vs (piece s i)) (q_assign rfl) ?_
   refine Rl.done ?_
   refine Wx.begin ?_
   refine Ri.block ?_
   refine Ri.seq ?_
   refine Ri.region ?_
   refine Rl.q (v := Vp j) (q_c 1 sc_109 rfl rfl rfl) ?_
   refine Rl.q (v := Vp j) (q_nil_ptr rfl) ?_
   refine Rl.q (v := Vp j) (q_field (m := 0) fo_144_0 rfl rfl) ?_
   refine Rl.q (v := Vp dp) (q_c 3 sc_25 rfl rfl rfl) ?_
   refine Rl.q (v := Vi (((first d.secs (q + 1) + i) : Nat) : Int)) (q_move rfl) ?_
   refine Rl.q (v := Vs (piece s i)) (q_move rfl) ?_
   refine Rl.imp (L' := (isDisk dp d2) :: (lp _ l .busy none) :: (pt cj 109 [Vp j]) :: (pt cr 26 [Vi 0]) :: (pt j 144 [Vp dp, Vs t, Vi q, Vf]) :: F2) (fun _ h => st_pull [4] h) ?_
   refine Rl.e (e_call (F := (lp _ l .busy none) :: (pt cj 109 [Vp j]) :: (pt cr 26 [Vi 0]) :: (pt j 144 [Vp dp, Vs t, Vi q, Vf]) :: F2) (args := [Vp dp, Vi (((first d.secs (q + 1) + i) : Nat) : Int), Vs (piece s i)]) call278 rfl (write_c W0 dp d2 (((first d.secs (q + 1) + i) : Nat) : Int) (piece s i) hk.wf (by omega) (by omega))) (fun _ _ => ?_)
   refine Rl.imp (L' := (isDisk dp ((d2.write (((first d.secs (q + 1) + i) : Nat) : Int) (piece s i)).2)) :: (lp _ l .busy none) :: (pt cj 109 [Vp j]) :: (pt cr 26 [Vi 0]) :: (pt j 144 [Vp dp, Vs t, Vi q, Vf]) :: F2) (fun _ h => h) ?_
   refine Rl.q (v := Vi ((d2.write (((first d.secs (q + 1) + i) : Nat) : Int) (piece s i)).1)) (q_assign rfl) ?_
   refine Rl.done ?_
   refine Wx.goI ?_
   refine Ri.seq ?_
   refine Ri.region ?_
   refine Rl.q (v := Vi ((d2.write (((first d.secs (q + 1) + i) : Nat) : Int) (piece s i)).1)) (q_move rfl) ?_
   refine Rl.q (v := Vt) (q_neq rfl rfl (df (h0))) ?_
   refine Rl.done ?_
   refine Wx.goI ?_
   refine Ri.yes rfl ?_
   refine Ri.seq ?_
   refine Ri.region ?_
   refine Rl.q (v := Vi ((d2.write (((first d.secs (q + 1) + i) : Nat) : Int) (piece s i)).1)) (q_move rfl) ?_
   refine Rl.e (e_store (i := 3) (v := Vi ((d2.write (((first d.secs (q + 1) + i) : Nat) : Int) (piece s i)).1)) sz_26 rfl rfl (fun _ _ => rfl) rfl (by simp)) (fun _ _ => ?_)
   refine Rl.imp (L' := (isDisk dp ((d2.write (((first d.secs (q + 1) + i) : Nat) : Int) (piece s i)).2)) :: (lp _ l .busy none) :: (pt cj 109 [Vp j]) :: (pt cr 26 [Vi ((d2.write (((first d.secs (q + 1) + i) : Nat) : Int) (piece s i)).1)]) :: (pt j 144 [Vp dp, Vs t, Vi q, Vf]) :: F2) (fun _ h => h) ?_
   refine Rl.done ?_
   refine Wx.goI ?_
   refine Ri.ret ?_
   refine Wx.blockRet ?_
   exact Wx.roundRet () trivial rfl rfl (fun w hs => st_pull [1] ((st_grp (M := [pt cj 109 [Vp j], pt cr 26 [Vi ((d2.write ((first d.secs (q + 1) + i : Nat) : Int) (piece s i)).1)], pt j 144 [Vp dp, Vs t, Vi q, Vf], isDisk dp ((d2.write ((first d.secs (q + 1) + i : Nat) : Int) (piece s i)).2)])).2 (st_pull [2, 2, 2, 0, 0] (hs))))
 ·
  intro b _ _ hpe
  have hpe : (if (wall d (pieces s (first d.secs (q + 1)))).1 = 0 then none else some Code.ret) = none := hpe
  have h0 : (wall d (pieces s (first d.secs (q + 1)))).1 = 0 := by by_cases h : (wall d (pieces s (first d.secs (q + 1)))).1 = 0; exact h; rw [if_neg h] at hpe; cases hpe
  refine Wx.imp (L' := (dfr b) :: (pt cj 109 [Vp j]) :: (pt cr 26 [Vi 0]) :: (pt j 144 [Vp dp, Vs t, Vi q, Vf]) :: (isDisk dp ((wall d (pieces s (first d.secs (q + 1)))).2)) :: F) (fun _ h => by have h2 := st_pull [4] ((st_grp (M := [pt cj 109 [Vp j], pt cr 26 [Vi ((wall d (pieces s (first d.secs (q + 1)))).1)], pt j 144 [Vp dp, Vs t, Vi q, Vf], isDisk dp ((wall d (pieces s (first d.secs (q + 1)))).2)])).1 (st_pull [1] h)); rw [h0] at h2; exact h2) (Wx.blockEnd (Wx.go (Wc.seq (Wc.sr (Wl.q (q_c 1 sc_109 rfl rfl rfl) (Wl.run 1 rfl (Wl.q (q_field (m := 0) fo_144_0 rfl rfl) (Wl.q (q_c 3 sc_25 rfl rfl rfl) (Wl.imp (L' := (isDisk dp ((wall d (pieces s (first d.secs (q + 1)))).2)) :: (dfr b) :: (pt cj 109 [Vp j]) :: (pt cr 26 [Vi 0]) :: (pt j 144 [Vp dp, Vs t, Vi q, Vf]) :: F) (fun _ h => st_pull [4] h) (Wl.e (e_call (F := (dfr b) :: (pt cj 109 [Vp j]) :: (pt cr 26 [Vi 0]) :: (pt j 144 [Vp dp, Vs t, Vi q, Vf]) :: F) (args := [Vp dp]) call279 rfl (sync_c W0 dp ((wall d (pieces s (first d.secs (q + 1)))).2)  hkW.wf (by omega) (by omega))) (fun _ _ => Wl.rg 1 rfl (Wc.b 1 rfl ?_))))))))))))
  by_cases hs0 : (((wall d (pieces s (first d.secs (q + 1)))).2).sync).1 = 0
  ·
   refine Wl.q (q_neq rfl rfl (dt hs0)) (Wl.dg (Wc.no rfl (Wc.skip (Wx.go (Wc.seq (Wc.seq (Wc.drawsS [17] ((isDisk dp ((((wall d (pieces s (first d.secs (q + 1)))).2).sync).2)) :: (dfr b) :: (pt cj 109 [Vp j]) :: (pt cr 26 [Vi 0]) :: (pt j 144 [Vp dp, Vs t, Vi q, Vf]) :: []) (by kernel_rfl) (Wr.t 0 oo5 rfl (q_c 2 sc_109 rfl rfl rfl) (Wr.p 1 oo5 rfl (q_nil_ptr rfl) (Wr.p 2 oo5 rfl (q_field (m := 0) fo_144_0 rfl rfl) (Wr.t 3 oo5 rfl (q_c 4 sc_25 rfl rfl rfl) (Wr.t 4 oo5 rfl (q_c 2 sc_109 rfl rfl rfl) (Wr.p 5 oo5 rfl (q_nil_ptr rfl) (Wr.p 6 oo5 rfl (q_field (m := 2) fo_144_2 rfl rfl) (Wr.t 7 oo5 rfl (q_c 4 sc_3 rfl rfl rfl) (Wr.p 8 oo5 rfl (q_rem (c := (q % 2)) rfl rfl (by decide) (tmod2_eq hq0)) (Wr.t 9 oo5 rfl (q_c 2 sc_109 rfl rfl rfl) (Wr.p 10 oo5 rfl (q_nil_ptr rfl) (Wr.p 11 oo5 rfl (q_field (m := 2) fo_144_2 rfl rfl) (Wr.t 12 oo5 rfl (q_c 4 sc_3 rfl rfl rfl) (Wr.p 13 oo5 rfl (q_add (c := (q + 1)) rfl rfl (wrap_i64 (by omega) (by omega))) (Wr.p 14 oo5 rfl (q_move rfl) (Wr.t 15 oo5 rfl (q_len_str underlying9 rfl) ?_)))))))))))))))))))))))
   refine Wr.x 16 oo5 rfl (e_call (F := (isDisk dp ((((wall d (pieces s (first d.secs (q + 1)))).2).sync).2)) :: (dfr b) :: (pt cj 109 [Vp j]) :: (pt cr 26 [Vi 0]) :: (pt j 144 [Vp dp, Vs t, Vi q, Vf]) :: F) (args := [Vi (q + 1), Vi ((s.size : Nat) : Int)]) call261 rfl (head_c W0 (q + 1) ((s.size : Nat) : Int))) (fun _ _ => Wr.x0 17 rfl (e_call (F := (dfr b) :: (pt cj 109 [Vp j]) :: (pt cr 26 [Vi 0]) :: (pt j 144 [Vp dp, Vs t, Vi q, Vf]) :: F) (args := [Vp dp, Vi (q % 2), Vs (headB (q + 1) ((s.size : Nat) : Int))]) call278 rfl (write_c W0 dp ((((wall d (pieces s (first d.secs (q + 1)))).2).sync).2) (q % 2) (headB (q + 1) ((s.size : Nat) : Int)) hkS.wf (by omega) (by omega))) (fun _ _ => Wr.rebaseS [] ((isDisk dp ((((((wall d (pieces s (first d.secs (q + 1)))).2).sync).2).write (q % 2) (headB (q + 1) ((s.size : Nat) : Int))).2)) :: (dfr b) :: (pt cj 109 [Vp j]) :: (pt cr 26 [Vi 0]) :: (pt j 144 [Vp dp, Vs t, Vi q, Vf]) :: []) (by kernel_rfl) (Wr.p 18 oo5 rfl (q_assign rfl) (Wr.z (Wx.go (Wc.b 1 rfl ?_))))))
   by_cases hw0 : (((((wall d (pieces s (first d.secs (q + 1)))).2).sync).2).write (q % 2) (headB (q + 1) ((s.size : Nat) : Int))).1 = 0
   ·
    refine Wl.q (q_neq rfl rfl (dt hw0)) (Wl.dg (Wc.no rfl (Wc.skip (Wx.go (Wc.sr (Wl.q (q_c 2 sc_109 rfl rfl rfl) (Wl.run 1 rfl (Wl.q (q_field (m := 0) fo_144_0 rfl rfl) (Wl.q (q_c 4 sc_25 rfl rfl rfl) (Wl.e (e_call (F := (dfr b) :: (pt cj 109 [Vp j]) :: (pt cr 26 [Vi 0]) :: (pt j 144 [Vp dp, Vs t, Vi q, Vf]) :: F) (args := [Vp dp]) call279 rfl (sync_c W0 dp ((((((wall d (pieces s (first d.secs (q + 1)))).2).sync).2).write (q % 2) (headB (q + 1) ((s.size : Nat) : Int))).2)  hkH.wf (by omega) (by omega))) (fun _ _ => Wl.e (e_store (i := 3) (v := Vi ((((((((wall d (pieces s (first d.secs (q + 1)))).2).sync).2).write (q % 2) (headB (q + 1) ((s.size : Nat) : Int))).2).sync).1)) sz_26 rfl rfl (fun _ _ => rfl) rfl (by simp)) (fun _ _ => Wl.dg (Wc.ret (Wx.imp (L' := (dfr b) :: (isDisk dp ((((((((wall d (pieces s (first d.secs (q + 1)))).2).sync).2).write (q % 2) (headB (q + 1) ((s.size : Nat) : Int))).2).sync).2)) :: (pt cj 109 [Vp j]) :: (pt cr 26 [Vi ((((((((wall d (pieces s (first d.secs (q + 1)))).2).sync).2).write (q % 2) (headB (q + 1) ((s.size : Nat) : Int))).2).sync).1)]) :: (pt j 144 [Vp dp, Vs t, Vi q, Vf]) :: F) (fun _ h => st_pull [1] h) (Wx.finM1 rfl (.inl rfl) sc_26 rfl (.cel (i := 2) rfl rfl) (fun w hs => ?_))))))))))))))))
    have e : putD d q s = (((wall d (pieces s (first d.secs (q + 1)))).2).sync.2.write (q % 2) (headB (q + 1) (s.size : Int))).2.sync := (if_pos h0).trans ((if_pos hs0).trans (if_pos hw0))
    exact ⟨(), trivial, (by first | (rw [e]; done) | (rw [e]; rfl)), by rw [e]; exact (st_pull [1, 0] (st_drop (st_drop (st_pull [1, 1] hs))))⟩
   ·
    refine Wl.q (q_neq rfl rfl (df hw0)) (Wl.dg (Wc.yes rfl (Wc.b 1 rfl (Wl.e (e_store (i := 3) (v := Vi ((((((wall d (pieces s (first d.secs (q + 1)))).2).sync).2).write (q % 2) (headB (q + 1) ((s.size : Nat) : Int))).1)) sz_26 rfl rfl (fun _ _ => rfl) rfl (by simp)) (fun _ _ => Wl.dg (Wc.ret (Wx.thenRet (Wx.imp (L' := (dfr b) :: (isDisk dp ((((((wall d (pieces s (first d.secs (q + 1)))).2).sync).2).write (q % 2) (headB (q + 1) ((s.size : Nat) : Int))).2)) :: (pt cj 109 [Vp j]) :: (pt cr 26 [Vi ((((((wall d (pieces s (first d.secs (q + 1)))).2).sync).2).write (q % 2) (headB (q + 1) ((s.size : Nat) : Int))).1)]) :: (pt j 144 [Vp dp, Vs t, Vi q, Vf]) :: F) (fun _ h => st_pull [1] h) (Wx.finM1 rfl (.inl rfl) sc_26 rfl (.cel (i := 2) rfl rfl) (fun w hs => ?_))))))))))
    have e : putD d q s = (((wall d (pieces s (first d.secs (q + 1)))).2).sync.2.write (q % 2) (headB (q + 1) (s.size : Int))) := (if_pos h0).trans ((if_pos hs0).trans (if_neg hw0))
    exact ⟨(), trivial, (by first | (rw [e]; done) | (rw [e]; rfl)), by rw [e]; exact (st_pull [1, 0] (st_drop (st_drop (st_pull [1, 1] hs))))⟩
  ·
   refine Wl.q (q_neq rfl rfl (df hs0)) (Wl.dg (Wc.yes rfl (Wc.b 1 rfl (Wl.e (e_store (i := 3) (v := Vi ((((wall d (pieces s (first d.secs (q + 1)))).2).sync).1)) sz_26 rfl rfl (fun _ _ => rfl) rfl (by simp)) (fun _ _ => Wl.dg (Wc.ret (Wx.thenRet (Wx.imp (L' := (dfr b) :: (isDisk dp ((((wall d (pieces s (first d.secs (q + 1)))).2).sync).2)) :: (pt cj 109 [Vp j]) :: (pt cr 26 [Vi ((((wall d (pieces s (first d.secs (q + 1)))).2).sync).1)]) :: (pt j 144 [Vp dp, Vs t, Vi q, Vf]) :: F) (fun _ h => st_pull [1] h) (Wx.finM1 rfl (.inl rfl) sc_26 rfl (.cel (i := 2) rfl rfl) (fun w hs => ?_))))))))))
   have e : putD d q s = ((wall d (pieces s (first d.secs (q + 1)))).2).sync := (if_pos h0).trans (if_neg hs0)
   exact ⟨(), trivial, (by first | (rw [e]; done) | (rw [e]; rfl)), by rw [e]; exact (st_pull [1, 0] (st_drop (st_drop (st_pull [1, 1] hs))))⟩
 ·
  intro b _ c _ hpe
  have hpe : (if (wall d (pieces s (first d.secs (q + 1)))).1 = 0 then none else some Code.ret) = some c := hpe
  have h0 : ¬ (wall d (pieces s (first d.secs (q + 1)))).1 = 0 := fun h => by rw [if_pos h] at hpe; cases hpe
  obtain rfl : c = .ret := by rw [if_neg h0] at hpe; exact (Option.some.inj hpe).symm
  refine Wc.imp (L' := (dfr b) :: (pt cj 109 [Vp j]) :: (pt cr 26 [Vi ((wall d (pieces s (first d.secs (q + 1)))).1)]) :: (pt j 144 [Vp dp, Vs t, Vi q, Vf]) :: (isDisk dp ((wall d (pieces s (first d.secs (q + 1)))).2)) :: F) (fun _ h => by have h2 := st_pull [4] ((st_grp (M := [pt cj 109 [Vp j], pt cr 26 [Vi ((wall d (pieces s (first d.secs (q + 1)))).1)], pt j 144 [Vp dp, Vs t, Vi q, Vf], isDisk dp ((wall d (pieces s (first d.secs (q + 1)))).2)])).1 (st_pull [1] h)); exact h2) (Wc.ret (Wx.blockRet (Wx.thenRet (Wx.finM1 rfl (.inl rfl) sc_26 rfl (.cel (i := 1) rfl rfl) (fun w hs => ?_)))))
  have e : putD d q s = (wall d (pieces s (first d.secs (q + 1)))) := if_neg h0
  exact ⟨(), trivial, (by first | (rw [e]; done) | (rw [e]; rfl)), by rw [e]; exact (st_drop (st_drop (st_pull [0, 0] hs)))⟩
end Go.Proofs.YtjnejkdamhefgaaGreatDoor
