/- What follows: contracts of the calls. -/
import Derived.Test.YtjjghmkjdgogiaaGreatDoorDdBn
namespace Go.Proofs.YtjjghmkjdgogiaaGreatDoor
open Go Go.SL Go.Dd Go.RowKit
set_option linter.unusedVariables false
set_option maxRecDepth 8000

set_option maxRecDepth 8000 in
set_option maxHeartbeats 4000000 in
theorem apart_n (W0 : World) (b nb nc : Nat) (rest : List Value) (pv qv : Value) (z1 z2 : List Int) (hz1 : z1.length ≤ 1000) (hz2 : z2.length ≤ 1000) :
  Con Tryz.prog W0 15 #[Value.pointer (some ⟨b, 0, none⟩)] [pt b 81 (bkC 2 (Value.slice (some ⟨nb, 0, none⟩) 2 nc)), pt nb 126 ([pv, Value.int .i64 0, qv, Value.int .i64 1] ++ rest), sl 3 1 pv z1.length ((z1 : List Int).map intV), sl 3 1 qv z2.length ((z2 : List Int).map intV)] (X := Unit) (fun _ => True) (fun _ => .bool true) (fun _ => []) := by
 refine Con.of (args := [Value.pointer (some ⟨b, 0, none⟩)]) Tryz.func15 rfl Tryz.ntmps15 rfl (fun F => ?_)
 show Wc _ W0 _ _ _ _ _ ((pt b 81 (bkC 2 (Value.slice (some ⟨nb, 0, none⟩) 2 nc))) :: (pt nb 126 ([pv, Value.int .i64 0, qv, Value.int .i64 1] ++ rest)) :: (sl 3 1 pv z1.length ((z1 : List Int).map intV)) :: (sl 3 1 qv z2.length ((z2 : List Int).map intV)) :: F)
 refine Wc.seq ?_
 refine Wc.region ?_
 refine Wl.q (v := Value.bool false) (q_assign rfl) ?_
 refine Wl.done ?_
 refine Wx.go ?_
 refine Wc.seq ?_
 refine Wc.region ?_
 refine Wl.q (v := Value.pointer (some ⟨b, 0, none⟩)) (q_move rfl) ?_
 refine Wl.e (e_call (F := F) (args := [Value.pointer (some ⟨b, 0, none⟩)]) Tryz.call32 rfl (fill_n W0 b nb nc rest pv qv z1 z2 hz1 hz2)) (fun _ _ => ?_)
 refine Wl.imp (L' := (pt b 81 (bkC 2 (Value.slice (some ⟨nb, 0, none⟩) 2 nc))) :: (pt nb 126 ([pv, Value.int .i64 0, qv, Value.int .i64 1] ++ rest)) :: (sl 3 1 pv z1.length ((List.replicate z1.length ((-1000) : Int)).map intV)) :: (sl 3 1 qv z2.length ((List.replicate z2.length ((-1001) : Int)).map intV)) :: F) (fun _ h => h) ?_
 refine Wl.done ?_
 refine Wx.go ?_
 refine Wc.seq ?_
 refine Wc.region ?_
 refine Wl.q (v := Value.pointer (some ⟨b, 0, none⟩)) (q_move rfl) ?_
 refine Wl.e (e_call (F := (pt nb 126 ([pv, Value.int .i64 0, qv, Value.int .i64 1] ++ rest)) :: (sl 3 1 pv z1.length ((List.replicate z1.length ((-1000) : Int)).map intV)) :: (sl 3 1 qv z2.length ((List.replicate z2.length ((-1001) : Int)).map intV)) :: F) (args := [Value.pointer (some ⟨b, 0, none⟩)]) Tryz.call33 rfl (bk_fillWide W0 b 2 (Value.slice (some ⟨nb, 0, none⟩) 2 nc))) (fun _ _ => ?_)
 refine Wl.imp (L' := (pt b 81 (bkC 2 (Value.slice (some ⟨nb, 0, none⟩) 2 nc))) :: (pt nb 126 ([pv, Value.int .i64 0, qv, Value.int .i64 1] ++ rest)) :: (sl 3 1 pv z1.length ((List.replicate z1.length ((-1000) : Int)).map intV)) :: (sl 3 1 qv z2.length ((List.replicate z2.length ((-1001) : Int)).map intV)) :: F) (fun _ h => h) ?_
 refine Wl.done ?_
 refine Wx.go ?_
 refine Wc.seq ?_
 refine Wc.region ?_
 refine Wl.q (v := Value.pointer (some ⟨b, 0, none⟩)) (q_move rfl) ?_
 refine Wl.e (e_call (F := (pt nb 126 ([pv, Value.int .i64 0, qv, Value.int .i64 1] ++ rest)) :: (sl 3 1 pv z1.length ((List.replicate z1.length ((-1000) : Int)).map intV)) :: (sl 3 1 qv z2.length ((List.replicate z2.length ((-1001) : Int)).map intV)) :: F) (args := [Value.pointer (some ⟨b, 0, none⟩)]) Tryz.call34 rfl (bk_fillText W0 b 2 (Value.slice (some ⟨nb, 0, none⟩) 2 nc))) (fun _ _ => ?_)
 refine Wl.imp (L' := (pt b 81 (bkC 2 (Value.slice (some ⟨nb, 0, none⟩) 2 nc))) :: (pt nb 126 ([pv, Value.int .i64 0, qv, Value.int .i64 1] ++ rest)) :: (sl 3 1 pv z1.length ((List.replicate z1.length ((-1000) : Int)).map intV)) :: (sl 3 1 qv z2.length ((List.replicate z2.length ((-1001) : Int)).map intV)) :: F) (fun _ h => h) ?_
 refine Wl.done ?_
 refine Wx.go ?_
 refine Wc.seq ?_
 refine Wc.region ?_
 refine Wl.q (v := Value.pointer (some ⟨b, 0, none⟩)) (q_move rfl) ?_
 refine Wl.e (e_call (F := (pt nb 126 ([pv, Value.int .i64 0, qv, Value.int .i64 1] ++ rest)) :: (sl 3 1 pv z1.length ((List.replicate z1.length ((-1000) : Int)).map intV)) :: (sl 3 1 qv z2.length ((List.replicate z2.length ((-1001) : Int)).map intV)) :: F) (args := [Value.pointer (some ⟨b, 0, none⟩)]) Tryz.call35 rfl (bk_fillTerm W0 b 2 (Value.slice (some ⟨nb, 0, none⟩) 2 nc))) (fun _ _ => ?_)
 refine Wl.imp (L' := (pt b 81 (bkC 2 (Value.slice (some ⟨nb, 0, none⟩) 2 nc))) :: (pt nb 126 ([pv, Value.int .i64 0, qv, Value.int .i64 1] ++ rest)) :: (sl 3 1 pv z1.length ((List.replicate z1.length ((-1000) : Int)).map intV)) :: (sl 3 1 qv z2.length ((List.replicate z2.length ((-1001) : Int)).map intV)) :: F) (fun _ h => h) ?_
 refine Wl.done ?_
 refine Wx.go ?_
 refine Wc.seq ?_
 refine Wc.region ?_
 refine Wl.q (v := Value.pointer (some ⟨b, 0, none⟩)) (q_move rfl) ?_
 refine Wl.e (e_call (F := (pt nb 126 ([pv, Value.int .i64 0, qv, Value.int .i64 1] ++ rest)) :: (sl 3 1 pv z1.length ((List.replicate z1.length ((-1000) : Int)).map intV)) :: (sl 3 1 qv z2.length ((List.replicate z2.length ((-1001) : Int)).map intV)) :: F) (args := [Value.pointer (some ⟨b, 0, none⟩)]) Tryz.call36 rfl (bk_fillSeal W0 b 2 (Value.slice (some ⟨nb, 0, none⟩) 2 nc))) (fun _ _ => ?_)
 refine Wl.imp (L' := (pt b 81 (bkC 2 (Value.slice (some ⟨nb, 0, none⟩) 2 nc))) :: (pt nb 126 ([pv, Value.int .i64 0, qv, Value.int .i64 1] ++ rest)) :: (sl 3 1 pv z1.length ((List.replicate z1.length ((-1000) : Int)).map intV)) :: (sl 3 1 qv z2.length ((List.replicate z2.length ((-1001) : Int)).map intV)) :: F) (fun _ h => h) ?_
 refine Wl.done ?_
 refine Wx.go ?_
 refine Wc.seq ?_
 refine Wc.region ?_
 refine Wl.q (v := Value.pointer (some ⟨b, 0, none⟩)) (q_move rfl) ?_
 refine Wl.e (e_call (F := (pt nb 126 ([pv, Value.int .i64 0, qv, Value.int .i64 1] ++ rest)) :: (sl 3 1 pv z1.length ((List.replicate z1.length ((-1000) : Int)).map intV)) :: (sl 3 1 qv z2.length ((List.replicate z2.length ((-1001) : Int)).map intV)) :: F) (args := [Value.pointer (some ⟨b, 0, none⟩)]) Tryz.call37 rfl (bk_fillKey W0 b 2 (Value.slice (some ⟨nb, 0, none⟩) 2 nc))) (fun _ _ => ?_)
 refine Wl.imp (L' := (pt b 81 (bkC 2 (Value.slice (some ⟨nb, 0, none⟩) 2 nc))) :: (pt nb 126 ([pv, Value.int .i64 0, qv, Value.int .i64 1] ++ rest)) :: (sl 3 1 pv z1.length ((List.replicate z1.length ((-1000) : Int)).map intV)) :: (sl 3 1 qv z2.length ((List.replicate z2.length ((-1001) : Int)).map intV)) :: F) (fun _ h => h) ?_
 refine Wl.done ?_
 refine Wx.go ?_
 refine Wc.seq ?_
 refine Wc.region ?_
 refine Wl.q (v := Value.pointer (some ⟨b, 0, none⟩)) (q_move rfl) ?_
 refine Wl.e (e_call (F := (pt nb 126 ([pv, Value.int .i64 0, qv, Value.int .i64 1] ++ rest)) :: (sl 3 1 pv z1.length ((List.replicate z1.length ((-1000) : Int)).map intV)) :: (sl 3 1 qv z2.length ((List.replicate z2.length ((-1001) : Int)).map intV)) :: F) (args := [Value.pointer (some ⟨b, 0, none⟩)]) Tryz.call38 rfl (bk_fillAdd W0 b 2 (Value.slice (some ⟨nb, 0, none⟩) 2 nc))) (fun _ _ => ?_)
 refine Wl.imp (L' := (pt b 81 (bkC 2 (Value.slice (some ⟨nb, 0, none⟩) 2 nc))) :: (pt nb 126 ([pv, Value.int .i64 0, qv, Value.int .i64 1] ++ rest)) :: (sl 3 1 pv z1.length ((List.replicate z1.length ((-1000) : Int)).map intV)) :: (sl 3 1 qv z2.length ((List.replicate z2.length ((-1001) : Int)).map intV)) :: F) (fun _ h => h) ?_
 refine Wl.done ?_
 refine Wx.go ?_
 refine Wc.seq ?_
 refine Wc.region ?_
 refine Wl.q (v := Value.pointer (some ⟨b, 0, none⟩)) (q_move rfl) ?_
 refine Wl.e (e_call (F := (pt nb 126 ([pv, Value.int .i64 0, qv, Value.int .i64 1] ++ rest)) :: (sl 3 1 pv z1.length ((List.replicate z1.length ((-1000) : Int)).map intV)) :: (sl 3 1 qv z2.length ((List.replicate z2.length ((-1001) : Int)).map intV)) :: F) (args := [Value.pointer (some ⟨b, 0, none⟩)]) Tryz.call39 rfl (bk_fillJoin W0 b 2 (Value.slice (some ⟨nb, 0, none⟩) 2 nc))) (fun _ _ => ?_)
 refine Wl.imp (L' := (pt b 81 (bkC 2 (Value.slice (some ⟨nb, 0, none⟩) 2 nc))) :: (pt nb 126 ([pv, Value.int .i64 0, qv, Value.int .i64 1] ++ rest)) :: (sl 3 1 pv z1.length ((List.replicate z1.length ((-1000) : Int)).map intV)) :: (sl 3 1 qv z2.length ((List.replicate z2.length ((-1001) : Int)).map intV)) :: F) (fun _ h => h) ?_
 refine Wl.done ?_
 refine Wx.go ?_
 refine Wc.seq ?_
 refine Wc.region ?_
 refine Wl.q (v := Value.pointer (some ⟨b, 0, none⟩)) (q_move rfl) ?_
 refine Wl.e (e_call (F := (pt nb 126 ([pv, Value.int .i64 0, qv, Value.int .i64 1] ++ rest)) :: (sl 3 1 pv z1.length ((List.replicate z1.length ((-1000) : Int)).map intV)) :: (sl 3 1 qv z2.length ((List.replicate z2.length ((-1001) : Int)).map intV)) :: F) (args := [Value.pointer (some ⟨b, 0, none⟩)]) Tryz.call40 rfl (bk_fillPast W0 b 2 (Value.slice (some ⟨nb, 0, none⟩) 2 nc))) (fun _ _ => ?_)
 refine Wl.imp (L' := (pt b 81 (bkC 2 (Value.slice (some ⟨nb, 0, none⟩) 2 nc))) :: (pt nb 126 ([pv, Value.int .i64 0, qv, Value.int .i64 1] ++ rest)) :: (sl 3 1 pv z1.length ((List.replicate z1.length ((-1000) : Int)).map intV)) :: (sl 3 1 qv z2.length ((List.replicate z2.length ((-1001) : Int)).map intV)) :: F) (fun _ h => h) ?_
 refine Wl.done ?_
 refine Wx.go ?_
 refine Wc.seq ?_
 refine Wc.region ?_
 refine Wl.q (v := Value.pointer (some ⟨b, 0, none⟩)) (q_move rfl) ?_
 refine Wl.e (e_call (F := (pt nb 126 ([pv, Value.int .i64 0, qv, Value.int .i64 1] ++ rest)) :: (sl 3 1 pv z1.length ((List.replicate z1.length ((-1000) : Int)).map intV)) :: (sl 3 1 qv z2.length ((List.replicate z2.length ((-1001) : Int)).map intV)) :: F) (args := [Value.pointer (some ⟨b, 0, none⟩)]) Tryz.call41 rfl (bk_fillCard W0 b 2 (Value.slice (some ⟨nb, 0, none⟩) 2 nc))) (fun _ _ => ?_)
 refine Wl.imp (L' := (pt b 81 (bkC 2 (Value.slice (some ⟨nb, 0, none⟩) 2 nc))) :: (pt nb 126 ([pv, Value.int .i64 0, qv, Value.int .i64 1] ++ rest)) :: (sl 3 1 pv z1.length ((List.replicate z1.length ((-1000) : Int)).map intV)) :: (sl 3 1 qv z2.length ((List.replicate z2.length ((-1001) : Int)).map intV)) :: F) (fun _ h => h) ?_
 refine Wl.done ?_
 refine Wx.go ?_
 refine Wc.seq ?_
 refine Wc.region ?_
 refine Wl.q (v := Value.pointer (some ⟨b, 0, none⟩)) (q_move rfl) ?_
 refine Wl.e (e_call (F := (pt nb 126 ([pv, Value.int .i64 0, qv, Value.int .i64 1] ++ rest)) :: (sl 3 1 pv z1.length ((List.replicate z1.length ((-1000) : Int)).map intV)) :: (sl 3 1 qv z2.length ((List.replicate z2.length ((-1001) : Int)).map intV)) :: F) (args := [Value.pointer (some ⟨b, 0, none⟩)]) Tryz.call42 rfl (bk_fillGot W0 b 2 (Value.slice (some ⟨nb, 0, none⟩) 2 nc))) (fun _ _ => ?_)
 refine Wl.imp (L' := (pt b 81 (bkC 2 (Value.slice (some ⟨nb, 0, none⟩) 2 nc))) :: (pt nb 126 ([pv, Value.int .i64 0, qv, Value.int .i64 1] ++ rest)) :: (sl 3 1 pv z1.length ((List.replicate z1.length ((-1000) : Int)).map intV)) :: (sl 3 1 qv z2.length ((List.replicate z2.length ((-1001) : Int)).map intV)) :: F) (fun _ h => h) ?_
 refine Wl.done ?_
 refine Wx.go ?_
 refine Wc.seq ?_
 refine Wc.region ?_
 refine Wl.q (v := Value.pointer (some ⟨b, 0, none⟩)) (q_move rfl) ?_
 refine Wl.e (e_call (F := (pt nb 126 ([pv, Value.int .i64 0, qv, Value.int .i64 1] ++ rest)) :: (sl 3 1 pv z1.length ((List.replicate z1.length ((-1000) : Int)).map intV)) :: (sl 3 1 qv z2.length ((List.replicate z2.length ((-1001) : Int)).map intV)) :: F) (args := [Value.pointer (some ⟨b, 0, none⟩)]) Tryz.call43 rfl (bk_fillNote W0 b 2 (Value.slice (some ⟨nb, 0, none⟩) 2 nc))) (fun _ _ => ?_)
 refine Wl.imp (L' := (pt b 81 (bkC 2 (Value.slice (some ⟨nb, 0, none⟩) 2 nc))) :: (pt nb 126 ([pv, Value.int .i64 0, qv, Value.int .i64 1] ++ rest)) :: (sl 3 1 pv z1.length ((List.replicate z1.length ((-1000) : Int)).map intV)) :: (sl 3 1 qv z2.length ((List.replicate z2.length ((-1001) : Int)).map intV)) :: F) (fun _ h => h) ?_
 refine Wl.done ?_
 refine Wx.go ?_
 refine Wc.seq ?_
 refine Wc.region ?_
 refine Wl.q (v := Value.pointer (some ⟨b, 0, none⟩)) (q_move rfl) ?_
 refine Wl.e (e_call (F := (pt nb 126 ([pv, Value.int .i64 0, qv, Value.int .i64 1] ++ rest)) :: (sl 3 1 pv z1.length ((List.replicate z1.length ((-1000) : Int)).map intV)) :: (sl 3 1 qv z2.length ((List.replicate z2.length ((-1001) : Int)).map intV)) :: F) (args := [Value.pointer (some ⟨b, 0, none⟩)]) Tryz.call44 rfl (bk_fillAnswer W0 b 2 (Value.slice (some ⟨nb, 0, none⟩) 2 nc))) (fun _ _ => ?_)
 refine Wl.imp (L' := (pt b 81 (bkC 2 (Value.slice (some ⟨nb, 0, none⟩) 2 nc))) :: (pt nb 126 ([pv, Value.int .i64 0, qv, Value.int .i64 1] ++ rest)) :: (sl 3 1 pv z1.length ((List.replicate z1.length ((-1000) : Int)).map intV)) :: (sl 3 1 qv z2.length ((List.replicate z2.length ((-1001) : Int)).map intV)) :: F) (fun _ h => h) ?_
 refine Wl.done ?_
 refine Wx.go ?_
 refine Wc.seq ?_
 refine Wc.region ?_
 refine Wl.q (v := Value.pointer (some ⟨b, 0, none⟩)) (q_move rfl) ?_
 refine Wl.e (e_call (F := (pt nb 126 ([pv, Value.int .i64 0, qv, Value.int .i64 1] ++ rest)) :: (sl 3 1 pv z1.length ((List.replicate z1.length ((-1000) : Int)).map intV)) :: (sl 3 1 qv z2.length ((List.replicate z2.length ((-1001) : Int)).map intV)) :: F) (args := [Value.pointer (some ⟨b, 0, none⟩)]) Tryz.call45 rfl (bk_fillOutcome W0 b 2 (Value.slice (some ⟨nb, 0, none⟩) 2 nc))) (fun _ _ => ?_)
 refine Wl.imp (L' := (pt b 81 (bkC 2 (Value.slice (some ⟨nb, 0, none⟩) 2 nc))) :: (pt nb 126 ([pv, Value.int .i64 0, qv, Value.int .i64 1] ++ rest)) :: (sl 3 1 pv z1.length ((List.replicate z1.length ((-1000) : Int)).map intV)) :: (sl 3 1 qv z2.length ((List.replicate z2.length ((-1001) : Int)).map intV)) :: F) (fun _ h => h) ?_
 refine Wl.done ?_
 refine Wx.go ?_
 refine Wc.seq ?_
 refine Wc.region ?_
 refine Wl.q (v := Value.pointer (some ⟨b, 0, none⟩)) (q_move rfl) ?_
 refine Wl.e (e_call (F := (pt nb 126 ([pv, Value.int .i64 0, qv, Value.int .i64 1] ++ rest)) :: (sl 3 1 pv z1.length ((List.replicate z1.length ((-1000) : Int)).map intV)) :: (sl 3 1 qv z2.length ((List.replicate z2.length ((-1001) : Int)).map intV)) :: F) (args := [Value.pointer (some ⟨b, 0, none⟩)]) Tryz.call46 rfl (bk_fillFinding W0 b 2 (Value.slice (some ⟨nb, 0, none⟩) 2 nc))) (fun _ _ => ?_)
 refine Wl.imp (L' := (pt b 81 (bkC 2 (Value.slice (some ⟨nb, 0, none⟩) 2 nc))) :: (pt nb 126 ([pv, Value.int .i64 0, qv, Value.int .i64 1] ++ rest)) :: (sl 3 1 pv z1.length ((List.replicate z1.length ((-1000) : Int)).map intV)) :: (sl 3 1 qv z2.length ((List.replicate z2.length ((-1001) : Int)).map intV)) :: F) (fun _ h => h) ?_
 refine Wl.done ?_
 refine Wx.go ?_
 refine Wc.seq ?_
 refine Wc.region ?_
 refine Wl.q (v := Value.pointer (some ⟨b, 0, none⟩)) (q_move rfl) ?_
 refine Wl.e (e_call (F := (pt nb 126 ([pv, Value.int .i64 0, qv, Value.int .i64 1] ++ rest)) :: (sl 3 1 pv z1.length ((List.replicate z1.length ((-1000) : Int)).map intV)) :: (sl 3 1 qv z2.length ((List.replicate z2.length ((-1001) : Int)).map intV)) :: F) (args := [Value.pointer (some ⟨b, 0, none⟩)]) Tryz.call47 rfl (bk_fillStep W0 b 2 (Value.slice (some ⟨nb, 0, none⟩) 2 nc))) (fun _ _ => ?_)
 refine Wl.imp (L' := (pt b 81 (bkC 2 (Value.slice (some ⟨nb, 0, none⟩) 2 nc))) :: (pt nb 126 ([pv, Value.int .i64 0, qv, Value.int .i64 1] ++ rest)) :: (sl 3 1 pv z1.length ((List.replicate z1.length ((-1000) : Int)).map intV)) :: (sl 3 1 qv z2.length ((List.replicate z2.length ((-1001) : Int)).map intV)) :: F) (fun _ h => h) ?_
 refine Wl.done ?_
 refine Wx.go ?_
 refine Wc.seq ?_
 refine Wc.region ?_
 refine Wl.q (v := Value.pointer (some ⟨b, 0, none⟩)) (q_move rfl) ?_
 refine Wl.e (e_call (F := (pt nb 126 ([pv, Value.int .i64 0, qv, Value.int .i64 1] ++ rest)) :: (sl 3 1 pv z1.length ((List.replicate z1.length ((-1000) : Int)).map intV)) :: (sl 3 1 qv z2.length ((List.replicate z2.length ((-1001) : Int)).map intV)) :: F) (args := [Value.pointer (some ⟨b, 0, none⟩)]) Tryz.call48 rfl (bk_fillWrite W0 b 2 (Value.slice (some ⟨nb, 0, none⟩) 2 nc))) (fun _ _ => ?_)
 refine Wl.imp (L' := (pt b 81 (bkC 2 (Value.slice (some ⟨nb, 0, none⟩) 2 nc))) :: (pt nb 126 ([pv, Value.int .i64 0, qv, Value.int .i64 1] ++ rest)) :: (sl 3 1 pv z1.length ((List.replicate z1.length ((-1000) : Int)).map intV)) :: (sl 3 1 qv z2.length ((List.replicate z2.length ((-1001) : Int)).map intV)) :: F) (fun _ h => h) ?_
 refine Wl.done ?_
 refine Wx.go ?_
 refine Wc.seq ?_
 refine Wc.region ?_
 refine Wl.q (v := Value.pointer (some ⟨b, 0, none⟩)) (q_move rfl) ?_
 refine Wl.e (e_call (F := (pt nb 126 ([pv, Value.int .i64 0, qv, Value.int .i64 1] ++ rest)) :: (sl 3 1 pv z1.length ((List.replicate z1.length ((-1000) : Int)).map intV)) :: (sl 3 1 qv z2.length ((List.replicate z2.length ((-1001) : Int)).map intV)) :: F) (args := [Value.pointer (some ⟨b, 0, none⟩)]) Tryz.call49 rfl (bk_fillNode W0 b 2 (Value.slice (some ⟨nb, 0, none⟩) 2 nc))) (fun _ _ => ?_)
 refine Wl.imp (L' := (pt b 81 (bkC 2 (Value.slice (some ⟨nb, 0, none⟩) 2 nc))) :: (pt nb 126 ([pv, Value.int .i64 0, qv, Value.int .i64 1] ++ rest)) :: (sl 3 1 pv z1.length ((List.replicate z1.length ((-1000) : Int)).map intV)) :: (sl 3 1 qv z2.length ((List.replicate z2.length ((-1001) : Int)).map intV)) :: F) (fun _ h => h) ?_
 refine Wl.done ?_
 refine Wx.go ?_
 refine Wc.seq ?_
 refine Wc.region ?_
 refine Wl.q (v := Value.pointer (some ⟨b, 0, none⟩)) (q_move rfl) ?_
 refine Wl.e (e_call (F := (pt nb 126 ([pv, Value.int .i64 0, qv, Value.int .i64 1] ++ rest)) :: (sl 3 1 pv z1.length ((List.replicate z1.length ((-1000) : Int)).map intV)) :: (sl 3 1 qv z2.length ((List.replicate z2.length ((-1001) : Int)).map intV)) :: F) (args := [Value.pointer (some ⟨b, 0, none⟩)]) Tryz.call50 rfl (bk_fillTree W0 b 2 (Value.slice (some ⟨nb, 0, none⟩) 2 nc))) (fun _ _ => ?_)
 refine Wl.imp (L' := (pt b 81 (bkC 2 (Value.slice (some ⟨nb, 0, none⟩) 2 nc))) :: (pt nb 126 ([pv, Value.int .i64 0, qv, Value.int .i64 1] ++ rest)) :: (sl 3 1 pv z1.length ((List.replicate z1.length ((-1000) : Int)).map intV)) :: (sl 3 1 qv z2.length ((List.replicate z2.length ((-1001) : Int)).map intV)) :: F) (fun _ h => h) ?_
 refine Wl.done ?_
 refine Wx.go ?_
 refine Wc.seq ?_
 refine Wc.region ?_
 refine Wl.q (v := Value.pointer (some ⟨b, 0, none⟩)) (q_move rfl) ?_
 refine Wl.e (e_call (F := (pt nb 126 ([pv, Value.int .i64 0, qv, Value.int .i64 1] ++ rest)) :: (sl 3 1 pv z1.length ((List.replicate z1.length ((-1000) : Int)).map intV)) :: (sl 3 1 qv z2.length ((List.replicate z2.length ((-1001) : Int)).map intV)) :: F) (args := [Value.pointer (some ⟨b, 0, none⟩)]) Tryz.call51 rfl (bk_fillCommit W0 b 2 (Value.slice (some ⟨nb, 0, none⟩) 2 nc))) (fun _ _ => ?_)
 refine Wl.imp (L' := (pt b 81 (bkC 2 (Value.slice (some ⟨nb, 0, none⟩) 2 nc))) :: (pt nb 126 ([pv, Value.int .i64 0, qv, Value.int .i64 1] ++ rest)) :: (sl 3 1 pv z1.length ((List.replicate z1.length ((-1000) : Int)).map intV)) :: (sl 3 1 qv z2.length ((List.replicate z2.length ((-1001) : Int)).map intV)) :: F) (fun _ h => h) ?_
 refine Wl.done ?_
 refine Wx.go ?_
 refine Wc.seq ?_
 refine Wc.region ?_
 refine Wl.q (v := Value.pointer (some ⟨b, 0, none⟩)) (q_move rfl) ?_
 refine Wl.e (e_call (F := (pt nb 126 ([pv, Value.int .i64 0, qv, Value.int .i64 1] ++ rest)) :: (sl 3 1 pv z1.length ((List.replicate z1.length ((-1000) : Int)).map intV)) :: (sl 3 1 qv z2.length ((List.replicate z2.length ((-1001) : Int)).map intV)) :: F) (args := [Value.pointer (some ⟨b, 0, none⟩)]) Tryz.call52 rfl (bk_fillState W0 b 2 (Value.slice (some ⟨nb, 0, none⟩) 2 nc))) (fun _ _ => ?_)
 refine Wl.imp (L' := (pt b 81 (bkC 2 (Value.slice (some ⟨nb, 0, none⟩) 2 nc))) :: (pt nb 126 ([pv, Value.int .i64 0, qv, Value.int .i64 1] ++ rest)) :: (sl 3 1 pv z1.length ((List.replicate z1.length ((-1000) : Int)).map intV)) :: (sl 3 1 qv z2.length ((List.replicate z2.length ((-1001) : Int)).map intV)) :: F) (fun _ h => h) ?_
 refine Wl.done ?_
 refine Wx.go ?_
 refine Wc.seq ?_
 refine Wc.region ?_
 refine Wl.q (v := Value.pointer (some ⟨b, 0, none⟩)) (q_move rfl) ?_
 refine Wl.e (e_call (F := (pt nb 126 ([pv, Value.int .i64 0, qv, Value.int .i64 1] ++ rest)) :: (sl 3 1 pv z1.length ((List.replicate z1.length ((-1000) : Int)).map intV)) :: (sl 3 1 qv z2.length ((List.replicate z2.length ((-1001) : Int)).map intV)) :: F) (args := [Value.pointer (some ⟨b, 0, none⟩)]) Tryz.call53 rfl (bk_fillFace W0 b 2 (Value.slice (some ⟨nb, 0, none⟩) 2 nc))) (fun _ _ => ?_)
 refine Wl.imp (L' := (pt b 81 (bkC 2 (Value.slice (some ⟨nb, 0, none⟩) 2 nc))) :: (pt nb 126 ([pv, Value.int .i64 0, qv, Value.int .i64 1] ++ rest)) :: (sl 3 1 pv z1.length ((List.replicate z1.length ((-1000) : Int)).map intV)) :: (sl 3 1 qv z2.length ((List.replicate z2.length ((-1001) : Int)).map intV)) :: F) (fun _ h => h) ?_
 refine Wl.done ?_
 refine Wx.go ?_
 refine Wc.seq ?_
 refine Wc.region ?_
 refine Wl.q (v := Value.pointer (some ⟨b, 0, none⟩)) (q_move rfl) ?_
 refine Wl.e (e_call (F := (pt nb 126 ([pv, Value.int .i64 0, qv, Value.int .i64 1] ++ rest)) :: (sl 3 1 pv z1.length ((List.replicate z1.length ((-1000) : Int)).map intV)) :: (sl 3 1 qv z2.length ((List.replicate z2.length ((-1001) : Int)).map intV)) :: F) (args := [Value.pointer (some ⟨b, 0, none⟩)]) Tryz.call54 rfl (bk_fillRequest W0 b 2 (Value.slice (some ⟨nb, 0, none⟩) 2 nc))) (fun _ _ => ?_)
 refine Wl.imp (L' := (pt b 81 (bkC 2 (Value.slice (some ⟨nb, 0, none⟩) 2 nc))) :: (pt nb 126 ([pv, Value.int .i64 0, qv, Value.int .i64 1] ++ rest)) :: (sl 3 1 pv z1.length ((List.replicate z1.length ((-1000) : Int)).map intV)) :: (sl 3 1 qv z2.length ((List.replicate z2.length ((-1001) : Int)).map intV)) :: F) (fun _ h => h) ?_
 refine Wl.done ?_
 refine Wx.go ?_
 refine Wc.seq ?_
 refine Wc.region ?_
 refine Wl.q (v := Value.pointer (some ⟨b, 0, none⟩)) (q_move rfl) ?_
 refine Wl.e (e_call (F := (pt nb 126 ([pv, Value.int .i64 0, qv, Value.int .i64 1] ++ rest)) :: (sl 3 1 pv z1.length ((List.replicate z1.length ((-1000) : Int)).map intV)) :: (sl 3 1 qv z2.length ((List.replicate z2.length ((-1001) : Int)).map intV)) :: F) (args := [Value.pointer (some ⟨b, 0, none⟩)]) Tryz.call55 rfl (bk_fillMail W0 b 2 (Value.slice (some ⟨nb, 0, none⟩) 2 nc))) (fun _ _ => ?_)
 refine Wl.imp (L' := (pt b 81 (bkC 2 (Value.slice (some ⟨nb, 0, none⟩) 2 nc))) :: (pt nb 126 ([pv, Value.int .i64 0, qv, Value.int .i64 1] ++ rest)) :: (sl 3 1 pv z1.length ((List.replicate z1.length ((-1000) : Int)).map intV)) :: (sl 3 1 qv z2.length ((List.replicate z2.length ((-1001) : Int)).map intV)) :: F) (fun _ h => h) ?_
 refine Wl.done ?_
 refine Wx.go ?_
 refine Wc.seq ?_
 refine Wc.region ?_
 refine Wl.q (v := Value.pointer (some ⟨b, 0, none⟩)) (q_move rfl) ?_
 refine Wl.e (e_call (F := (pt nb 126 ([pv, Value.int .i64 0, qv, Value.int .i64 1] ++ rest)) :: (sl 3 1 pv z1.length ((List.replicate z1.length ((-1000) : Int)).map intV)) :: (sl 3 1 qv z2.length ((List.replicate z2.length ((-1001) : Int)).map intV)) :: F) (args := [Value.pointer (some ⟨b, 0, none⟩)]) Tryz.call56 rfl (bk_fillPending W0 b 2 (Value.slice (some ⟨nb, 0, none⟩) 2 nc))) (fun _ _ => ?_)
 refine Wl.imp (L' := (pt b 81 (bkC 2 (Value.slice (some ⟨nb, 0, none⟩) 2 nc))) :: (pt nb 126 ([pv, Value.int .i64 0, qv, Value.int .i64 1] ++ rest)) :: (sl 3 1 pv z1.length ((List.replicate z1.length ((-1000) : Int)).map intV)) :: (sl 3 1 qv z2.length ((List.replicate z2.length ((-1001) : Int)).map intV)) :: F) (fun _ h => h) ?_
 refine Wl.done ?_
 refine Wx.go ?_
 refine Wc.seq ?_
 refine Wc.region ?_
 refine Wl.q (v := Value.pointer (some ⟨b, 0, none⟩)) (q_move rfl) ?_
 refine Wl.e (e_call (F := (pt nb 126 ([pv, Value.int .i64 0, qv, Value.int .i64 1] ++ rest)) :: (sl 3 1 pv z1.length ((List.replicate z1.length ((-1000) : Int)).map intV)) :: (sl 3 1 qv z2.length ((List.replicate z2.length ((-1001) : Int)).map intV)) :: F) (args := [Value.pointer (some ⟨b, 0, none⟩)]) Tryz.call57 rfl (bk_fillFeed W0 b 2 (Value.slice (some ⟨nb, 0, none⟩) 2 nc))) (fun _ _ => ?_)
 refine Wl.imp (L' := (pt b 81 (bkC 2 (Value.slice (some ⟨nb, 0, none⟩) 2 nc))) :: (pt nb 126 ([pv, Value.int .i64 0, qv, Value.int .i64 1] ++ rest)) :: (sl 3 1 pv z1.length ((List.replicate z1.length ((-1000) : Int)).map intV)) :: (sl 3 1 qv z2.length ((List.replicate z2.length ((-1001) : Int)).map intV)) :: F) (fun _ h => h) ?_
 refine Wl.done ?_
 refine Wx.go ?_
 refine Wc.seq ?_
 refine Wc.region ?_
 refine Wl.q (v := Value.pointer (some ⟨b, 0, none⟩)) (q_move rfl) ?_
 refine Wl.e (e_call (F := (pt nb 126 ([pv, Value.int .i64 0, qv, Value.int .i64 1] ++ rest)) :: (sl 3 1 pv z1.length ((List.replicate z1.length ((-1000) : Int)).map intV)) :: (sl 3 1 qv z2.length ((List.replicate z2.length ((-1001) : Int)).map intV)) :: F) (args := [Value.pointer (some ⟨b, 0, none⟩)]) Tryz.call58 rfl (bk_fillLog W0 b 2 (Value.slice (some ⟨nb, 0, none⟩) 2 nc))) (fun _ _ => ?_)
 refine Wl.imp (L' := (pt b 81 (bkC 2 (Value.slice (some ⟨nb, 0, none⟩) 2 nc))) :: (pt nb 126 ([pv, Value.int .i64 0, qv, Value.int .i64 1] ++ rest)) :: (sl 3 1 pv z1.length ((List.replicate z1.length ((-1000) : Int)).map intV)) :: (sl 3 1 qv z2.length ((List.replicate z2.length ((-1001) : Int)).map intV)) :: F) (fun _ h => h) ?_
 refine Wl.done ?_
 refine Wx.go ?_
 refine Wc.seq ?_
 refine Wc.region ?_
 refine Wl.q (v := Value.pointer (some ⟨b, 0, none⟩)) (q_move rfl) ?_
 refine Wl.e (e_call (F := (pt nb 126 ([pv, Value.int .i64 0, qv, Value.int .i64 1] ++ rest)) :: (sl 3 1 pv z1.length ((List.replicate z1.length ((-1000) : Int)).map intV)) :: (sl 3 1 qv z2.length ((List.replicate z2.length ((-1001) : Int)).map intV)) :: F) (args := [Value.pointer (some ⟨b, 0, none⟩)]) Tryz.call59 rfl (bk_fillBox W0 b 2 (Value.slice (some ⟨nb, 0, none⟩) 2 nc))) (fun _ _ => ?_)
 refine Wl.imp (L' := (pt b 81 (bkC 2 (Value.slice (some ⟨nb, 0, none⟩) 2 nc))) :: (pt nb 126 ([pv, Value.int .i64 0, qv, Value.int .i64 1] ++ rest)) :: (sl 3 1 pv z1.length ((List.replicate z1.length ((-1000) : Int)).map intV)) :: (sl 3 1 qv z2.length ((List.replicate z2.length ((-1001) : Int)).map intV)) :: F) (fun _ h => h) ?_
 refine Wl.done ?_
 refine Wx.go ?_
 refine Wc.seq ?_
 refine Wc.region ?_
 refine Wl.q (v := Value.pointer (some ⟨b, 0, none⟩)) (q_move rfl) ?_
 refine Wl.e (e_call (F := (pt nb 126 ([pv, Value.int .i64 0, qv, Value.int .i64 1] ++ rest)) :: (sl 3 1 pv z1.length ((List.replicate z1.length ((-1000) : Int)).map intV)) :: (sl 3 1 qv z2.length ((List.replicate z2.length ((-1001) : Int)).map intV)) :: F) (args := [Value.pointer (some ⟨b, 0, none⟩)]) Tryz.call60 rfl (bk_fillEarly W0 b 2 (Value.slice (some ⟨nb, 0, none⟩) 2 nc))) (fun _ _ => ?_)
 refine Wl.imp (L' := (pt b 81 (bkC 2 (Value.slice (some ⟨nb, 0, none⟩) 2 nc))) :: (pt nb 126 ([pv, Value.int .i64 0, qv, Value.int .i64 1] ++ rest)) :: (sl 3 1 pv z1.length ((List.replicate z1.length ((-1000) : Int)).map intV)) :: (sl 3 1 qv z2.length ((List.replicate z2.length ((-1001) : Int)).map intV)) :: F) (fun _ h => h) ?_
 refine Wl.done ?_
 refine Wx.go ?_
 refine Wc.seq ?_
 refine Wc.region ?_
 refine Wl.q (v := Value.pointer (some ⟨b, 0, none⟩)) (q_move rfl) ?_
 refine Wl.e (e_call (F := (pt nb 126 ([pv, Value.int .i64 0, qv, Value.int .i64 1] ++ rest)) :: (sl 3 1 pv z1.length ((List.replicate z1.length ((-1000) : Int)).map intV)) :: (sl 3 1 qv z2.length ((List.replicate z2.length ((-1001) : Int)).map intV)) :: F) (args := [Value.pointer (some ⟨b, 0, none⟩)]) Tryz.call61 rfl (bk_fillLink W0 b 2 (Value.slice (some ⟨nb, 0, none⟩) 2 nc))) (fun _ _ => ?_)
 refine Wl.imp (L' := (pt b 81 (bkC 2 (Value.slice (some ⟨nb, 0, none⟩) 2 nc))) :: (pt nb 126 ([pv, Value.int .i64 0, qv, Value.int .i64 1] ++ rest)) :: (sl 3 1 pv z1.length ((List.replicate z1.length ((-1000) : Int)).map intV)) :: (sl 3 1 qv z2.length ((List.replicate z2.length ((-1001) : Int)).map intV)) :: F) (fun _ h => h) ?_
 refine Wl.done ?_
 refine Wx.go ?_
 refine Wc.seq ?_
 refine Wc.region ?_
 refine Wl.q (v := Value.pointer (some ⟨b, 0, none⟩)) (q_move rfl) ?_
 refine Wl.e (e_call (F := (pt nb 126 ([pv, Value.int .i64 0, qv, Value.int .i64 1] ++ rest)) :: (sl 3 1 pv z1.length ((List.replicate z1.length ((-1000) : Int)).map intV)) :: (sl 3 1 qv z2.length ((List.replicate z2.length ((-1001) : Int)).map intV)) :: F) (args := [Value.pointer (some ⟨b, 0, none⟩)]) Tryz.call62 rfl (bk_fillPacket W0 b 2 (Value.slice (some ⟨nb, 0, none⟩) 2 nc))) (fun _ _ => ?_)
 refine Wl.imp (L' := (pt b 81 (bkC 2 (Value.slice (some ⟨nb, 0, none⟩) 2 nc))) :: (pt nb 126 ([pv, Value.int .i64 0, qv, Value.int .i64 1] ++ rest)) :: (sl 3 1 pv z1.length ((List.replicate z1.length ((-1000) : Int)).map intV)) :: (sl 3 1 qv z2.length ((List.replicate z2.length ((-1001) : Int)).map intV)) :: F) (fun _ h => h) ?_
 refine Wl.done ?_
 refine Wx.go ?_
 refine Wc.seq ?_
 refine Wc.region ?_
 refine Wl.q (v := Value.pointer (some ⟨b, 0, none⟩)) (q_move rfl) ?_
 refine Wl.e (e_call (F := (pt nb 126 ([pv, Value.int .i64 0, qv, Value.int .i64 1] ++ rest)) :: (sl 3 1 pv z1.length ((List.replicate z1.length ((-1000) : Int)).map intV)) :: (sl 3 1 qv z2.length ((List.replicate z2.length ((-1001) : Int)).map intV)) :: F) (args := [Value.pointer (some ⟨b, 0, none⟩)]) Tryz.call63 rfl (bk_fillTermRow W0 b 2 (Value.slice (some ⟨nb, 0, none⟩) 2 nc))) (fun _ _ => ?_)
 refine Wl.imp (L' := (pt b 81 (bkC 2 (Value.slice (some ⟨nb, 0, none⟩) 2 nc))) :: (pt nb 126 ([pv, Value.int .i64 0, qv, Value.int .i64 1] ++ rest)) :: (sl 3 1 pv z1.length ((List.replicate z1.length ((-1000) : Int)).map intV)) :: (sl 3 1 qv z2.length ((List.replicate z2.length ((-1001) : Int)).map intV)) :: F) (fun _ h => h) ?_
 refine Wl.done ?_
 refine Wx.go ?_
 refine Wc.seq ?_
 refine Wc.region ?_
 refine Wl.q (v := Value.pointer (some ⟨b, 0, none⟩)) (q_move rfl) ?_
 refine Wl.e (e_call (F := (pt nb 126 ([pv, Value.int .i64 0, qv, Value.int .i64 1] ++ rest)) :: (sl 3 1 pv z1.length ((List.replicate z1.length ((-1000) : Int)).map intV)) :: (sl 3 1 qv z2.length ((List.replicate z2.length ((-1001) : Int)).map intV)) :: F) (args := [Value.pointer (some ⟨b, 0, none⟩)]) Tryz.call64 rfl (bk_fillNumberRow W0 b 2 (Value.slice (some ⟨nb, 0, none⟩) 2 nc))) (fun _ _ => ?_)
 refine Wl.imp (L' := (pt b 81 (bkC 2 (Value.slice (some ⟨nb, 0, none⟩) 2 nc))) :: (pt nb 126 ([pv, Value.int .i64 0, qv, Value.int .i64 1] ++ rest)) :: (sl 3 1 pv z1.length ((List.replicate z1.length ((-1000) : Int)).map intV)) :: (sl 3 1 qv z2.length ((List.replicate z2.length ((-1001) : Int)).map intV)) :: F) (fun _ h => h) ?_
 refine Wl.done ?_
 refine Wx.go ?_
 refine Wc.seq ?_
 refine Wc.region ?_
 refine Wl.q (v := Value.pointer (some ⟨b, 0, none⟩)) (q_move rfl) ?_
 refine Wl.e (e_call (F := F) (args := [Value.pointer (some ⟨b, 0, none⟩)]) Tryz.call65 rfl (grow_n W0 b nb nc rest pv qv z1.length z2.length hz1 hz2)) (fun ⟨pw, qw⟩ _ => ?_)
 refine Wl.imp (L' := (pt b 81 (bkC 2 (Value.slice (some ⟨nb, 0, none⟩) 2 nc))) :: (pt nb 126 ([pw, Value.int .i64 0, qw, Value.int .i64 1] ++ rest)) :: (sl 3 1 pw (z1.length + 1 + 1 + 1) ((List.replicate (z1.length + 1 + 1 + 1) ((-1000) : Int)).map intV)) :: (sl 3 1 qw (z2.length + 1 + 1 + 1) ((List.replicate (z2.length + 1 + 1 + 1) ((-1001) : Int)).map intV)) :: F) (fun _ h => h) ?_
 refine Wl.done ?_
 refine Wx.go ?_
 refine Wc.seq ?_
 refine Wc.region ?_
 refine Wl.q (v := Value.pointer (some ⟨b, 0, none⟩)) (q_move rfl) ?_
 refine Wl.e (e_call (F := (pt nb 126 ([pw, Value.int .i64 0, qw, Value.int .i64 1] ++ rest)) :: (sl 3 1 pw (z1.length + 1 + 1 + 1) ((List.replicate (z1.length + 1 + 1 + 1) ((-1000) : Int)).map intV)) :: (sl 3 1 qw (z2.length + 1 + 1 + 1) ((List.replicate (z2.length + 1 + 1 + 1) ((-1001) : Int)).map intV)) :: F) (args := [Value.pointer (some ⟨b, 0, none⟩)]) Tryz.call66 rfl (bk_growWide W0 b 2 (Value.slice (some ⟨nb, 0, none⟩) 2 nc))) (fun _ _ => ?_)
 refine Wl.imp (L' := (pt b 81 (bkC 2 (Value.slice (some ⟨nb, 0, none⟩) 2 nc))) :: (pt nb 126 ([pw, Value.int .i64 0, qw, Value.int .i64 1] ++ rest)) :: (sl 3 1 pw (z1.length + 1 + 1 + 1) ((List.replicate (z1.length + 1 + 1 + 1) ((-1000) : Int)).map intV)) :: (sl 3 1 qw (z2.length + 1 + 1 + 1) ((List.replicate (z2.length + 1 + 1 + 1) ((-1001) : Int)).map intV)) :: F) (fun _ h => h) ?_
 refine Wl.done ?_
 refine Wx.go ?_
 refine Wc.seq ?_
 refine Wc.region ?_
 refine Wl.q (v := Value.pointer (some ⟨b, 0, none⟩)) (q_move rfl) ?_
 refine Wl.e (e_call (F := (pt nb 126 ([pw, Value.int .i64 0, qw, Value.int .i64 1] ++ rest)) :: (sl 3 1 pw (z1.length + 1 + 1 + 1) ((List.replicate (z1.length + 1 + 1 + 1) ((-1000) : Int)).map intV)) :: (sl 3 1 qw (z2.length + 1 + 1 + 1) ((List.replicate (z2.length + 1 + 1 + 1) ((-1001) : Int)).map intV)) :: F) (args := [Value.pointer (some ⟨b, 0, none⟩)]) Tryz.call67 rfl (bk_growText W0 b 2 (Value.slice (some ⟨nb, 0, none⟩) 2 nc))) (fun _ _ => ?_)
 refine Wl.imp (L' := (pt b 81 (bkC 2 (Value.slice (some ⟨nb, 0, none⟩) 2 nc))) :: (pt nb 126 ([pw, Value.int .i64 0, qw, Value.int .i64 1] ++ rest)) :: (sl 3 1 pw (z1.length + 1 + 1 + 1) ((List.replicate (z1.length + 1 + 1 + 1) ((-1000) : Int)).map intV)) :: (sl 3 1 qw (z2.length + 1 + 1 + 1) ((List.replicate (z2.length + 1 + 1 + 1) ((-1001) : Int)).map intV)) :: F) (fun _ h => h) ?_
 refine Wl.done ?_
 refine Wx.go ?_
 refine Wc.seq ?_
 refine Wc.region ?_
 refine Wl.q (v := Value.pointer (some ⟨b, 0, none⟩)) (q_move rfl) ?_
 refine Wl.e (e_call (F := (pt nb 126 ([pw, Value.int .i64 0, qw, Value.int .i64 1] ++ rest)) :: (sl 3 1 pw (z1.length + 1 + 1 + 1) ((List.replicate (z1.length + 1 + 1 + 1) ((-1000) : Int)).map intV)) :: (sl 3 1 qw (z2.length + 1 + 1 + 1) ((List.replicate (z2.length + 1 + 1 + 1) ((-1001) : Int)).map intV)) :: F) (args := [Value.pointer (some ⟨b, 0, none⟩)]) Tryz.call68 rfl (bk_growTerm W0 b 2 (Value.slice (some ⟨nb, 0, none⟩) 2 nc))) (fun _ _ => ?_)
 refine Wl.imp (L' := (pt b 81 (bkC 2 (Value.slice (some ⟨nb, 0, none⟩) 2 nc))) :: (pt nb 126 ([pw, Value.int .i64 0, qw, Value.int .i64 1] ++ rest)) :: (sl 3 1 pw (z1.length + 1 + 1 + 1) ((List.replicate (z1.length + 1 + 1 + 1) ((-1000) : Int)).map intV)) :: (sl 3 1 qw (z2.length + 1 + 1 + 1) ((List.replicate (z2.length + 1 + 1 + 1) ((-1001) : Int)).map intV)) :: F) (fun _ h => h) ?_
 refine Wl.done ?_
 refine Wx.go ?_
 refine Wc.seq ?_
 refine Wc.region ?_
 refine Wl.q (v := Value.pointer (some ⟨b, 0, none⟩)) (q_move rfl) ?_
 refine Wl.e (e_call (F := (pt nb 126 ([pw, Value.int .i64 0, qw, Value.int .i64 1] ++ rest)) :: (sl 3 1 pw (z1.length + 1 + 1 + 1) ((List.replicate (z1.length + 1 + 1 + 1) ((-1000) : Int)).map intV)) :: (sl 3 1 qw (z2.length + 1 + 1 + 1) ((List.replicate (z2.length + 1 + 1 + 1) ((-1001) : Int)).map intV)) :: F) (args := [Value.pointer (some ⟨b, 0, none⟩)]) Tryz.call69 rfl (bk_growSeal W0 b 2 (Value.slice (some ⟨nb, 0, none⟩) 2 nc))) (fun _ _ => ?_)
 refine Wl.imp (L' := (pt b 81 (bkC 2 (Value.slice (some ⟨nb, 0, none⟩) 2 nc))) :: (pt nb 126 ([pw, Value.int .i64 0, qw, Value.int .i64 1] ++ rest)) :: (sl 3 1 pw (z1.length + 1 + 1 + 1) ((List.replicate (z1.length + 1 + 1 + 1) ((-1000) : Int)).map intV)) :: (sl 3 1 qw (z2.length + 1 + 1 + 1) ((List.replicate (z2.length + 1 + 1 + 1) ((-1001) : Int)).map intV)) :: F) (fun _ h => h) ?_
 refine Wl.done ?_
 refine Wx.go ?_
 refine Wc.seq ?_
 refine Wc.region ?_
 refine Wl.q (v := Value.pointer (some ⟨b, 0, none⟩)) (q_move rfl) ?_
 refine Wl.e (e_call (F := (pt nb 126 ([pw, Value.int .i64 0, qw, Value.int .i64 1] ++ rest)) :: (sl 3 1 pw (z1.length + 1 + 1 + 1) ((List.replicate (z1.length + 1 + 1 + 1) ((-1000) : Int)).map intV)) :: (sl 3 1 qw (z2.length + 1 + 1 + 1) ((List.replicate (z2.length + 1 + 1 + 1) ((-1001) : Int)).map intV)) :: F) (args := [Value.pointer (some ⟨b, 0, none⟩)]) Tryz.call70 rfl (bk_growKey W0 b 2 (Value.slice (some ⟨nb, 0, none⟩) 2 nc))) (fun _ _ => ?_)
 refine Wl.imp (L' := (pt b 81 (bkC 2 (Value.slice (some ⟨nb, 0, none⟩) 2 nc))) :: (pt nb 126 ([pw, Value.int .i64 0, qw, Value.int .i64 1] ++ rest)) :: (sl 3 1 pw (z1.length + 1 + 1 + 1) ((List.replicate (z1.length + 1 + 1 + 1) ((-1000) : Int)).map intV)) :: (sl 3 1 qw (z2.length + 1 + 1 + 1) ((List.replicate (z2.length + 1 + 1 + 1) ((-1001) : Int)).map intV)) :: F) (fun _ h => h) ?_
 refine Wl.done ?_
 refine Wx.go ?_
 refine Wc.seq ?_
 refine Wc.region ?_
 refine Wl.q (v := Value.pointer (some ⟨b, 0, none⟩)) (q_move rfl) ?_
 refine Wl.e (e_call (F := (pt nb 126 ([pw, Value.int .i64 0, qw, Value.int .i64 1] ++ rest)) :: (sl 3 1 pw (z1.length + 1 + 1 + 1) ((List.replicate (z1.length + 1 + 1 + 1) ((-1000) : Int)).map intV)) :: (sl 3 1 qw (z2.length + 1 + 1 + 1) ((List.replicate (z2.length + 1 + 1 + 1) ((-1001) : Int)).map intV)) :: F) (args := [Value.pointer (some ⟨b, 0, none⟩)]) Tryz.call71 rfl (bk_growAdd W0 b 2 (Value.slice (some ⟨nb, 0, none⟩) 2 nc))) (fun _ _ => ?_)
 refine Wl.imp (L' := (pt b 81 (bkC 2 (Value.slice (some ⟨nb, 0, none⟩) 2 nc))) :: (pt nb 126 ([pw, Value.int .i64 0, qw, Value.int .i64 1] ++ rest)) :: (sl 3 1 pw (z1.length + 1 + 1 + 1) ((List.replicate (z1.length + 1 + 1 + 1) ((-1000) : Int)).map intV)) :: (sl 3 1 qw (z2.length + 1 + 1 + 1) ((List.replicate (z2.length + 1 + 1 + 1) ((-1001) : Int)).map intV)) :: F) (fun _ h => h) ?_
 refine Wl.done ?_
 refine Wx.go ?_
 refine Wc.seq ?_
 refine Wc.region ?_
 refine Wl.q (v := Value.pointer (some ⟨b, 0, none⟩)) (q_move rfl) ?_
 refine Wl.e (e_call (F := (pt nb 126 ([pw, Value.int .i64 0, qw, Value.int .i64 1] ++ rest)) :: (sl 3 1 pw (z1.length + 1 + 1 + 1) ((List.replicate (z1.length + 1 + 1 + 1) ((-1000) : Int)).map intV)) :: (sl 3 1 qw (z2.length + 1 + 1 + 1) ((List.replicate (z2.length + 1 + 1 + 1) ((-1001) : Int)).map intV)) :: F) (args := [Value.pointer (some ⟨b, 0, none⟩)]) Tryz.call72 rfl (bk_growJoin W0 b 2 (Value.slice (some ⟨nb, 0, none⟩) 2 nc))) (fun _ _ => ?_)
 refine Wl.imp (L' := (pt b 81 (bkC 2 (Value.slice (some ⟨nb, 0, none⟩) 2 nc))) :: (pt nb 126 ([pw, Value.int .i64 0, qw, Value.int .i64 1] ++ rest)) :: (sl 3 1 pw (z1.length + 1 + 1 + 1) ((List.replicate (z1.length + 1 + 1 + 1) ((-1000) : Int)).map intV)) :: (sl 3 1 qw (z2.length + 1 + 1 + 1) ((List.replicate (z2.length + 1 + 1 + 1) ((-1001) : Int)).map intV)) :: F) (fun _ h => h) ?_
 refine Wl.done ?_
 refine Wx.go ?_
 refine Wc.seq ?_
 refine Wc.region ?_
 refine Wl.q (v := Value.pointer (some ⟨b, 0, none⟩)) (q_move rfl) ?_
 refine Wl.e (e_call (F := (pt nb 126 ([pw, Value.int .i64 0, qw, Value.int .i64 1] ++ rest)) :: (sl 3 1 pw (z1.length + 1 + 1 + 1) ((List.replicate (z1.length + 1 + 1 + 1) ((-1000) : Int)).map intV)) :: (sl 3 1 qw (z2.length + 1 + 1 + 1) ((List.replicate (z2.length + 1 + 1 + 1) ((-1001) : Int)).map intV)) :: F) (args := [Value.pointer (some ⟨b, 0, none⟩)]) Tryz.call73 rfl (bk_growPast W0 b 2 (Value.slice (some ⟨nb, 0, none⟩) 2 nc))) (fun _ _ => ?_)
 refine Wl.imp (L' := (pt b 81 (bkC 2 (Value.slice (some ⟨nb, 0, none⟩) 2 nc))) :: (pt nb 126 ([pw, Value.int .i64 0, qw, Value.int .i64 1] ++ rest)) :: (sl 3 1 pw (z1.length + 1 + 1 + 1) ((List.replicate (z1.length + 1 + 1 + 1) ((-1000) : Int)).map intV)) :: (sl 3 1 qw (z2.length + 1 + 1 + 1) ((List.replicate (z2.length + 1 + 1 + 1) ((-1001) : Int)).map intV)) :: F) (fun _ h => h) ?_
 refine Wl.done ?_
 refine Wx.go ?_
 refine Wc.seq ?_
 refine Wc.region ?_
 refine Wl.q (v := Value.pointer (some ⟨b, 0, none⟩)) (q_move rfl) ?_
 refine Wl.e (e_call (F := (pt nb 126 ([pw, Value.int .i64 0, qw, Value.int .i64 1] ++ rest)) :: (sl 3 1 pw (z1.length + 1 + 1 + 1) ((List.replicate (z1.length + 1 + 1 + 1) ((-1000) : Int)).map intV)) :: (sl 3 1 qw (z2.length + 1 + 1 + 1) ((List.replicate (z2.length + 1 + 1 + 1) ((-1001) : Int)).map intV)) :: F) (args := [Value.pointer (some ⟨b, 0, none⟩)]) Tryz.call74 rfl (bk_growCard W0 b 2 (Value.slice (some ⟨nb, 0, none⟩) 2 nc))) (fun _ _ => ?_)
 refine Wl.imp (L' := (pt b 81 (bkC 2 (Value.slice (some ⟨nb, 0, none⟩) 2 nc))) :: (pt nb 126 ([pw, Value.int .i64 0, qw, Value.int .i64 1] ++ rest)) :: (sl 3 1 pw (z1.length + 1 + 1 + 1) ((List.replicate (z1.length + 1 + 1 + 1) ((-1000) : Int)).map intV)) :: (sl 3 1 qw (z2.length + 1 + 1 + 1) ((List.replicate (z2.length + 1 + 1 + 1) ((-1001) : Int)).map intV)) :: F) (fun _ h => h) ?_
 refine Wl.done ?_
 refine Wx.go ?_
 refine Wc.seq ?_
 refine Wc.region ?_
 refine Wl.q (v := Value.pointer (some ⟨b, 0, none⟩)) (q_move rfl) ?_
 refine Wl.e (e_call (F := (pt nb 126 ([pw, Value.int .i64 0, qw, Value.int .i64 1] ++ rest)) :: (sl 3 1 pw (z1.length + 1 + 1 + 1) ((List.replicate (z1.length + 1 + 1 + 1) ((-1000) : Int)).map intV)) :: (sl 3 1 qw (z2.length + 1 + 1 + 1) ((List.replicate (z2.length + 1 + 1 + 1) ((-1001) : Int)).map intV)) :: F) (args := [Value.pointer (some ⟨b, 0, none⟩)]) Tryz.call75 rfl (bk_growGot W0 b 2 (Value.slice (some ⟨nb, 0, none⟩) 2 nc))) (fun _ _ => ?_)
 refine Wl.imp (L' := (pt b 81 (bkC 2 (Value.slice (some ⟨nb, 0, none⟩) 2 nc))) :: (pt nb 126 ([pw, Value.int .i64 0, qw, Value.int .i64 1] ++ rest)) :: (sl 3 1 pw (z1.length + 1 + 1 + 1) ((List.replicate (z1.length + 1 + 1 + 1) ((-1000) : Int)).map intV)) :: (sl 3 1 qw (z2.length + 1 + 1 + 1) ((List.replicate (z2.length + 1 + 1 + 1) ((-1001) : Int)).map intV)) :: F) (fun _ h => h) ?_
 refine Wl.done ?_
 refine Wx.go ?_
 refine Wc.seq ?_
 refine Wc.region ?_
 refine Wl.q (v := Value.pointer (some ⟨b, 0, none⟩)) (q_move rfl) ?_
 refine Wl.e (e_call (F := (pt nb 126 ([pw, Value.int .i64 0, qw, Value.int .i64 1] ++ rest)) :: (sl 3 1 pw (z1.length + 1 + 1 + 1) ((List.replicate (z1.length + 1 + 1 + 1) ((-1000) : Int)).map intV)) :: (sl 3 1 qw (z2.length + 1 + 1 + 1) ((List.replicate (z2.length + 1 + 1 + 1) ((-1001) : Int)).map intV)) :: F) (args := [Value.pointer (some ⟨b, 0, none⟩)]) Tryz.call76 rfl (bk_growNote W0 b 2 (Value.slice (some ⟨nb, 0, none⟩) 2 nc))) (fun _ _ => ?_)
 refine Wl.imp (L' := (pt b 81 (bkC 2 (Value.slice (some ⟨nb, 0, none⟩) 2 nc))) :: (pt nb 126 ([pw, Value.int .i64 0, qw, Value.int .i64 1] ++ rest)) :: (sl 3 1 pw (z1.length + 1 + 1 + 1) ((List.replicate (z1.length + 1 + 1 + 1) ((-1000) : Int)).map intV)) :: (sl 3 1 qw (z2.length + 1 + 1 + 1) ((List.replicate (z2.length + 1 + 1 + 1) ((-1001) : Int)).map intV)) :: F) (fun _ h => h) ?_
 refine Wl.done ?_
 refine Wx.go ?_
 refine Wc.seq ?_
 refine Wc.region ?_
 refine Wl.q (v := Value.pointer (some ⟨b, 0, none⟩)) (q_move rfl) ?_
 refine Wl.e (e_call (F := (pt nb 126 ([pw, Value.int .i64 0, qw, Value.int .i64 1] ++ rest)) :: (sl 3 1 pw (z1.length + 1 + 1 + 1) ((List.replicate (z1.length + 1 + 1 + 1) ((-1000) : Int)).map intV)) :: (sl 3 1 qw (z2.length + 1 + 1 + 1) ((List.replicate (z2.length + 1 + 1 + 1) ((-1001) : Int)).map intV)) :: F) (args := [Value.pointer (some ⟨b, 0, none⟩)]) Tryz.call77 rfl (bk_growAnswer W0 b 2 (Value.slice (some ⟨nb, 0, none⟩) 2 nc))) (fun _ _ => ?_)
 refine Wl.imp (L' := (pt b 81 (bkC 2 (Value.slice (some ⟨nb, 0, none⟩) 2 nc))) :: (pt nb 126 ([pw, Value.int .i64 0, qw, Value.int .i64 1] ++ rest)) :: (sl 3 1 pw (z1.length + 1 + 1 + 1) ((List.replicate (z1.length + 1 + 1 + 1) ((-1000) : Int)).map intV)) :: (sl 3 1 qw (z2.length + 1 + 1 + 1) ((List.replicate (z2.length + 1 + 1 + 1) ((-1001) : Int)).map intV)) :: F) (fun _ h => h) ?_
 refine Wl.done ?_
 refine Wx.go ?_
 refine Wc.seq ?_
 refine Wc.region ?_
 refine Wl.q (v := Value.pointer (some ⟨b, 0, none⟩)) (q_move rfl) ?_
 refine Wl.e (e_call (F := (pt nb 126 ([pw, Value.int .i64 0, qw, Value.int .i64 1] ++ rest)) :: (sl 3 1 pw (z1.length + 1 + 1 + 1) ((List.replicate (z1.length + 1 + 1 + 1) ((-1000) : Int)).map intV)) :: (sl 3 1 qw (z2.length + 1 + 1 + 1) ((List.replicate (z2.length + 1 + 1 + 1) ((-1001) : Int)).map intV)) :: F) (args := [Value.pointer (some ⟨b, 0, none⟩)]) Tryz.call78 rfl (bk_growOutcome W0 b 2 (Value.slice (some ⟨nb, 0, none⟩) 2 nc))) (fun _ _ => ?_)
 refine Wl.imp (L' := (pt b 81 (bkC 2 (Value.slice (some ⟨nb, 0, none⟩) 2 nc))) :: (pt nb 126 ([pw, Value.int .i64 0, qw, Value.int .i64 1] ++ rest)) :: (sl 3 1 pw (z1.length + 1 + 1 + 1) ((List.replicate (z1.length + 1 + 1 + 1) ((-1000) : Int)).map intV)) :: (sl 3 1 qw (z2.length + 1 + 1 + 1) ((List.replicate (z2.length + 1 + 1 + 1) ((-1001) : Int)).map intV)) :: F) (fun _ h => h) ?_
 refine Wl.done ?_
 refine Wx.go ?_
 refine Wc.seq ?_
 refine Wc.region ?_
 refine Wl.q (v := Value.pointer (some ⟨b, 0, none⟩)) (q_move rfl) ?_
 refine Wl.e (e_call (F := (pt nb 126 ([pw, Value.int .i64 0, qw, Value.int .i64 1] ++ rest)) :: (sl 3 1 pw (z1.length + 1 + 1 + 1) ((List.replicate (z1.length + 1 + 1 + 1) ((-1000) : Int)).map intV)) :: (sl 3 1 qw (z2.length + 1 + 1 + 1) ((List.replicate (z2.length + 1 + 1 + 1) ((-1001) : Int)).map intV)) :: F) (args := [Value.pointer (some ⟨b, 0, none⟩)]) Tryz.call79 rfl (bk_growFinding W0 b 2 (Value.slice (some ⟨nb, 0, none⟩) 2 nc))) (fun _ _ => ?_)
 refine Wl.imp (L' := (pt b 81 (bkC 2 (Value.slice (some ⟨nb, 0, none⟩) 2 nc))) :: (pt nb 126 ([pw, Value.int .i64 0, qw, Value.int .i64 1] ++ rest)) :: (sl 3 1 pw (z1.length + 1 + 1 + 1) ((List.replicate (z1.length + 1 + 1 + 1) ((-1000) : Int)).map intV)) :: (sl 3 1 qw (z2.length + 1 + 1 + 1) ((List.replicate (z2.length + 1 + 1 + 1) ((-1001) : Int)).map intV)) :: F) (fun _ h => h) ?_
 refine Wl.done ?_
 refine Wx.go ?_
 refine Wc.seq ?_
 refine Wc.region ?_
 refine Wl.q (v := Value.pointer (some ⟨b, 0, none⟩)) (q_move rfl) ?_
 refine Wl.e (e_call (F := (pt nb 126 ([pw, Value.int .i64 0, qw, Value.int .i64 1] ++ rest)) :: (sl 3 1 pw (z1.length + 1 + 1 + 1) ((List.replicate (z1.length + 1 + 1 + 1) ((-1000) : Int)).map intV)) :: (sl 3 1 qw (z2.length + 1 + 1 + 1) ((List.replicate (z2.length + 1 + 1 + 1) ((-1001) : Int)).map intV)) :: F) (args := [Value.pointer (some ⟨b, 0, none⟩)]) Tryz.call80 rfl (bk_growStep W0 b 2 (Value.slice (some ⟨nb, 0, none⟩) 2 nc))) (fun _ _ => ?_)
 refine Wl.imp (L' := (pt b 81 (bkC 2 (Value.slice (some ⟨nb, 0, none⟩) 2 nc))) :: (pt nb 126 ([pw, Value.int .i64 0, qw, Value.int .i64 1] ++ rest)) :: (sl 3 1 pw (z1.length + 1 + 1 + 1) ((List.replicate (z1.length + 1 + 1 + 1) ((-1000) : Int)).map intV)) :: (sl 3 1 qw (z2.length + 1 + 1 + 1) ((List.replicate (z2.length + 1 + 1 + 1) ((-1001) : Int)).map intV)) :: F) (fun _ h => h) ?_
 refine Wl.done ?_
 refine Wx.go ?_
 refine Wc.seq ?_
 refine Wc.region ?_
 refine Wl.q (v := Value.pointer (some ⟨b, 0, none⟩)) (q_move rfl) ?_
 refine Wl.e (e_call (F := (pt nb 126 ([pw, Value.int .i64 0, qw, Value.int .i64 1] ++ rest)) :: (sl 3 1 pw (z1.length + 1 + 1 + 1) ((List.replicate (z1.length + 1 + 1 + 1) ((-1000) : Int)).map intV)) :: (sl 3 1 qw (z2.length + 1 + 1 + 1) ((List.replicate (z2.length + 1 + 1 + 1) ((-1001) : Int)).map intV)) :: F) (args := [Value.pointer (some ⟨b, 0, none⟩)]) Tryz.call81 rfl (bk_growWrite W0 b 2 (Value.slice (some ⟨nb, 0, none⟩) 2 nc))) (fun _ _ => ?_)
 refine Wl.imp (L' := (pt b 81 (bkC 2 (Value.slice (some ⟨nb, 0, none⟩) 2 nc))) :: (pt nb 126 ([pw, Value.int .i64 0, qw, Value.int .i64 1] ++ rest)) :: (sl 3 1 pw (z1.length + 1 + 1 + 1) ((List.replicate (z1.length + 1 + 1 + 1) ((-1000) : Int)).map intV)) :: (sl 3 1 qw (z2.length + 1 + 1 + 1) ((List.replicate (z2.length + 1 + 1 + 1) ((-1001) : Int)).map intV)) :: F) (fun _ h => h) ?_
 refine Wl.done ?_
 refine Wx.go ?_
 refine Wc.seq ?_
 refine Wc.region ?_
 refine Wl.q (v := Value.pointer (some ⟨b, 0, none⟩)) (q_move rfl) ?_
 refine Wl.e (e_call (F := (pt nb 126 ([pw, Value.int .i64 0, qw, Value.int .i64 1] ++ rest)) :: (sl 3 1 pw (z1.length + 1 + 1 + 1) ((List.replicate (z1.length + 1 + 1 + 1) ((-1000) : Int)).map intV)) :: (sl 3 1 qw (z2.length + 1 + 1 + 1) ((List.replicate (z2.length + 1 + 1 + 1) ((-1001) : Int)).map intV)) :: F) (args := [Value.pointer (some ⟨b, 0, none⟩)]) Tryz.call82 rfl (bk_growNode W0 b 2 (Value.slice (some ⟨nb, 0, none⟩) 2 nc))) (fun _ _ => ?_)
 refine Wl.imp (L' := (pt b 81 (bkC 2 (Value.slice (some ⟨nb, 0, none⟩) 2 nc))) :: (pt nb 126 ([pw, Value.int .i64 0, qw, Value.int .i64 1] ++ rest)) :: (sl 3 1 pw (z1.length + 1 + 1 + 1) ((List.replicate (z1.length + 1 + 1 + 1) ((-1000) : Int)).map intV)) :: (sl 3 1 qw (z2.length + 1 + 1 + 1) ((List.replicate (z2.length + 1 + 1 + 1) ((-1001) : Int)).map intV)) :: F) (fun _ h => h) ?_
 refine Wl.done ?_
 refine Wx.go ?_
 refine Wc.seq ?_
 refine Wc.region ?_
 refine Wl.q (v := Value.pointer (some ⟨b, 0, none⟩)) (q_move rfl) ?_
 refine Wl.e (e_call (F := (pt nb 126 ([pw, Value.int .i64 0, qw, Value.int .i64 1] ++ rest)) :: (sl 3 1 pw (z1.length + 1 + 1 + 1) ((List.replicate (z1.length + 1 + 1 + 1) ((-1000) : Int)).map intV)) :: (sl 3 1 qw (z2.length + 1 + 1 + 1) ((List.replicate (z2.length + 1 + 1 + 1) ((-1001) : Int)).map intV)) :: F) (args := [Value.pointer (some ⟨b, 0, none⟩)]) Tryz.call83 rfl (bk_growTree W0 b 2 (Value.slice (some ⟨nb, 0, none⟩) 2 nc))) (fun _ _ => ?_)
 refine Wl.imp (L' := (pt b 81 (bkC 2 (Value.slice (some ⟨nb, 0, none⟩) 2 nc))) :: (pt nb 126 ([pw, Value.int .i64 0, qw, Value.int .i64 1] ++ rest)) :: (sl 3 1 pw (z1.length + 1 + 1 + 1) ((List.replicate (z1.length + 1 + 1 + 1) ((-1000) : Int)).map intV)) :: (sl 3 1 qw (z2.length + 1 + 1 + 1) ((List.replicate (z2.length + 1 + 1 + 1) ((-1001) : Int)).map intV)) :: F) (fun _ h => h) ?_
 refine Wl.done ?_
 refine Wx.go ?_
 refine Wc.seq ?_
 refine Wc.region ?_
 refine Wl.q (v := Value.pointer (some ⟨b, 0, none⟩)) (q_move rfl) ?_
 refine Wl.e (e_call (F := (pt nb 126 ([pw, Value.int .i64 0, qw, Value.int .i64 1] ++ rest)) :: (sl 3 1 pw (z1.length + 1 + 1 + 1) ((List.replicate (z1.length + 1 + 1 + 1) ((-1000) : Int)).map intV)) :: (sl 3 1 qw (z2.length + 1 + 1 + 1) ((List.replicate (z2.length + 1 + 1 + 1) ((-1001) : Int)).map intV)) :: F) (args := [Value.pointer (some ⟨b, 0, none⟩)]) Tryz.call84 rfl (bk_growCommit W0 b 2 (Value.slice (some ⟨nb, 0, none⟩) 2 nc))) (fun _ _ => ?_)
 refine Wl.imp (L' := (pt b 81 (bkC 2 (Value.slice (some ⟨nb, 0, none⟩) 2 nc))) :: (pt nb 126 ([pw, Value.int .i64 0, qw, Value.int .i64 1] ++ rest)) :: (sl 3 1 pw (z1.length + 1 + 1 + 1) ((List.replicate (z1.length + 1 + 1 + 1) ((-1000) : Int)).map intV)) :: (sl 3 1 qw (z2.length + 1 + 1 + 1) ((List.replicate (z2.length + 1 + 1 + 1) ((-1001) : Int)).map intV)) :: F) (fun _ h => h) ?_
 refine Wl.done ?_
 refine Wx.go ?_
 refine Wc.seq ?_
 refine Wc.region ?_
 refine Wl.q (v := Value.pointer (some ⟨b, 0, none⟩)) (q_move rfl) ?_
 refine Wl.e (e_call (F := (pt nb 126 ([pw, Value.int .i64 0, qw, Value.int .i64 1] ++ rest)) :: (sl 3 1 pw (z1.length + 1 + 1 + 1) ((List.replicate (z1.length + 1 + 1 + 1) ((-1000) : Int)).map intV)) :: (sl 3 1 qw (z2.length + 1 + 1 + 1) ((List.replicate (z2.length + 1 + 1 + 1) ((-1001) : Int)).map intV)) :: F) (args := [Value.pointer (some ⟨b, 0, none⟩)]) Tryz.call85 rfl (bk_growState W0 b 2 (Value.slice (some ⟨nb, 0, none⟩) 2 nc))) (fun _ _ => ?_)
 refine Wl.imp (L' := (pt b 81 (bkC 2 (Value.slice (some ⟨nb, 0, none⟩) 2 nc))) :: (pt nb 126 ([pw, Value.int .i64 0, qw, Value.int .i64 1] ++ rest)) :: (sl 3 1 pw (z1.length + 1 + 1 + 1) ((List.replicate (z1.length + 1 + 1 + 1) ((-1000) : Int)).map intV)) :: (sl 3 1 qw (z2.length + 1 + 1 + 1) ((List.replicate (z2.length + 1 + 1 + 1) ((-1001) : Int)).map intV)) :: F) (fun _ h => h) ?_
 refine Wl.done ?_
 refine Wx.go ?_
 refine Wc.seq ?_
 refine Wc.region ?_
 refine Wl.q (v := Value.pointer (some ⟨b, 0, none⟩)) (q_move rfl) ?_
 refine Wl.e (e_call (F := (pt nb 126 ([pw, Value.int .i64 0, qw, Value.int .i64 1] ++ rest)) :: (sl 3 1 pw (z1.length + 1 + 1 + 1) ((List.replicate (z1.length + 1 + 1 + 1) ((-1000) : Int)).map intV)) :: (sl 3 1 qw (z2.length + 1 + 1 + 1) ((List.replicate (z2.length + 1 + 1 + 1) ((-1001) : Int)).map intV)) :: F) (args := [Value.pointer (some ⟨b, 0, none⟩)]) Tryz.call86 rfl (bk_growFace W0 b 2 (Value.slice (some ⟨nb, 0, none⟩) 2 nc))) (fun _ _ => ?_)
 refine Wl.imp (L' := (pt b 81 (bkC 2 (Value.slice (some ⟨nb, 0, none⟩) 2 nc))) :: (pt nb 126 ([pw, Value.int .i64 0, qw, Value.int .i64 1] ++ rest)) :: (sl 3 1 pw (z1.length + 1 + 1 + 1) ((List.replicate (z1.length + 1 + 1 + 1) ((-1000) : Int)).map intV)) :: (sl 3 1 qw (z2.length + 1 + 1 + 1) ((List.replicate (z2.length + 1 + 1 + 1) ((-1001) : Int)).map intV)) :: F) (fun _ h => h) ?_
 refine Wl.done ?_
 refine Wx.go ?_
 refine Wc.seq ?_
 refine Wc.region ?_
 refine Wl.q (v := Value.pointer (some ⟨b, 0, none⟩)) (q_move rfl) ?_
 refine Wl.e (e_call (F := (pt nb 126 ([pw, Value.int .i64 0, qw, Value.int .i64 1] ++ rest)) :: (sl 3 1 pw (z1.length + 1 + 1 + 1) ((List.replicate (z1.length + 1 + 1 + 1) ((-1000) : Int)).map intV)) :: (sl 3 1 qw (z2.length + 1 + 1 + 1) ((List.replicate (z2.length + 1 + 1 + 1) ((-1001) : Int)).map intV)) :: F) (args := [Value.pointer (some ⟨b, 0, none⟩)]) Tryz.call87 rfl (bk_growRequest W0 b 2 (Value.slice (some ⟨nb, 0, none⟩) 2 nc))) (fun _ _ => ?_)
 refine Wl.imp (L' := (pt b 81 (bkC 2 (Value.slice (some ⟨nb, 0, none⟩) 2 nc))) :: (pt nb 126 ([pw, Value.int .i64 0, qw, Value.int .i64 1] ++ rest)) :: (sl 3 1 pw (z1.length + 1 + 1 + 1) ((List.replicate (z1.length + 1 + 1 + 1) ((-1000) : Int)).map intV)) :: (sl 3 1 qw (z2.length + 1 + 1 + 1) ((List.replicate (z2.length + 1 + 1 + 1) ((-1001) : Int)).map intV)) :: F) (fun _ h => h) ?_
 refine Wl.done ?_
 refine Wx.go ?_
 refine Wc.seq ?_
 refine Wc.region ?_
 refine Wl.q (v := Value.pointer (some ⟨b, 0, none⟩)) (q_move rfl) ?_
 refine Wl.e (e_call (F := (pt nb 126 ([pw, Value.int .i64 0, qw, Value.int .i64 1] ++ rest)) :: (sl 3 1 pw (z1.length + 1 + 1 + 1) ((List.replicate (z1.length + 1 + 1 + 1) ((-1000) : Int)).map intV)) :: (sl 3 1 qw (z2.length + 1 + 1 + 1) ((List.replicate (z2.length + 1 + 1 + 1) ((-1001) : Int)).map intV)) :: F) (args := [Value.pointer (some ⟨b, 0, none⟩)]) Tryz.call88 rfl (bk_growMail W0 b 2 (Value.slice (some ⟨nb, 0, none⟩) 2 nc))) (fun _ _ => ?_)
 refine Wl.imp (L' := (pt b 81 (bkC 2 (Value.slice (some ⟨nb, 0, none⟩) 2 nc))) :: (pt nb 126 ([pw, Value.int .i64 0, qw, Value.int .i64 1] ++ rest)) :: (sl 3 1 pw (z1.length + 1 + 1 + 1) ((List.replicate (z1.length + 1 + 1 + 1) ((-1000) : Int)).map intV)) :: (sl 3 1 qw (z2.length + 1 + 1 + 1) ((List.replicate (z2.length + 1 + 1 + 1) ((-1001) : Int)).map intV)) :: F) (fun _ h => h) ?_
 refine Wl.done ?_
 refine Wx.go ?_
 refine Wc.seq ?_
 refine Wc.region ?_
 refine Wl.q (v := Value.pointer (some ⟨b, 0, none⟩)) (q_move rfl) ?_
 refine Wl.e (e_call (F := (pt nb 126 ([pw, Value.int .i64 0, qw, Value.int .i64 1] ++ rest)) :: (sl 3 1 pw (z1.length + 1 + 1 + 1) ((List.replicate (z1.length + 1 + 1 + 1) ((-1000) : Int)).map intV)) :: (sl 3 1 qw (z2.length + 1 + 1 + 1) ((List.replicate (z2.length + 1 + 1 + 1) ((-1001) : Int)).map intV)) :: F) (args := [Value.pointer (some ⟨b, 0, none⟩)]) Tryz.call89 rfl (bk_growPending W0 b 2 (Value.slice (some ⟨nb, 0, none⟩) 2 nc))) (fun _ _ => ?_)
 refine Wl.imp (L' := (pt b 81 (bkC 2 (Value.slice (some ⟨nb, 0, none⟩) 2 nc))) :: (pt nb 126 ([pw, Value.int .i64 0, qw, Value.int .i64 1] ++ rest)) :: (sl 3 1 pw (z1.length + 1 + 1 + 1) ((List.replicate (z1.length + 1 + 1 + 1) ((-1000) : Int)).map intV)) :: (sl 3 1 qw (z2.length + 1 + 1 + 1) ((List.replicate (z2.length + 1 + 1 + 1) ((-1001) : Int)).map intV)) :: F) (fun _ h => h) ?_
 refine Wl.done ?_
 refine Wx.go ?_
 refine Wc.seq ?_
 refine Wc.region ?_
 refine Wl.q (v := Value.pointer (some ⟨b, 0, none⟩)) (q_move rfl) ?_
 refine Wl.e (e_call (F := (pt nb 126 ([pw, Value.int .i64 0, qw, Value.int .i64 1] ++ rest)) :: (sl 3 1 pw (z1.length + 1 + 1 + 1) ((List.replicate (z1.length + 1 + 1 + 1) ((-1000) : Int)).map intV)) :: (sl 3 1 qw (z2.length + 1 + 1 + 1) ((List.replicate (z2.length + 1 + 1 + 1) ((-1001) : Int)).map intV)) :: F) (args := [Value.pointer (some ⟨b, 0, none⟩)]) Tryz.call90 rfl (bk_growFeed W0 b 2 (Value.slice (some ⟨nb, 0, none⟩) 2 nc))) (fun _ _ => ?_)
 refine Wl.imp (L' := (pt b 81 (bkC 2 (Value.slice (some ⟨nb, 0, none⟩) 2 nc))) :: (pt nb 126 ([pw, Value.int .i64 0, qw, Value.int .i64 1] ++ rest)) :: (sl 3 1 pw (z1.length + 1 + 1 + 1) ((List.replicate (z1.length + 1 + 1 + 1) ((-1000) : Int)).map intV)) :: (sl 3 1 qw (z2.length + 1 + 1 + 1) ((List.replicate (z2.length + 1 + 1 + 1) ((-1001) : Int)).map intV)) :: F) (fun _ h => h) ?_
 refine Wl.done ?_
 refine Wx.go ?_
 refine Wc.seq ?_
 refine Wc.region ?_
 refine Wl.q (v := Value.pointer (some ⟨b, 0, none⟩)) (q_move rfl) ?_
 refine Wl.e (e_call (F := (pt nb 126 ([pw, Value.int .i64 0, qw, Value.int .i64 1] ++ rest)) :: (sl 3 1 pw (z1.length + 1 + 1 + 1) ((List.replicate (z1.length + 1 + 1 + 1) ((-1000) : Int)).map intV)) :: (sl 3 1 qw (z2.length + 1 + 1 + 1) ((List.replicate (z2.length + 1 + 1 + 1) ((-1001) : Int)).map intV)) :: F) (args := [Value.pointer (some ⟨b, 0, none⟩)]) Tryz.call91 rfl (bk_growLog W0 b 2 (Value.slice (some ⟨nb, 0, none⟩) 2 nc))) (fun _ _ => ?_)
 refine Wl.imp (L' := (pt b 81 (bkC 2 (Value.slice (some ⟨nb, 0, none⟩) 2 nc))) :: (pt nb 126 ([pw, Value.int .i64 0, qw, Value.int .i64 1] ++ rest)) :: (sl 3 1 pw (z1.length + 1 + 1 + 1) ((List.replicate (z1.length + 1 + 1 + 1) ((-1000) : Int)).map intV)) :: (sl 3 1 qw (z2.length + 1 + 1 + 1) ((List.replicate (z2.length + 1 + 1 + 1) ((-1001) : Int)).map intV)) :: F) (fun _ h => h) ?_
 refine Wl.done ?_
 refine Wx.go ?_
 refine Wc.seq ?_
 refine Wc.region ?_
 refine Wl.q (v := Value.pointer (some ⟨b, 0, none⟩)) (q_move rfl) ?_
 refine Wl.e (e_call (F := (pt nb 126 ([pw, Value.int .i64 0, qw, Value.int .i64 1] ++ rest)) :: (sl 3 1 pw (z1.length + 1 + 1 + 1) ((List.replicate (z1.length + 1 + 1 + 1) ((-1000) : Int)).map intV)) :: (sl 3 1 qw (z2.length + 1 + 1 + 1) ((List.replicate (z2.length + 1 + 1 + 1) ((-1001) : Int)).map intV)) :: F) (args := [Value.pointer (some ⟨b, 0, none⟩)]) Tryz.call92 rfl (bk_growBox W0 b 2 (Value.slice (some ⟨nb, 0, none⟩) 2 nc))) (fun _ _ => ?_)
 refine Wl.imp (L' := (pt b 81 (bkC 2 (Value.slice (some ⟨nb, 0, none⟩) 2 nc))) :: (pt nb 126 ([pw, Value.int .i64 0, qw, Value.int .i64 1] ++ rest)) :: (sl 3 1 pw (z1.length + 1 + 1 + 1) ((List.replicate (z1.length + 1 + 1 + 1) ((-1000) : Int)).map intV)) :: (sl 3 1 qw (z2.length + 1 + 1 + 1) ((List.replicate (z2.length + 1 + 1 + 1) ((-1001) : Int)).map intV)) :: F) (fun _ h => h) ?_
 refine Wl.done ?_
 refine Wx.go ?_
 refine Wc.seq ?_
 refine Wc.region ?_
 refine Wl.q (v := Value.pointer (some ⟨b, 0, none⟩)) (q_move rfl) ?_
 refine Wl.e (e_call (F := (pt nb 126 ([pw, Value.int .i64 0, qw, Value.int .i64 1] ++ rest)) :: (sl 3 1 pw (z1.length + 1 + 1 + 1) ((List.replicate (z1.length + 1 + 1 + 1) ((-1000) : Int)).map intV)) :: (sl 3 1 qw (z2.length + 1 + 1 + 1) ((List.replicate (z2.length + 1 + 1 + 1) ((-1001) : Int)).map intV)) :: F) (args := [Value.pointer (some ⟨b, 0, none⟩)]) Tryz.call93 rfl (bk_growEarly W0 b 2 (Value.slice (some ⟨nb, 0, none⟩) 2 nc))) (fun _ _ => ?_)
 refine Wl.imp (L' := (pt b 81 (bkC 2 (Value.slice (some ⟨nb, 0, none⟩) 2 nc))) :: (pt nb 126 ([pw, Value.int .i64 0, qw, Value.int .i64 1] ++ rest)) :: (sl 3 1 pw (z1.length + 1 + 1 + 1) ((List.replicate (z1.length + 1 + 1 + 1) ((-1000) : Int)).map intV)) :: (sl 3 1 qw (z2.length + 1 + 1 + 1) ((List.replicate (z2.length + 1 + 1 + 1) ((-1001) : Int)).map intV)) :: F) (fun _ h => h) ?_
 refine Wl.done ?_
 refine Wx.go ?_
 refine Wc.seq ?_
 refine Wc.region ?_
 refine Wl.q (v := Value.pointer (some ⟨b, 0, none⟩)) (q_move rfl) ?_
 refine Wl.e (e_call (F := (pt nb 126 ([pw, Value.int .i64 0, qw, Value.int .i64 1] ++ rest)) :: (sl 3 1 pw (z1.length + 1 + 1 + 1) ((List.replicate (z1.length + 1 + 1 + 1) ((-1000) : Int)).map intV)) :: (sl 3 1 qw (z2.length + 1 + 1 + 1) ((List.replicate (z2.length + 1 + 1 + 1) ((-1001) : Int)).map intV)) :: F) (args := [Value.pointer (some ⟨b, 0, none⟩)]) Tryz.call94 rfl (bk_growLink W0 b 2 (Value.slice (some ⟨nb, 0, none⟩) 2 nc))) (fun _ _ => ?_)
 refine Wl.imp (L' := (pt b 81 (bkC 2 (Value.slice (some ⟨nb, 0, none⟩) 2 nc))) :: (pt nb 126 ([pw, Value.int .i64 0, qw, Value.int .i64 1] ++ rest)) :: (sl 3 1 pw (z1.length + 1 + 1 + 1) ((List.replicate (z1.length + 1 + 1 + 1) ((-1000) : Int)).map intV)) :: (sl 3 1 qw (z2.length + 1 + 1 + 1) ((List.replicate (z2.length + 1 + 1 + 1) ((-1001) : Int)).map intV)) :: F) (fun _ h => h) ?_
 refine Wl.done ?_
 refine Wx.go ?_
 refine Wc.seq ?_
 refine Wc.region ?_
 refine Wl.q (v := Value.pointer (some ⟨b, 0, none⟩)) (q_move rfl) ?_
 refine Wl.e (e_call (F := (pt nb 126 ([pw, Value.int .i64 0, qw, Value.int .i64 1] ++ rest)) :: (sl 3 1 pw (z1.length + 1 + 1 + 1) ((List.replicate (z1.length + 1 + 1 + 1) ((-1000) : Int)).map intV)) :: (sl 3 1 qw (z2.length + 1 + 1 + 1) ((List.replicate (z2.length + 1 + 1 + 1) ((-1001) : Int)).map intV)) :: F) (args := [Value.pointer (some ⟨b, 0, none⟩)]) Tryz.call95 rfl (bk_growPacket W0 b 2 (Value.slice (some ⟨nb, 0, none⟩) 2 nc))) (fun _ _ => ?_)
 refine Wl.imp (L' := (pt b 81 (bkC 2 (Value.slice (some ⟨nb, 0, none⟩) 2 nc))) :: (pt nb 126 ([pw, Value.int .i64 0, qw, Value.int .i64 1] ++ rest)) :: (sl 3 1 pw (z1.length + 1 + 1 + 1) ((List.replicate (z1.length + 1 + 1 + 1) ((-1000) : Int)).map intV)) :: (sl 3 1 qw (z2.length + 1 + 1 + 1) ((List.replicate (z2.length + 1 + 1 + 1) ((-1001) : Int)).map intV)) :: F) (fun _ h => h) ?_
 refine Wl.done ?_
 refine Wx.go ?_
 refine Wc.seq ?_
 refine Wc.region ?_
 refine Wl.q (v := Value.pointer (some ⟨b, 0, none⟩)) (q_move rfl) ?_
 refine Wl.e (e_call (F := (pt nb 126 ([pw, Value.int .i64 0, qw, Value.int .i64 1] ++ rest)) :: (sl 3 1 pw (z1.length + 1 + 1 + 1) ((List.replicate (z1.length + 1 + 1 + 1) ((-1000) : Int)).map intV)) :: (sl 3 1 qw (z2.length + 1 + 1 + 1) ((List.replicate (z2.length + 1 + 1 + 1) ((-1001) : Int)).map intV)) :: F) (args := [Value.pointer (some ⟨b, 0, none⟩)]) Tryz.call96 rfl (bk_growTermRow W0 b 2 (Value.slice (some ⟨nb, 0, none⟩) 2 nc))) (fun _ _ => ?_)
 refine Wl.imp (L' := (pt b 81 (bkC 2 (Value.slice (some ⟨nb, 0, none⟩) 2 nc))) :: (pt nb 126 ([pw, Value.int .i64 0, qw, Value.int .i64 1] ++ rest)) :: (sl 3 1 pw (z1.length + 1 + 1 + 1) ((List.replicate (z1.length + 1 + 1 + 1) ((-1000) : Int)).map intV)) :: (sl 3 1 qw (z2.length + 1 + 1 + 1) ((List.replicate (z2.length + 1 + 1 + 1) ((-1001) : Int)).map intV)) :: F) (fun _ h => h) ?_
 refine Wl.done ?_
 refine Wx.go ?_
 refine Wc.seq ?_
 refine Wc.region ?_
 refine Wl.q (v := Value.pointer (some ⟨b, 0, none⟩)) (q_move rfl) ?_
 refine Wl.e (e_call (F := (pt nb 126 ([pw, Value.int .i64 0, qw, Value.int .i64 1] ++ rest)) :: (sl 3 1 pw (z1.length + 1 + 1 + 1) ((List.replicate (z1.length + 1 + 1 + 1) ((-1000) : Int)).map intV)) :: (sl 3 1 qw (z2.length + 1 + 1 + 1) ((List.replicate (z2.length + 1 + 1 + 1) ((-1001) : Int)).map intV)) :: F) (args := [Value.pointer (some ⟨b, 0, none⟩)]) Tryz.call97 rfl (bk_growNumberRow W0 b 2 (Value.slice (some ⟨nb, 0, none⟩) 2 nc))) (fun _ _ => ?_)
 refine Wl.imp (L' := (pt b 81 (bkC 2 (Value.slice (some ⟨nb, 0, none⟩) 2 nc))) :: (pt nb 126 ([pw, Value.int .i64 0, qw, Value.int .i64 1] ++ rest)) :: (sl 3 1 pw (z1.length + 1 + 1 + 1) ((List.replicate (z1.length + 1 + 1 + 1) ((-1000) : Int)).map intV)) :: (sl 3 1 qw (z2.length + 1 + 1 + 1) ((List.replicate (z2.length + 1 + 1 + 1) ((-1001) : Int)).map intV)) :: F) (fun _ h => h) ?_
 refine Wl.done ?_
 refine Wx.go ?_
 refine Wc.seq ?_
 refine Wc.seq ?_
 refine Wc.region ?_
 refine Wl.q (v := Value.int .u64 0) (q_assign rfl) ?_
 refine Wl.done ?_
 refine Wx.go ?_
 refine Wc.block ?_
 refine Wc.rounds 9 ?_
 refine Wn.round ?_
 refine Wc.seq ?_
 refine Wc.seq ?_
 refine Wc.region ?_
 refine Wl.q (v := Value.int .u64 0) (q_move rfl) ?_
 refine Wl.q (v := Value.bool true) (q_lss (r := true) rfl rfl (decide_eq_true (by decide))) ?_
 refine Wl.done ?_
 refine Wx.go ?_
 refine Wc.yes rfl ?_
 refine Wc.skip ?_
 refine Wx.go ?_
 refine Wc.seq ?_
 refine Wc.block ?_
 refine Wc.seq ?_
 refine Wc.region ?_
 refine Wl.q (v := Value.pointer (some ⟨b, 0, none⟩)) (q_move rfl) ?_
 refine Wl.q (v := Value.int .u64 0) (q_move rfl) ?_
 refine Wl.e (e_call (F := (pt nb 126 ([pw, Value.int .i64 0, qw, Value.int .i64 1] ++ rest)) :: (sl 3 1 pw (z1.length + 1 + 1 + 1) ((List.replicate (z1.length + 1 + 1 + 1) ((-1000) : Int)).map intV)) :: (sl 3 1 qw (z2.length + 1 + 1 + 1) ((List.replicate (z2.length + 1 + 1 + 1) ((-1001) : Int)).map intV)) :: F) (args := [Value.pointer (some ⟨b, 0, none⟩), Value.int .u64 0]) Tryz.call98 rfl (bk_bits W0 b 2 (Value.slice (some ⟨nb, 0, none⟩) 2 nc) 0)) (fun _ _ => ?_)
 refine Wl.imp (L' := (pt b 81 (bkC 2 (Value.slice (some ⟨nb, 0, none⟩) 2 nc))) :: (pt nb 126 ([pw, Value.int .i64 0, qw, Value.int .i64 1] ++ rest)) :: (sl 3 1 pw (z1.length + 1 + 1 + 1) ((List.replicate (z1.length + 1 + 1 + 1) ((-1000) : Int)).map intV)) :: (sl 3 1 qw (z2.length + 1 + 1 + 1) ((List.replicate (z2.length + 1 + 1 + 1) ((-1001) : Int)).map intV)) :: F) (fun _ h => h) ?_
 refine Wl.q (v := Value.bool false) (q_not rfl rfl) ?_
 refine Wl.done ?_
 refine Wx.go ?_
 refine Wc.no rfl ?_
 refine Wc.skip ?_
 refine Wx.blockEnd ?_
 refine Wx.go ?_
 refine Wc.region ?_
 refine Wl.q (v := Value.int .u64 0) (q_move rfl) ?_
 refine Wl.q (v := Value.int .u64 1) (q_add (c := 1) rfl rfl (by decide)) ?_
 refine Wl.q (v := Value.int .u64 1) (q_assign rfl) ?_
 refine Wl.done ?_
 refine Wx.again ?_
 refine Wn.round ?_
 refine Wc.seq ?_
 refine Wc.seq ?_
 refine Wc.region ?_
 refine Wl.q (v := Value.int .u64 1) (q_move rfl) ?_
 refine Wl.q (v := Value.bool true) (q_lss (r := true) rfl rfl (decide_eq_true (by decide))) ?_
 refine Wl.done ?_
 refine Wx.go ?_
 refine Wc.yes rfl ?_
 refine Wc.skip ?_
 refine Wx.go ?_
 refine Wc.seq ?_
 refine Wc.block ?_
 refine Wc.seq ?_
 refine Wc.region ?_
 refine Wl.q (v := Value.pointer (some ⟨b, 0, none⟩)) (q_move rfl) ?_
 refine Wl.q (v := Value.int .u64 1) (q_move rfl) ?_
 refine Wl.e (e_call (F := (pt nb 126 ([pw, Value.int .i64 0, qw, Value.int .i64 1] ++ rest)) :: (sl 3 1 pw (z1.length + 1 + 1 + 1) ((List.replicate (z1.length + 1 + 1 + 1) ((-1000) : Int)).map intV)) :: (sl 3 1 qw (z2.length + 1 + 1 + 1) ((List.replicate (z2.length + 1 + 1 + 1) ((-1001) : Int)).map intV)) :: F) (args := [Value.pointer (some ⟨b, 0, none⟩), Value.int .u64 1]) Tryz.call98 rfl (bk_bits W0 b 2 (Value.slice (some ⟨nb, 0, none⟩) 2 nc) 1)) (fun _ _ => ?_)
 refine Wl.imp (L' := (pt b 81 (bkC 2 (Value.slice (some ⟨nb, 0, none⟩) 2 nc))) :: (pt nb 126 ([pw, Value.int .i64 0, qw, Value.int .i64 1] ++ rest)) :: (sl 3 1 pw (z1.length + 1 + 1 + 1) ((List.replicate (z1.length + 1 + 1 + 1) ((-1000) : Int)).map intV)) :: (sl 3 1 qw (z2.length + 1 + 1 + 1) ((List.replicate (z2.length + 1 + 1 + 1) ((-1001) : Int)).map intV)) :: F) (fun _ h => h) ?_
 refine Wl.q (v := Value.bool false) (q_not rfl rfl) ?_
 refine Wl.done ?_
 refine Wx.go ?_
 refine Wc.no rfl ?_
 refine Wc.skip ?_
 refine Wx.blockEnd ?_
 refine Wx.go ?_
 refine Wc.region ?_
 refine Wl.q (v := Value.int .u64 1) (q_move rfl) ?_
 refine Wl.q (v := Value.int .u64 2) (q_add (c := 2) rfl rfl (by decide)) ?_
 refine Wl.q (v := Value.int .u64 2) (q_assign rfl) ?_
 refine Wl.done ?_
 refine Wx.again ?_
 refine Wn.round ?_
 refine Wc.seq ?_
 refine Wc.seq ?_
 refine Wc.region ?_
 refine Wl.q (v := Value.int .u64 2) (q_move rfl) ?_
 refine Wl.q (v := Value.bool true) (q_lss (r := true) rfl rfl (decide_eq_true (by decide))) ?_
 refine Wl.done ?_
 refine Wx.go ?_
 refine Wc.yes rfl ?_
 refine Wc.skip ?_
 refine Wx.go ?_
 refine Wc.seq ?_
 refine Wc.block ?_
 refine Wc.seq ?_
 refine Wc.region ?_
 refine Wl.q (v := Value.pointer (some ⟨b, 0, none⟩)) (q_move rfl) ?_
 refine Wl.q (v := Value.int .u64 2) (q_move rfl) ?_
 refine Wl.e (e_call (F := (pt nb 126 ([pw, Value.int .i64 0, qw, Value.int .i64 1] ++ rest)) :: (sl 3 1 pw (z1.length + 1 + 1 + 1) ((List.replicate (z1.length + 1 + 1 + 1) ((-1000) : Int)).map intV)) :: (sl 3 1 qw (z2.length + 1 + 1 + 1) ((List.replicate (z2.length + 1 + 1 + 1) ((-1001) : Int)).map intV)) :: F) (args := [Value.pointer (some ⟨b, 0, none⟩), Value.int .u64 2]) Tryz.call98 rfl (bk_bits W0 b 2 (Value.slice (some ⟨nb, 0, none⟩) 2 nc) 2)) (fun _ _ => ?_)
 refine Wl.imp (L' := (pt b 81 (bkC 2 (Value.slice (some ⟨nb, 0, none⟩) 2 nc))) :: (pt nb 126 ([pw, Value.int .i64 0, qw, Value.int .i64 1] ++ rest)) :: (sl 3 1 pw (z1.length + 1 + 1 + 1) ((List.replicate (z1.length + 1 + 1 + 1) ((-1000) : Int)).map intV)) :: (sl 3 1 qw (z2.length + 1 + 1 + 1) ((List.replicate (z2.length + 1 + 1 + 1) ((-1001) : Int)).map intV)) :: F) (fun _ h => h) ?_
 refine Wl.q (v := Value.bool false) (q_not rfl rfl) ?_
 refine Wl.done ?_
 refine Wx.go ?_
 refine Wc.no rfl ?_
 refine Wc.skip ?_
 refine Wx.blockEnd ?_
 refine Wx.go ?_
 refine Wc.region ?_
 refine Wl.q (v := Value.int .u64 2) (q_move rfl) ?_
 refine Wl.q (v := Value.int .u64 3) (q_add (c := 3) rfl rfl (by decide)) ?_
 refine Wl.q (v := Value.int .u64 3) (q_assign rfl) ?_
 refine Wl.done ?_
 refine Wx.again ?_
 refine Wn.round ?_
 refine Wc.seq ?_
 refine Wc.seq ?_
 refine Wc.region ?_
 refine Wl.q (v := Value.int .u64 3) (q_move rfl) ?_
 refine Wl.q (v := Value.bool true) (q_lss (r := true) rfl rfl (decide_eq_true (by decide))) ?_
 refine Wl.done ?_
 refine Wx.go ?_
 refine Wc.yes rfl ?_
 refine Wc.skip ?_
 refine Wx.go ?_
 refine Wc.seq ?_
 refine Wc.block ?_
 refine Wc.seq ?_
 refine Wc.region ?_
 refine Wl.q (v := Value.pointer (some ⟨b, 0, none⟩)) (q_move rfl) ?_
 refine Wl.q (v := Value.int .u64 3) (q_move rfl) ?_
 refine Wl.e (e_call (F := (pt nb 126 ([pw, Value.int .i64 0, qw, Value.int .i64 1] ++ rest)) :: (sl 3 1 pw (z1.length + 1 + 1 + 1) ((List.replicate (z1.length + 1 + 1 + 1) ((-1000) : Int)).map intV)) :: (sl 3 1 qw (z2.length + 1 + 1 + 1) ((List.replicate (z2.length + 1 + 1 + 1) ((-1001) : Int)).map intV)) :: F) (args := [Value.pointer (some ⟨b, 0, none⟩), Value.int .u64 3]) Tryz.call98 rfl (bk_bits W0 b 2 (Value.slice (some ⟨nb, 0, none⟩) 2 nc) 3)) (fun _ _ => ?_)
 refine Wl.imp (L' := (pt b 81 (bkC 2 (Value.slice (some ⟨nb, 0, none⟩) 2 nc))) :: (pt nb 126 ([pw, Value.int .i64 0, qw, Value.int .i64 1] ++ rest)) :: (sl 3 1 pw (z1.length + 1 + 1 + 1) ((List.replicate (z1.length + 1 + 1 + 1) ((-1000) : Int)).map intV)) :: (sl 3 1 qw (z2.length + 1 + 1 + 1) ((List.replicate (z2.length + 1 + 1 + 1) ((-1001) : Int)).map intV)) :: F) (fun _ h => h) ?_
 refine Wl.q (v := Value.bool false) (q_not rfl rfl) ?_
 refine Wl.done ?_
 refine Wx.go ?_
 refine Wc.no rfl ?_
 refine Wc.skip ?_
 refine Wx.blockEnd ?_
 refine Wx.go ?_
 refine Wc.region ?_
 refine Wl.q (v := Value.int .u64 3) (q_move rfl) ?_
 refine Wl.q (v := Value.int .u64 4) (q_add (c := 4) rfl rfl (by decide)) ?_
 refine Wl.q (v := Value.int .u64 4) (q_assign rfl) ?_
 refine Wl.done ?_
 refine Wx.again ?_
 refine Wn.round ?_
 refine Wc.seq ?_
 refine Wc.seq ?_
 refine Wc.region ?_
 refine Wl.q (v := Value.int .u64 4) (q_move rfl) ?_
 refine Wl.q (v := Value.bool true) (q_lss (r := true) rfl rfl (decide_eq_true (by decide))) ?_
 refine Wl.done ?_
 refine Wx.go ?_
 refine Wc.yes rfl ?_
 refine Wc.skip ?_
 refine Wx.go ?_
 refine Wc.seq ?_
 refine Wc.block ?_
 refine Wc.seq ?_
 refine Wc.region ?_
 refine Wl.q (v := Value.pointer (some ⟨b, 0, none⟩)) (q_move rfl) ?_
 refine Wl.q (v := Value.int .u64 4) (q_move rfl) ?_
 refine Wl.e (e_call (F := (pt nb 126 ([pw, Value.int .i64 0, qw, Value.int .i64 1] ++ rest)) :: (sl 3 1 pw (z1.length + 1 + 1 + 1) ((List.replicate (z1.length + 1 + 1 + 1) ((-1000) : Int)).map intV)) :: (sl 3 1 qw (z2.length + 1 + 1 + 1) ((List.replicate (z2.length + 1 + 1 + 1) ((-1001) : Int)).map intV)) :: F) (args := [Value.pointer (some ⟨b, 0, none⟩), Value.int .u64 4]) Tryz.call98 rfl (bk_bits W0 b 2 (Value.slice (some ⟨nb, 0, none⟩) 2 nc) 4)) (fun _ _ => ?_)
 refine Wl.imp (L' := (pt b 81 (bkC 2 (Value.slice (some ⟨nb, 0, none⟩) 2 nc))) :: (pt nb 126 ([pw, Value.int .i64 0, qw, Value.int .i64 1] ++ rest)) :: (sl 3 1 pw (z1.length + 1 + 1 + 1) ((List.replicate (z1.length + 1 + 1 + 1) ((-1000) : Int)).map intV)) :: (sl 3 1 qw (z2.length + 1 + 1 + 1) ((List.replicate (z2.length + 1 + 1 + 1) ((-1001) : Int)).map intV)) :: F) (fun _ h => h) ?_
 refine Wl.q (v := Value.bool false) (q_not rfl rfl) ?_
 refine Wl.done ?_
 refine Wx.go ?_
 refine Wc.no rfl ?_
 refine Wc.skip ?_
 refine Wx.blockEnd ?_
 refine Wx.go ?_
 refine Wc.region ?_
 refine Wl.q (v := Value.int .u64 4) (q_move rfl) ?_
 refine Wl.q (v := Value.int .u64 5) (q_add (c := 5) rfl rfl (by decide)) ?_
 refine Wl.q (v := Value.int .u64 5) (q_assign rfl) ?_
 refine Wl.done ?_
 refine Wx.again ?_
 refine Wn.round ?_
 refine Wc.seq ?_
 refine Wc.seq ?_
 refine Wc.region ?_
 refine Wl.q (v := Value.int .u64 5) (q_move rfl) ?_
 refine Wl.q (v := Value.bool true) (q_lss (r := true) rfl rfl (decide_eq_true (by decide))) ?_
 refine Wl.done ?_
 refine Wx.go ?_
 refine Wc.yes rfl ?_
 refine Wc.skip ?_
 refine Wx.go ?_
 refine Wc.seq ?_
 refine Wc.block ?_
 refine Wc.seq ?_
 refine Wc.region ?_
 refine Wl.q (v := Value.pointer (some ⟨b, 0, none⟩)) (q_move rfl) ?_
 refine Wl.q (v := Value.int .u64 5) (q_move rfl) ?_
 refine Wl.e (e_call (F := (pt nb 126 ([pw, Value.int .i64 0, qw, Value.int .i64 1] ++ rest)) :: (sl 3 1 pw (z1.length + 1 + 1 + 1) ((List.replicate (z1.length + 1 + 1 + 1) ((-1000) : Int)).map intV)) :: (sl 3 1 qw (z2.length + 1 + 1 + 1) ((List.replicate (z2.length + 1 + 1 + 1) ((-1001) : Int)).map intV)) :: F) (args := [Value.pointer (some ⟨b, 0, none⟩), Value.int .u64 5]) Tryz.call98 rfl (bk_bits W0 b 2 (Value.slice (some ⟨nb, 0, none⟩) 2 nc) 5)) (fun _ _ => ?_)
 refine Wl.imp (L' := (pt b 81 (bkC 2 (Value.slice (some ⟨nb, 0, none⟩) 2 nc))) :: (pt nb 126 ([pw, Value.int .i64 0, qw, Value.int .i64 1] ++ rest)) :: (sl 3 1 pw (z1.length + 1 + 1 + 1) ((List.replicate (z1.length + 1 + 1 + 1) ((-1000) : Int)).map intV)) :: (sl 3 1 qw (z2.length + 1 + 1 + 1) ((List.replicate (z2.length + 1 + 1 + 1) ((-1001) : Int)).map intV)) :: F) (fun _ h => h) ?_
 refine Wl.q (v := Value.bool false) (q_not rfl rfl) ?_
 refine Wl.done ?_
 refine Wx.go ?_
 refine Wc.no rfl ?_
 refine Wc.skip ?_
 refine Wx.blockEnd ?_
 refine Wx.go ?_
 refine Wc.region ?_
 refine Wl.q (v := Value.int .u64 5) (q_move rfl) ?_
 refine Wl.q (v := Value.int .u64 6) (q_add (c := 6) rfl rfl (by decide)) ?_
 refine Wl.q (v := Value.int .u64 6) (q_assign rfl) ?_
 refine Wl.done ?_
 refine Wx.again ?_
 refine Wn.round ?_
 refine Wc.seq ?_
 refine Wc.seq ?_
 refine Wc.region ?_
 refine Wl.q (v := Value.int .u64 6) (q_move rfl) ?_
 refine Wl.q (v := Value.bool true) (q_lss (r := true) rfl rfl (decide_eq_true (by decide))) ?_
 refine Wl.done ?_
 refine Wx.go ?_
 refine Wc.yes rfl ?_
 refine Wc.skip ?_
 refine Wx.go ?_
 refine Wc.seq ?_
 refine Wc.block ?_
 refine Wc.seq ?_
 refine Wc.region ?_
 refine Wl.q (v := Value.pointer (some ⟨b, 0, none⟩)) (q_move rfl) ?_
 refine Wl.q (v := Value.int .u64 6) (q_move rfl) ?_
 refine Wl.e (e_call (F := (pt nb 126 ([pw, Value.int .i64 0, qw, Value.int .i64 1] ++ rest)) :: (sl 3 1 pw (z1.length + 1 + 1 + 1) ((List.replicate (z1.length + 1 + 1 + 1) ((-1000) : Int)).map intV)) :: (sl 3 1 qw (z2.length + 1 + 1 + 1) ((List.replicate (z2.length + 1 + 1 + 1) ((-1001) : Int)).map intV)) :: F) (args := [Value.pointer (some ⟨b, 0, none⟩), Value.int .u64 6]) Tryz.call98 rfl (bk_bits W0 b 2 (Value.slice (some ⟨nb, 0, none⟩) 2 nc) 6)) (fun _ _ => ?_)
 refine Wl.imp (L' := (pt b 81 (bkC 2 (Value.slice (some ⟨nb, 0, none⟩) 2 nc))) :: (pt nb 126 ([pw, Value.int .i64 0, qw, Value.int .i64 1] ++ rest)) :: (sl 3 1 pw (z1.length + 1 + 1 + 1) ((List.replicate (z1.length + 1 + 1 + 1) ((-1000) : Int)).map intV)) :: (sl 3 1 qw (z2.length + 1 + 1 + 1) ((List.replicate (z2.length + 1 + 1 + 1) ((-1001) : Int)).map intV)) :: F) (fun _ h => h) ?_
 refine Wl.q (v := Value.bool false) (q_not rfl rfl) ?_
 refine Wl.done ?_
 refine Wx.go ?_
 refine Wc.no rfl ?_
 refine Wc.skip ?_
 refine Wx.blockEnd ?_
 refine Wx.go ?_
 refine Wc.region ?_
 refine Wl.q (v := Value.int .u64 6) (q_move rfl) ?_
 refine Wl.q (v := Value.int .u64 7) (q_add (c := 7) rfl rfl (by decide)) ?_
 refine Wl.q (v := Value.int .u64 7) (q_assign rfl) ?_
 refine Wl.done ?_
 refine Wx.again ?_
 refine Wn.round ?_
 refine Wc.seq ?_
 refine Wc.seq ?_
 refine Wc.region ?_
 refine Wl.q (v := Value.int .u64 7) (q_move rfl) ?_
 refine Wl.q (v := Value.bool true) (q_lss (r := true) rfl rfl (decide_eq_true (by decide))) ?_
 refine Wl.done ?_
 refine Wx.go ?_
 refine Wc.yes rfl ?_
 refine Wc.skip ?_
 refine Wx.go ?_
 refine Wc.seq ?_
 refine Wc.block ?_
 refine Wc.seq ?_
 refine Wc.region ?_
 refine Wl.q (v := Value.pointer (some ⟨b, 0, none⟩)) (q_move rfl) ?_
 refine Wl.q (v := Value.int .u64 7) (q_move rfl) ?_
 refine Wl.e (e_call (F := (pt nb 126 ([pw, Value.int .i64 0, qw, Value.int .i64 1] ++ rest)) :: (sl 3 1 pw (z1.length + 1 + 1 + 1) ((List.replicate (z1.length + 1 + 1 + 1) ((-1000) : Int)).map intV)) :: (sl 3 1 qw (z2.length + 1 + 1 + 1) ((List.replicate (z2.length + 1 + 1 + 1) ((-1001) : Int)).map intV)) :: F) (args := [Value.pointer (some ⟨b, 0, none⟩), Value.int .u64 7]) Tryz.call98 rfl (bk_bits W0 b 2 (Value.slice (some ⟨nb, 0, none⟩) 2 nc) 7)) (fun _ _ => ?_)
 refine Wl.imp (L' := (pt b 81 (bkC 2 (Value.slice (some ⟨nb, 0, none⟩) 2 nc))) :: (pt nb 126 ([pw, Value.int .i64 0, qw, Value.int .i64 1] ++ rest)) :: (sl 3 1 pw (z1.length + 1 + 1 + 1) ((List.replicate (z1.length + 1 + 1 + 1) ((-1000) : Int)).map intV)) :: (sl 3 1 qw (z2.length + 1 + 1 + 1) ((List.replicate (z2.length + 1 + 1 + 1) ((-1001) : Int)).map intV)) :: F) (fun _ h => h) ?_
 refine Wl.q (v := Value.bool false) (q_not rfl rfl) ?_
 refine Wl.done ?_
 refine Wx.go ?_
 refine Wc.no rfl ?_
 refine Wc.skip ?_
 refine Wx.blockEnd ?_
 refine Wx.go ?_
 refine Wc.region ?_
 refine Wl.q (v := Value.int .u64 7) (q_move rfl) ?_
 refine Wl.q (v := Value.int .u64 8) (q_add (c := 8) rfl rfl (by decide)) ?_
 refine Wl.q (v := Value.int .u64 8) (q_assign rfl) ?_
 refine Wl.done ?_
 refine Wx.again ?_
 refine Wn.round ?_
 refine Wc.seq ?_
 refine Wc.seq ?_
 refine Wc.region ?_
 refine Wl.q (v := Value.int .u64 8) (q_move rfl) ?_
 refine Wl.q (v := Value.bool false) (q_lss (r := false) rfl rfl (decide_eq_false (by decide))) ?_
 refine Wl.done ?_
 refine Wx.go ?_
 refine Wc.no rfl ?_
 refine Wc.exit ?_
 refine Wx.thenExit ?_
 refine Wx.thenExit ?_
 refine Wx.out ?_
 refine Wx.go ?_
 refine Wc.seq ?_
 refine Wc.region ?_
 refine Wl.sl (i := 2) (m := (z1.length + 1 + 1 + 1)) rfl (by omega) (fun pb pc hvp hclp => ?_)
 subst hvp
 refine Wl.sl (i := 3) (m := (z2.length + 1 + 1 + 1)) rfl (by omega) (fun qb qc hvq hclq => ?_)
 subst hvq
 refine Wl.q (v := Value.pointer (some ⟨b, 0, none⟩)) (q_move rfl) ?_
 refine Wl.e (e_call (F := F) (args := [Value.pointer (some ⟨b, 0, none⟩)]) Tryz.call99 rfl (look_n W0 b nb nc pb pc qb qc rest (z1.length + 1 + 1 + 1) (z2.length + 1 + 1 + 1) (by omega) (by omega))) (fun _ _ => ?_)
 refine Wl.imp (L' := (pt b 81 (bkC 2 (Value.slice (some ⟨nb, 0, none⟩) 2 nc))) :: (pt nb 126 ([Value.slice (some ⟨pb, 0, none⟩) (z1.length + 1 + 1 + 1) pc, Value.int .i64 0, Value.slice (some ⟨qb, 0, none⟩) (z2.length + 1 + 1 + 1) qc, Value.int .i64 1] ++ rest)) :: (slp 3 1 pb pc ((List.replicate (z1.length + 1 + 1 + 1) ((-1000) : Int)).map intV)) :: (slp 3 1 qb qc ((List.replicate (z2.length + 1 + 1 + 1) ((-1001) : Int)).map intV)) :: F) (fun _ h => h) ?_
 refine Wl.q (v := Value.bool true) (q_move rfl) ?_
 refine Wl.q (v := Value.pointer (some ⟨b, 0, none⟩)) (q_move rfl) ?_
 refine Wl.e (e_call (F := (pt nb 126 ([Value.slice (some ⟨pb, 0, none⟩) (z1.length + 1 + 1 + 1) pc, Value.int .i64 0, Value.slice (some ⟨qb, 0, none⟩) (z2.length + 1 + 1 + 1) qc, Value.int .i64 1] ++ rest)) :: (slp 3 1 pb pc ((List.replicate (z1.length + 1 + 1 + 1) ((-1000) : Int)).map intV)) :: (slp 3 1 qb qc ((List.replicate (z2.length + 1 + 1 + 1) ((-1001) : Int)).map intV)) :: F) (args := [Value.pointer (some ⟨b, 0, none⟩)]) Tryz.call100 rfl (bk_lookWide W0 b 2 (Value.slice (some ⟨nb, 0, none⟩) 2 nc))) (fun _ _ => ?_)
 refine Wl.imp (L' := (pt b 81 (bkC 2 (Value.slice (some ⟨nb, 0, none⟩) 2 nc))) :: (pt nb 126 ([Value.slice (some ⟨pb, 0, none⟩) (z1.length + 1 + 1 + 1) pc, Value.int .i64 0, Value.slice (some ⟨qb, 0, none⟩) (z2.length + 1 + 1 + 1) qc, Value.int .i64 1] ++ rest)) :: (slp 3 1 pb pc ((List.replicate (z1.length + 1 + 1 + 1) ((-1000) : Int)).map intV)) :: (slp 3 1 qb qc ((List.replicate (z2.length + 1 + 1 + 1) ((-1001) : Int)).map intV)) :: F) (fun _ h => h) ?_
 refine Wl.q (v := Value.bool true) (q_pick (t := true) rfl rfl) ?_
 refine Wl.q (v := Value.bool true) (q_move rfl) ?_
 refine Wl.q (v := Value.pointer (some ⟨b, 0, none⟩)) (q_move rfl) ?_
 refine Wl.e (e_call (F := (pt nb 126 ([Value.slice (some ⟨pb, 0, none⟩) (z1.length + 1 + 1 + 1) pc, Value.int .i64 0, Value.slice (some ⟨qb, 0, none⟩) (z2.length + 1 + 1 + 1) qc, Value.int .i64 1] ++ rest)) :: (slp 3 1 pb pc ((List.replicate (z1.length + 1 + 1 + 1) ((-1000) : Int)).map intV)) :: (slp 3 1 qb qc ((List.replicate (z2.length + 1 + 1 + 1) ((-1001) : Int)).map intV)) :: F) (args := [Value.pointer (some ⟨b, 0, none⟩)]) Tryz.call101 rfl (bk_lookText W0 b 2 (Value.slice (some ⟨nb, 0, none⟩) 2 nc))) (fun _ _ => ?_)
 refine Wl.imp (L' := (pt b 81 (bkC 2 (Value.slice (some ⟨nb, 0, none⟩) 2 nc))) :: (pt nb 126 ([Value.slice (some ⟨pb, 0, none⟩) (z1.length + 1 + 1 + 1) pc, Value.int .i64 0, Value.slice (some ⟨qb, 0, none⟩) (z2.length + 1 + 1 + 1) qc, Value.int .i64 1] ++ rest)) :: (slp 3 1 pb pc ((List.replicate (z1.length + 1 + 1 + 1) ((-1000) : Int)).map intV)) :: (slp 3 1 qb qc ((List.replicate (z2.length + 1 + 1 + 1) ((-1001) : Int)).map intV)) :: F) (fun _ h => h) ?_
 refine Wl.q (v := Value.bool true) (q_pick (t := true) rfl rfl) ?_
 refine Wl.q (v := Value.bool true) (q_move rfl) ?_
 refine Wl.q (v := Value.pointer (some ⟨b, 0, none⟩)) (q_move rfl) ?_
 refine Wl.e (e_call (F := (pt nb 126 ([Value.slice (some ⟨pb, 0, none⟩) (z1.length + 1 + 1 + 1) pc, Value.int .i64 0, Value.slice (some ⟨qb, 0, none⟩) (z2.length + 1 + 1 + 1) qc, Value.int .i64 1] ++ rest)) :: (slp 3 1 pb pc ((List.replicate (z1.length + 1 + 1 + 1) ((-1000) : Int)).map intV)) :: (slp 3 1 qb qc ((List.replicate (z2.length + 1 + 1 + 1) ((-1001) : Int)).map intV)) :: F) (args := [Value.pointer (some ⟨b, 0, none⟩)]) Tryz.call102 rfl (bk_lookTerm W0 b 2 (Value.slice (some ⟨nb, 0, none⟩) 2 nc))) (fun _ _ => ?_)
 refine Wl.imp (L' := (pt b 81 (bkC 2 (Value.slice (some ⟨nb, 0, none⟩) 2 nc))) :: (pt nb 126 ([Value.slice (some ⟨pb, 0, none⟩) (z1.length + 1 + 1 + 1) pc, Value.int .i64 0, Value.slice (some ⟨qb, 0, none⟩) (z2.length + 1 + 1 + 1) qc, Value.int .i64 1] ++ rest)) :: (slp 3 1 pb pc ((List.replicate (z1.length + 1 + 1 + 1) ((-1000) : Int)).map intV)) :: (slp 3 1 qb qc ((List.replicate (z2.length + 1 + 1 + 1) ((-1001) : Int)).map intV)) :: F) (fun _ h => h) ?_
 refine Wl.q (v := Value.bool true) (q_pick (t := true) rfl rfl) ?_
 refine Wl.q (v := Value.bool true) (q_move rfl) ?_
 refine Wl.q (v := Value.pointer (some ⟨b, 0, none⟩)) (q_move rfl) ?_
 refine Wl.e (e_call (F := (pt nb 126 ([Value.slice (some ⟨pb, 0, none⟩) (z1.length + 1 + 1 + 1) pc, Value.int .i64 0, Value.slice (some ⟨qb, 0, none⟩) (z2.length + 1 + 1 + 1) qc, Value.int .i64 1] ++ rest)) :: (slp 3 1 pb pc ((List.replicate (z1.length + 1 + 1 + 1) ((-1000) : Int)).map intV)) :: (slp 3 1 qb qc ((List.replicate (z2.length + 1 + 1 + 1) ((-1001) : Int)).map intV)) :: F) (args := [Value.pointer (some ⟨b, 0, none⟩)]) Tryz.call103 rfl (bk_lookSeal W0 b 2 (Value.slice (some ⟨nb, 0, none⟩) 2 nc))) (fun _ _ => ?_)
 refine Wl.imp (L' := (pt b 81 (bkC 2 (Value.slice (some ⟨nb, 0, none⟩) 2 nc))) :: (pt nb 126 ([Value.slice (some ⟨pb, 0, none⟩) (z1.length + 1 + 1 + 1) pc, Value.int .i64 0, Value.slice (some ⟨qb, 0, none⟩) (z2.length + 1 + 1 + 1) qc, Value.int .i64 1] ++ rest)) :: (slp 3 1 pb pc ((List.replicate (z1.length + 1 + 1 + 1) ((-1000) : Int)).map intV)) :: (slp 3 1 qb qc ((List.replicate (z2.length + 1 + 1 + 1) ((-1001) : Int)).map intV)) :: F) (fun _ h => h) ?_
 refine Wl.q (v := Value.bool true) (q_pick (t := true) rfl rfl) ?_
 refine Wl.q (v := Value.bool true) (q_move rfl) ?_
 refine Wl.q (v := Value.pointer (some ⟨b, 0, none⟩)) (q_move rfl) ?_
 refine Wl.e (e_call (F := (pt nb 126 ([Value.slice (some ⟨pb, 0, none⟩) (z1.length + 1 + 1 + 1) pc, Value.int .i64 0, Value.slice (some ⟨qb, 0, none⟩) (z2.length + 1 + 1 + 1) qc, Value.int .i64 1] ++ rest)) :: (slp 3 1 pb pc ((List.replicate (z1.length + 1 + 1 + 1) ((-1000) : Int)).map intV)) :: (slp 3 1 qb qc ((List.replicate (z2.length + 1 + 1 + 1) ((-1001) : Int)).map intV)) :: F) (args := [Value.pointer (some ⟨b, 0, none⟩)]) Tryz.call104 rfl (bk_lookKey W0 b 2 (Value.slice (some ⟨nb, 0, none⟩) 2 nc))) (fun _ _ => ?_)
 refine Wl.imp (L' := (pt b 81 (bkC 2 (Value.slice (some ⟨nb, 0, none⟩) 2 nc))) :: (pt nb 126 ([Value.slice (some ⟨pb, 0, none⟩) (z1.length + 1 + 1 + 1) pc, Value.int .i64 0, Value.slice (some ⟨qb, 0, none⟩) (z2.length + 1 + 1 + 1) qc, Value.int .i64 1] ++ rest)) :: (slp 3 1 pb pc ((List.replicate (z1.length + 1 + 1 + 1) ((-1000) : Int)).map intV)) :: (slp 3 1 qb qc ((List.replicate (z2.length + 1 + 1 + 1) ((-1001) : Int)).map intV)) :: F) (fun _ h => h) ?_
 refine Wl.q (v := Value.bool true) (q_pick (t := true) rfl rfl) ?_
 refine Wl.q (v := Value.bool true) (q_move rfl) ?_
 refine Wl.q (v := Value.pointer (some ⟨b, 0, none⟩)) (q_move rfl) ?_
 refine Wl.e (e_call (F := (pt nb 126 ([Value.slice (some ⟨pb, 0, none⟩) (z1.length + 1 + 1 + 1) pc, Value.int .i64 0, Value.slice (some ⟨qb, 0, none⟩) (z2.length + 1 + 1 + 1) qc, Value.int .i64 1] ++ rest)) :: (slp 3 1 pb pc ((List.replicate (z1.length + 1 + 1 + 1) ((-1000) : Int)).map intV)) :: (slp 3 1 qb qc ((List.replicate (z2.length + 1 + 1 + 1) ((-1001) : Int)).map intV)) :: F) (args := [Value.pointer (some ⟨b, 0, none⟩)]) Tryz.call105 rfl (bk_lookAdd W0 b 2 (Value.slice (some ⟨nb, 0, none⟩) 2 nc))) (fun _ _ => ?_)
 refine Wl.imp (L' := (pt b 81 (bkC 2 (Value.slice (some ⟨nb, 0, none⟩) 2 nc))) :: (pt nb 126 ([Value.slice (some ⟨pb, 0, none⟩) (z1.length + 1 + 1 + 1) pc, Value.int .i64 0, Value.slice (some ⟨qb, 0, none⟩) (z2.length + 1 + 1 + 1) qc, Value.int .i64 1] ++ rest)) :: (slp 3 1 pb pc ((List.replicate (z1.length + 1 + 1 + 1) ((-1000) : Int)).map intV)) :: (slp 3 1 qb qc ((List.replicate (z2.length + 1 + 1 + 1) ((-1001) : Int)).map intV)) :: F) (fun _ h => h) ?_
 refine Wl.q (v := Value.bool true) (q_pick (t := true) rfl rfl) ?_
 refine Wl.q (v := Value.bool true) (q_move rfl) ?_
 refine Wl.q (v := Value.pointer (some ⟨b, 0, none⟩)) (q_move rfl) ?_
 refine Wl.e (e_call (F := (pt nb 126 ([Value.slice (some ⟨pb, 0, none⟩) (z1.length + 1 + 1 + 1) pc, Value.int .i64 0, Value.slice (some ⟨qb, 0, none⟩) (z2.length + 1 + 1 + 1) qc, Value.int .i64 1] ++ rest)) :: (slp 3 1 pb pc ((List.replicate (z1.length + 1 + 1 + 1) ((-1000) : Int)).map intV)) :: (slp 3 1 qb qc ((List.replicate (z2.length + 1 + 1 + 1) ((-1001) : Int)).map intV)) :: F) (args := [Value.pointer (some ⟨b, 0, none⟩)]) Tryz.call106 rfl (bk_lookJoin W0 b 2 (Value.slice (some ⟨nb, 0, none⟩) 2 nc))) (fun _ _ => ?_)
 refine Wl.imp (L' := (pt b 81 (bkC 2 (Value.slice (some ⟨nb, 0, none⟩) 2 nc))) :: (pt nb 126 ([Value.slice (some ⟨pb, 0, none⟩) (z1.length + 1 + 1 + 1) pc, Value.int .i64 0, Value.slice (some ⟨qb, 0, none⟩) (z2.length + 1 + 1 + 1) qc, Value.int .i64 1] ++ rest)) :: (slp 3 1 pb pc ((List.replicate (z1.length + 1 + 1 + 1) ((-1000) : Int)).map intV)) :: (slp 3 1 qb qc ((List.replicate (z2.length + 1 + 1 + 1) ((-1001) : Int)).map intV)) :: F) (fun _ h => h) ?_
 refine Wl.q (v := Value.bool true) (q_pick (t := true) rfl rfl) ?_
 refine Wl.q (v := Value.bool true) (q_move rfl) ?_
 refine Wl.q (v := Value.pointer (some ⟨b, 0, none⟩)) (q_move rfl) ?_
 refine Wl.e (e_call (F := (pt nb 126 ([Value.slice (some ⟨pb, 0, none⟩) (z1.length + 1 + 1 + 1) pc, Value.int .i64 0, Value.slice (some ⟨qb, 0, none⟩) (z2.length + 1 + 1 + 1) qc, Value.int .i64 1] ++ rest)) :: (slp 3 1 pb pc ((List.replicate (z1.length + 1 + 1 + 1) ((-1000) : Int)).map intV)) :: (slp 3 1 qb qc ((List.replicate (z2.length + 1 + 1 + 1) ((-1001) : Int)).map intV)) :: F) (args := [Value.pointer (some ⟨b, 0, none⟩)]) Tryz.call107 rfl (bk_lookPast W0 b 2 (Value.slice (some ⟨nb, 0, none⟩) 2 nc))) (fun _ _ => ?_)
 refine Wl.imp (L' := (pt b 81 (bkC 2 (Value.slice (some ⟨nb, 0, none⟩) 2 nc))) :: (pt nb 126 ([Value.slice (some ⟨pb, 0, none⟩) (z1.length + 1 + 1 + 1) pc, Value.int .i64 0, Value.slice (some ⟨qb, 0, none⟩) (z2.length + 1 + 1 + 1) qc, Value.int .i64 1] ++ rest)) :: (slp 3 1 pb pc ((List.replicate (z1.length + 1 + 1 + 1) ((-1000) : Int)).map intV)) :: (slp 3 1 qb qc ((List.replicate (z2.length + 1 + 1 + 1) ((-1001) : Int)).map intV)) :: F) (fun _ h => h) ?_
 refine Wl.q (v := Value.bool true) (q_pick (t := true) rfl rfl) ?_
 refine Wl.q (v := Value.bool true) (q_move rfl) ?_
 refine Wl.q (v := Value.pointer (some ⟨b, 0, none⟩)) (q_move rfl) ?_
 refine Wl.e (e_call (F := (pt nb 126 ([Value.slice (some ⟨pb, 0, none⟩) (z1.length + 1 + 1 + 1) pc, Value.int .i64 0, Value.slice (some ⟨qb, 0, none⟩) (z2.length + 1 + 1 + 1) qc, Value.int .i64 1] ++ rest)) :: (slp 3 1 pb pc ((List.replicate (z1.length + 1 + 1 + 1) ((-1000) : Int)).map intV)) :: (slp 3 1 qb qc ((List.replicate (z2.length + 1 + 1 + 1) ((-1001) : Int)).map intV)) :: F) (args := [Value.pointer (some ⟨b, 0, none⟩)]) Tryz.call108 rfl (bk_lookCard W0 b 2 (Value.slice (some ⟨nb, 0, none⟩) 2 nc))) (fun _ _ => ?_)
 refine Wl.imp (L' := (pt b 81 (bkC 2 (Value.slice (some ⟨nb, 0, none⟩) 2 nc))) :: (pt nb 126 ([Value.slice (some ⟨pb, 0, none⟩) (z1.length + 1 + 1 + 1) pc, Value.int .i64 0, Value.slice (some ⟨qb, 0, none⟩) (z2.length + 1 + 1 + 1) qc, Value.int .i64 1] ++ rest)) :: (slp 3 1 pb pc ((List.replicate (z1.length + 1 + 1 + 1) ((-1000) : Int)).map intV)) :: (slp 3 1 qb qc ((List.replicate (z2.length + 1 + 1 + 1) ((-1001) : Int)).map intV)) :: F) (fun _ h => h) ?_
 refine Wl.q (v := Value.bool true) (q_pick (t := true) rfl rfl) ?_
 refine Wl.q (v := Value.bool true) (q_move rfl) ?_
 refine Wl.q (v := Value.pointer (some ⟨b, 0, none⟩)) (q_move rfl) ?_
 refine Wl.e (e_call (F := (pt nb 126 ([Value.slice (some ⟨pb, 0, none⟩) (z1.length + 1 + 1 + 1) pc, Value.int .i64 0, Value.slice (some ⟨qb, 0, none⟩) (z2.length + 1 + 1 + 1) qc, Value.int .i64 1] ++ rest)) :: (slp 3 1 pb pc ((List.replicate (z1.length + 1 + 1 + 1) ((-1000) : Int)).map intV)) :: (slp 3 1 qb qc ((List.replicate (z2.length + 1 + 1 + 1) ((-1001) : Int)).map intV)) :: F) (args := [Value.pointer (some ⟨b, 0, none⟩)]) Tryz.call109 rfl (bk_lookGot W0 b 2 (Value.slice (some ⟨nb, 0, none⟩) 2 nc))) (fun _ _ => ?_)
 refine Wl.imp (L' := (pt b 81 (bkC 2 (Value.slice (some ⟨nb, 0, none⟩) 2 nc))) :: (pt nb 126 ([Value.slice (some ⟨pb, 0, none⟩) (z1.length + 1 + 1 + 1) pc, Value.int .i64 0, Value.slice (some ⟨qb, 0, none⟩) (z2.length + 1 + 1 + 1) qc, Value.int .i64 1] ++ rest)) :: (slp 3 1 pb pc ((List.replicate (z1.length + 1 + 1 + 1) ((-1000) : Int)).map intV)) :: (slp 3 1 qb qc ((List.replicate (z2.length + 1 + 1 + 1) ((-1001) : Int)).map intV)) :: F) (fun _ h => h) ?_
 refine Wl.q (v := Value.bool true) (q_pick (t := true) rfl rfl) ?_
 refine Wl.q (v := Value.bool true) (q_move rfl) ?_
 refine Wl.q (v := Value.pointer (some ⟨b, 0, none⟩)) (q_move rfl) ?_
 refine Wl.e (e_call (F := (pt nb 126 ([Value.slice (some ⟨pb, 0, none⟩) (z1.length + 1 + 1 + 1) pc, Value.int .i64 0, Value.slice (some ⟨qb, 0, none⟩) (z2.length + 1 + 1 + 1) qc, Value.int .i64 1] ++ rest)) :: (slp 3 1 pb pc ((List.replicate (z1.length + 1 + 1 + 1) ((-1000) : Int)).map intV)) :: (slp 3 1 qb qc ((List.replicate (z2.length + 1 + 1 + 1) ((-1001) : Int)).map intV)) :: F) (args := [Value.pointer (some ⟨b, 0, none⟩)]) Tryz.call110 rfl (bk_lookNote W0 b 2 (Value.slice (some ⟨nb, 0, none⟩) 2 nc))) (fun _ _ => ?_)
 refine Wl.imp (L' := (pt b 81 (bkC 2 (Value.slice (some ⟨nb, 0, none⟩) 2 nc))) :: (pt nb 126 ([Value.slice (some ⟨pb, 0, none⟩) (z1.length + 1 + 1 + 1) pc, Value.int .i64 0, Value.slice (some ⟨qb, 0, none⟩) (z2.length + 1 + 1 + 1) qc, Value.int .i64 1] ++ rest)) :: (slp 3 1 pb pc ((List.replicate (z1.length + 1 + 1 + 1) ((-1000) : Int)).map intV)) :: (slp 3 1 qb qc ((List.replicate (z2.length + 1 + 1 + 1) ((-1001) : Int)).map intV)) :: F) (fun _ h => h) ?_
 refine Wl.q (v := Value.bool true) (q_pick (t := true) rfl rfl) ?_
 refine Wl.q (v := Value.bool true) (q_move rfl) ?_
 refine Wl.q (v := Value.pointer (some ⟨b, 0, none⟩)) (q_move rfl) ?_
 refine Wl.e (e_call (F := (pt nb 126 ([Value.slice (some ⟨pb, 0, none⟩) (z1.length + 1 + 1 + 1) pc, Value.int .i64 0, Value.slice (some ⟨qb, 0, none⟩) (z2.length + 1 + 1 + 1) qc, Value.int .i64 1] ++ rest)) :: (slp 3 1 pb pc ((List.replicate (z1.length + 1 + 1 + 1) ((-1000) : Int)).map intV)) :: (slp 3 1 qb qc ((List.replicate (z2.length + 1 + 1 + 1) ((-1001) : Int)).map intV)) :: F) (args := [Value.pointer (some ⟨b, 0, none⟩)]) Tryz.call111 rfl (bk_lookAnswer W0 b 2 (Value.slice (some ⟨nb, 0, none⟩) 2 nc))) (fun _ _ => ?_)
 refine Wl.imp (L' := (pt b 81 (bkC 2 (Value.slice (some ⟨nb, 0, none⟩) 2 nc))) :: (pt nb 126 ([Value.slice (some ⟨pb, 0, none⟩) (z1.length + 1 + 1 + 1) pc, Value.int .i64 0, Value.slice (some ⟨qb, 0, none⟩) (z2.length + 1 + 1 + 1) qc, Value.int .i64 1] ++ rest)) :: (slp 3 1 pb pc ((List.replicate (z1.length + 1 + 1 + 1) ((-1000) : Int)).map intV)) :: (slp 3 1 qb qc ((List.replicate (z2.length + 1 + 1 + 1) ((-1001) : Int)).map intV)) :: F) (fun _ h => h) ?_
 refine Wl.q (v := Value.bool true) (q_pick (t := true) rfl rfl) ?_
 refine Wl.q (v := Value.bool true) (q_move rfl) ?_
 refine Wl.q (v := Value.pointer (some ⟨b, 0, none⟩)) (q_move rfl) ?_
 refine Wl.e (e_call (F := (pt nb 126 ([Value.slice (some ⟨pb, 0, none⟩) (z1.length + 1 + 1 + 1) pc, Value.int .i64 0, Value.slice (some ⟨qb, 0, none⟩) (z2.length + 1 + 1 + 1) qc, Value.int .i64 1] ++ rest)) :: (slp 3 1 pb pc ((List.replicate (z1.length + 1 + 1 + 1) ((-1000) : Int)).map intV)) :: (slp 3 1 qb qc ((List.replicate (z2.length + 1 + 1 + 1) ((-1001) : Int)).map intV)) :: F) (args := [Value.pointer (some ⟨b, 0, none⟩)]) Tryz.call112 rfl (bk_lookOutcome W0 b 2 (Value.slice (some ⟨nb, 0, none⟩) 2 nc))) (fun _ _ => ?_)
 refine Wl.imp (L' := (pt b 81 (bkC 2 (Value.slice (some ⟨nb, 0, none⟩) 2 nc))) :: (pt nb 126 ([Value.slice (some ⟨pb, 0, none⟩) (z1.length + 1 + 1 + 1) pc, Value.int .i64 0, Value.slice (some ⟨qb, 0, none⟩) (z2.length + 1 + 1 + 1) qc, Value.int .i64 1] ++ rest)) :: (slp 3 1 pb pc ((List.replicate (z1.length + 1 + 1 + 1) ((-1000) : Int)).map intV)) :: (slp 3 1 qb qc ((List.replicate (z2.length + 1 + 1 + 1) ((-1001) : Int)).map intV)) :: F) (fun _ h => h) ?_
 refine Wl.q (v := Value.bool true) (q_pick (t := true) rfl rfl) ?_
 refine Wl.q (v := Value.bool true) (q_move rfl) ?_
 refine Wl.q (v := Value.pointer (some ⟨b, 0, none⟩)) (q_move rfl) ?_
 refine Wl.e (e_call (F := (pt nb 126 ([Value.slice (some ⟨pb, 0, none⟩) (z1.length + 1 + 1 + 1) pc, Value.int .i64 0, Value.slice (some ⟨qb, 0, none⟩) (z2.length + 1 + 1 + 1) qc, Value.int .i64 1] ++ rest)) :: (slp 3 1 pb pc ((List.replicate (z1.length + 1 + 1 + 1) ((-1000) : Int)).map intV)) :: (slp 3 1 qb qc ((List.replicate (z2.length + 1 + 1 + 1) ((-1001) : Int)).map intV)) :: F) (args := [Value.pointer (some ⟨b, 0, none⟩)]) Tryz.call113 rfl (bk_lookFinding W0 b 2 (Value.slice (some ⟨nb, 0, none⟩) 2 nc))) (fun _ _ => ?_)
 refine Wl.imp (L' := (pt b 81 (bkC 2 (Value.slice (some ⟨nb, 0, none⟩) 2 nc))) :: (pt nb 126 ([Value.slice (some ⟨pb, 0, none⟩) (z1.length + 1 + 1 + 1) pc, Value.int .i64 0, Value.slice (some ⟨qb, 0, none⟩) (z2.length + 1 + 1 + 1) qc, Value.int .i64 1] ++ rest)) :: (slp 3 1 pb pc ((List.replicate (z1.length + 1 + 1 + 1) ((-1000) : Int)).map intV)) :: (slp 3 1 qb qc ((List.replicate (z2.length + 1 + 1 + 1) ((-1001) : Int)).map intV)) :: F) (fun _ h => h) ?_
 refine Wl.q (v := Value.bool true) (q_pick (t := true) rfl rfl) ?_
 refine Wl.q (v := Value.bool true) (q_move rfl) ?_
 refine Wl.q (v := Value.pointer (some ⟨b, 0, none⟩)) (q_move rfl) ?_
 refine Wl.e (e_call (F := (pt nb 126 ([Value.slice (some ⟨pb, 0, none⟩) (z1.length + 1 + 1 + 1) pc, Value.int .i64 0, Value.slice (some ⟨qb, 0, none⟩) (z2.length + 1 + 1 + 1) qc, Value.int .i64 1] ++ rest)) :: (slp 3 1 pb pc ((List.replicate (z1.length + 1 + 1 + 1) ((-1000) : Int)).map intV)) :: (slp 3 1 qb qc ((List.replicate (z2.length + 1 + 1 + 1) ((-1001) : Int)).map intV)) :: F) (args := [Value.pointer (some ⟨b, 0, none⟩)]) Tryz.call114 rfl (bk_lookStep W0 b 2 (Value.slice (some ⟨nb, 0, none⟩) 2 nc))) (fun _ _ => ?_)
 refine Wl.imp (L' := (pt b 81 (bkC 2 (Value.slice (some ⟨nb, 0, none⟩) 2 nc))) :: (pt nb 126 ([Value.slice (some ⟨pb, 0, none⟩) (z1.length + 1 + 1 + 1) pc, Value.int .i64 0, Value.slice (some ⟨qb, 0, none⟩) (z2.length + 1 + 1 + 1) qc, Value.int .i64 1] ++ rest)) :: (slp 3 1 pb pc ((List.replicate (z1.length + 1 + 1 + 1) ((-1000) : Int)).map intV)) :: (slp 3 1 qb qc ((List.replicate (z2.length + 1 + 1 + 1) ((-1001) : Int)).map intV)) :: F) (fun _ h => h) ?_
 refine Wl.q (v := Value.bool true) (q_pick (t := true) rfl rfl) ?_
 refine Wl.q (v := Value.bool true) (q_move rfl) ?_
 refine Wl.q (v := Value.pointer (some ⟨b, 0, none⟩)) (q_move rfl) ?_
 refine Wl.e (e_call (F := (pt nb 126 ([Value.slice (some ⟨pb, 0, none⟩) (z1.length + 1 + 1 + 1) pc, Value.int .i64 0, Value.slice (some ⟨qb, 0, none⟩) (z2.length + 1 + 1 + 1) qc, Value.int .i64 1] ++ rest)) :: (slp 3 1 pb pc ((List.replicate (z1.length + 1 + 1 + 1) ((-1000) : Int)).map intV)) :: (slp 3 1 qb qc ((List.replicate (z2.length + 1 + 1 + 1) ((-1001) : Int)).map intV)) :: F) (args := [Value.pointer (some ⟨b, 0, none⟩)]) Tryz.call115 rfl (bk_lookWrite W0 b 2 (Value.slice (some ⟨nb, 0, none⟩) 2 nc))) (fun _ _ => ?_)
 refine Wl.imp (L' := (pt b 81 (bkC 2 (Value.slice (some ⟨nb, 0, none⟩) 2 nc))) :: (pt nb 126 ([Value.slice (some ⟨pb, 0, none⟩) (z1.length + 1 + 1 + 1) pc, Value.int .i64 0, Value.slice (some ⟨qb, 0, none⟩) (z2.length + 1 + 1 + 1) qc, Value.int .i64 1] ++ rest)) :: (slp 3 1 pb pc ((List.replicate (z1.length + 1 + 1 + 1) ((-1000) : Int)).map intV)) :: (slp 3 1 qb qc ((List.replicate (z2.length + 1 + 1 + 1) ((-1001) : Int)).map intV)) :: F) (fun _ h => h) ?_
 refine Wl.q (v := Value.bool true) (q_pick (t := true) rfl rfl) ?_
 refine Wl.q (v := Value.bool true) (q_move rfl) ?_
 refine Wl.q (v := Value.pointer (some ⟨b, 0, none⟩)) (q_move rfl) ?_
 refine Wl.e (e_call (F := (pt nb 126 ([Value.slice (some ⟨pb, 0, none⟩) (z1.length + 1 + 1 + 1) pc, Value.int .i64 0, Value.slice (some ⟨qb, 0, none⟩) (z2.length + 1 + 1 + 1) qc, Value.int .i64 1] ++ rest)) :: (slp 3 1 pb pc ((List.replicate (z1.length + 1 + 1 + 1) ((-1000) : Int)).map intV)) :: (slp 3 1 qb qc ((List.replicate (z2.length + 1 + 1 + 1) ((-1001) : Int)).map intV)) :: F) (args := [Value.pointer (some ⟨b, 0, none⟩)]) Tryz.call116 rfl (bk_lookNode W0 b 2 (Value.slice (some ⟨nb, 0, none⟩) 2 nc))) (fun _ _ => ?_)
 refine Wl.imp (L' := (pt b 81 (bkC 2 (Value.slice (some ⟨nb, 0, none⟩) 2 nc))) :: (pt nb 126 ([Value.slice (some ⟨pb, 0, none⟩) (z1.length + 1 + 1 + 1) pc, Value.int .i64 0, Value.slice (some ⟨qb, 0, none⟩) (z2.length + 1 + 1 + 1) qc, Value.int .i64 1] ++ rest)) :: (slp 3 1 pb pc ((List.replicate (z1.length + 1 + 1 + 1) ((-1000) : Int)).map intV)) :: (slp 3 1 qb qc ((List.replicate (z2.length + 1 + 1 + 1) ((-1001) : Int)).map intV)) :: F) (fun _ h => h) ?_
 refine Wl.q (v := Value.bool true) (q_pick (t := true) rfl rfl) ?_
 refine Wl.q (v := Value.bool true) (q_move rfl) ?_
 refine Wl.q (v := Value.pointer (some ⟨b, 0, none⟩)) (q_move rfl) ?_
 refine Wl.e (e_call (F := (pt nb 126 ([Value.slice (some ⟨pb, 0, none⟩) (z1.length + 1 + 1 + 1) pc, Value.int .i64 0, Value.slice (some ⟨qb, 0, none⟩) (z2.length + 1 + 1 + 1) qc, Value.int .i64 1] ++ rest)) :: (slp 3 1 pb pc ((List.replicate (z1.length + 1 + 1 + 1) ((-1000) : Int)).map intV)) :: (slp 3 1 qb qc ((List.replicate (z2.length + 1 + 1 + 1) ((-1001) : Int)).map intV)) :: F) (args := [Value.pointer (some ⟨b, 0, none⟩)]) Tryz.call117 rfl (bk_lookTree W0 b 2 (Value.slice (some ⟨nb, 0, none⟩) 2 nc))) (fun _ _ => ?_)
 refine Wl.imp (L' := (pt b 81 (bkC 2 (Value.slice (some ⟨nb, 0, none⟩) 2 nc))) :: (pt nb 126 ([Value.slice (some ⟨pb, 0, none⟩) (z1.length + 1 + 1 + 1) pc, Value.int .i64 0, Value.slice (some ⟨qb, 0, none⟩) (z2.length + 1 + 1 + 1) qc, Value.int .i64 1] ++ rest)) :: (slp 3 1 pb pc ((List.replicate (z1.length + 1 + 1 + 1) ((-1000) : Int)).map intV)) :: (slp 3 1 qb qc ((List.replicate (z2.length + 1 + 1 + 1) ((-1001) : Int)).map intV)) :: F) (fun _ h => h) ?_
 refine Wl.q (v := Value.bool true) (q_pick (t := true) rfl rfl) ?_
 refine Wl.q (v := Value.bool true) (q_move rfl) ?_
 refine Wl.q (v := Value.pointer (some ⟨b, 0, none⟩)) (q_move rfl) ?_
 refine Wl.e (e_call (F := (pt nb 126 ([Value.slice (some ⟨pb, 0, none⟩) (z1.length + 1 + 1 + 1) pc, Value.int .i64 0, Value.slice (some ⟨qb, 0, none⟩) (z2.length + 1 + 1 + 1) qc, Value.int .i64 1] ++ rest)) :: (slp 3 1 pb pc ((List.replicate (z1.length + 1 + 1 + 1) ((-1000) : Int)).map intV)) :: (slp 3 1 qb qc ((List.replicate (z2.length + 1 + 1 + 1) ((-1001) : Int)).map intV)) :: F) (args := [Value.pointer (some ⟨b, 0, none⟩)]) Tryz.call118 rfl (bk_lookCommit W0 b 2 (Value.slice (some ⟨nb, 0, none⟩) 2 nc))) (fun _ _ => ?_)
 refine Wl.imp (L' := (pt b 81 (bkC 2 (Value.slice (some ⟨nb, 0, none⟩) 2 nc))) :: (pt nb 126 ([Value.slice (some ⟨pb, 0, none⟩) (z1.length + 1 + 1 + 1) pc, Value.int .i64 0, Value.slice (some ⟨qb, 0, none⟩) (z2.length + 1 + 1 + 1) qc, Value.int .i64 1] ++ rest)) :: (slp 3 1 pb pc ((List.replicate (z1.length + 1 + 1 + 1) ((-1000) : Int)).map intV)) :: (slp 3 1 qb qc ((List.replicate (z2.length + 1 + 1 + 1) ((-1001) : Int)).map intV)) :: F) (fun _ h => h) ?_
 refine Wl.q (v := Value.bool true) (q_pick (t := true) rfl rfl) ?_
 refine Wl.q (v := Value.bool true) (q_move rfl) ?_
 refine Wl.q (v := Value.pointer (some ⟨b, 0, none⟩)) (q_move rfl) ?_
 refine Wl.e (e_call (F := (pt nb 126 ([Value.slice (some ⟨pb, 0, none⟩) (z1.length + 1 + 1 + 1) pc, Value.int .i64 0, Value.slice (some ⟨qb, 0, none⟩) (z2.length + 1 + 1 + 1) qc, Value.int .i64 1] ++ rest)) :: (slp 3 1 pb pc ((List.replicate (z1.length + 1 + 1 + 1) ((-1000) : Int)).map intV)) :: (slp 3 1 qb qc ((List.replicate (z2.length + 1 + 1 + 1) ((-1001) : Int)).map intV)) :: F) (args := [Value.pointer (some ⟨b, 0, none⟩)]) Tryz.call119 rfl (bk_lookState W0 b 2 (Value.slice (some ⟨nb, 0, none⟩) 2 nc))) (fun _ _ => ?_)
 refine Wl.imp (L' := (pt b 81 (bkC 2 (Value.slice (some ⟨nb, 0, none⟩) 2 nc))) :: (pt nb 126 ([Value.slice (some ⟨pb, 0, none⟩) (z1.length + 1 + 1 + 1) pc, Value.int .i64 0, Value.slice (some ⟨qb, 0, none⟩) (z2.length + 1 + 1 + 1) qc, Value.int .i64 1] ++ rest)) :: (slp 3 1 pb pc ((List.replicate (z1.length + 1 + 1 + 1) ((-1000) : Int)).map intV)) :: (slp 3 1 qb qc ((List.replicate (z2.length + 1 + 1 + 1) ((-1001) : Int)).map intV)) :: F) (fun _ h => h) ?_
 refine Wl.q (v := Value.bool true) (q_pick (t := true) rfl rfl) ?_
 refine Wl.q (v := Value.bool true) (q_move rfl) ?_
 refine Wl.q (v := Value.pointer (some ⟨b, 0, none⟩)) (q_move rfl) ?_
 refine Wl.e (e_call (F := (pt nb 126 ([Value.slice (some ⟨pb, 0, none⟩) (z1.length + 1 + 1 + 1) pc, Value.int .i64 0, Value.slice (some ⟨qb, 0, none⟩) (z2.length + 1 + 1 + 1) qc, Value.int .i64 1] ++ rest)) :: (slp 3 1 pb pc ((List.replicate (z1.length + 1 + 1 + 1) ((-1000) : Int)).map intV)) :: (slp 3 1 qb qc ((List.replicate (z2.length + 1 + 1 + 1) ((-1001) : Int)).map intV)) :: F) (args := [Value.pointer (some ⟨b, 0, none⟩)]) Tryz.call120 rfl (bk_lookFace W0 b 2 (Value.slice (some ⟨nb, 0, none⟩) 2 nc))) (fun _ _ => ?_)
 refine Wl.imp (L' := (pt b 81 (bkC 2 (Value.slice (some ⟨nb, 0, none⟩) 2 nc))) :: (pt nb 126 ([Value.slice (some ⟨pb, 0, none⟩) (z1.length + 1 + 1 + 1) pc, Value.int .i64 0, Value.slice (some ⟨qb, 0, none⟩) (z2.length + 1 + 1 + 1) qc, Value.int .i64 1] ++ rest)) :: (slp 3 1 pb pc ((List.replicate (z1.length + 1 + 1 + 1) ((-1000) : Int)).map intV)) :: (slp 3 1 qb qc ((List.replicate (z2.length + 1 + 1 + 1) ((-1001) : Int)).map intV)) :: F) (fun _ h => h) ?_
 refine Wl.q (v := Value.bool true) (q_pick (t := true) rfl rfl) ?_
 refine Wl.q (v := Value.bool true) (q_move rfl) ?_
 refine Wl.q (v := Value.pointer (some ⟨b, 0, none⟩)) (q_move rfl) ?_
 refine Wl.e (e_call (F := (pt nb 126 ([Value.slice (some ⟨pb, 0, none⟩) (z1.length + 1 + 1 + 1) pc, Value.int .i64 0, Value.slice (some ⟨qb, 0, none⟩) (z2.length + 1 + 1 + 1) qc, Value.int .i64 1] ++ rest)) :: (slp 3 1 pb pc ((List.replicate (z1.length + 1 + 1 + 1) ((-1000) : Int)).map intV)) :: (slp 3 1 qb qc ((List.replicate (z2.length + 1 + 1 + 1) ((-1001) : Int)).map intV)) :: F) (args := [Value.pointer (some ⟨b, 0, none⟩)]) Tryz.call121 rfl (bk_lookRequest W0 b 2 (Value.slice (some ⟨nb, 0, none⟩) 2 nc))) (fun _ _ => ?_)
 refine Wl.imp (L' := (pt b 81 (bkC 2 (Value.slice (some ⟨nb, 0, none⟩) 2 nc))) :: (pt nb 126 ([Value.slice (some ⟨pb, 0, none⟩) (z1.length + 1 + 1 + 1) pc, Value.int .i64 0, Value.slice (some ⟨qb, 0, none⟩) (z2.length + 1 + 1 + 1) qc, Value.int .i64 1] ++ rest)) :: (slp 3 1 pb pc ((List.replicate (z1.length + 1 + 1 + 1) ((-1000) : Int)).map intV)) :: (slp 3 1 qb qc ((List.replicate (z2.length + 1 + 1 + 1) ((-1001) : Int)).map intV)) :: F) (fun _ h => h) ?_
 refine Wl.q (v := Value.bool true) (q_pick (t := true) rfl rfl) ?_
 refine Wl.q (v := Value.bool true) (q_move rfl) ?_
 refine Wl.q (v := Value.pointer (some ⟨b, 0, none⟩)) (q_move rfl) ?_
 refine Wl.e (e_call (F := (pt nb 126 ([Value.slice (some ⟨pb, 0, none⟩) (z1.length + 1 + 1 + 1) pc, Value.int .i64 0, Value.slice (some ⟨qb, 0, none⟩) (z2.length + 1 + 1 + 1) qc, Value.int .i64 1] ++ rest)) :: (slp 3 1 pb pc ((List.replicate (z1.length + 1 + 1 + 1) ((-1000) : Int)).map intV)) :: (slp 3 1 qb qc ((List.replicate (z2.length + 1 + 1 + 1) ((-1001) : Int)).map intV)) :: F) (args := [Value.pointer (some ⟨b, 0, none⟩)]) Tryz.call122 rfl (bk_lookMail W0 b 2 (Value.slice (some ⟨nb, 0, none⟩) 2 nc))) (fun _ _ => ?_)
 refine Wl.imp (L' := (pt b 81 (bkC 2 (Value.slice (some ⟨nb, 0, none⟩) 2 nc))) :: (pt nb 126 ([Value.slice (some ⟨pb, 0, none⟩) (z1.length + 1 + 1 + 1) pc, Value.int .i64 0, Value.slice (some ⟨qb, 0, none⟩) (z2.length + 1 + 1 + 1) qc, Value.int .i64 1] ++ rest)) :: (slp 3 1 pb pc ((List.replicate (z1.length + 1 + 1 + 1) ((-1000) : Int)).map intV)) :: (slp 3 1 qb qc ((List.replicate (z2.length + 1 + 1 + 1) ((-1001) : Int)).map intV)) :: F) (fun _ h => h) ?_
 refine Wl.q (v := Value.bool true) (q_pick (t := true) rfl rfl) ?_
 refine Wl.q (v := Value.bool true) (q_move rfl) ?_
 refine Wl.q (v := Value.pointer (some ⟨b, 0, none⟩)) (q_move rfl) ?_
 refine Wl.e (e_call (F := (pt nb 126 ([Value.slice (some ⟨pb, 0, none⟩) (z1.length + 1 + 1 + 1) pc, Value.int .i64 0, Value.slice (some ⟨qb, 0, none⟩) (z2.length + 1 + 1 + 1) qc, Value.int .i64 1] ++ rest)) :: (slp 3 1 pb pc ((List.replicate (z1.length + 1 + 1 + 1) ((-1000) : Int)).map intV)) :: (slp 3 1 qb qc ((List.replicate (z2.length + 1 + 1 + 1) ((-1001) : Int)).map intV)) :: F) (args := [Value.pointer (some ⟨b, 0, none⟩)]) Tryz.call123 rfl (bk_lookPending W0 b 2 (Value.slice (some ⟨nb, 0, none⟩) 2 nc))) (fun _ _ => ?_)
 refine Wl.imp (L' := (pt b 81 (bkC 2 (Value.slice (some ⟨nb, 0, none⟩) 2 nc))) :: (pt nb 126 ([Value.slice (some ⟨pb, 0, none⟩) (z1.length + 1 + 1 + 1) pc, Value.int .i64 0, Value.slice (some ⟨qb, 0, none⟩) (z2.length + 1 + 1 + 1) qc, Value.int .i64 1] ++ rest)) :: (slp 3 1 pb pc ((List.replicate (z1.length + 1 + 1 + 1) ((-1000) : Int)).map intV)) :: (slp 3 1 qb qc ((List.replicate (z2.length + 1 + 1 + 1) ((-1001) : Int)).map intV)) :: F) (fun _ h => h) ?_
 refine Wl.q (v := Value.bool true) (q_pick (t := true) rfl rfl) ?_
 refine Wl.q (v := Value.bool true) (q_move rfl) ?_
 refine Wl.q (v := Value.pointer (some ⟨b, 0, none⟩)) (q_move rfl) ?_
 refine Wl.e (e_call (F := (pt nb 126 ([Value.slice (some ⟨pb, 0, none⟩) (z1.length + 1 + 1 + 1) pc, Value.int .i64 0, Value.slice (some ⟨qb, 0, none⟩) (z2.length + 1 + 1 + 1) qc, Value.int .i64 1] ++ rest)) :: (slp 3 1 pb pc ((List.replicate (z1.length + 1 + 1 + 1) ((-1000) : Int)).map intV)) :: (slp 3 1 qb qc ((List.replicate (z2.length + 1 + 1 + 1) ((-1001) : Int)).map intV)) :: F) (args := [Value.pointer (some ⟨b, 0, none⟩)]) Tryz.call124 rfl (bk_lookFeed W0 b 2 (Value.slice (some ⟨nb, 0, none⟩) 2 nc))) (fun _ _ => ?_)
 refine Wl.imp (L' := (pt b 81 (bkC 2 (Value.slice (some ⟨nb, 0, none⟩) 2 nc))) :: (pt nb 126 ([Value.slice (some ⟨pb, 0, none⟩) (z1.length + 1 + 1 + 1) pc, Value.int .i64 0, Value.slice (some ⟨qb, 0, none⟩) (z2.length + 1 + 1 + 1) qc, Value.int .i64 1] ++ rest)) :: (slp 3 1 pb pc ((List.replicate (z1.length + 1 + 1 + 1) ((-1000) : Int)).map intV)) :: (slp 3 1 qb qc ((List.replicate (z2.length + 1 + 1 + 1) ((-1001) : Int)).map intV)) :: F) (fun _ h => h) ?_
 refine Wl.q (v := Value.bool true) (q_pick (t := true) rfl rfl) ?_
 refine Wl.q (v := Value.bool true) (q_move rfl) ?_
 refine Wl.q (v := Value.pointer (some ⟨b, 0, none⟩)) (q_move rfl) ?_
 refine Wl.e (e_call (F := (pt nb 126 ([Value.slice (some ⟨pb, 0, none⟩) (z1.length + 1 + 1 + 1) pc, Value.int .i64 0, Value.slice (some ⟨qb, 0, none⟩) (z2.length + 1 + 1 + 1) qc, Value.int .i64 1] ++ rest)) :: (slp 3 1 pb pc ((List.replicate (z1.length + 1 + 1 + 1) ((-1000) : Int)).map intV)) :: (slp 3 1 qb qc ((List.replicate (z2.length + 1 + 1 + 1) ((-1001) : Int)).map intV)) :: F) (args := [Value.pointer (some ⟨b, 0, none⟩)]) Tryz.call125 rfl (bk_lookLog W0 b 2 (Value.slice (some ⟨nb, 0, none⟩) 2 nc))) (fun _ _ => ?_)
 refine Wl.imp (L' := (pt b 81 (bkC 2 (Value.slice (some ⟨nb, 0, none⟩) 2 nc))) :: (pt nb 126 ([Value.slice (some ⟨pb, 0, none⟩) (z1.length + 1 + 1 + 1) pc, Value.int .i64 0, Value.slice (some ⟨qb, 0, none⟩) (z2.length + 1 + 1 + 1) qc, Value.int .i64 1] ++ rest)) :: (slp 3 1 pb pc ((List.replicate (z1.length + 1 + 1 + 1) ((-1000) : Int)).map intV)) :: (slp 3 1 qb qc ((List.replicate (z2.length + 1 + 1 + 1) ((-1001) : Int)).map intV)) :: F) (fun _ h => h) ?_
 refine Wl.q (v := Value.bool true) (q_pick (t := true) rfl rfl) ?_
 refine Wl.q (v := Value.bool true) (q_move rfl) ?_
 refine Wl.q (v := Value.pointer (some ⟨b, 0, none⟩)) (q_move rfl) ?_
 refine Wl.e (e_call (F := (pt nb 126 ([Value.slice (some ⟨pb, 0, none⟩) (z1.length + 1 + 1 + 1) pc, Value.int .i64 0, Value.slice (some ⟨qb, 0, none⟩) (z2.length + 1 + 1 + 1) qc, Value.int .i64 1] ++ rest)) :: (slp 3 1 pb pc ((List.replicate (z1.length + 1 + 1 + 1) ((-1000) : Int)).map intV)) :: (slp 3 1 qb qc ((List.replicate (z2.length + 1 + 1 + 1) ((-1001) : Int)).map intV)) :: F) (args := [Value.pointer (some ⟨b, 0, none⟩)]) Tryz.call126 rfl (bk_lookBox W0 b 2 (Value.slice (some ⟨nb, 0, none⟩) 2 nc))) (fun _ _ => ?_)
 refine Wl.imp (L' := (pt b 81 (bkC 2 (Value.slice (some ⟨nb, 0, none⟩) 2 nc))) :: (pt nb 126 ([Value.slice (some ⟨pb, 0, none⟩) (z1.length + 1 + 1 + 1) pc, Value.int .i64 0, Value.slice (some ⟨qb, 0, none⟩) (z2.length + 1 + 1 + 1) qc, Value.int .i64 1] ++ rest)) :: (slp 3 1 pb pc ((List.replicate (z1.length + 1 + 1 + 1) ((-1000) : Int)).map intV)) :: (slp 3 1 qb qc ((List.replicate (z2.length + 1 + 1 + 1) ((-1001) : Int)).map intV)) :: F) (fun _ h => h) ?_
 refine Wl.q (v := Value.bool true) (q_pick (t := true) rfl rfl) ?_
 refine Wl.q (v := Value.bool true) (q_move rfl) ?_
 refine Wl.q (v := Value.pointer (some ⟨b, 0, none⟩)) (q_move rfl) ?_
 refine Wl.e (e_call (F := (pt nb 126 ([Value.slice (some ⟨pb, 0, none⟩) (z1.length + 1 + 1 + 1) pc, Value.int .i64 0, Value.slice (some ⟨qb, 0, none⟩) (z2.length + 1 + 1 + 1) qc, Value.int .i64 1] ++ rest)) :: (slp 3 1 pb pc ((List.replicate (z1.length + 1 + 1 + 1) ((-1000) : Int)).map intV)) :: (slp 3 1 qb qc ((List.replicate (z2.length + 1 + 1 + 1) ((-1001) : Int)).map intV)) :: F) (args := [Value.pointer (some ⟨b, 0, none⟩)]) Tryz.call127 rfl (bk_lookEarly W0 b 2 (Value.slice (some ⟨nb, 0, none⟩) 2 nc))) (fun _ _ => ?_)
 refine Wl.imp (L' := (pt b 81 (bkC 2 (Value.slice (some ⟨nb, 0, none⟩) 2 nc))) :: (pt nb 126 ([Value.slice (some ⟨pb, 0, none⟩) (z1.length + 1 + 1 + 1) pc, Value.int .i64 0, Value.slice (some ⟨qb, 0, none⟩) (z2.length + 1 + 1 + 1) qc, Value.int .i64 1] ++ rest)) :: (slp 3 1 pb pc ((List.replicate (z1.length + 1 + 1 + 1) ((-1000) : Int)).map intV)) :: (slp 3 1 qb qc ((List.replicate (z2.length + 1 + 1 + 1) ((-1001) : Int)).map intV)) :: F) (fun _ h => h) ?_
 refine Wl.q (v := Value.bool true) (q_pick (t := true) rfl rfl) ?_
 refine Wl.q (v := Value.bool true) (q_move rfl) ?_
 refine Wl.q (v := Value.pointer (some ⟨b, 0, none⟩)) (q_move rfl) ?_
 refine Wl.e (e_call (F := (pt nb 126 ([Value.slice (some ⟨pb, 0, none⟩) (z1.length + 1 + 1 + 1) pc, Value.int .i64 0, Value.slice (some ⟨qb, 0, none⟩) (z2.length + 1 + 1 + 1) qc, Value.int .i64 1] ++ rest)) :: (slp 3 1 pb pc ((List.replicate (z1.length + 1 + 1 + 1) ((-1000) : Int)).map intV)) :: (slp 3 1 qb qc ((List.replicate (z2.length + 1 + 1 + 1) ((-1001) : Int)).map intV)) :: F) (args := [Value.pointer (some ⟨b, 0, none⟩)]) Tryz.call128 rfl (bk_lookLink W0 b 2 (Value.slice (some ⟨nb, 0, none⟩) 2 nc))) (fun _ _ => ?_)
 refine Wl.imp (L' := (pt b 81 (bkC 2 (Value.slice (some ⟨nb, 0, none⟩) 2 nc))) :: (pt nb 126 ([Value.slice (some ⟨pb, 0, none⟩) (z1.length + 1 + 1 + 1) pc, Value.int .i64 0, Value.slice (some ⟨qb, 0, none⟩) (z2.length + 1 + 1 + 1) qc, Value.int .i64 1] ++ rest)) :: (slp 3 1 pb pc ((List.replicate (z1.length + 1 + 1 + 1) ((-1000) : Int)).map intV)) :: (slp 3 1 qb qc ((List.replicate (z2.length + 1 + 1 + 1) ((-1001) : Int)).map intV)) :: F) (fun _ h => h) ?_
 refine Wl.q (v := Value.bool true) (q_pick (t := true) rfl rfl) ?_
 refine Wl.q (v := Value.bool true) (q_move rfl) ?_
 refine Wl.q (v := Value.pointer (some ⟨b, 0, none⟩)) (q_move rfl) ?_
 refine Wl.e (e_call (F := (pt nb 126 ([Value.slice (some ⟨pb, 0, none⟩) (z1.length + 1 + 1 + 1) pc, Value.int .i64 0, Value.slice (some ⟨qb, 0, none⟩) (z2.length + 1 + 1 + 1) qc, Value.int .i64 1] ++ rest)) :: (slp 3 1 pb pc ((List.replicate (z1.length + 1 + 1 + 1) ((-1000) : Int)).map intV)) :: (slp 3 1 qb qc ((List.replicate (z2.length + 1 + 1 + 1) ((-1001) : Int)).map intV)) :: F) (args := [Value.pointer (some ⟨b, 0, none⟩)]) Tryz.call129 rfl (bk_lookPacket W0 b 2 (Value.slice (some ⟨nb, 0, none⟩) 2 nc))) (fun _ _ => ?_)
 refine Wl.imp (L' := (pt b 81 (bkC 2 (Value.slice (some ⟨nb, 0, none⟩) 2 nc))) :: (pt nb 126 ([Value.slice (some ⟨pb, 0, none⟩) (z1.length + 1 + 1 + 1) pc, Value.int .i64 0, Value.slice (some ⟨qb, 0, none⟩) (z2.length + 1 + 1 + 1) qc, Value.int .i64 1] ++ rest)) :: (slp 3 1 pb pc ((List.replicate (z1.length + 1 + 1 + 1) ((-1000) : Int)).map intV)) :: (slp 3 1 qb qc ((List.replicate (z2.length + 1 + 1 + 1) ((-1001) : Int)).map intV)) :: F) (fun _ h => h) ?_
 refine Wl.q (v := Value.bool true) (q_pick (t := true) rfl rfl) ?_
 refine Wl.q (v := Value.bool true) (q_move rfl) ?_
 refine Wl.q (v := Value.pointer (some ⟨b, 0, none⟩)) (q_move rfl) ?_
 refine Wl.e (e_call (F := (pt nb 126 ([Value.slice (some ⟨pb, 0, none⟩) (z1.length + 1 + 1 + 1) pc, Value.int .i64 0, Value.slice (some ⟨qb, 0, none⟩) (z2.length + 1 + 1 + 1) qc, Value.int .i64 1] ++ rest)) :: (slp 3 1 pb pc ((List.replicate (z1.length + 1 + 1 + 1) ((-1000) : Int)).map intV)) :: (slp 3 1 qb qc ((List.replicate (z2.length + 1 + 1 + 1) ((-1001) : Int)).map intV)) :: F) (args := [Value.pointer (some ⟨b, 0, none⟩)]) Tryz.call130 rfl (bk_lookTermRow W0 b 2 (Value.slice (some ⟨nb, 0, none⟩) 2 nc))) (fun _ _ => ?_)
 refine Wl.imp (L' := (pt b 81 (bkC 2 (Value.slice (some ⟨nb, 0, none⟩) 2 nc))) :: (pt nb 126 ([Value.slice (some ⟨pb, 0, none⟩) (z1.length + 1 + 1 + 1) pc, Value.int .i64 0, Value.slice (some ⟨qb, 0, none⟩) (z2.length + 1 + 1 + 1) qc, Value.int .i64 1] ++ rest)) :: (slp 3 1 pb pc ((List.replicate (z1.length + 1 + 1 + 1) ((-1000) : Int)).map intV)) :: (slp 3 1 qb qc ((List.replicate (z2.length + 1 + 1 + 1) ((-1001) : Int)).map intV)) :: F) (fun _ h => h) ?_
 refine Wl.q (v := Value.bool true) (q_pick (t := true) rfl rfl) ?_
 refine Wl.q (v := Value.bool true) (q_move rfl) ?_
 refine Wl.q (v := Value.pointer (some ⟨b, 0, none⟩)) (q_move rfl) ?_
 refine Wl.e (e_call (F := (pt nb 126 ([Value.slice (some ⟨pb, 0, none⟩) (z1.length + 1 + 1 + 1) pc, Value.int .i64 0, Value.slice (some ⟨qb, 0, none⟩) (z2.length + 1 + 1 + 1) qc, Value.int .i64 1] ++ rest)) :: (slp 3 1 pb pc ((List.replicate (z1.length + 1 + 1 + 1) ((-1000) : Int)).map intV)) :: (slp 3 1 qb qc ((List.replicate (z2.length + 1 + 1 + 1) ((-1001) : Int)).map intV)) :: F) (args := [Value.pointer (some ⟨b, 0, none⟩)]) Tryz.call131 rfl (bk_lookNumberRow W0 b 2 (Value.slice (some ⟨nb, 0, none⟩) 2 nc))) (fun _ _ => ?_)
 refine Wl.imp (L' := (pt b 81 (bkC 2 (Value.slice (some ⟨nb, 0, none⟩) 2 nc))) :: (pt nb 126 ([Value.slice (some ⟨pb, 0, none⟩) (z1.length + 1 + 1 + 1) pc, Value.int .i64 0, Value.slice (some ⟨qb, 0, none⟩) (z2.length + 1 + 1 + 1) qc, Value.int .i64 1] ++ rest)) :: (slp 3 1 pb pc ((List.replicate (z1.length + 1 + 1 + 1) ((-1000) : Int)).map intV)) :: (slp 3 1 qb qc ((List.replicate (z2.length + 1 + 1 + 1) ((-1001) : Int)).map intV)) :: F) (fun _ h => h) ?_
 refine Wl.q (v := Value.bool true) (q_pick (t := true) rfl rfl) ?_
 refine Wl.q (v := Value.bool true) (q_assign rfl) ?_
 refine Wl.done ?_
 refine Wx.go ?_
 refine Wc.ret ?_
 refine Wx.fin1 rfl (.inl rfl) (fun w hs => ?_)
 exact ⟨(), trivial, rfl, (st_drop (st_drop (st_drop (st_drop (st_pull [0, 0, 0, 0] hs)))))⟩

theorem apart_w (W0 : World) (b : Nat) (v pv qv : Value) (z1 z2 : List Int) (hz1 : z1.length ≤ 1000) (hz2 : z2.length ≤ 1000) :
  Con Tryz.prog W0 15 #[.pointer (some ⟨b, 0, none⟩)] [pt b 81 (bkC 2 v), sl 126 2 v 2 [pv, .int .i64 0, qv, .int .i64 1], sl 3 1 pv z1.length (z1.map intV), sl 3 1 qv z2.length (z2.map intV)] (X := Unit) (fun _ => True) (fun _ => .bool true) (fun _ => []) := fun w F hs => by
 rcases st_sl_cases (st_at (i := 1) hs rfl) with ⟨_, e2, _⟩ | ⟨nb, nc, e1, e2, _, hs'⟩
 · omega
 obtain ⟨cur, ⟨_, c2, _, c4⟩, hp⟩ := slp_open hs'
 subst e1
 have hc : cur = [pv, .int .i64 0, qv, .int .i64 1] ++ cur.drop 4 := (List.take_append_drop 4 cur).symm.trans (congrArg (· ++ cur.drop 4) c4)
 rw [hc] at hp
 exact apart_n W0 b nb nc (cur.drop 4) pv qv z1 z2 hz1 hz2 w F (st_swap hp)

end Go.Proofs.YtjjghmkjdgogiaaGreatDoor
