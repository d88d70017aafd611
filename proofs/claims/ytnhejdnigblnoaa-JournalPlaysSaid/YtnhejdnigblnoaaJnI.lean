/- Contracts of the calls. -/
import Derived.Test.YtnhejdnigblnoaaJnH
namespace Go.Proofs.Ytnhejdnigblnoaa
open Go Go.SL Go.Dk Go.Jn Go.RowKit
set_option linter.unusedVariables false
set_option maxRecDepth 8000

set_option maxHeartbeats 8000000 in
theorem do_some (W0 : World) (pp q wp : Nat) (d : DS) (o : OpJ) (hob : o.b < 256) (hw : WF d) (hn1 : 1 ≤ d.secs.length) (hsn : d.since.length < 1000000000000) (hct : d.count < 4000000000000000000) (j jr : Nat) (js : JS) (h4 : 4 ≤ d.secs.length) (hq0 : 0 ≤ js.seq) (hq : js.seq < 9223372036854775807) :
  Con Try.prog W0 26 #[Value.pointer (some ⟨wp, 0, none⟩), Value.agg #[Value.int .i64 o.kind, Value.int .i64 o.n, Value.int .u8 ((o.b : Nat) : Int), Value.int .i64 o.bits]] [pt wp 58 [Value.pointer (some ⟨pp, 0, none⟩), Value.pointer (some ⟨j, 0, none⟩), Value.pointer (some ⟨q, 0, none⟩), Value.pointer (some ⟨jr, 0, none⟩)], isJ j pp js, pt jr 79 [Value.pointer (some ⟨q, 0, none⟩), Value.string ((js : JS).text), Value.int .i64 ((js : JS).seq), Value.bool ((js : JS).dead)], isDisk pp d, isRef q d] (X := Unit) (fun _ => True) (fun _ => .bool true) (fun _ => [wJ pp q wp (opJ d (some js) o).2, isDisk pp (opJ d (some js) o).1, isRef q (opJ d (some js) o).1]) := by
 refine Con.of (args := [Value.pointer (some ⟨wp, 0, none⟩), Value.agg #[Value.int .i64 o.kind, Value.int .i64 o.n, Value.int .u8 ((o.b : Nat) : Int), Value.int .i64 o.bits]]) Try.func26 rfl Try.ntmps26 rfl (fun F => ?_)
 have hm := hw.l.len
 have hsince : d.since.length < 1099511627776 := by omega
 have hcount : d.count < 4611686018427387904 := by omega
 have hh : half d.secs ≤ 2047 := by unfold half; omega
 show Wc _ W0 _ _ _ _ _ ((pt wp 58 [Value.pointer (some ⟨pp, 0, none⟩), Value.pointer (some ⟨j, 0, none⟩), Value.pointer (some ⟨q, 0, none⟩), Value.pointer (some ⟨jr, 0, none⟩)]) :: (isJ j pp js) :: (pt jr 79 [Value.pointer (some ⟨q, 0, none⟩), Value.string ((js : JS).text), Value.int .i64 ((js : JS).seq), Value.bool ((js : JS).dead)]) :: (isDisk pp d) :: (isRef q d) :: F)
 refine Wc.seq ?_
 refine Wc.region ?_
 refine Wl.e (e_box (x := .tmp 1) (vs := [Value.int .i64 o.kind, Value.int .i64 o.n, Value.int .u8 ((o.b : Nat) : Int), Value.int .i64 o.bits]) rfl) (fun ob _ => ?_)
 refine Wl.imp (L' := (pt ob 61 [Value.int .i64 o.kind, Value.int .i64 o.n, Value.int .u8 ((o.b : Nat) : Int), Value.int .i64 o.bits]) :: (pt wp 58 [Value.pointer (some ⟨pp, 0, none⟩), Value.pointer (some ⟨j, 0, none⟩), Value.pointer (some ⟨q, 0, none⟩), Value.pointer (some ⟨jr, 0, none⟩)]) :: (isJ j pp js) :: (pt jr 79 [Value.pointer (some ⟨q, 0, none⟩), Value.string ((js : JS).text), Value.int .i64 ((js : JS).seq), Value.bool ((js : JS).dead)]) :: (isDisk pp d) :: (isRef q d) :: F) (fun _ h => h) ?_
 refine Wl.q (v := Value.bool false) (q_assign rfl) ?_
 refine Wl.done ?_
 refine Wx.go ?_
 refine Wc.seq ?_
 refine Wc.seq ?_
 refine Wc.region ?_
 refine Wl.q (v := Value.pointer (some ⟨ob, 0, none⟩)) (q_field (m := 0) fo_61_0 rfl rfl) ?_
 refine Wl.q (v := Value.int .i64 o.kind) (q_load sc_3 rfl (.cel (i := 0) rfl rfl)) ?_
 refine Wl.done ?_
 refine Wx.go ?_
 refine Wc.block ?_
 refine Wc.seq ?_
 refine Wc.region ?_
 by_cases hk0 : o.kind = 0
 ·
  refine Wl.q (v := Value.bool true) (q_eql (r := true) rfl rfl (decide_eq_true hk0)) ?_
  refine Wl.q (v := Value.bool true) (q_assign rfl) ?_
  refine Wl.done ?_
  refine Wx.go ?_
  refine Wc.yes rfl ?_
  refine Wc.seq ?_
  refine Wc.seq ?_
  refine Wc.region ?_
  refine Wl.q (v := Value.pointer (some ⟨wp, 0, none⟩)) (q_move rfl) ?_
  refine Wl.q (v := Value.pointer (some ⟨wp, 0, none⟩)) (q_nil_ptr rfl) ?_
  refine Wl.q (v := Value.pointer (some ⟨wp, 3, none⟩)) (q_field (m := 3) fo_58_3 rfl rfl) ?_
  refine Wl.q (v := Value.pointer (some ⟨jr, 0, none⟩)) (q_load sc_56 rfl (.cel (i := 1) rfl rfl)) ?_
  refine Wl.q (v := Value.bool false) (q_eql_nil (r := false) rfl rfl Try.underlying56 rfl) ?_
  refine Wl.done ?_
  refine Wx.go ?_
  refine Wc.no rfl ?_
  refine Wc.skip ?_
  refine Wx.go ?_
  refine Wc.seq ?_
  refine Wc.drawsS [19] ((pt ob 61 [Value.int .i64 o.kind, Value.int .i64 o.n, Value.int .u8 ((o.b : Nat) : Int), Value.int .i64 o.bits]) :: (pt wp 58 [Value.pointer (some ⟨pp, 0, none⟩), Value.pointer (some ⟨j, 0, none⟩), Value.pointer (some ⟨q, 0, none⟩), Value.pointer (some ⟨jr, 0, none⟩)]) :: []) (by kernel_rfl) ?_
  refine Wr.pure (v := Value.pointer (some ⟨wp, 0, none⟩)) 0 rfl (by kernel_rfl) (.inr (fun _ h => st_take [0, 0] h)) (.inl ⟨rfl, fun _ => q_move rfl⟩) ?_
  refine Wr.pure (v := Value.pointer (some ⟨wp, 0, none⟩)) 1 rfl (by kernel_rfl) (.inr (fun _ h => st_take [0, 0] h)) (.inl ⟨rfl, fun _ => q_nil_ptr rfl⟩) ?_
  refine Wr.pure (v := Value.pointer (some ⟨wp, 1, none⟩)) 2 rfl (by kernel_rfl) (.inr (fun _ h => st_take [0, 0] h)) (.inl ⟨rfl, fun _ => q_field (m := 1) fo_58_1 rfl rfl⟩) ?_
  refine Wr.take (v := Value.pointer (some ⟨j, 0, none⟩)) 3 rfl (by kernel_rfl) (fun _ h => st_take [0, 0] h) (.inl ⟨rfl, q_load sc_22 rfl (.cel (i := 1) rfl rfl)⟩) ?_
  refine Wr.pure (v := Value.pointer (some ⟨ob, 1, none⟩)) 4 rfl (by kernel_rfl) (.inr (fun _ h => st_take [0, 0] h)) (.inl ⟨rfl, fun _ => q_field (m := 1) fo_61_1 rfl rfl⟩) ?_
  refine Wr.take (v := Value.int .i64 o.n) 5 rfl (by kernel_rfl) (fun _ h => st_take [0, 0] h) (.inl ⟨rfl, q_load sc_3 rfl (.cel (i := 0) rfl rfl)⟩) ?_
  refine Wr.pure (v := Value.pointer (some ⟨ob, 2, none⟩)) 6 rfl (by kernel_rfl) (.inr (fun _ h => st_take [0, 0] h)) (.inl ⟨rfl, fun _ => q_field (m := 2) fo_61_2 rfl rfl⟩) ?_
  refine Wr.take (v := Value.int .u8 ((o.b : Nat) : Int)) 7 rfl (by kernel_rfl) (fun _ h => st_take [0, 0] h) (.inl ⟨rfl, q_load sc_5 rfl (.cel (i := 0) rfl rfl)⟩) ?_
  refine Wr.pure (v := Value.pointer (some ⟨wp, 0, none⟩)) 10 rfl (by kernel_rfl) (.inr (fun _ h => st_take [0, 0] h)) (.inl ⟨rfl, fun _ => q_move rfl⟩) ?_
  refine Wr.pure (v := Value.pointer (some ⟨wp, 0, none⟩)) 11 rfl (by kernel_rfl) (.inr (fun _ h => st_take [0, 0] h)) (.inl ⟨rfl, fun _ => q_nil_ptr rfl⟩) ?_
  refine Wr.pure (v := Value.pointer (some ⟨wp, 3, none⟩)) 12 rfl (by kernel_rfl) (.inr (fun _ h => st_take [0, 0] h)) (.inl ⟨rfl, fun _ => q_field (m := 3) fo_58_3 rfl rfl⟩) ?_
  refine Wr.take (v := Value.pointer (some ⟨jr, 0, none⟩)) 13 rfl (by kernel_rfl) (fun _ h => st_take [0, 0] h) (.inl ⟨rfl, q_load sc_56 rfl (.cel (i := 1) rfl rfl)⟩) ?_
  refine Wr.pure (v := Value.pointer (some ⟨ob, 1, none⟩)) 14 rfl (by kernel_rfl) (.inr (fun _ h => st_take [0, 0] h)) (.inl ⟨rfl, fun _ => q_field (m := 1) fo_61_1 rfl rfl⟩) ?_
  refine Wr.take (v := Value.int .i64 o.n) 15 rfl (by kernel_rfl) (fun _ h => st_take [0, 0] h) (.inl ⟨rfl, q_load sc_3 rfl (.cel (i := 0) rfl rfl)⟩) ?_
  refine Wr.pure (v := Value.pointer (some ⟨ob, 2, none⟩)) 16 rfl (by kernel_rfl) (.inr (fun _ h => st_take [0, 0] h)) (.inl ⟨rfl, fun _ => q_field (m := 2) fo_61_2 rfl rfl⟩) ?_
  refine Wr.take (v := Value.int .u8 ((o.b : Nat) : Int)) 17 rfl (by kernel_rfl) (fun _ h => st_take [0, 0] h) (.inl ⟨rfl, q_load sc_5 rfl (.cel (i := 0) rfl rfl)⟩) ?_
  refine Wr.e 8 (by kernel_rfl) rfl (e_call (F := (pt ob 61 [Value.int .i64 o.kind, Value.int .i64 o.n, Value.int .u8 ((o.b : Nat) : Int), Value.int .i64 o.bits]) :: (pt wp 58 [Value.pointer (some ⟨pp, 0, none⟩), Value.pointer (some ⟨j, 0, none⟩), Value.pointer (some ⟨q, 0, none⟩), Value.pointer (some ⟨jr, 0, none⟩)]) :: (isJ j pp js) :: (pt jr 79 [Value.pointer (some ⟨q, 0, none⟩), Value.string ((js : JS).text), Value.int .i64 ((js : JS).seq), Value.bool ((js : JS).dead)]) :: (isDisk pp d) :: (isRef q d) :: F) (args := [Value.int .i64 o.n, Value.int .u8 ((o.b : Nat) : Int)]) Try.call17 rfl (text_c W0 o.n o.b (by first | decide | assumption | omega))) (.inr fun _ _ _ h => st_take [0, 0] h) (fun _ _ => ?_)
  refine Wr.imp (L' := (pt ob 61 [Value.int .i64 o.kind, Value.int .i64 o.n, Value.int .u8 ((o.b : Nat) : Int), Value.int .i64 o.bits]) :: (pt wp 58 [Value.pointer (some ⟨pp, 0, none⟩), Value.pointer (some ⟨j, 0, none⟩), Value.pointer (some ⟨q, 0, none⟩), Value.pointer (some ⟨jr, 0, none⟩)]) :: (isJ j pp js) :: (pt jr 79 [Value.pointer (some ⟨q, 0, none⟩), Value.string ((js : JS).text), Value.int .i64 ((js : JS).seq), Value.bool ((js : JS).dead)]) :: (isDisk pp d) :: (isRef q d) :: F) (fun _ h => h) ?_
  refine Wr.imp (L' := (isJ j pp js) :: (isDisk pp d) :: (pt ob 61 [Value.int .i64 o.kind, Value.int .i64 o.n, Value.int .u8 ((o.b : Nat) : Int), Value.int .i64 o.bits]) :: (pt wp 58 [Value.pointer (some ⟨pp, 0, none⟩), Value.pointer (some ⟨j, 0, none⟩), Value.pointer (some ⟨q, 0, none⟩), Value.pointer (some ⟨jr, 0, none⟩)]) :: (pt jr 79 [Value.pointer (some ⟨q, 0, none⟩), Value.string ((js : JS).text), Value.int .i64 ((js : JS).seq), Value.bool ((js : JS).dead)]) :: (isRef q d) :: F) (fun _ h => st_pull [2, 3] h) ?_
  refine Wr.e 9 (by kernel_rfl) rfl (e_call (F := (pt ob 61 [Value.int .i64 o.kind, Value.int .i64 o.n, Value.int .u8 ((o.b : Nat) : Int), Value.int .i64 o.bits]) :: (pt wp 58 [Value.pointer (some ⟨pp, 0, none⟩), Value.pointer (some ⟨j, 0, none⟩), Value.pointer (some ⟨q, 0, none⟩), Value.pointer (some ⟨jr, 0, none⟩)]) :: (pt jr 79 [Value.pointer (some ⟨q, 0, none⟩), Value.string ((js : JS).text), Value.int .i64 ((js : JS).seq), Value.bool ((js : JS).dead)]) :: (isRef q d) :: F) (args := [Value.pointer (some ⟨j, 0, none⟩), Value.string (txt o.n o.b)]) Try.call9 rfl (Put_c W0 j pp js d (txt o.n o.b) hw hn1 hsn hct hq0 hq)) (.inr fun _ _ _ h => st_take [2, 2] h) (fun _ _ => ?_)
  refine Wr.imp (L' := (isJ j pp ((JS.put js d (txt o.n o.b)).2.2)) :: (isDisk pp ((JS.put js d (txt o.n o.b)).2.1)) :: (pt ob 61 [Value.int .i64 o.kind, Value.int .i64 o.n, Value.int .u8 ((o.b : Nat) : Int), Value.int .i64 o.bits]) :: (pt wp 58 [Value.pointer (some ⟨pp, 0, none⟩), Value.pointer (some ⟨j, 0, none⟩), Value.pointer (some ⟨q, 0, none⟩), Value.pointer (some ⟨jr, 0, none⟩)]) :: (pt jr 79 [Value.pointer (some ⟨q, 0, none⟩), Value.string ((js : JS).text), Value.int .i64 ((js : JS).seq), Value.bool ((js : JS).dead)]) :: (isRef q d) :: F) (fun _ h => h) ?_
  refine Wr.e 18 (by kernel_rfl) rfl (e_call (F := (isJ j pp ((JS.put js d (txt o.n o.b)).2.2)) :: (isDisk pp ((JS.put js d (txt o.n o.b)).2.1)) :: (pt ob 61 [Value.int .i64 o.kind, Value.int .i64 o.n, Value.int .u8 ((o.b : Nat) : Int), Value.int .i64 o.bits]) :: (pt wp 58 [Value.pointer (some ⟨pp, 0, none⟩), Value.pointer (some ⟨j, 0, none⟩), Value.pointer (some ⟨q, 0, none⟩), Value.pointer (some ⟨jr, 0, none⟩)]) :: (pt jr 79 [Value.pointer (some ⟨q, 0, none⟩), Value.string ((js : JS).text), Value.int .i64 ((js : JS).seq), Value.bool ((js : JS).dead)]) :: (isRef q d) :: F) (args := [Value.int .i64 o.n, Value.int .u8 ((o.b : Nat) : Int)]) Try.call17 rfl (text_c W0 o.n o.b (by first | decide | assumption | omega))) (.inr fun _ _ _ h => st_take [2, 2] h) (fun _ _ => ?_)
  refine Wr.imp (L' := (isJ j pp ((JS.put js d (txt o.n o.b)).2.2)) :: (isDisk pp ((JS.put js d (txt o.n o.b)).2.1)) :: (pt ob 61 [Value.int .i64 o.kind, Value.int .i64 o.n, Value.int .u8 ((o.b : Nat) : Int), Value.int .i64 o.bits]) :: (pt wp 58 [Value.pointer (some ⟨pp, 0, none⟩), Value.pointer (some ⟨j, 0, none⟩), Value.pointer (some ⟨q, 0, none⟩), Value.pointer (some ⟨jr, 0, none⟩)]) :: (pt jr 79 [Value.pointer (some ⟨q, 0, none⟩), Value.string ((js : JS).text), Value.int .i64 ((js : JS).seq), Value.bool ((js : JS).dead)]) :: (isRef q d) :: F) (fun _ h => h) ?_
  refine Wr.imp (L' := (pt jr 79 [Value.pointer (some ⟨q, 0, none⟩), Value.string ((js : JS).text), Value.int .i64 ((js : JS).seq), Value.bool ((js : JS).dead)]) :: (isRef q d) :: (isJ j pp ((JS.put js d (txt o.n o.b)).2.2)) :: (isDisk pp ((JS.put js d (txt o.n o.b)).2.1)) :: (pt ob 61 [Value.int .i64 o.kind, Value.int .i64 o.n, Value.int .u8 ((o.b : Nat) : Int), Value.int .i64 o.bits]) :: (pt wp 58 [Value.pointer (some ⟨pp, 0, none⟩), Value.pointer (some ⟨j, 0, none⟩), Value.pointer (some ⟨q, 0, none⟩), Value.pointer (some ⟨jr, 0, none⟩)]) :: F) (fun _ h => st_pull [4, 4] h) ?_
  refine Wr.e 19 (by kernel_rfl) rfl (e_call (F := (isJ j pp ((JS.put js d (txt o.n o.b)).2.2)) :: (isDisk pp ((JS.put js d (txt o.n o.b)).2.1)) :: (pt ob 61 [Value.int .i64 o.kind, Value.int .i64 o.n, Value.int .u8 ((o.b : Nat) : Int), Value.int .i64 o.bits]) :: (pt wp 58 [Value.pointer (some ⟨pp, 0, none⟩), Value.pointer (some ⟨j, 0, none⟩), Value.pointer (some ⟨q, 0, none⟩), Value.pointer (some ⟨jr, 0, none⟩)]) :: F) (args := [Value.pointer (some ⟨jr, 0, none⟩), Value.string (txt o.n o.b)]) Try.call42 rfl (rPut_c W0 jr q js d (txt o.n o.b) hw h4 hsn hct hq0 hq)) (.inl (by kernel_rfl)) (fun _ _ => ?_)
  refine Wr.imp (L' := (pt jr 79 [Value.pointer (some ⟨q, 0, none⟩), Value.string (((JS.put js d (txt o.n o.b)).2.2 : JS).text), Value.int .i64 (((JS.put js d (txt o.n o.b)).2.2 : JS).seq), Value.bool (((JS.put js d (txt o.n o.b)).2.2 : JS).dead)]) :: (isRef q ((JS.put js d (txt o.n o.b)).2.1)) :: (isJ j pp ((JS.put js d (txt o.n o.b)).2.2)) :: (isDisk pp ((JS.put js d (txt o.n o.b)).2.1)) :: (pt ob 61 [Value.int .i64 o.kind, Value.int .i64 o.n, Value.int .u8 ((o.b : Nat) : Int), Value.int .i64 o.bits]) :: (pt wp 58 [Value.pointer (some ⟨pp, 0, none⟩), Value.pointer (some ⟨j, 0, none⟩), Value.pointer (some ⟨q, 0, none⟩), Value.pointer (some ⟨jr, 0, none⟩)]) :: F) (fun _ h => h) ?_
  refine Wr.rebaseS [] ((pt jr 79 [Value.pointer (some ⟨q, 0, none⟩), Value.string (((JS.put js d (txt o.n o.b)).2.2 : JS).text), Value.int .i64 (((JS.put js d (txt o.n o.b)).2.2 : JS).seq), Value.bool (((JS.put js d (txt o.n o.b)).2.2 : JS).dead)]) :: (isRef q ((JS.put js d (txt o.n o.b)).2.1)) :: (isJ j pp ((JS.put js d (txt o.n o.b)).2.2)) :: (isDisk pp ((JS.put js d (txt o.n o.b)).2.1)) :: (pt ob 61 [Value.int .i64 o.kind, Value.int .i64 o.n, Value.int .u8 ((o.b : Nat) : Int), Value.int .i64 o.bits]) :: (pt wp 58 [Value.pointer (some ⟨pp, 0, none⟩), Value.pointer (some ⟨j, 0, none⟩), Value.pointer (some ⟨q, 0, none⟩), Value.pointer (some ⟨jr, 0, none⟩)]) :: []) (by kernel_rfl) ?_
  refine Wr.pure (v := Value.bool true) 20 rfl (by kernel_rfl) (.inr (fun _ h => st_take [0, 0, 0, 0, 0, 0] h)) (.inl ⟨rfl, fun _ => q_eql (r := true) rfl rfl (decide_eq_true (rfl))⟩) ?_
  refine Wr.pure (v := Value.bool true) 21 rfl (by kernel_rfl) (.inr (fun _ h => st_take [0, 0, 0, 0, 0, 0] h)) (.inl ⟨rfl, fun _ => q_move rfl⟩) ?_
  refine Wr.pure (v := Value.pointer (some ⟨wp, 0, none⟩)) 22 rfl (by kernel_rfl) (.inr (fun _ h => st_take [0, 0, 0, 0, 0, 0] h)) (.inl ⟨rfl, fun _ => q_move rfl⟩) ?_
  refine Wr.pure (v := Value.pointer (some ⟨wp, 0, none⟩)) 23 rfl (by kernel_rfl) (.inr (fun _ h => st_take [0, 0, 0, 0, 0, 0] h)) (.inl ⟨rfl, fun _ => q_nil_ptr rfl⟩) ?_
  refine Wr.pure (v := Value.pointer (some ⟨wp, 1, none⟩)) 24 rfl (by kernel_rfl) (.inr (fun _ h => st_take [0, 0, 0, 0, 0, 0] h)) (.inl ⟨rfl, fun _ => q_field (m := 1) fo_58_1 rfl rfl⟩) ?_
  refine Wr.take (v := Value.pointer (some ⟨j, 0, none⟩)) 25 rfl (by kernel_rfl) (fun _ h => st_take [0, 0, 0, 0, 0, 0] h) (.inl ⟨rfl, q_load sc_22 rfl (.cel (i := 5) rfl rfl)⟩) ?_
  refine Wr.pure (v := Value.pointer (some ⟨wp, 0, none⟩)) 27 rfl (by kernel_rfl) (.inr (fun _ h => st_take [0, 0, 0, 0, 0, 0] h)) (.inl ⟨rfl, fun _ => q_move rfl⟩) ?_
  refine Wr.pure (v := Value.pointer (some ⟨wp, 0, none⟩)) 28 rfl (by kernel_rfl) (.inr (fun _ h => st_take [0, 0, 0, 0, 0, 0] h)) (.inl ⟨rfl, fun _ => q_nil_ptr rfl⟩) ?_
  refine Wr.pure (v := Value.pointer (some ⟨wp, 3, none⟩)) 29 rfl (by kernel_rfl) (.inr (fun _ h => st_take [0, 0, 0, 0, 0, 0] h)) (.inl ⟨rfl, fun _ => q_field (m := 3) fo_58_3 rfl rfl⟩) ?_
  refine Wr.take (v := Value.pointer (some ⟨jr, 0, none⟩)) 30 rfl (by kernel_rfl) (fun _ h => st_take [0, 0, 0, 0, 0, 0] h) (.inl ⟨rfl, q_load sc_56 rfl (.cel (i := 5) rfl rfl)⟩) ?_
  refine Wr.pure (v := Value.pointer (some ⟨jr, 0, none⟩)) 31 rfl (by kernel_rfl) (.inr (fun _ h => st_take [0, 0, 0, 0, 0, 0] h)) (.inl ⟨rfl, fun _ => q_nil_ptr rfl⟩) ?_
  refine Wr.pure (v := Value.pointer (some ⟨jr, 2, none⟩)) 32 rfl (by kernel_rfl) (.inr (fun _ h => st_take [0, 0, 0, 0, 0, 0] h)) (.inl ⟨rfl, fun _ => q_field (m := 2) fo_79_2 rfl rfl⟩) ?_
  refine Wr.take (v := Value.int .i64 (((JS.put js d (txt o.n o.b)).2.2 : JS).seq)) 33 rfl (by kernel_rfl) (fun _ h => st_take [0, 0, 0, 0, 0, 0] h) (.inl ⟨rfl, q_load sc_3 rfl (.cel (i := 0) rfl rfl)⟩) ?_
  refine Wr.imp (L' := (isJ j pp ((JS.put js d (txt o.n o.b)).2.2)) :: (pt jr 79 [Value.pointer (some ⟨q, 0, none⟩), Value.string (((JS.put js d (txt o.n o.b)).2.2 : JS).text), Value.int .i64 (((JS.put js d (txt o.n o.b)).2.2 : JS).seq), Value.bool (((JS.put js d (txt o.n o.b)).2.2 : JS).dead)]) :: (isRef q ((JS.put js d (txt o.n o.b)).2.1)) :: (isDisk pp ((JS.put js d (txt o.n o.b)).2.1)) :: (pt ob 61 [Value.int .i64 o.kind, Value.int .i64 o.n, Value.int .u8 ((o.b : Nat) : Int), Value.int .i64 o.bits]) :: (pt wp 58 [Value.pointer (some ⟨pp, 0, none⟩), Value.pointer (some ⟨j, 0, none⟩), Value.pointer (some ⟨q, 0, none⟩), Value.pointer (some ⟨jr, 0, none⟩)]) :: F) (fun _ h => st_pull [2] h) ?_
  refine Wr.e 26 (by kernel_rfl) rfl (e_call (F := (pt jr 79 [Value.pointer (some ⟨q, 0, none⟩), Value.string (((JS.put js d (txt o.n o.b)).2.2 : JS).text), Value.int .i64 (((JS.put js d (txt o.n o.b)).2.2 : JS).seq), Value.bool (((JS.put js d (txt o.n o.b)).2.2 : JS).dead)]) :: (isRef q ((JS.put js d (txt o.n o.b)).2.1)) :: (isDisk pp ((JS.put js d (txt o.n o.b)).2.1)) :: (pt ob 61 [Value.int .i64 o.kind, Value.int .i64 o.n, Value.int .u8 ((o.b : Nat) : Int), Value.int .i64 o.bits]) :: (pt wp 58 [Value.pointer (some ⟨pp, 0, none⟩), Value.pointer (some ⟨j, 0, none⟩), Value.pointer (some ⟨q, 0, none⟩), Value.pointer (some ⟨jr, 0, none⟩)]) :: F) (args := [Value.pointer (some ⟨j, 0, none⟩)]) Try.call10 rfl (seq_in W0 j pp ((JS.put js d (txt o.n o.b)).2.2 : JS).text ((JS.put js d (txt o.n o.b)).2.2 : JS).seq ((JS.put js d (txt o.n o.b)).2.2 : JS).dead)) (.inr fun _ _ _ h => st_take [1, 1, 0, 0, 0, 0] h) (fun _ _ => ?_)
  refine Wr.imp (L' := (isJ j pp ((JS.put js d (txt o.n o.b)).2.2)) :: (pt jr 79 [Value.pointer (some ⟨q, 0, none⟩), Value.string (((JS.put js d (txt o.n o.b)).2.2 : JS).text), Value.int .i64 (((JS.put js d (txt o.n o.b)).2.2 : JS).seq), Value.bool (((JS.put js d (txt o.n o.b)).2.2 : JS).dead)]) :: (isRef q ((JS.put js d (txt o.n o.b)).2.1)) :: (isDisk pp ((JS.put js d (txt o.n o.b)).2.1)) :: (pt ob 61 [Value.int .i64 o.kind, Value.int .i64 o.n, Value.int .u8 ((o.b : Nat) : Int), Value.int .i64 o.bits]) :: (pt wp 58 [Value.pointer (some ⟨pp, 0, none⟩), Value.pointer (some ⟨j, 0, none⟩), Value.pointer (some ⟨q, 0, none⟩), Value.pointer (some ⟨jr, 0, none⟩)]) :: F) (fun _ h => h) ?_
  refine Wr.pure (v := Value.bool true) 34 rfl (by kernel_rfl) (.inr (fun _ h => st_take [1, 1, 0, 0, 0, 0] h)) (.inl ⟨rfl, fun _ => q_eql (r := true) rfl rfl (decide_eq_true (rfl))⟩) ?_
  refine Wr.pure (v := Value.bool true) 35 rfl (by kernel_rfl) (.inr (fun _ h => st_take [1, 1, 0, 0, 0, 0] h)) (.inl ⟨rfl, fun _ => q_pick (t := true) rfl rfl⟩) ?_
  refine Wr.pure (v := Value.bool true) 36 rfl (by kernel_rfl) (.inr (fun _ h => st_take [1, 1, 0, 0, 0, 0] h)) (.inl ⟨rfl, fun _ => q_assign rfl⟩) ?_
  refine Wr.done (by kernel_rfl) ?_
  refine Wx.go ?_
  refine Wc.ret ?_
  refine Wx.blockRet ?_
  refine Wx.thenRet ?_
  refine Wx.fin1 rfl (.inl rfl) (fun w hs => ?_)
  have e : opJ d (some js) o = (((JS.put js d (txt o.n o.b)).2.1), (some ((JS.put js d (txt o.n o.b)).2.2))) := by unfold opJ; rw [if_pos hk0]
  exact ⟨(), trivial, rfl, by rw [e]; exact wJ_mk (j := j) (jr := jr) (js := ((JS.put js d (txt o.n o.b)).2.2)) (st_pull [4, 0, 0, 1, 0] (st_drop (st_pull [4] hs)))⟩
 ·
  refine Wl.q (v := Value.bool false) (q_eql (r := false) rfl rfl (decide_eq_false hk0)) ?_
  refine Wl.q (v := Value.bool false) (q_assign rfl) ?_
  refine Wl.done ?_
  refine Wx.go ?_
  refine Wc.no rfl ?_
  refine Wc.seq ?_
  refine Wc.region ?_
  by_cases hk1 : o.kind = 1
  ·
   refine Wl.q (v := Value.bool true) (q_eql (r := true) rfl rfl (decide_eq_true hk1)) ?_
   refine Wl.q (v := Value.bool true) (q_assign rfl) ?_
   refine Wl.done ?_
   refine Wx.go ?_
   refine Wc.yes rfl ?_
   refine Wc.seq ?_
   refine Wc.region ?_
   rcases hop : openD d with ⟨c, _ | ⟨t, n⟩⟩
   ·
    refine Wl.q (v := Value.pointer (some ⟨wp, 0, none⟩)) (q_move rfl) ?_
    refine Wl.q (v := Value.pointer (some ⟨wp, 0, none⟩)) (q_nil_ptr rfl) ?_
    refine Wl.q (v := Value.pointer (some ⟨wp, 0, none⟩)) (q_field (m := 0) fo_58_0 rfl rfl) ?_
    refine Wl.q (v := Value.pointer (some ⟨pp, 0, none⟩)) (q_load sc_23 rfl (.cel (i := 1) rfl rfl)) ?_
    refine Wl.imp (L' := (isDisk pp d) :: (pt ob 61 [Value.int .i64 o.kind, Value.int .i64 o.n, Value.int .u8 ((o.b : Nat) : Int), Value.int .i64 o.bits]) :: (pt wp 58 [Value.pointer (some ⟨pp, 0, none⟩), Value.pointer (some ⟨j, 0, none⟩), Value.pointer (some ⟨q, 0, none⟩), Value.pointer (some ⟨jr, 0, none⟩)]) :: (isJ j pp js) :: (pt jr 79 [Value.pointer (some ⟨q, 0, none⟩), Value.string ((js : JS).text), Value.int .i64 ((js : JS).seq), Value.bool ((js : JS).dead)]) :: (isRef q d) :: F) (fun _ h => st_pull [4] h) ?_
    refine Wl.e (e_call (F := (pt ob 61 [Value.int .i64 o.kind, Value.int .i64 o.n, Value.int .u8 ((o.b : Nat) : Int), Value.int .i64 o.bits]) :: (pt wp 58 [Value.pointer (some ⟨pp, 0, none⟩), Value.pointer (some ⟨j, 0, none⟩), Value.pointer (some ⟨q, 0, none⟩), Value.pointer (some ⟨jr, 0, none⟩)]) :: (isJ j pp js) :: (pt jr 79 [Value.pointer (some ⟨q, 0, none⟩), Value.string ((js : JS).text), Value.int .i64 ((js : JS).seq), Value.bool ((js : JS).dead)]) :: (isRef q d) :: F) (args := [Value.pointer (some ⟨pp, 0, none⟩)]) Try.call12 rfl (open_bad W0 pp d hw hn1 hsince hop)) (fun _ _ => ?_)
    refine Wl.imp (L' := (isDisk pp d) :: (pt ob 61 [Value.int .i64 o.kind, Value.int .i64 o.n, Value.int .u8 ((o.b : Nat) : Int), Value.int .i64 o.bits]) :: (pt wp 58 [Value.pointer (some ⟨pp, 0, none⟩), Value.pointer (some ⟨j, 0, none⟩), Value.pointer (some ⟨q, 0, none⟩), Value.pointer (some ⟨jr, 0, none⟩)]) :: (isJ j pp js) :: (pt jr 79 [Value.pointer (some ⟨q, 0, none⟩), Value.string ((js : JS).text), Value.int .i64 ((js : JS).seq), Value.bool ((js : JS).dead)]) :: (isRef q d) :: F) (fun _ h => h) ?_
    refine Wl.q (v := Value.tuple #[Value.pointer none, Value.int .i64 c]) (q_move rfl) ?_
    refine Wl.q (v := Value.pointer none) (q_extract (i := 0) rfl rfl) ?_
    refine Wl.q (v := Value.int .i64 c) (q_extract (i := 1) rfl rfl) ?_
    refine Wl.q (v := Value.pointer none) (q_assign rfl) ?_
    refine Wl.q (v := Value.int .i64 c) (q_assign rfl) ?_
    refine Wl.done ?_
    refine Wx.go ?_
    refine Wc.seq ?_
    refine Wc.region ?_
    refine Wl.q (v := Value.pointer (some ⟨wp, 0, none⟩)) (q_move rfl) ?_
    refine Wl.q (v := Value.pointer (some ⟨wp, 0, none⟩)) (q_nil_ptr rfl) ?_
    refine Wl.q (v := Value.pointer (some ⟨wp, 2, none⟩)) (q_field (m := 2) fo_58_2 rfl rfl) ?_
    refine Wl.q (v := Value.pointer (some ⟨q, 0, none⟩)) (q_load sc_52 rfl (.cel (i := 2) rfl rfl)) ?_
    refine Wl.imp (L' := (isRef q d) :: (isDisk pp d) :: (pt ob 61 [Value.int .i64 o.kind, Value.int .i64 o.n, Value.int .u8 ((o.b : Nat) : Int), Value.int .i64 o.bits]) :: (pt wp 58 [Value.pointer (some ⟨pp, 0, none⟩), Value.pointer (some ⟨j, 0, none⟩), Value.pointer (some ⟨q, 0, none⟩), Value.pointer (some ⟨jr, 0, none⟩)]) :: (isJ j pp js) :: (pt jr 79 [Value.pointer (some ⟨q, 0, none⟩), Value.string ((js : JS).text), Value.int .i64 ((js : JS).seq), Value.bool ((js : JS).dead)]) :: F) (fun _ h => st_pull [5] h) ?_
    refine Wl.e (e_call (F := (isDisk pp d) :: (pt ob 61 [Value.int .i64 o.kind, Value.int .i64 o.n, Value.int .u8 ((o.b : Nat) : Int), Value.int .i64 o.bits]) :: (pt wp 58 [Value.pointer (some ⟨pp, 0, none⟩), Value.pointer (some ⟨j, 0, none⟩), Value.pointer (some ⟨q, 0, none⟩), Value.pointer (some ⟨jr, 0, none⟩)]) :: (isJ j pp js) :: (pt jr 79 [Value.pointer (some ⟨q, 0, none⟩), Value.string ((js : JS).text), Value.int .i64 ((js : JS).seq), Value.bool ((js : JS).dead)]) :: F) (args := [Value.pointer (some ⟨q, 0, none⟩)]) Try.call43 rfl (ropen_bad W0 q d hw hn1 hsince hop)) (fun _ _ => ?_)
    refine Wl.imp (L' := (isRef q d) :: (isDisk pp d) :: (pt ob 61 [Value.int .i64 o.kind, Value.int .i64 o.n, Value.int .u8 ((o.b : Nat) : Int), Value.int .i64 o.bits]) :: (pt wp 58 [Value.pointer (some ⟨pp, 0, none⟩), Value.pointer (some ⟨j, 0, none⟩), Value.pointer (some ⟨q, 0, none⟩), Value.pointer (some ⟨jr, 0, none⟩)]) :: (isJ j pp js) :: (pt jr 79 [Value.pointer (some ⟨q, 0, none⟩), Value.string ((js : JS).text), Value.int .i64 ((js : JS).seq), Value.bool ((js : JS).dead)]) :: F) (fun _ h => h) ?_
    refine Wl.q (v := Value.tuple #[Value.pointer none, Value.int .i64 c]) (q_move rfl) ?_
    refine Wl.q (v := Value.pointer none) (q_extract (i := 0) rfl rfl) ?_
    refine Wl.q (v := Value.int .i64 c) (q_extract (i := 1) rfl rfl) ?_
    refine Wl.q (v := Value.pointer none) (q_assign rfl) ?_
    refine Wl.q (v := Value.int .i64 c) (q_assign rfl) ?_
    refine Wl.done ?_
    refine Wx.go ?_
    refine Wc.seq ?_
    refine Wc.region ?_
    refine Wl.q (v := Value.pointer (some ⟨wp, 0, none⟩)) (q_move rfl) ?_
    refine Wl.q (v := Value.pointer (some ⟨wp, 0, none⟩)) (q_move rfl) ?_
    refine Wl.q (v := Value.pointer none) (q_move rfl) ?_
    refine Wl.q (v := Value.pointer none) (q_move rfl) ?_
    refine Wl.q (v := Value.pointer (some ⟨wp, 0, none⟩)) (q_nil_ptr rfl) ?_
    refine Wl.q (v := Value.pointer (some ⟨wp, 1, none⟩)) (q_field (m := 1) fo_58_1 rfl rfl) ?_
    refine Wl.e (e_store (i := 3) (v := Value.pointer none) sz_22 rfl rfl (fun _ _ => rfl) rfl (by simp)) (fun _ _ => ?_)
    refine Wl.imp (L' := (isRef q d) :: (isDisk pp d) :: (pt ob 61 [Value.int .i64 o.kind, Value.int .i64 o.n, Value.int .u8 ((o.b : Nat) : Int), Value.int .i64 o.bits]) :: (pt wp 58 [Value.pointer (some ⟨pp, 0, none⟩), Value.pointer none, Value.pointer (some ⟨q, 0, none⟩), Value.pointer (some ⟨jr, 0, none⟩)]) :: (isJ j pp js) :: (pt jr 79 [Value.pointer (some ⟨q, 0, none⟩), Value.string ((js : JS).text), Value.int .i64 ((js : JS).seq), Value.bool ((js : JS).dead)]) :: F) (fun _ h => h) ?_
    refine Wl.q (v := Value.pointer (some ⟨wp, 0, none⟩)) (q_nil_ptr rfl) ?_
    refine Wl.q (v := Value.pointer (some ⟨wp, 3, none⟩)) (q_field (m := 3) fo_58_3 rfl rfl) ?_
    refine Wl.e (e_store (i := 3) (v := Value.pointer none) sz_56 rfl rfl (fun _ _ => rfl) rfl (by simp)) (fun _ _ => ?_)
    refine Wl.imp (L' := (isRef q d) :: (isDisk pp d) :: (pt ob 61 [Value.int .i64 o.kind, Value.int .i64 o.n, Value.int .u8 ((o.b : Nat) : Int), Value.int .i64 o.bits]) :: (pt wp 58 [Value.pointer (some ⟨pp, 0, none⟩), Value.pointer none, Value.pointer (some ⟨q, 0, none⟩), Value.pointer none]) :: (isJ j pp js) :: (pt jr 79 [Value.pointer (some ⟨q, 0, none⟩), Value.string ((js : JS).text), Value.int .i64 ((js : JS).seq), Value.bool ((js : JS).dead)]) :: F) (fun _ h => h) ?_
    refine Wl.done ?_
    refine Wx.go ?_
    refine Wc.seq ?_
    refine Wc.region ?_
    refine Wl.q (v := Value.int .i64 c) (q_move rfl) ?_
    refine Wl.q (v := Value.int .i64 c) (q_move rfl) ?_
    refine Wl.q (v := Value.bool true) (q_eql (r := true) rfl rfl (decide_eq_true (rfl))) ?_
    refine Wl.q (v := Value.bool true) (q_move rfl) ?_
    refine Wl.q (v := Value.pointer none) (q_move rfl) ?_
    refine Wl.q (v := Value.bool true) (q_eql_nil (r := true) rfl rfl Try.underlying22 rfl) ?_
    refine Wl.q (v := Value.pointer none) (q_move rfl) ?_
    refine Wl.q (v := Value.bool true) (q_eql_nil (r := true) rfl rfl Try.underlying56 rfl) ?_
    refine Wl.q (v := Value.bool true) (q_eql_bool (r := true) rfl rfl Try.underlying4 rfl) ?_
    refine Wl.q (v := Value.bool true) (q_pick (t := true) rfl rfl) ?_
    refine Wl.q (v := Value.bool true) (q_assign rfl) ?_
    refine Wl.done ?_
    refine Wx.go ?_
    refine Wc.ret ?_
    refine Wx.blockRet ?_
    refine Wx.thenRet ?_
    refine Wx.fin1 rfl (.inl rfl) (fun w hs => ?_)
    have e : opJ d (some js) o = (d, none) := by unfold opJ; rw [if_neg hk0, if_pos hk1, hop]
    exact ⟨(), trivial, rfl, by rw [e]; exact (st_pull [2, 1, 0] (st_drop (st_drop (st_drop (st_pull [2, 3, 3] hs)))))⟩
   ·
    obtain rfl : c = 0 := open_err hop
    refine Wl.q (v := Value.pointer (some ⟨wp, 0, none⟩)) (q_move rfl) ?_
    refine Wl.q (v := Value.pointer (some ⟨wp, 0, none⟩)) (q_nil_ptr rfl) ?_
    refine Wl.q (v := Value.pointer (some ⟨wp, 0, none⟩)) (q_field (m := 0) fo_58_0 rfl rfl) ?_
    refine Wl.q (v := Value.pointer (some ⟨pp, 0, none⟩)) (q_load sc_23 rfl (.cel (i := 1) rfl rfl)) ?_
    refine Wl.imp (L' := (isDisk pp d) :: (pt ob 61 [Value.int .i64 o.kind, Value.int .i64 o.n, Value.int .u8 ((o.b : Nat) : Int), Value.int .i64 o.bits]) :: (pt wp 58 [Value.pointer (some ⟨pp, 0, none⟩), Value.pointer (some ⟨j, 0, none⟩), Value.pointer (some ⟨q, 0, none⟩), Value.pointer (some ⟨jr, 0, none⟩)]) :: (isJ j pp js) :: (pt jr 79 [Value.pointer (some ⟨q, 0, none⟩), Value.string ((js : JS).text), Value.int .i64 ((js : JS).seq), Value.bool ((js : JS).dead)]) :: (isRef q d) :: F) (fun _ h => st_pull [4] h) ?_
    refine Wl.e (e_call (F := (pt ob 61 [Value.int .i64 o.kind, Value.int .i64 o.n, Value.int .u8 ((o.b : Nat) : Int), Value.int .i64 o.bits]) :: (pt wp 58 [Value.pointer (some ⟨pp, 0, none⟩), Value.pointer (some ⟨j, 0, none⟩), Value.pointer (some ⟨q, 0, none⟩), Value.pointer (some ⟨jr, 0, none⟩)]) :: (isJ j pp js) :: (pt jr 79 [Value.pointer (some ⟨q, 0, none⟩), Value.string ((js : JS).text), Value.int .i64 ((js : JS).seq), Value.bool ((js : JS).dead)]) :: (isRef q d) :: F) (args := [Value.pointer (some ⟨pp, 0, none⟩)]) Try.call12 rfl (open_ok W0 pp d hw hn1 hsince hop)) (fun j2 _ => ?_)
    refine Wl.imp (L' := (isJ j2 pp ⟨t, n, false⟩) :: (isDisk pp d) :: (pt ob 61 [Value.int .i64 o.kind, Value.int .i64 o.n, Value.int .u8 ((o.b : Nat) : Int), Value.int .i64 o.bits]) :: (pt wp 58 [Value.pointer (some ⟨pp, 0, none⟩), Value.pointer (some ⟨j, 0, none⟩), Value.pointer (some ⟨q, 0, none⟩), Value.pointer (some ⟨jr, 0, none⟩)]) :: (isJ j pp js) :: (pt jr 79 [Value.pointer (some ⟨q, 0, none⟩), Value.string ((js : JS).text), Value.int .i64 ((js : JS).seq), Value.bool ((js : JS).dead)]) :: (isRef q d) :: F) (fun _ h => h) ?_
    refine Wl.q (v := Value.tuple #[Value.pointer (some ⟨j2, 0, none⟩), Value.int .i64 0]) (q_move rfl) ?_
    refine Wl.q (v := Value.pointer (some ⟨j2, 0, none⟩)) (q_extract (i := 0) rfl rfl) ?_
    refine Wl.q (v := Value.int .i64 0) (q_extract (i := 1) rfl rfl) ?_
    refine Wl.q (v := Value.pointer (some ⟨j2, 0, none⟩)) (q_assign rfl) ?_
    refine Wl.q (v := Value.int .i64 0) (q_assign rfl) ?_
    refine Wl.done ?_
    refine Wx.go ?_
    refine Wc.seq ?_
    refine Wc.region ?_
    refine Wl.q (v := Value.pointer (some ⟨wp, 0, none⟩)) (q_move rfl) ?_
    refine Wl.q (v := Value.pointer (some ⟨wp, 0, none⟩)) (q_nil_ptr rfl) ?_
    refine Wl.q (v := Value.pointer (some ⟨wp, 2, none⟩)) (q_field (m := 2) fo_58_2 rfl rfl) ?_
    refine Wl.q (v := Value.pointer (some ⟨q, 0, none⟩)) (q_load sc_52 rfl (.cel (i := 3) rfl rfl)) ?_
    refine Wl.imp (L' := (isRef q d) :: (isJ j2 pp ⟨t, n, false⟩) :: (isDisk pp d) :: (pt ob 61 [Value.int .i64 o.kind, Value.int .i64 o.n, Value.int .u8 ((o.b : Nat) : Int), Value.int .i64 o.bits]) :: (pt wp 58 [Value.pointer (some ⟨pp, 0, none⟩), Value.pointer (some ⟨j, 0, none⟩), Value.pointer (some ⟨q, 0, none⟩), Value.pointer (some ⟨jr, 0, none⟩)]) :: (isJ j pp js) :: (pt jr 79 [Value.pointer (some ⟨q, 0, none⟩), Value.string ((js : JS).text), Value.int .i64 ((js : JS).seq), Value.bool ((js : JS).dead)]) :: F) (fun _ h => st_pull [6] h) ?_
    refine Wl.e (e_call (F := (isJ j2 pp ⟨t, n, false⟩) :: (isDisk pp d) :: (pt ob 61 [Value.int .i64 o.kind, Value.int .i64 o.n, Value.int .u8 ((o.b : Nat) : Int), Value.int .i64 o.bits]) :: (pt wp 58 [Value.pointer (some ⟨pp, 0, none⟩), Value.pointer (some ⟨j, 0, none⟩), Value.pointer (some ⟨q, 0, none⟩), Value.pointer (some ⟨jr, 0, none⟩)]) :: (isJ j pp js) :: (pt jr 79 [Value.pointer (some ⟨q, 0, none⟩), Value.string ((js : JS).text), Value.int .i64 ((js : JS).seq), Value.bool ((js : JS).dead)]) :: F) (args := [Value.pointer (some ⟨q, 0, none⟩)]) Try.call43 rfl (ropen_ok W0 q d hw hn1 hsince hop)) (fun jr2 _ => ?_)
    refine Wl.imp (L' := (pt jr2 79 [Value.pointer (some ⟨q, 0, none⟩), Value.string ((⟨t, n, false⟩ : JS).text), Value.int .i64 ((⟨t, n, false⟩ : JS).seq), Value.bool ((⟨t, n, false⟩ : JS).dead)]) :: (isRef q d) :: (isJ j2 pp ⟨t, n, false⟩) :: (isDisk pp d) :: (pt ob 61 [Value.int .i64 o.kind, Value.int .i64 o.n, Value.int .u8 ((o.b : Nat) : Int), Value.int .i64 o.bits]) :: (pt wp 58 [Value.pointer (some ⟨pp, 0, none⟩), Value.pointer (some ⟨j, 0, none⟩), Value.pointer (some ⟨q, 0, none⟩), Value.pointer (some ⟨jr, 0, none⟩)]) :: (isJ j pp js) :: (pt jr 79 [Value.pointer (some ⟨q, 0, none⟩), Value.string ((js : JS).text), Value.int .i64 ((js : JS).seq), Value.bool ((js : JS).dead)]) :: F) (fun _ h => h) ?_
    refine Wl.q (v := Value.tuple #[Value.pointer (some ⟨jr2, 0, none⟩), Value.int .i64 0]) (q_move rfl) ?_
    refine Wl.q (v := Value.pointer (some ⟨jr2, 0, none⟩)) (q_extract (i := 0) rfl rfl) ?_
    refine Wl.q (v := Value.int .i64 0) (q_extract (i := 1) rfl rfl) ?_
    refine Wl.q (v := Value.pointer (some ⟨jr2, 0, none⟩)) (q_assign rfl) ?_
    refine Wl.q (v := Value.int .i64 0) (q_assign rfl) ?_
    refine Wl.done ?_
    refine Wx.go ?_
    refine Wc.seq ?_
    refine Wc.region ?_
    refine Wl.q (v := Value.pointer (some ⟨wp, 0, none⟩)) (q_move rfl) ?_
    refine Wl.q (v := Value.pointer (some ⟨wp, 0, none⟩)) (q_move rfl) ?_
    refine Wl.q (v := Value.pointer (some ⟨j2, 0, none⟩)) (q_move rfl) ?_
    refine Wl.q (v := Value.pointer (some ⟨jr2, 0, none⟩)) (q_move rfl) ?_
    refine Wl.q (v := Value.pointer (some ⟨wp, 0, none⟩)) (q_nil_ptr rfl) ?_
    refine Wl.q (v := Value.pointer (some ⟨wp, 1, none⟩)) (q_field (m := 1) fo_58_1 rfl rfl) ?_
    refine Wl.e (e_store (i := 5) (v := Value.pointer (some ⟨j2, 0, none⟩)) sz_22 rfl rfl (fun _ _ => rfl) rfl (by simp)) (fun _ _ => ?_)
    refine Wl.imp (L' := (pt jr2 79 [Value.pointer (some ⟨q, 0, none⟩), Value.string ((⟨t, n, false⟩ : JS).text), Value.int .i64 ((⟨t, n, false⟩ : JS).seq), Value.bool ((⟨t, n, false⟩ : JS).dead)]) :: (isRef q d) :: (isJ j2 pp ⟨t, n, false⟩) :: (isDisk pp d) :: (pt ob 61 [Value.int .i64 o.kind, Value.int .i64 o.n, Value.int .u8 ((o.b : Nat) : Int), Value.int .i64 o.bits]) :: (pt wp 58 [Value.pointer (some ⟨pp, 0, none⟩), Value.pointer (some ⟨j2, 0, none⟩), Value.pointer (some ⟨q, 0, none⟩), Value.pointer (some ⟨jr, 0, none⟩)]) :: (isJ j pp js) :: (pt jr 79 [Value.pointer (some ⟨q, 0, none⟩), Value.string ((js : JS).text), Value.int .i64 ((js : JS).seq), Value.bool ((js : JS).dead)]) :: F) (fun _ h => h) ?_
    refine Wl.q (v := Value.pointer (some ⟨wp, 0, none⟩)) (q_nil_ptr rfl) ?_
    refine Wl.q (v := Value.pointer (some ⟨wp, 3, none⟩)) (q_field (m := 3) fo_58_3 rfl rfl) ?_
    refine Wl.e (e_store (i := 5) (v := Value.pointer (some ⟨jr2, 0, none⟩)) sz_56 rfl rfl (fun _ _ => rfl) rfl (by simp)) (fun _ _ => ?_)
    refine Wl.imp (L' := (pt jr2 79 [Value.pointer (some ⟨q, 0, none⟩), Value.string ((⟨t, n, false⟩ : JS).text), Value.int .i64 ((⟨t, n, false⟩ : JS).seq), Value.bool ((⟨t, n, false⟩ : JS).dead)]) :: (isRef q d) :: (isJ j2 pp ⟨t, n, false⟩) :: (isDisk pp d) :: (pt ob 61 [Value.int .i64 o.kind, Value.int .i64 o.n, Value.int .u8 ((o.b : Nat) : Int), Value.int .i64 o.bits]) :: (pt wp 58 [Value.pointer (some ⟨pp, 0, none⟩), Value.pointer (some ⟨j2, 0, none⟩), Value.pointer (some ⟨q, 0, none⟩), Value.pointer (some ⟨jr2, 0, none⟩)]) :: (isJ j pp js) :: (pt jr 79 [Value.pointer (some ⟨q, 0, none⟩), Value.string ((js : JS).text), Value.int .i64 ((js : JS).seq), Value.bool ((js : JS).dead)]) :: F) (fun _ h => h) ?_
    refine Wl.done ?_
    refine Wx.go ?_
    refine Wc.seq ?_
    refine Wc.region ?_
    refine Wl.q (v := Value.int .i64 0) (q_move rfl) ?_
    refine Wl.q (v := Value.int .i64 0) (q_move rfl) ?_
    refine Wl.q (v := Value.bool true) (q_eql (r := true) rfl rfl (decide_eq_true (by decide))) ?_
    refine Wl.q (v := Value.bool true) (q_move rfl) ?_
    refine Wl.q (v := Value.pointer (some ⟨j2, 0, none⟩)) (q_move rfl) ?_
    refine Wl.q (v := Value.bool false) (q_eql_nil (r := false) rfl rfl Try.underlying22 rfl) ?_
    refine Wl.q (v := Value.pointer (some ⟨jr2, 0, none⟩)) (q_move rfl) ?_
    refine Wl.q (v := Value.bool false) (q_eql_nil (r := false) rfl rfl Try.underlying56 rfl) ?_
    refine Wl.q (v := Value.bool true) (q_eql_bool (r := true) rfl rfl Try.underlying4 rfl) ?_
    refine Wl.q (v := Value.bool true) (q_pick (t := true) rfl rfl) ?_
    refine Wl.q (v := Value.bool true) (q_assign rfl) ?_
    refine Wl.done ?_
    refine Wx.go ?_
    refine Wc.ret ?_
    refine Wx.blockRet ?_
    refine Wx.thenRet ?_
    refine Wx.fin1 rfl (.inl rfl) (fun w hs => ?_)
    have e : opJ d (some js) o = (d, (some (⟨t, n, false⟩))) := by unfold opJ; rw [if_neg hk0, if_pos hk1, hop]
    exact ⟨(), trivial, rfl, by rw [e]; exact wJ_mk (j := j2) (jr := jr2) (js := (⟨t, n, false⟩)) (st_pull [4, 2, 0, 1, 0] (st_drop (st_drop (st_drop (st_pull [4, 5, 5] hs)))))⟩
  ·
   refine Wl.q (v := Value.bool false) (q_eql (r := false) rfl rfl (decide_eq_false hk1)) ?_
   refine Wl.q (v := Value.bool false) (q_assign rfl) ?_
   refine Wl.done ?_
   refine Wx.go ?_
   refine Wc.no rfl ?_
   refine Wc.seq ?_
   refine Wc.region ?_
   by_cases hk2 : o.kind = 2
   ·
    refine Wl.q (v := Value.bool true) (q_eql (r := true) rfl rfl (decide_eq_true hk2)) ?_
    refine Wl.q (v := Value.bool true) (q_assign rfl) ?_
    refine Wl.done ?_
    refine Wx.go ?_
    refine Wc.yes rfl ?_
    refine Wc.seq ?_
    refine Wc.seq ?_
    refine Wc.region ?_
    refine Wl.q (v := Value.pointer (some ⟨wp, 0, none⟩)) (q_move rfl) ?_
    refine Wl.q (v := Value.pointer (some ⟨wp, 0, none⟩)) (q_nil_ptr rfl) ?_
    refine Wl.q (v := Value.pointer (some ⟨wp, 3, none⟩)) (q_field (m := 3) fo_58_3 rfl rfl) ?_
    refine Wl.q (v := Value.pointer (some ⟨jr, 0, none⟩)) (q_load sc_56 rfl (.cel (i := 1) rfl rfl)) ?_
    refine Wl.q (v := Value.bool false) (q_eql_nil (r := false) rfl rfl Try.underlying56 rfl) ?_
    refine Wl.done ?_
    refine Wx.go ?_
    refine Wc.no rfl ?_
    refine Wc.skip ?_
    refine Wx.go ?_
    refine Wc.seq ?_
    refine Wc.region ?_
    refine Wl.q (v := Value.pointer (some ⟨wp, 0, none⟩)) (q_move rfl) ?_
    refine Wl.q (v := Value.pointer (some ⟨wp, 0, none⟩)) (q_nil_ptr rfl) ?_
    refine Wl.q (v := Value.pointer (some ⟨wp, 1, none⟩)) (q_field (m := 1) fo_58_1 rfl rfl) ?_
    refine Wl.q (v := Value.pointer (some ⟨j, 0, none⟩)) (q_load sc_22 rfl (.cel (i := 1) rfl rfl)) ?_
    refine Wl.imp (L' := (isJ j pp js) :: (isDisk pp d) :: (pt ob 61 [Value.int .i64 o.kind, Value.int .i64 o.n, Value.int .u8 ((o.b : Nat) : Int), Value.int .i64 o.bits]) :: (pt wp 58 [Value.pointer (some ⟨pp, 0, none⟩), Value.pointer (some ⟨j, 0, none⟩), Value.pointer (some ⟨q, 0, none⟩), Value.pointer (some ⟨jr, 0, none⟩)]) :: (pt jr 79 [Value.pointer (some ⟨q, 0, none⟩), Value.string ((js : JS).text), Value.int .i64 ((js : JS).seq), Value.bool ((js : JS).dead)]) :: (isRef q d) :: F) (fun _ h => st_pull [2, 3] h) ?_
    refine Wl.e (e_call (F := (pt ob 61 [Value.int .i64 o.kind, Value.int .i64 o.n, Value.int .u8 ((o.b : Nat) : Int), Value.int .i64 o.bits]) :: (pt wp 58 [Value.pointer (some ⟨pp, 0, none⟩), Value.pointer (some ⟨j, 0, none⟩), Value.pointer (some ⟨q, 0, none⟩), Value.pointer (some ⟨jr, 0, none⟩)]) :: (pt jr 79 [Value.pointer (some ⟨q, 0, none⟩), Value.string ((js : JS).text), Value.int .i64 ((js : JS).seq), Value.bool ((js : JS).dead)]) :: (isRef q d) :: F) (args := [Value.pointer (some ⟨j, 0, none⟩)]) Try.call8 rfl (get_c W0 j pp js d)) (fun _ _ => ?_)
    refine Wl.imp (L' := (isJ j pp js) :: (isDisk pp d) :: (pt ob 61 [Value.int .i64 o.kind, Value.int .i64 o.n, Value.int .u8 ((o.b : Nat) : Int), Value.int .i64 o.bits]) :: (pt wp 58 [Value.pointer (some ⟨pp, 0, none⟩), Value.pointer (some ⟨j, 0, none⟩), Value.pointer (some ⟨q, 0, none⟩), Value.pointer (some ⟨jr, 0, none⟩)]) :: (pt jr 79 [Value.pointer (some ⟨q, 0, none⟩), Value.string ((js : JS).text), Value.int .i64 ((js : JS).seq), Value.bool ((js : JS).dead)]) :: (isRef q d) :: F) (fun _ h => h) ?_
    refine Wl.q (v := Value.tuple #[Value.string ((JS.get js d).1), Value.int .i64 ((JS.get js d).2)]) (q_move rfl) ?_
    refine Wl.q (v := Value.string ((JS.get js d).1)) (q_extract (i := 0) rfl rfl) ?_
    refine Wl.q (v := Value.int .i64 ((JS.get js d).2)) (q_extract (i := 1) rfl rfl) ?_
    refine Wl.q (v := Value.string ((JS.get js d).1)) (q_assign rfl) ?_
    refine Wl.q (v := Value.int .i64 ((JS.get js d).2)) (q_assign rfl) ?_
    refine Wl.done ?_
    refine Wx.go ?_
    refine Wc.seq ?_
    refine Wc.region ?_
    refine Wl.q (v := Value.pointer (some ⟨wp, 0, none⟩)) (q_move rfl) ?_
    refine Wl.q (v := Value.pointer (some ⟨wp, 0, none⟩)) (q_nil_ptr rfl) ?_
    refine Wl.q (v := Value.pointer (some ⟨wp, 3, none⟩)) (q_field (m := 3) fo_58_3 rfl rfl) ?_
    refine Wl.q (v := Value.pointer (some ⟨jr, 0, none⟩)) (q_load sc_56 rfl (.cel (i := 3) rfl rfl)) ?_
    refine Wl.imp (L' := (pt jr 79 [Value.pointer (some ⟨q, 0, none⟩), Value.string ((js : JS).text), Value.int .i64 ((js : JS).seq), Value.bool ((js : JS).dead)]) :: (isRef q d) :: (isJ j pp js) :: (isDisk pp d) :: (pt ob 61 [Value.int .i64 o.kind, Value.int .i64 o.n, Value.int .u8 ((o.b : Nat) : Int), Value.int .i64 o.bits]) :: (pt wp 58 [Value.pointer (some ⟨pp, 0, none⟩), Value.pointer (some ⟨j, 0, none⟩), Value.pointer (some ⟨q, 0, none⟩), Value.pointer (some ⟨jr, 0, none⟩)]) :: F) (fun _ h => st_pull [4, 4] h) ?_
    refine Wl.e (e_call (F := (isJ j pp js) :: (isDisk pp d) :: (pt ob 61 [Value.int .i64 o.kind, Value.int .i64 o.n, Value.int .u8 ((o.b : Nat) : Int), Value.int .i64 o.bits]) :: (pt wp 58 [Value.pointer (some ⟨pp, 0, none⟩), Value.pointer (some ⟨j, 0, none⟩), Value.pointer (some ⟨q, 0, none⟩), Value.pointer (some ⟨jr, 0, none⟩)]) :: F) (args := [Value.pointer (some ⟨jr, 0, none⟩)]) Try.call44 rfl (rget_c W0 jr q js d)) (fun _ _ => ?_)
    refine Wl.imp (L' := (pt jr 79 [Value.pointer (some ⟨q, 0, none⟩), Value.string ((js : JS).text), Value.int .i64 ((js : JS).seq), Value.bool ((js : JS).dead)]) :: (isRef q d) :: (isJ j pp js) :: (isDisk pp d) :: (pt ob 61 [Value.int .i64 o.kind, Value.int .i64 o.n, Value.int .u8 ((o.b : Nat) : Int), Value.int .i64 o.bits]) :: (pt wp 58 [Value.pointer (some ⟨pp, 0, none⟩), Value.pointer (some ⟨j, 0, none⟩), Value.pointer (some ⟨q, 0, none⟩), Value.pointer (some ⟨jr, 0, none⟩)]) :: F) (fun _ h => h) ?_
    refine Wl.q (v := Value.tuple #[Value.string ((JS.get js d).1), Value.int .i64 ((JS.get js d).2)]) (q_move rfl) ?_
    refine Wl.q (v := Value.string ((JS.get js d).1)) (q_extract (i := 0) rfl rfl) ?_
    refine Wl.q (v := Value.int .i64 ((JS.get js d).2)) (q_extract (i := 1) rfl rfl) ?_
    refine Wl.q (v := Value.string ((JS.get js d).1)) (q_assign rfl) ?_
    refine Wl.q (v := Value.int .i64 ((JS.get js d).2)) (q_assign rfl) ?_
    refine Wl.done ?_
    refine Wx.go ?_
    refine Wc.seq ?_
    refine Wc.drawsS [] ((pt ob 61 [Value.int .i64 o.kind, Value.int .i64 o.n, Value.int .u8 ((o.b : Nat) : Int), Value.int .i64 o.bits]) :: (pt wp 58 [Value.pointer (some ⟨pp, 0, none⟩), Value.pointer (some ⟨j, 0, none⟩), Value.pointer (some ⟨q, 0, none⟩), Value.pointer (some ⟨jr, 0, none⟩)]) :: []) (by kernel_rfl) ?_
    refine Wr.pure (v := Value.string ((JS.get js d).1)) 0 rfl (by kernel_rfl) (.inr (fun _ h => st_take [4, 4] h)) (.inl ⟨rfl, fun _ => q_move rfl⟩) ?_
    refine Wr.pure (v := Value.string ((JS.get js d).1)) 1 rfl (by kernel_rfl) (.inr (fun _ h => st_take [4, 4] h)) (.inl ⟨rfl, fun _ => q_move rfl⟩) ?_
    refine Wr.pure (v := Value.bool true) 2 rfl (by kernel_rfl) (.inr (fun _ h => st_take [4, 4] h)) (.inl ⟨rfl, fun _ => q_eql_str (r := true) rfl rfl (text_true (rfl))⟩) ?_
    refine Wr.pure (v := Value.bool true) 3 rfl (by kernel_rfl) (.inr (fun _ h => st_take [4, 4] h)) (.inl ⟨rfl, fun _ => q_move rfl⟩) ?_
    refine Wr.pure (v := Value.int .i64 ((JS.get js d).2)) 4 rfl (by kernel_rfl) (.inr (fun _ h => st_take [4, 4] h)) (.inl ⟨rfl, fun _ => q_move rfl⟩) ?_
    refine Wr.pure (v := Value.int .i64 ((JS.get js d).2)) 5 rfl (by kernel_rfl) (.inr (fun _ h => st_take [4, 4] h)) (.inl ⟨rfl, fun _ => q_move rfl⟩) ?_
    refine Wr.pure (v := Value.bool true) 6 rfl (by kernel_rfl) (.inr (fun _ h => st_take [4, 4] h)) (.inl ⟨rfl, fun _ => q_eql (r := true) rfl rfl (decide_eq_true (rfl))⟩) ?_
    refine Wr.pure (v := Value.bool true) 7 rfl (by kernel_rfl) (.inr (fun _ h => st_take [4, 4] h)) (.inl ⟨rfl, fun _ => q_pick (t := true) rfl rfl⟩) ?_
    refine Wr.pure (v := Value.bool true) 8 rfl (by kernel_rfl) (.inr (fun _ h => st_take [4, 4] h)) (.inl ⟨rfl, fun _ => q_move rfl⟩) ?_
    refine Wr.pure (v := Value.pointer (some ⟨wp, 0, none⟩)) 9 rfl (by kernel_rfl) (.inr (fun _ h => st_take [4, 4] h)) (.inl ⟨rfl, fun _ => q_move rfl⟩) ?_
    refine Wr.pure (v := Value.pointer (some ⟨wp, 0, none⟩)) 10 rfl (by kernel_rfl) (.inr (fun _ h => st_take [4, 4] h)) (.inl ⟨rfl, fun _ => q_nil_ptr rfl⟩) ?_
    refine Wr.pure (v := Value.pointer (some ⟨wp, 1, none⟩)) 11 rfl (by kernel_rfl) (.inr (fun _ h => st_take [4, 4] h)) (.inl ⟨rfl, fun _ => q_field (m := 1) fo_58_1 rfl rfl⟩) ?_
    refine Wr.take (v := Value.pointer (some ⟨j, 0, none⟩)) 12 rfl (by kernel_rfl) (fun _ h => st_take [4, 4] h) (.inl ⟨rfl, q_load sc_22 rfl (.cel (i := 1) rfl rfl)⟩) ?_
    refine Wr.pure (v := Value.pointer (some ⟨wp, 0, none⟩)) 14 rfl (by kernel_rfl) (.inr (fun _ h => st_take [4, 4] h)) (.inl ⟨rfl, fun _ => q_move rfl⟩) ?_
    refine Wr.pure (v := Value.pointer (some ⟨wp, 0, none⟩)) 15 rfl (by kernel_rfl) (.inr (fun _ h => st_take [4, 4] h)) (.inl ⟨rfl, fun _ => q_nil_ptr rfl⟩) ?_
    refine Wr.pure (v := Value.pointer (some ⟨wp, 3, none⟩)) 16 rfl (by kernel_rfl) (.inr (fun _ h => st_take [4, 4] h)) (.inl ⟨rfl, fun _ => q_field (m := 3) fo_58_3 rfl rfl⟩) ?_
    refine Wr.take (v := Value.pointer (some ⟨jr, 0, none⟩)) 17 rfl (by kernel_rfl) (fun _ h => st_take [4, 4] h) (.inl ⟨rfl, q_load sc_56 rfl (.cel (i := 1) rfl rfl)⟩) ?_
    refine Wr.imp (L' := (isJ j pp js) :: (isDisk pp d) :: (pt jr 79 [Value.pointer (some ⟨q, 0, none⟩), Value.string ((js : JS).text), Value.int .i64 ((js : JS).seq), Value.bool ((js : JS).dead)]) :: (isRef q d) :: (pt ob 61 [Value.int .i64 o.kind, Value.int .i64 o.n, Value.int .u8 ((o.b : Nat) : Int), Value.int .i64 o.bits]) :: (pt wp 58 [Value.pointer (some ⟨pp, 0, none⟩), Value.pointer (some ⟨j, 0, none⟩), Value.pointer (some ⟨q, 0, none⟩), Value.pointer (some ⟨jr, 0, none⟩)]) :: F) (fun _ h => st_pull [2, 2] h) ?_
    refine Wr.e 13 (by kernel_rfl) rfl (e_call (F := (pt jr 79 [Value.pointer (some ⟨q, 0, none⟩), Value.string ((js : JS).text), Value.int .i64 ((js : JS).seq), Value.bool ((js : JS).dead)]) :: (isRef q d) :: (pt ob 61 [Value.int .i64 o.kind, Value.int .i64 o.n, Value.int .u8 ((o.b : Nat) : Int), Value.int .i64 o.bits]) :: (pt wp 58 [Value.pointer (some ⟨pp, 0, none⟩), Value.pointer (some ⟨j, 0, none⟩), Value.pointer (some ⟨q, 0, none⟩), Value.pointer (some ⟨jr, 0, none⟩)]) :: F) (args := [Value.pointer (some ⟨j, 0, none⟩)]) Try.call11 rfl (room_in W0 j pp (js : JS).text (js : JS).seq d (js : JS).dead hn1 hm)) (.inr fun _ _ _ h => st_take [4, 4] h) (fun _ _ => ?_)
    refine Wr.imp (L' := (isJ j pp js) :: (isDisk pp d) :: (pt jr 79 [Value.pointer (some ⟨q, 0, none⟩), Value.string ((js : JS).text), Value.int .i64 ((js : JS).seq), Value.bool ((js : JS).dead)]) :: (isRef q d) :: (pt ob 61 [Value.int .i64 o.kind, Value.int .i64 o.n, Value.int .u8 ((o.b : Nat) : Int), Value.int .i64 o.bits]) :: (pt wp 58 [Value.pointer (some ⟨pp, 0, none⟩), Value.pointer (some ⟨j, 0, none⟩), Value.pointer (some ⟨q, 0, none⟩), Value.pointer (some ⟨jr, 0, none⟩)]) :: F) (fun _ h => h) ?_
    refine Wr.imp (L' := (pt jr 79 [Value.pointer (some ⟨q, 0, none⟩), Value.string ((js : JS).text), Value.int .i64 ((js : JS).seq), Value.bool ((js : JS).dead)]) :: (isRef q d) :: (isJ j pp js) :: (isDisk pp d) :: (pt ob 61 [Value.int .i64 o.kind, Value.int .i64 o.n, Value.int .u8 ((o.b : Nat) : Int), Value.int .i64 o.bits]) :: (pt wp 58 [Value.pointer (some ⟨pp, 0, none⟩), Value.pointer (some ⟨j, 0, none⟩), Value.pointer (some ⟨q, 0, none⟩), Value.pointer (some ⟨jr, 0, none⟩)]) :: F) (fun _ h => st_pull [2, 2] h) ?_
    refine Wr.e 18 (by kernel_rfl) rfl (e_call (F := (isJ j pp js) :: (isDisk pp d) :: (pt ob 61 [Value.int .i64 o.kind, Value.int .i64 o.n, Value.int .u8 ((o.b : Nat) : Int), Value.int .i64 o.bits]) :: (pt wp 58 [Value.pointer (some ⟨pp, 0, none⟩), Value.pointer (some ⟨j, 0, none⟩), Value.pointer (some ⟨q, 0, none⟩), Value.pointer (some ⟨jr, 0, none⟩)]) :: F) (args := [Value.pointer (some ⟨jr, 0, none⟩)]) Try.call45 rfl (rjroom_c W0 jr q js d hn1 hm)) (.inr fun _ _ _ h => st_take [4, 4] h) (fun _ _ => ?_)
    refine Wr.imp (L' := (pt jr 79 [Value.pointer (some ⟨q, 0, none⟩), Value.string ((js : JS).text), Value.int .i64 ((js : JS).seq), Value.bool ((js : JS).dead)]) :: (isRef q d) :: (isJ j pp js) :: (isDisk pp d) :: (pt ob 61 [Value.int .i64 o.kind, Value.int .i64 o.n, Value.int .u8 ((o.b : Nat) : Int), Value.int .i64 o.bits]) :: (pt wp 58 [Value.pointer (some ⟨pp, 0, none⟩), Value.pointer (some ⟨j, 0, none⟩), Value.pointer (some ⟨q, 0, none⟩), Value.pointer (some ⟨jr, 0, none⟩)]) :: F) (fun _ h => h) ?_
    refine Wr.pure (v := Value.bool true) 19 rfl (by kernel_rfl) (.inr (fun _ h => st_take [4, 4] h)) (.inl ⟨rfl, fun _ => q_eql (r := true) rfl rfl (decide_eq_true (rfl))⟩) ?_
    refine Wr.pure (v := Value.bool true) 20 rfl (by kernel_rfl) (.inr (fun _ h => st_take [4, 4] h)) (.inl ⟨rfl, fun _ => q_pick (t := true) rfl rfl⟩) ?_
    refine Wr.pure (v := Value.bool true) 21 rfl (by kernel_rfl) (.inr (fun _ h => st_take [4, 4] h)) (.inl ⟨rfl, fun _ => q_assign rfl⟩) ?_
    refine Wr.done (by kernel_rfl) ?_
    refine Wx.go ?_
    refine Wc.ret ?_
    refine Wx.blockRet ?_
    refine Wx.thenRet ?_
    refine Wx.fin1 rfl (.inl rfl) (fun w hs => ?_)
    have e : opJ d (some js) o = (d, (some js)) := by unfold opJ; rw [if_neg hk0, if_neg hk1, if_pos hk2]
    exact ⟨(), trivial, rfl, by rw [e]; exact wJ_mk (j := j) (jr := jr) (js := js) (st_pull [4, 2, 0, 1, 0] (st_drop (st_pull [4] hs)))⟩
   ·
    refine Wl.q (v := Value.bool false) (q_eql (r := false) rfl rfl (decide_eq_false hk2)) ?_
    refine Wl.q (v := Value.bool false) (q_assign rfl) ?_
    refine Wl.done ?_
    refine Wx.go ?_
    refine Wc.no rfl ?_
    refine Wc.seq ?_
    refine Wc.region ?_
    by_cases hk3 : o.kind = 3
    ·
     refine Wl.q (v := Value.bool true) (q_eql (r := true) rfl rfl (decide_eq_true hk3)) ?_
     refine Wl.q (v := Value.bool true) (q_assign rfl) ?_
     refine Wl.done ?_
     refine Wx.go ?_
     refine Wc.yes rfl ?_
     refine Wc.seq ?_
     refine Wc.drawsS [] ((pt ob 61 [Value.int .i64 o.kind, Value.int .i64 o.n, Value.int .u8 ((o.b : Nat) : Int), Value.int .i64 o.bits]) :: (pt wp 58 [Value.pointer (some ⟨pp, 0, none⟩), Value.pointer (some ⟨j, 0, none⟩), Value.pointer (some ⟨q, 0, none⟩), Value.pointer (some ⟨jr, 0, none⟩)]) :: []) (by kernel_rfl) ?_
     refine Wr.pure (v := Value.pointer (some ⟨wp, 0, none⟩)) 0 rfl (by kernel_rfl) (.inr (fun _ h => st_take [0, 0] h)) (.inl ⟨rfl, fun _ => q_move rfl⟩) ?_
     refine Wr.pure (v := Value.pointer (some ⟨wp, 0, none⟩)) 1 rfl (by kernel_rfl) (.inr (fun _ h => st_take [0, 0] h)) (.inl ⟨rfl, fun _ => q_nil_ptr rfl⟩) ?_
     refine Wr.pure (v := Value.pointer (some ⟨wp, 0, none⟩)) 2 rfl (by kernel_rfl) (.inr (fun _ h => st_take [0, 0] h)) (.inl ⟨rfl, fun _ => q_field (m := 0) fo_58_0 rfl rfl⟩) ?_
     refine Wr.take (v := Value.pointer (some ⟨pp, 0, none⟩)) 3 rfl (by kernel_rfl) (fun _ h => st_take [0, 0] h) (.inl ⟨rfl, q_load sc_23 rfl (.cel (i := 1) rfl rfl)⟩) ?_
     refine Wr.pure (v := Value.pointer (some ⟨ob, 1, none⟩)) 4 rfl (by kernel_rfl) (.inr (fun _ h => st_take [0, 0] h)) (.inl ⟨rfl, fun _ => q_field (m := 1) fo_61_1 rfl rfl⟩) ?_
     refine Wr.take (v := Value.int .i64 o.n) 5 rfl (by kernel_rfl) (fun _ h => st_take [0, 0] h) (.inl ⟨rfl, q_load sc_3 rfl (.cel (i := 0) rfl rfl)⟩) ?_
     refine Wr.pure (v := Value.pointer (some ⟨ob, 3, none⟩)) 6 rfl (by kernel_rfl) (.inr (fun _ h => st_take [0, 0] h)) (.inl ⟨rfl, fun _ => q_field (m := 3) fo_61_3 rfl rfl⟩) ?_
     refine Wr.take (v := Value.int .i64 o.bits) 7 rfl (by kernel_rfl) (fun _ h => st_take [0, 0] h) (.inl ⟨rfl, q_load sc_2 rfl (.cel (i := 0) rfl rfl)⟩) ?_
     refine Wr.pure (v := Value.pointer (some ⟨wp, 0, none⟩)) 9 rfl (by kernel_rfl) (.inr (fun _ h => st_take [0, 0] h)) (.inl ⟨rfl, fun _ => q_move rfl⟩) ?_
     refine Wr.pure (v := Value.pointer (some ⟨wp, 0, none⟩)) 10 rfl (by kernel_rfl) (.inr (fun _ h => st_take [0, 0] h)) (.inl ⟨rfl, fun _ => q_nil_ptr rfl⟩) ?_
     refine Wr.pure (v := Value.pointer (some ⟨wp, 2, none⟩)) 11 rfl (by kernel_rfl) (.inr (fun _ h => st_take [0, 0] h)) (.inl ⟨rfl, fun _ => q_field (m := 2) fo_58_2 rfl rfl⟩) ?_
     refine Wr.take (v := Value.pointer (some ⟨q, 0, none⟩)) 12 rfl (by kernel_rfl) (fun _ h => st_take [0, 0] h) (.inl ⟨rfl, q_load sc_52 rfl (.cel (i := 1) rfl rfl)⟩) ?_
     refine Wr.pure (v := Value.pointer (some ⟨ob, 1, none⟩)) 13 rfl (by kernel_rfl) (.inr (fun _ h => st_take [0, 0] h)) (.inl ⟨rfl, fun _ => q_field (m := 1) fo_61_1 rfl rfl⟩) ?_
     refine Wr.take (v := Value.int .i64 o.n) 14 rfl (by kernel_rfl) (fun _ h => st_take [0, 0] h) (.inl ⟨rfl, q_load sc_3 rfl (.cel (i := 0) rfl rfl)⟩) ?_
     refine Wr.pure (v := Value.pointer (some ⟨ob, 3, none⟩)) 15 rfl (by kernel_rfl) (.inr (fun _ h => st_take [0, 0] h)) (.inl ⟨rfl, fun _ => q_field (m := 3) fo_61_3 rfl rfl⟩) ?_
     refine Wr.take (v := Value.int .i64 o.bits) 16 rfl (by kernel_rfl) (fun _ h => st_take [0, 0] h) (.inl ⟨rfl, q_load sc_2 rfl (.cel (i := 0) rfl rfl)⟩) ?_
     refine Wr.imp (L' := (isDisk pp d) :: (pt ob 61 [Value.int .i64 o.kind, Value.int .i64 o.n, Value.int .u8 ((o.b : Nat) : Int), Value.int .i64 o.bits]) :: (pt wp 58 [Value.pointer (some ⟨pp, 0, none⟩), Value.pointer (some ⟨j, 0, none⟩), Value.pointer (some ⟨q, 0, none⟩), Value.pointer (some ⟨jr, 0, none⟩)]) :: (isJ j pp js) :: (pt jr 79 [Value.pointer (some ⟨q, 0, none⟩), Value.string ((js : JS).text), Value.int .i64 ((js : JS).seq), Value.bool ((js : JS).dead)]) :: (isRef q d) :: F) (fun _ h => st_pull [4] h) ?_
     refine Wr.e 8 (by kernel_rfl) rfl (e_call (F := (pt ob 61 [Value.int .i64 o.kind, Value.int .i64 o.n, Value.int .u8 ((o.b : Nat) : Int), Value.int .i64 o.bits]) :: (pt wp 58 [Value.pointer (some ⟨pp, 0, none⟩), Value.pointer (some ⟨j, 0, none⟩), Value.pointer (some ⟨q, 0, none⟩), Value.pointer (some ⟨jr, 0, none⟩)]) :: (isJ j pp js) :: (pt jr 79 [Value.pointer (some ⟨q, 0, none⟩), Value.string ((js : JS).text), Value.int .i64 ((js : JS).seq), Value.bool ((js : JS).dead)]) :: (isRef q d) :: F) (args := [Value.pointer (some ⟨pp, 0, none⟩), Value.int .i64 o.n, Value.int .i64 o.bits]) Try.call21 rfl (cut_c W0 pp d o.n o.bits)) (.inr fun _ _ _ h => st_take [1, 1] h) (fun _ _ => ?_)
     refine Wr.imp (L' := (isDisk pp ((d.cutTo o.n o.bits).2)) :: (pt ob 61 [Value.int .i64 o.kind, Value.int .i64 o.n, Value.int .u8 ((o.b : Nat) : Int), Value.int .i64 o.bits]) :: (pt wp 58 [Value.pointer (some ⟨pp, 0, none⟩), Value.pointer (some ⟨j, 0, none⟩), Value.pointer (some ⟨q, 0, none⟩), Value.pointer (some ⟨jr, 0, none⟩)]) :: (isJ j pp js) :: (pt jr 79 [Value.pointer (some ⟨q, 0, none⟩), Value.string ((js : JS).text), Value.int .i64 ((js : JS).seq), Value.bool ((js : JS).dead)]) :: (isRef q d) :: F) (fun _ h => h) ?_
     refine Wr.imp (L' := (isRef q d) :: (isDisk pp ((d.cutTo o.n o.bits).2)) :: (pt ob 61 [Value.int .i64 o.kind, Value.int .i64 o.n, Value.int .u8 ((o.b : Nat) : Int), Value.int .i64 o.bits]) :: (pt wp 58 [Value.pointer (some ⟨pp, 0, none⟩), Value.pointer (some ⟨j, 0, none⟩), Value.pointer (some ⟨q, 0, none⟩), Value.pointer (some ⟨jr, 0, none⟩)]) :: (isJ j pp js) :: (pt jr 79 [Value.pointer (some ⟨q, 0, none⟩), Value.string ((js : JS).text), Value.int .i64 ((js : JS).seq), Value.bool ((js : JS).dead)]) :: F) (fun _ h => st_pull [5] h) ?_
     refine Wr.e 17 (by kernel_rfl) rfl (e_call (F := (isDisk pp ((d.cutTo o.n o.bits).2)) :: (pt ob 61 [Value.int .i64 o.kind, Value.int .i64 o.n, Value.int .u8 ((o.b : Nat) : Int), Value.int .i64 o.bits]) :: (pt wp 58 [Value.pointer (some ⟨pp, 0, none⟩), Value.pointer (some ⟨j, 0, none⟩), Value.pointer (some ⟨q, 0, none⟩), Value.pointer (some ⟨jr, 0, none⟩)]) :: (isJ j pp js) :: (pt jr 79 [Value.pointer (some ⟨q, 0, none⟩), Value.string ((js : JS).text), Value.int .i64 ((js : JS).seq), Value.bool ((js : JS).dead)]) :: F) (args := [Value.pointer (some ⟨q, 0, none⟩), Value.int .i64 o.n, Value.int .i64 o.bits]) Try.call46 rfl (rcut_c W0 q d o.n o.bits )) (.inr fun _ _ _ h => st_take [2, 2] h) (fun _ _ => ?_)
     refine Wr.imp (L' := (isRef q ((d.cutTo o.n o.bits).2)) :: (isDisk pp ((d.cutTo o.n o.bits).2)) :: (pt ob 61 [Value.int .i64 o.kind, Value.int .i64 o.n, Value.int .u8 ((o.b : Nat) : Int), Value.int .i64 o.bits]) :: (pt wp 58 [Value.pointer (some ⟨pp, 0, none⟩), Value.pointer (some ⟨j, 0, none⟩), Value.pointer (some ⟨q, 0, none⟩), Value.pointer (some ⟨jr, 0, none⟩)]) :: (isJ j pp js) :: (pt jr 79 [Value.pointer (some ⟨q, 0, none⟩), Value.string ((js : JS).text), Value.int .i64 ((js : JS).seq), Value.bool ((js : JS).dead)]) :: F) (fun _ h => h) ?_
     refine Wr.pure (v := Value.bool true) 18 rfl (by kernel_rfl) (.inr (fun _ h => st_take [2, 2] h)) (.inl ⟨rfl, fun _ => q_eql (r := true) rfl rfl (decide_eq_true (rfl))⟩) ?_
     refine Wr.pure (v := Value.bool true) 19 rfl (by kernel_rfl) (.inr (fun _ h => st_take [2, 2] h)) (.inl ⟨rfl, fun _ => q_assign rfl⟩) ?_
     refine Wr.done (by kernel_rfl) ?_
     refine Wx.go ?_
     refine Wc.ret ?_
     refine Wx.blockRet ?_
     refine Wx.thenRet ?_
     refine Wx.fin1 rfl (.inl rfl) (fun w hs => ?_)
     have e : opJ d (some js) o = (((d.cutTo o.n o.bits).2), (some js)) := by unfold opJ; rw [if_neg hk0, if_neg hk1, if_neg hk2, if_pos hk3]
     exact ⟨(), trivial, rfl, by rw [e]; exact wJ_mk (j := j) (jr := jr) (js := js) (st_pull [2, 2, 2, 1, 0] (st_drop (st_pull [2] hs)))⟩
    ·
     refine Wl.q (v := Value.bool false) (q_eql (r := false) rfl rfl (decide_eq_false hk3)) ?_
     refine Wl.q (v := Value.bool false) (q_assign rfl) ?_
     refine Wl.done ?_
     refine Wx.go ?_
     refine Wc.no rfl ?_
     refine Wc.seq ?_
     refine Wc.region ?_
     by_cases hk4 : o.kind = 4
     ·
      refine Wl.q (v := Value.bool true) (q_eql (r := true) rfl rfl (decide_eq_true hk4)) ?_
      refine Wl.q (v := Value.bool true) (q_assign rfl) ?_
      refine Wl.done ?_
      refine Wx.go ?_
      refine Wc.yes rfl ?_
      refine Wc.seq ?_
      refine Wc.drawsS [] ((pt ob 61 [Value.int .i64 o.kind, Value.int .i64 o.n, Value.int .u8 ((o.b : Nat) : Int), Value.int .i64 o.bits]) :: (pt wp 58 [Value.pointer (some ⟨pp, 0, none⟩), Value.pointer (some ⟨j, 0, none⟩), Value.pointer (some ⟨q, 0, none⟩), Value.pointer (some ⟨jr, 0, none⟩)]) :: []) (by kernel_rfl) ?_
      refine Wr.pure (v := Value.pointer (some ⟨wp, 0, none⟩)) 0 rfl (by kernel_rfl) (.inr (fun _ h => st_take [0, 0] h)) (.inl ⟨rfl, fun _ => q_move rfl⟩) ?_
      refine Wr.pure (v := Value.pointer (some ⟨wp, 0, none⟩)) 1 rfl (by kernel_rfl) (.inr (fun _ h => st_take [0, 0] h)) (.inl ⟨rfl, fun _ => q_nil_ptr rfl⟩) ?_
      refine Wr.pure (v := Value.pointer (some ⟨wp, 0, none⟩)) 2 rfl (by kernel_rfl) (.inr (fun _ h => st_take [0, 0] h)) (.inl ⟨rfl, fun _ => q_field (m := 0) fo_58_0 rfl rfl⟩) ?_
      refine Wr.take (v := Value.pointer (some ⟨pp, 0, none⟩)) 3 rfl (by kernel_rfl) (fun _ h => st_take [0, 0] h) (.inl ⟨rfl, q_load sc_23 rfl (.cel (i := 1) rfl rfl)⟩) ?_
      refine Wr.pure (v := Value.pointer (some ⟨ob, 3, none⟩)) 4 rfl (by kernel_rfl) (.inr (fun _ h => st_take [0, 0] h)) (.inl ⟨rfl, fun _ => q_field (m := 3) fo_61_3 rfl rfl⟩) ?_
      refine Wr.take (v := Value.int .i64 o.bits) 5 rfl (by kernel_rfl) (fun _ h => st_take [0, 0] h) (.inl ⟨rfl, q_load sc_2 rfl (.cel (i := 0) rfl rfl)⟩) ?_
      refine Wr.pure (v := Value.pointer (some ⟨wp, 0, none⟩)) 7 rfl (by kernel_rfl) (.inr (fun _ h => st_take [0, 0] h)) (.inl ⟨rfl, fun _ => q_move rfl⟩) ?_
      refine Wr.pure (v := Value.pointer (some ⟨wp, 0, none⟩)) 8 rfl (by kernel_rfl) (.inr (fun _ h => st_take [0, 0] h)) (.inl ⟨rfl, fun _ => q_nil_ptr rfl⟩) ?_
      refine Wr.pure (v := Value.pointer (some ⟨wp, 2, none⟩)) 9 rfl (by kernel_rfl) (.inr (fun _ h => st_take [0, 0] h)) (.inl ⟨rfl, fun _ => q_field (m := 2) fo_58_2 rfl rfl⟩) ?_
      refine Wr.take (v := Value.pointer (some ⟨q, 0, none⟩)) 10 rfl (by kernel_rfl) (fun _ h => st_take [0, 0] h) (.inl ⟨rfl, q_load sc_52 rfl (.cel (i := 1) rfl rfl)⟩) ?_
      refine Wr.pure (v := Value.pointer (some ⟨ob, 3, none⟩)) 11 rfl (by kernel_rfl) (.inr (fun _ h => st_take [0, 0] h)) (.inl ⟨rfl, fun _ => q_field (m := 3) fo_61_3 rfl rfl⟩) ?_
      refine Wr.take (v := Value.int .i64 o.bits) 12 rfl (by kernel_rfl) (fun _ h => st_take [0, 0] h) (.inl ⟨rfl, q_load sc_2 rfl (.cel (i := 0) rfl rfl)⟩) ?_
      refine Wr.imp (L' := (isDisk pp d) :: (pt ob 61 [Value.int .i64 o.kind, Value.int .i64 o.n, Value.int .u8 ((o.b : Nat) : Int), Value.int .i64 o.bits]) :: (pt wp 58 [Value.pointer (some ⟨pp, 0, none⟩), Value.pointer (some ⟨j, 0, none⟩), Value.pointer (some ⟨q, 0, none⟩), Value.pointer (some ⟨jr, 0, none⟩)]) :: (isJ j pp js) :: (pt jr 79 [Value.pointer (some ⟨q, 0, none⟩), Value.string ((js : JS).text), Value.int .i64 ((js : JS).seq), Value.bool ((js : JS).dead)]) :: (isRef q d) :: F) (fun _ h => st_pull [4] h) ?_
      refine Wr.e 6 (by kernel_rfl) rfl (e_call (F := (pt ob 61 [Value.int .i64 o.kind, Value.int .i64 o.n, Value.int .u8 ((o.b : Nat) : Int), Value.int .i64 o.bits]) :: (pt wp 58 [Value.pointer (some ⟨pp, 0, none⟩), Value.pointer (some ⟨j, 0, none⟩), Value.pointer (some ⟨q, 0, none⟩), Value.pointer (some ⟨jr, 0, none⟩)]) :: (isJ j pp js) :: (pt jr 79 [Value.pointer (some ⟨q, 0, none⟩), Value.string ((js : JS).text), Value.int .i64 ((js : JS).seq), Value.bool ((js : JS).dead)]) :: (isRef q d) :: F) (args := [Value.pointer (some ⟨pp, 0, none⟩), Value.int .i64 o.bits]) Try.call22 rfl (crash_c W0 pp d o.bits hw)) (.inr fun _ _ _ h => st_take [1, 1] h) (fun _ _ => ?_)
      refine Wr.imp (L' := (isDisk pp ((d.crash o.bits).2)) :: (pt ob 61 [Value.int .i64 o.kind, Value.int .i64 o.n, Value.int .u8 ((o.b : Nat) : Int), Value.int .i64 o.bits]) :: (pt wp 58 [Value.pointer (some ⟨pp, 0, none⟩), Value.pointer (some ⟨j, 0, none⟩), Value.pointer (some ⟨q, 0, none⟩), Value.pointer (some ⟨jr, 0, none⟩)]) :: (isJ j pp js) :: (pt jr 79 [Value.pointer (some ⟨q, 0, none⟩), Value.string ((js : JS).text), Value.int .i64 ((js : JS).seq), Value.bool ((js : JS).dead)]) :: (isRef q d) :: F) (fun _ h => h) ?_
      refine Wr.imp (L' := (isRef q d) :: (isDisk pp ((d.crash o.bits).2)) :: (pt ob 61 [Value.int .i64 o.kind, Value.int .i64 o.n, Value.int .u8 ((o.b : Nat) : Int), Value.int .i64 o.bits]) :: (pt wp 58 [Value.pointer (some ⟨pp, 0, none⟩), Value.pointer (some ⟨j, 0, none⟩), Value.pointer (some ⟨q, 0, none⟩), Value.pointer (some ⟨jr, 0, none⟩)]) :: (isJ j pp js) :: (pt jr 79 [Value.pointer (some ⟨q, 0, none⟩), Value.string ((js : JS).text), Value.int .i64 ((js : JS).seq), Value.bool ((js : JS).dead)]) :: F) (fun _ h => st_pull [5] h) ?_
      refine Wr.e 13 (by kernel_rfl) rfl (e_call (F := (isDisk pp ((d.crash o.bits).2)) :: (pt ob 61 [Value.int .i64 o.kind, Value.int .i64 o.n, Value.int .u8 ((o.b : Nat) : Int), Value.int .i64 o.bits]) :: (pt wp 58 [Value.pointer (some ⟨pp, 0, none⟩), Value.pointer (some ⟨j, 0, none⟩), Value.pointer (some ⟨q, 0, none⟩), Value.pointer (some ⟨jr, 0, none⟩)]) :: (isJ j pp js) :: (pt jr 79 [Value.pointer (some ⟨q, 0, none⟩), Value.string ((js : JS).text), Value.int .i64 ((js : JS).seq), Value.bool ((js : JS).dead)]) :: F) (args := [Value.pointer (some ⟨q, 0, none⟩), Value.int .i64 o.bits]) Try.call47 rfl (rcrash_c W0 q d o.bits hw hsince)) (.inr fun _ _ _ h => st_take [2, 2] h) (fun _ _ => ?_)
      refine Wr.imp (L' := (isRef q ((d.crash o.bits).2)) :: (isDisk pp ((d.crash o.bits).2)) :: (pt ob 61 [Value.int .i64 o.kind, Value.int .i64 o.n, Value.int .u8 ((o.b : Nat) : Int), Value.int .i64 o.bits]) :: (pt wp 58 [Value.pointer (some ⟨pp, 0, none⟩), Value.pointer (some ⟨j, 0, none⟩), Value.pointer (some ⟨q, 0, none⟩), Value.pointer (some ⟨jr, 0, none⟩)]) :: (isJ j pp js) :: (pt jr 79 [Value.pointer (some ⟨q, 0, none⟩), Value.string ((js : JS).text), Value.int .i64 ((js : JS).seq), Value.bool ((js : JS).dead)]) :: F) (fun _ h => h) ?_
      refine Wr.pure (v := Value.bool true) 14 rfl (by kernel_rfl) (.inr (fun _ h => st_take [2, 2] h)) (.inl ⟨rfl, fun _ => q_eql (r := true) rfl rfl (decide_eq_true (rfl))⟩) ?_
      refine Wr.pure (v := Value.bool true) 15 rfl (by kernel_rfl) (.inr (fun _ h => st_take [2, 2] h)) (.inl ⟨rfl, fun _ => q_assign rfl⟩) ?_
      refine Wr.done (by kernel_rfl) ?_
      refine Wx.go ?_
      refine Wc.ret ?_
      refine Wx.blockRet ?_
      refine Wx.thenRet ?_
      refine Wx.fin1 rfl (.inl rfl) (fun w hs => ?_)
      have e : opJ d (some js) o = (((d.crash o.bits).2), (some js)) := by unfold opJ; rw [if_neg hk0, if_neg hk1, if_neg hk2, if_neg hk3, if_pos hk4]
      exact ⟨(), trivial, rfl, by rw [e]; exact wJ_mk (j := j) (jr := jr) (js := js) (st_pull [2, 2, 2, 1, 0] (st_drop (st_pull [2] hs)))⟩
     ·
      refine Wl.q (v := Value.bool false) (q_eql (r := false) rfl rfl (decide_eq_false hk4)) ?_
      refine Wl.q (v := Value.bool false) (q_assign rfl) ?_
      refine Wl.done ?_
      refine Wx.go ?_
      refine Wc.no rfl ?_
      refine Wc.seq ?_
      refine Wc.region ?_
      by_cases hk5 : o.kind = 5
      ·
       refine Wl.q (v := Value.bool true) (q_eql (r := true) rfl rfl (decide_eq_true hk5)) ?_
       refine Wl.q (v := Value.bool true) (q_assign rfl) ?_
       refine Wl.done ?_
       refine Wx.go ?_
       refine Wc.yes rfl ?_
       refine Wc.seq ?_
       refine Wc.drawsS [] ((pt ob 61 [Value.int .i64 o.kind, Value.int .i64 o.n, Value.int .u8 ((o.b : Nat) : Int), Value.int .i64 o.bits]) :: (pt wp 58 [Value.pointer (some ⟨pp, 0, none⟩), Value.pointer (some ⟨j, 0, none⟩), Value.pointer (some ⟨q, 0, none⟩), Value.pointer (some ⟨jr, 0, none⟩)]) :: []) (by kernel_rfl) ?_
       refine Wr.pure (v := Value.pointer (some ⟨wp, 0, none⟩)) 0 rfl (by kernel_rfl) (.inr (fun _ h => st_take [0, 0] h)) (.inl ⟨rfl, fun _ => q_move rfl⟩) ?_
       refine Wr.pure (v := Value.pointer (some ⟨wp, 0, none⟩)) 1 rfl (by kernel_rfl) (.inr (fun _ h => st_take [0, 0] h)) (.inl ⟨rfl, fun _ => q_nil_ptr rfl⟩) ?_
       refine Wr.pure (v := Value.pointer (some ⟨wp, 0, none⟩)) 2 rfl (by kernel_rfl) (.inr (fun _ h => st_take [0, 0] h)) (.inl ⟨rfl, fun _ => q_field (m := 0) fo_58_0 rfl rfl⟩) ?_
       refine Wr.take (v := Value.pointer (some ⟨pp, 0, none⟩)) 3 rfl (by kernel_rfl) (fun _ h => st_take [0, 0] h) (.inl ⟨rfl, q_load sc_23 rfl (.cel (i := 1) rfl rfl)⟩) ?_
       refine Wr.pure (v := Value.pointer (some ⟨wp, 0, none⟩)) 5 rfl (by kernel_rfl) (.inr (fun _ h => st_take [0, 0] h)) (.inl ⟨rfl, fun _ => q_move rfl⟩) ?_
       refine Wr.pure (v := Value.pointer (some ⟨wp, 0, none⟩)) 6 rfl (by kernel_rfl) (.inr (fun _ h => st_take [0, 0] h)) (.inl ⟨rfl, fun _ => q_nil_ptr rfl⟩) ?_
       refine Wr.pure (v := Value.pointer (some ⟨wp, 2, none⟩)) 7 rfl (by kernel_rfl) (.inr (fun _ h => st_take [0, 0] h)) (.inl ⟨rfl, fun _ => q_field (m := 2) fo_58_2 rfl rfl⟩) ?_
       refine Wr.take (v := Value.pointer (some ⟨q, 0, none⟩)) 8 rfl (by kernel_rfl) (fun _ h => st_take [0, 0] h) (.inl ⟨rfl, q_load sc_52 rfl (.cel (i := 1) rfl rfl)⟩) ?_
       refine Wr.imp (L' := (isDisk pp d) :: (pt ob 61 [Value.int .i64 o.kind, Value.int .i64 o.n, Value.int .u8 ((o.b : Nat) : Int), Value.int .i64 o.bits]) :: (pt wp 58 [Value.pointer (some ⟨pp, 0, none⟩), Value.pointer (some ⟨j, 0, none⟩), Value.pointer (some ⟨q, 0, none⟩), Value.pointer (some ⟨jr, 0, none⟩)]) :: (isJ j pp js) :: (pt jr 79 [Value.pointer (some ⟨q, 0, none⟩), Value.string ((js : JS).text), Value.int .i64 ((js : JS).seq), Value.bool ((js : JS).dead)]) :: (isRef q d) :: F) (fun _ h => st_pull [4] h) ?_
       refine Wr.e 4 (by kernel_rfl) rfl (e_call (F := (pt ob 61 [Value.int .i64 o.kind, Value.int .i64 o.n, Value.int .u8 ((o.b : Nat) : Int), Value.int .i64 o.bits]) :: (pt wp 58 [Value.pointer (some ⟨pp, 0, none⟩), Value.pointer (some ⟨j, 0, none⟩), Value.pointer (some ⟨q, 0, none⟩), Value.pointer (some ⟨jr, 0, none⟩)]) :: (isJ j pp js) :: (pt jr 79 [Value.pointer (some ⟨q, 0, none⟩), Value.string ((js : JS).text), Value.int .i64 ((js : JS).seq), Value.bool ((js : JS).dead)]) :: (isRef q d) :: F) (args := [Value.pointer (some ⟨pp, 0, none⟩)]) Try.call23 rfl (start_c W0 pp d )) (.inr fun _ _ _ h => st_take [1, 1] h) (fun _ _ => ?_)
       refine Wr.imp (L' := (isDisk pp ((d.start).2)) :: (pt ob 61 [Value.int .i64 o.kind, Value.int .i64 o.n, Value.int .u8 ((o.b : Nat) : Int), Value.int .i64 o.bits]) :: (pt wp 58 [Value.pointer (some ⟨pp, 0, none⟩), Value.pointer (some ⟨j, 0, none⟩), Value.pointer (some ⟨q, 0, none⟩), Value.pointer (some ⟨jr, 0, none⟩)]) :: (isJ j pp js) :: (pt jr 79 [Value.pointer (some ⟨q, 0, none⟩), Value.string ((js : JS).text), Value.int .i64 ((js : JS).seq), Value.bool ((js : JS).dead)]) :: (isRef q d) :: F) (fun _ h => h) ?_
       refine Wr.imp (L' := (isRef q d) :: (isDisk pp ((d.start).2)) :: (pt ob 61 [Value.int .i64 o.kind, Value.int .i64 o.n, Value.int .u8 ((o.b : Nat) : Int), Value.int .i64 o.bits]) :: (pt wp 58 [Value.pointer (some ⟨pp, 0, none⟩), Value.pointer (some ⟨j, 0, none⟩), Value.pointer (some ⟨q, 0, none⟩), Value.pointer (some ⟨jr, 0, none⟩)]) :: (isJ j pp js) :: (pt jr 79 [Value.pointer (some ⟨q, 0, none⟩), Value.string ((js : JS).text), Value.int .i64 ((js : JS).seq), Value.bool ((js : JS).dead)]) :: F) (fun _ h => st_pull [5] h) ?_
       refine Wr.e 9 (by kernel_rfl) rfl (e_call (F := (isDisk pp ((d.start).2)) :: (pt ob 61 [Value.int .i64 o.kind, Value.int .i64 o.n, Value.int .u8 ((o.b : Nat) : Int), Value.int .i64 o.bits]) :: (pt wp 58 [Value.pointer (some ⟨pp, 0, none⟩), Value.pointer (some ⟨j, 0, none⟩), Value.pointer (some ⟨q, 0, none⟩), Value.pointer (some ⟨jr, 0, none⟩)]) :: (isJ j pp js) :: (pt jr 79 [Value.pointer (some ⟨q, 0, none⟩), Value.string ((js : JS).text), Value.int .i64 ((js : JS).seq), Value.bool ((js : JS).dead)]) :: F) (args := [Value.pointer (some ⟨q, 0, none⟩)]) Try.call48 rfl (rstart_c W0 q d  )) (.inr fun _ _ _ h => st_take [2, 2] h) (fun _ _ => ?_)
       refine Wr.imp (L' := (isRef q ((d.start).2)) :: (isDisk pp ((d.start).2)) :: (pt ob 61 [Value.int .i64 o.kind, Value.int .i64 o.n, Value.int .u8 ((o.b : Nat) : Int), Value.int .i64 o.bits]) :: (pt wp 58 [Value.pointer (some ⟨pp, 0, none⟩), Value.pointer (some ⟨j, 0, none⟩), Value.pointer (some ⟨q, 0, none⟩), Value.pointer (some ⟨jr, 0, none⟩)]) :: (isJ j pp js) :: (pt jr 79 [Value.pointer (some ⟨q, 0, none⟩), Value.string ((js : JS).text), Value.int .i64 ((js : JS).seq), Value.bool ((js : JS).dead)]) :: F) (fun _ h => h) ?_
       refine Wr.pure (v := Value.bool true) 10 rfl (by kernel_rfl) (.inr (fun _ h => st_take [2, 2] h)) (.inl ⟨rfl, fun _ => q_eql (r := true) rfl rfl (decide_eq_true (rfl))⟩) ?_
       refine Wr.pure (v := Value.bool true) 11 rfl (by kernel_rfl) (.inr (fun _ h => st_take [2, 2] h)) (.inl ⟨rfl, fun _ => q_assign rfl⟩) ?_
       refine Wr.done (by kernel_rfl) ?_
       refine Wx.go ?_
       refine Wc.ret ?_
       refine Wx.blockRet ?_
       refine Wx.thenRet ?_
       refine Wx.fin1 rfl (.inl rfl) (fun w hs => ?_)
       have e : opJ d (some js) o = (((d.start).2), (some js)) := by unfold opJ; rw [if_neg hk0, if_neg hk1, if_neg hk2, if_neg hk3, if_neg hk4, if_pos hk5]
       exact ⟨(), trivial, rfl, by rw [e]; exact wJ_mk (j := j) (jr := jr) (js := js) (st_pull [2, 2, 2, 1, 0] (st_drop (st_pull [2] hs)))⟩
      ·
       refine Wl.q (v := Value.bool false) (q_eql (r := false) rfl rfl (decide_eq_false hk5)) ?_
       refine Wl.q (v := Value.bool false) (q_assign rfl) ?_
       refine Wl.done ?_
       refine Wx.go ?_
       refine Wc.no rfl ?_
       refine Wc.seq ?_
       refine Wc.region ?_
       by_cases hk6 : o.kind = 6
       ·
        refine Wl.q (v := Value.bool true) (q_eql (r := true) rfl rfl (decide_eq_true hk6)) ?_
        refine Wl.q (v := Value.bool true) (q_assign rfl) ?_
        refine Wl.done ?_
        refine Wx.go ?_
        refine Wc.yes rfl ?_
        refine Wc.seq ?_
        refine Wc.drawsS [] ((pt ob 61 [Value.int .i64 o.kind, Value.int .i64 o.n, Value.int .u8 ((o.b : Nat) : Int), Value.int .i64 o.bits]) :: (pt wp 58 [Value.pointer (some ⟨pp, 0, none⟩), Value.pointer (some ⟨j, 0, none⟩), Value.pointer (some ⟨q, 0, none⟩), Value.pointer (some ⟨jr, 0, none⟩)]) :: []) (by kernel_rfl) ?_
        refine Wr.pure (v := Value.pointer (some ⟨wp, 0, none⟩)) 0 rfl (by kernel_rfl) (.inr (fun _ h => st_take [0, 0] h)) (.inl ⟨rfl, fun _ => q_move rfl⟩) ?_
        refine Wr.pure (v := Value.pointer (some ⟨wp, 0, none⟩)) 1 rfl (by kernel_rfl) (.inr (fun _ h => st_take [0, 0] h)) (.inl ⟨rfl, fun _ => q_nil_ptr rfl⟩) ?_
        refine Wr.pure (v := Value.pointer (some ⟨wp, 0, none⟩)) 2 rfl (by kernel_rfl) (.inr (fun _ h => st_take [0, 0] h)) (.inl ⟨rfl, fun _ => q_field (m := 0) fo_58_0 rfl rfl⟩) ?_
        refine Wr.take (v := Value.pointer (some ⟨pp, 0, none⟩)) 3 rfl (by kernel_rfl) (fun _ h => st_take [0, 0] h) (.inl ⟨rfl, q_load sc_23 rfl (.cel (i := 1) rfl rfl)⟩) ?_
        refine Wr.pure (v := Value.pointer (some ⟨ob, 1, none⟩)) 4 rfl (by kernel_rfl) (.inr (fun _ h => st_take [0, 0] h)) (.inl ⟨rfl, fun _ => q_field (m := 1) fo_61_1 rfl rfl⟩) ?_
        refine Wr.take (v := Value.int .i64 o.n) 5 rfl (by kernel_rfl) (fun _ h => st_take [0, 0] h) (.inl ⟨rfl, q_load sc_3 rfl (.cel (i := 0) rfl rfl)⟩) ?_
        refine Wr.pure (v := Value.pointer (some ⟨ob, 2, none⟩)) 6 rfl (by kernel_rfl) (.inr (fun _ h => st_take [0, 0] h)) (.inl ⟨rfl, fun _ => q_field (m := 2) fo_61_2 rfl rfl⟩) ?_
        refine Wr.take (v := Value.int .u8 ((o.b : Nat) : Int)) 7 rfl (by kernel_rfl) (fun _ h => st_take [0, 0] h) (.inl ⟨rfl, q_load sc_5 rfl (.cel (i := 0) rfl rfl)⟩) ?_
        refine Wr.pure (v := Value.pointer (some ⟨wp, 0, none⟩)) 10 rfl (by kernel_rfl) (.inr (fun _ h => st_take [0, 0] h)) (.inl ⟨rfl, fun _ => q_move rfl⟩) ?_
        refine Wr.pure (v := Value.pointer (some ⟨wp, 0, none⟩)) 11 rfl (by kernel_rfl) (.inr (fun _ h => st_take [0, 0] h)) (.inl ⟨rfl, fun _ => q_nil_ptr rfl⟩) ?_
        refine Wr.pure (v := Value.pointer (some ⟨wp, 2, none⟩)) 12 rfl (by kernel_rfl) (.inr (fun _ h => st_take [0, 0] h)) (.inl ⟨rfl, fun _ => q_field (m := 2) fo_58_2 rfl rfl⟩) ?_
        refine Wr.take (v := Value.pointer (some ⟨q, 0, none⟩)) 13 rfl (by kernel_rfl) (fun _ h => st_take [0, 0] h) (.inl ⟨rfl, q_load sc_52 rfl (.cel (i := 1) rfl rfl)⟩) ?_
        refine Wr.pure (v := Value.pointer (some ⟨ob, 1, none⟩)) 14 rfl (by kernel_rfl) (.inr (fun _ h => st_take [0, 0] h)) (.inl ⟨rfl, fun _ => q_field (m := 1) fo_61_1 rfl rfl⟩) ?_
        refine Wr.take (v := Value.int .i64 o.n) 15 rfl (by kernel_rfl) (fun _ h => st_take [0, 0] h) (.inl ⟨rfl, q_load sc_3 rfl (.cel (i := 0) rfl rfl)⟩) ?_
        refine Wr.pure (v := Value.pointer (some ⟨ob, 2, none⟩)) 16 rfl (by kernel_rfl) (.inr (fun _ h => st_take [0, 0] h)) (.inl ⟨rfl, fun _ => q_field (m := 2) fo_61_2 rfl rfl⟩) ?_
        refine Wr.take (v := Value.int .u8 ((o.b : Nat) : Int)) 17 rfl (by kernel_rfl) (fun _ h => st_take [0, 0] h) (.inl ⟨rfl, q_load sc_5 rfl (.cel (i := 0) rfl rfl)⟩) ?_
        refine Wr.e 8 (by kernel_rfl) rfl (e_call (F := (pt ob 61 [Value.int .i64 o.kind, Value.int .i64 o.n, Value.int .u8 ((o.b : Nat) : Int), Value.int .i64 o.bits]) :: (pt wp 58 [Value.pointer (some ⟨pp, 0, none⟩), Value.pointer (some ⟨j, 0, none⟩), Value.pointer (some ⟨q, 0, none⟩), Value.pointer (some ⟨jr, 0, none⟩)]) :: (isJ j pp js) :: (pt jr 79 [Value.pointer (some ⟨q, 0, none⟩), Value.string ((js : JS).text), Value.int .i64 ((js : JS).seq), Value.bool ((js : JS).dead)]) :: (isDisk pp d) :: (isRef q d) :: F) (args := [Value.int .u8 ((o.b : Nat) : Int)]) Try.call50 rfl (sector_c W0 o.b hob)) (.inr fun _ _ _ h => st_take [0, 0] h) (fun _ _ => ?_)
        refine Wr.imp (L' := (pt ob 61 [Value.int .i64 o.kind, Value.int .i64 o.n, Value.int .u8 ((o.b : Nat) : Int), Value.int .i64 o.bits]) :: (pt wp 58 [Value.pointer (some ⟨pp, 0, none⟩), Value.pointer (some ⟨j, 0, none⟩), Value.pointer (some ⟨q, 0, none⟩), Value.pointer (some ⟨jr, 0, none⟩)]) :: (isJ j pp js) :: (pt jr 79 [Value.pointer (some ⟨q, 0, none⟩), Value.string ((js : JS).text), Value.int .i64 ((js : JS).seq), Value.bool ((js : JS).dead)]) :: (isDisk pp d) :: (isRef q d) :: F) (fun _ h => h) ?_
        refine Wr.imp (L' := (isDisk pp d) :: (pt ob 61 [Value.int .i64 o.kind, Value.int .i64 o.n, Value.int .u8 ((o.b : Nat) : Int), Value.int .i64 o.bits]) :: (pt wp 58 [Value.pointer (some ⟨pp, 0, none⟩), Value.pointer (some ⟨j, 0, none⟩), Value.pointer (some ⟨q, 0, none⟩), Value.pointer (some ⟨jr, 0, none⟩)]) :: (isJ j pp js) :: (pt jr 79 [Value.pointer (some ⟨q, 0, none⟩), Value.string ((js : JS).text), Value.int .i64 ((js : JS).seq), Value.bool ((js : JS).dead)]) :: (isRef q d) :: F) (fun _ h => st_pull [4] h) ?_
        refine Wr.e 9 (by kernel_rfl) rfl (e_call (F := (pt ob 61 [Value.int .i64 o.kind, Value.int .i64 o.n, Value.int .u8 ((o.b : Nat) : Int), Value.int .i64 o.bits]) :: (pt wp 58 [Value.pointer (some ⟨pp, 0, none⟩), Value.pointer (some ⟨j, 0, none⟩), Value.pointer (some ⟨q, 0, none⟩), Value.pointer (some ⟨jr, 0, none⟩)]) :: (isJ j pp js) :: (pt jr 79 [Value.pointer (some ⟨q, 0, none⟩), Value.string ((js : JS).text), Value.int .i64 ((js : JS).seq), Value.bool ((js : JS).dead)]) :: (isRef q d) :: F) (args := [Value.pointer (some ⟨pp, 0, none⟩), Value.int .i64 o.n, Value.string (txt 64 o.b)]) Try.call49 rfl (write_c W0 pp d o.n (txt 64 o.b) hw hsince hcount)) (.inr fun _ _ _ h => st_take [1, 1] h) (fun _ _ => ?_)
        refine Wr.imp (L' := (isDisk pp ((d.write o.n (txt 64 o.b)).2)) :: (pt ob 61 [Value.int .i64 o.kind, Value.int .i64 o.n, Value.int .u8 ((o.b : Nat) : Int), Value.int .i64 o.bits]) :: (pt wp 58 [Value.pointer (some ⟨pp, 0, none⟩), Value.pointer (some ⟨j, 0, none⟩), Value.pointer (some ⟨q, 0, none⟩), Value.pointer (some ⟨jr, 0, none⟩)]) :: (isJ j pp js) :: (pt jr 79 [Value.pointer (some ⟨q, 0, none⟩), Value.string ((js : JS).text), Value.int .i64 ((js : JS).seq), Value.bool ((js : JS).dead)]) :: (isRef q d) :: F) (fun _ h => h) ?_
        refine Wr.e 18 (by kernel_rfl) rfl (e_call (F := (isDisk pp ((d.write o.n (txt 64 o.b)).2)) :: (pt ob 61 [Value.int .i64 o.kind, Value.int .i64 o.n, Value.int .u8 ((o.b : Nat) : Int), Value.int .i64 o.bits]) :: (pt wp 58 [Value.pointer (some ⟨pp, 0, none⟩), Value.pointer (some ⟨j, 0, none⟩), Value.pointer (some ⟨q, 0, none⟩), Value.pointer (some ⟨jr, 0, none⟩)]) :: (isJ j pp js) :: (pt jr 79 [Value.pointer (some ⟨q, 0, none⟩), Value.string ((js : JS).text), Value.int .i64 ((js : JS).seq), Value.bool ((js : JS).dead)]) :: (isRef q d) :: F) (args := [Value.int .u8 ((o.b : Nat) : Int)]) Try.call50 rfl (sector_c W0 o.b hob)) (.inr fun _ _ _ h => st_take [1, 1] h) (fun _ _ => ?_)
        refine Wr.imp (L' := (isDisk pp ((d.write o.n (txt 64 o.b)).2)) :: (pt ob 61 [Value.int .i64 o.kind, Value.int .i64 o.n, Value.int .u8 ((o.b : Nat) : Int), Value.int .i64 o.bits]) :: (pt wp 58 [Value.pointer (some ⟨pp, 0, none⟩), Value.pointer (some ⟨j, 0, none⟩), Value.pointer (some ⟨q, 0, none⟩), Value.pointer (some ⟨jr, 0, none⟩)]) :: (isJ j pp js) :: (pt jr 79 [Value.pointer (some ⟨q, 0, none⟩), Value.string ((js : JS).text), Value.int .i64 ((js : JS).seq), Value.bool ((js : JS).dead)]) :: (isRef q d) :: F) (fun _ h => h) ?_
        refine Wr.imp (L' := (isRef q d) :: (isDisk pp ((d.write o.n (txt 64 o.b)).2)) :: (pt ob 61 [Value.int .i64 o.kind, Value.int .i64 o.n, Value.int .u8 ((o.b : Nat) : Int), Value.int .i64 o.bits]) :: (pt wp 58 [Value.pointer (some ⟨pp, 0, none⟩), Value.pointer (some ⟨j, 0, none⟩), Value.pointer (some ⟨q, 0, none⟩), Value.pointer (some ⟨jr, 0, none⟩)]) :: (isJ j pp js) :: (pt jr 79 [Value.pointer (some ⟨q, 0, none⟩), Value.string ((js : JS).text), Value.int .i64 ((js : JS).seq), Value.bool ((js : JS).dead)]) :: F) (fun _ h => st_pull [5] h) ?_
        refine Wr.e 19 (by kernel_rfl) rfl (e_call (F := (isDisk pp ((d.write o.n (txt 64 o.b)).2)) :: (pt ob 61 [Value.int .i64 o.kind, Value.int .i64 o.n, Value.int .u8 ((o.b : Nat) : Int), Value.int .i64 o.bits]) :: (pt wp 58 [Value.pointer (some ⟨pp, 0, none⟩), Value.pointer (some ⟨j, 0, none⟩), Value.pointer (some ⟨q, 0, none⟩), Value.pointer (some ⟨jr, 0, none⟩)]) :: (isJ j pp js) :: (pt jr 79 [Value.pointer (some ⟨q, 0, none⟩), Value.string ((js : JS).text), Value.int .i64 ((js : JS).seq), Value.bool ((js : JS).dead)]) :: F) (args := [Value.pointer (some ⟨q, 0, none⟩), Value.int .i64 o.n, Value.string (txt 64 o.b)]) Try.call51 rfl (rwrite_c W0 q d o.n (txt 64 o.b) hw hsince hcount)) (.inr fun _ _ _ h => st_take [2, 2] h) (fun _ _ => ?_)
        refine Wr.imp (L' := (isRef q ((d.write o.n (txt 64 o.b)).2)) :: (isDisk pp ((d.write o.n (txt 64 o.b)).2)) :: (pt ob 61 [Value.int .i64 o.kind, Value.int .i64 o.n, Value.int .u8 ((o.b : Nat) : Int), Value.int .i64 o.bits]) :: (pt wp 58 [Value.pointer (some ⟨pp, 0, none⟩), Value.pointer (some ⟨j, 0, none⟩), Value.pointer (some ⟨q, 0, none⟩), Value.pointer (some ⟨jr, 0, none⟩)]) :: (isJ j pp js) :: (pt jr 79 [Value.pointer (some ⟨q, 0, none⟩), Value.string ((js : JS).text), Value.int .i64 ((js : JS).seq), Value.bool ((js : JS).dead)]) :: F) (fun _ h => h) ?_
        refine Wr.pure (v := Value.bool true) 20 rfl (by kernel_rfl) (.inr (fun _ h => st_take [2, 2] h)) (.inl ⟨rfl, fun _ => q_eql (r := true) rfl rfl (decide_eq_true (rfl))⟩) ?_
        refine Wr.pure (v := Value.bool true) 21 rfl (by kernel_rfl) (.inr (fun _ h => st_take [2, 2] h)) (.inl ⟨rfl, fun _ => q_assign rfl⟩) ?_
        refine Wr.done (by kernel_rfl) ?_
        refine Wx.go ?_
        refine Wc.ret ?_
        refine Wx.blockRet ?_
        refine Wx.thenRet ?_
        refine Wx.fin1 rfl (.inl rfl) (fun w hs => ?_)
        have e : opJ d (some js) o = (((d.write o.n (txt 64 o.b)).2), (some js)) := by unfold opJ; rw [if_neg hk0, if_neg hk1, if_neg hk2, if_neg hk3, if_neg hk4, if_neg hk5, if_pos hk6]
        exact ⟨(), trivial, rfl, by rw [e]; exact wJ_mk (j := j) (jr := jr) (js := js) (st_pull [2, 2, 2, 1, 0] (st_drop (st_pull [2] hs)))⟩
       ·
        refine Wl.q (v := Value.bool false) (q_eql (r := false) rfl rfl (decide_eq_false hk6)) ?_
        refine Wl.q (v := Value.bool false) (q_assign rfl) ?_
        refine Wl.done ?_
        refine Wx.go ?_
        refine Wc.no rfl ?_
        refine Wc.seq ?_
        refine Wc.region ?_
        by_cases hk8 : o.kind = 8
        ·
         refine Wl.q (v := Value.bool true) (q_eql (r := true) rfl rfl (decide_eq_true hk8)) ?_
         refine Wl.q (v := Value.bool true) (q_assign rfl) ?_
         refine Wl.done ?_
         refine Wx.go ?_
         refine Wc.yes rfl ?_
         refine Wc.seq ?_
         refine Wc.region ?_
         refine Wl.q (v := Value.pointer (some ⟨ob, 2, none⟩)) (q_field (m := 2) fo_61_2 rfl rfl) ?_
         refine Wl.q (v := Value.int .u8 ((o.b : Nat) : Int)) (q_load sc_5 rfl (.cel (i := 0) rfl rfl)) ?_
         refine Wl.q (v := Value.int .i64 ((o.b : Nat) : Int)) (q_conv_int (c := ((o.b : Nat) : Int)) Try.underlying3 (by rw [Try.underlying5]; rfl) rfl (wrap_i64 (by omega) (by omega))) ?_
         refine Wl.q (v := Value.pointer (some ⟨ob, 3, none⟩)) (q_field (m := 3) fo_61_3 rfl rfl) ?_
         refine Wl.q (v := Value.int .i64 o.bits) (q_load sc_2 rfl (.cel (i := 0) rfl rfl)) ?_
         refine Wl.q (v := Value.int .i64 (andJ o.bits)) (q_and (c := (andJ o.bits)) rfl rfl rfl) ?_
         refine Wl.e (e_call (F := (pt ob 61 [Value.int .i64 o.kind, Value.int .i64 o.n, Value.int .u8 ((o.b : Nat) : Int), Value.int .i64 o.bits]) :: (pt wp 58 [Value.pointer (some ⟨pp, 0, none⟩), Value.pointer (some ⟨j, 0, none⟩), Value.pointer (some ⟨q, 0, none⟩), Value.pointer (some ⟨jr, 0, none⟩)]) :: (isJ j pp js) :: (pt jr 79 [Value.pointer (some ⟨q, 0, none⟩), Value.string ((js : JS).text), Value.int .i64 ((js : JS).seq), Value.bool ((js : JS).dead)]) :: (isDisk pp d) :: (isRef q d) :: F) (args := [Value.int .i64 ((o.b : Nat) : Int), Value.int .i64 (andJ o.bits)]) Try.call52 rfl (rhead_c W0 ((o.b : Nat) : Int) (andJ o.bits))) (fun _ _ => ?_)
         refine Wl.imp (L' := (pt ob 61 [Value.int .i64 o.kind, Value.int .i64 o.n, Value.int .u8 ((o.b : Nat) : Int), Value.int .i64 o.bits]) :: (pt wp 58 [Value.pointer (some ⟨pp, 0, none⟩), Value.pointer (some ⟨j, 0, none⟩), Value.pointer (some ⟨q, 0, none⟩), Value.pointer (some ⟨jr, 0, none⟩)]) :: (isJ j pp js) :: (pt jr 79 [Value.pointer (some ⟨q, 0, none⟩), Value.string ((js : JS).text), Value.int .i64 ((js : JS).seq), Value.bool ((js : JS).dead)]) :: (isDisk pp d) :: (isRef q d) :: F) (fun _ h => h) ?_
         refine Wl.q (v := Value.string (headB ((o.b : Nat) : Int) (andJ o.bits))) (q_assign rfl) ?_
         refine Wl.done ?_
         refine Wx.go ?_
         refine Wc.seq ?_
         refine Wc.drawsS [] ((pt ob 61 [Value.int .i64 o.kind, Value.int .i64 o.n, Value.int .u8 ((o.b : Nat) : Int), Value.int .i64 o.bits]) :: (pt wp 58 [Value.pointer (some ⟨pp, 0, none⟩), Value.pointer (some ⟨j, 0, none⟩), Value.pointer (some ⟨q, 0, none⟩), Value.pointer (some ⟨jr, 0, none⟩)]) :: []) (by kernel_rfl) ?_
         refine Wr.pure (v := Value.pointer (some ⟨wp, 0, none⟩)) 0 rfl (by kernel_rfl) (.inr (fun _ h => st_take [0, 0] h)) (.inl ⟨rfl, fun _ => q_move rfl⟩) ?_
         refine Wr.pure (v := Value.pointer (some ⟨wp, 0, none⟩)) 1 rfl (by kernel_rfl) (.inr (fun _ h => st_take [0, 0] h)) (.inl ⟨rfl, fun _ => q_nil_ptr rfl⟩) ?_
         refine Wr.pure (v := Value.pointer (some ⟨wp, 0, none⟩)) 2 rfl (by kernel_rfl) (.inr (fun _ h => st_take [0, 0] h)) (.inl ⟨rfl, fun _ => q_field (m := 0) fo_58_0 rfl rfl⟩) ?_
         refine Wr.take (v := Value.pointer (some ⟨pp, 0, none⟩)) 3 rfl (by kernel_rfl) (fun _ h => st_take [0, 0] h) (.inl ⟨rfl, q_load sc_23 rfl (.cel (i := 1) rfl rfl)⟩) ?_
         refine Wr.pure (v := Value.pointer (some ⟨ob, 1, none⟩)) 4 rfl (by kernel_rfl) (.inr (fun _ h => st_take [0, 0] h)) (.inl ⟨rfl, fun _ => q_field (m := 1) fo_61_1 rfl rfl⟩) ?_
         refine Wr.take (v := Value.int .i64 o.n) 5 rfl (by kernel_rfl) (fun _ h => st_take [0, 0] h) (.inl ⟨rfl, q_load sc_3 rfl (.cel (i := 0) rfl rfl)⟩) ?_
         refine Wr.pure (v := Value.string (headB ((o.b : Nat) : Int) (andJ o.bits))) 6 rfl (by kernel_rfl) (.inr (fun _ h => st_take [0, 0] h)) (.inl ⟨rfl, fun _ => q_move rfl⟩) ?_
         refine Wr.pure (v := Value.pointer (some ⟨wp, 0, none⟩)) 8 rfl (by kernel_rfl) (.inr (fun _ h => st_take [0, 0] h)) (.inl ⟨rfl, fun _ => q_move rfl⟩) ?_
         refine Wr.pure (v := Value.pointer (some ⟨wp, 0, none⟩)) 9 rfl (by kernel_rfl) (.inr (fun _ h => st_take [0, 0] h)) (.inl ⟨rfl, fun _ => q_nil_ptr rfl⟩) ?_
         refine Wr.pure (v := Value.pointer (some ⟨wp, 2, none⟩)) 10 rfl (by kernel_rfl) (.inr (fun _ h => st_take [0, 0] h)) (.inl ⟨rfl, fun _ => q_field (m := 2) fo_58_2 rfl rfl⟩) ?_
         refine Wr.take (v := Value.pointer (some ⟨q, 0, none⟩)) 11 rfl (by kernel_rfl) (fun _ h => st_take [0, 0] h) (.inl ⟨rfl, q_load sc_52 rfl (.cel (i := 1) rfl rfl)⟩) ?_
         refine Wr.pure (v := Value.pointer (some ⟨ob, 1, none⟩)) 12 rfl (by kernel_rfl) (.inr (fun _ h => st_take [0, 0] h)) (.inl ⟨rfl, fun _ => q_field (m := 1) fo_61_1 rfl rfl⟩) ?_
         refine Wr.take (v := Value.int .i64 o.n) 13 rfl (by kernel_rfl) (fun _ h => st_take [0, 0] h) (.inl ⟨rfl, q_load sc_3 rfl (.cel (i := 0) rfl rfl)⟩) ?_
         refine Wr.pure (v := Value.string (headB ((o.b : Nat) : Int) (andJ o.bits))) 14 rfl (by kernel_rfl) (.inr (fun _ h => st_take [0, 0] h)) (.inl ⟨rfl, fun _ => q_move rfl⟩) ?_
         refine Wr.imp (L' := (isDisk pp d) :: (pt ob 61 [Value.int .i64 o.kind, Value.int .i64 o.n, Value.int .u8 ((o.b : Nat) : Int), Value.int .i64 o.bits]) :: (pt wp 58 [Value.pointer (some ⟨pp, 0, none⟩), Value.pointer (some ⟨j, 0, none⟩), Value.pointer (some ⟨q, 0, none⟩), Value.pointer (some ⟨jr, 0, none⟩)]) :: (isJ j pp js) :: (pt jr 79 [Value.pointer (some ⟨q, 0, none⟩), Value.string ((js : JS).text), Value.int .i64 ((js : JS).seq), Value.bool ((js : JS).dead)]) :: (isRef q d) :: F) (fun _ h => st_pull [4] h) ?_
         refine Wr.e 7 (by kernel_rfl) rfl (e_call (F := (pt ob 61 [Value.int .i64 o.kind, Value.int .i64 o.n, Value.int .u8 ((o.b : Nat) : Int), Value.int .i64 o.bits]) :: (pt wp 58 [Value.pointer (some ⟨pp, 0, none⟩), Value.pointer (some ⟨j, 0, none⟩), Value.pointer (some ⟨q, 0, none⟩), Value.pointer (some ⟨jr, 0, none⟩)]) :: (isJ j pp js) :: (pt jr 79 [Value.pointer (some ⟨q, 0, none⟩), Value.string ((js : JS).text), Value.int .i64 ((js : JS).seq), Value.bool ((js : JS).dead)]) :: (isRef q d) :: F) (args := [Value.pointer (some ⟨pp, 0, none⟩), Value.int .i64 o.n, Value.string (headB ((o.b : Nat) : Int) (andJ o.bits))]) Try.call49 rfl (write_c W0 pp d o.n (headB ((o.b : Nat) : Int) (andJ o.bits)) hw hsince hcount)) (.inr fun _ _ _ h => st_take [1, 1] h) (fun _ _ => ?_)
         refine Wr.imp (L' := (isDisk pp ((d.write o.n (headB ((o.b : Nat) : Int) (andJ o.bits))).2)) :: (pt ob 61 [Value.int .i64 o.kind, Value.int .i64 o.n, Value.int .u8 ((o.b : Nat) : Int), Value.int .i64 o.bits]) :: (pt wp 58 [Value.pointer (some ⟨pp, 0, none⟩), Value.pointer (some ⟨j, 0, none⟩), Value.pointer (some ⟨q, 0, none⟩), Value.pointer (some ⟨jr, 0, none⟩)]) :: (isJ j pp js) :: (pt jr 79 [Value.pointer (some ⟨q, 0, none⟩), Value.string ((js : JS).text), Value.int .i64 ((js : JS).seq), Value.bool ((js : JS).dead)]) :: (isRef q d) :: F) (fun _ h => h) ?_
         refine Wr.imp (L' := (isRef q d) :: (isDisk pp ((d.write o.n (headB ((o.b : Nat) : Int) (andJ o.bits))).2)) :: (pt ob 61 [Value.int .i64 o.kind, Value.int .i64 o.n, Value.int .u8 ((o.b : Nat) : Int), Value.int .i64 o.bits]) :: (pt wp 58 [Value.pointer (some ⟨pp, 0, none⟩), Value.pointer (some ⟨j, 0, none⟩), Value.pointer (some ⟨q, 0, none⟩), Value.pointer (some ⟨jr, 0, none⟩)]) :: (isJ j pp js) :: (pt jr 79 [Value.pointer (some ⟨q, 0, none⟩), Value.string ((js : JS).text), Value.int .i64 ((js : JS).seq), Value.bool ((js : JS).dead)]) :: F) (fun _ h => st_pull [5] h) ?_
         refine Wr.e 15 (by kernel_rfl) rfl (e_call (F := (isDisk pp ((d.write o.n (headB ((o.b : Nat) : Int) (andJ o.bits))).2)) :: (pt ob 61 [Value.int .i64 o.kind, Value.int .i64 o.n, Value.int .u8 ((o.b : Nat) : Int), Value.int .i64 o.bits]) :: (pt wp 58 [Value.pointer (some ⟨pp, 0, none⟩), Value.pointer (some ⟨j, 0, none⟩), Value.pointer (some ⟨q, 0, none⟩), Value.pointer (some ⟨jr, 0, none⟩)]) :: (isJ j pp js) :: (pt jr 79 [Value.pointer (some ⟨q, 0, none⟩), Value.string ((js : JS).text), Value.int .i64 ((js : JS).seq), Value.bool ((js : JS).dead)]) :: F) (args := [Value.pointer (some ⟨q, 0, none⟩), Value.int .i64 o.n, Value.string (headB ((o.b : Nat) : Int) (andJ o.bits))]) Try.call51 rfl (rwrite_c W0 q d o.n (headB ((o.b : Nat) : Int) (andJ o.bits)) hw hsince hcount)) (.inr fun _ _ _ h => st_take [2, 2] h) (fun _ _ => ?_)
         refine Wr.imp (L' := (isRef q ((d.write o.n (headB ((o.b : Nat) : Int) (andJ o.bits))).2)) :: (isDisk pp ((d.write o.n (headB ((o.b : Nat) : Int) (andJ o.bits))).2)) :: (pt ob 61 [Value.int .i64 o.kind, Value.int .i64 o.n, Value.int .u8 ((o.b : Nat) : Int), Value.int .i64 o.bits]) :: (pt wp 58 [Value.pointer (some ⟨pp, 0, none⟩), Value.pointer (some ⟨j, 0, none⟩), Value.pointer (some ⟨q, 0, none⟩), Value.pointer (some ⟨jr, 0, none⟩)]) :: (isJ j pp js) :: (pt jr 79 [Value.pointer (some ⟨q, 0, none⟩), Value.string ((js : JS).text), Value.int .i64 ((js : JS).seq), Value.bool ((js : JS).dead)]) :: F) (fun _ h => h) ?_
         refine Wr.pure (v := Value.bool true) 16 rfl (by kernel_rfl) (.inr (fun _ h => st_take [2, 2] h)) (.inl ⟨rfl, fun _ => q_eql (r := true) rfl rfl (decide_eq_true (rfl))⟩) ?_
         refine Wr.pure (v := Value.bool true) 17 rfl (by kernel_rfl) (.inr (fun _ h => st_take [2, 2] h)) (.inl ⟨rfl, fun _ => q_assign rfl⟩) ?_
         refine Wr.done (by kernel_rfl) ?_
         refine Wx.go ?_
         refine Wc.ret ?_
         refine Wx.blockRet ?_
         refine Wx.thenRet ?_
         refine Wx.fin1 rfl (.inl rfl) (fun w hs => ?_)
         have e : opJ d (some js) o = (((d.write o.n (headB ((o.b : Nat) : Int) (andJ o.bits))).2), (some js)) := by unfold opJ; rw [if_neg hk0, if_neg hk1, if_neg hk2, if_neg hk3, if_neg hk4, if_neg hk5, if_neg hk6, if_pos hk8]
         exact ⟨(), trivial, rfl, by rw [e]; exact wJ_mk (j := j) (jr := jr) (js := js) (st_pull [2, 2, 2, 1, 0] (st_drop (st_pull [2] hs)))⟩
        ·
         refine Wl.q (v := Value.bool false) (q_eql (r := false) rfl rfl (decide_eq_false hk8)) ?_
         refine Wl.q (v := Value.bool false) (q_assign rfl) ?_
         refine Wl.done ?_
         refine Wx.go ?_
         refine Wc.no rfl ?_
         refine Wc.skip ?_
         refine Wx.blockEnd ?_
         refine Wx.go ?_
         refine Wc.seq ?_
         refine Wc.drawsS [] ((pt ob 61 [Value.int .i64 o.kind, Value.int .i64 o.n, Value.int .u8 ((o.b : Nat) : Int), Value.int .i64 o.bits]) :: (pt wp 58 [Value.pointer (some ⟨pp, 0, none⟩), Value.pointer (some ⟨j, 0, none⟩), Value.pointer (some ⟨q, 0, none⟩), Value.pointer (some ⟨jr, 0, none⟩)]) :: []) (by kernel_rfl) ?_
         refine Wr.pure (v := Value.pointer (some ⟨wp, 0, none⟩)) 0 rfl (by kernel_rfl) (.inr (fun _ h => st_take [0, 0] h)) (.inl ⟨rfl, fun _ => q_move rfl⟩) ?_
         refine Wr.pure (v := Value.pointer (some ⟨wp, 0, none⟩)) 1 rfl (by kernel_rfl) (.inr (fun _ h => st_take [0, 0] h)) (.inl ⟨rfl, fun _ => q_nil_ptr rfl⟩) ?_
         refine Wr.pure (v := Value.pointer (some ⟨wp, 0, none⟩)) 2 rfl (by kernel_rfl) (.inr (fun _ h => st_take [0, 0] h)) (.inl ⟨rfl, fun _ => q_field (m := 0) fo_58_0 rfl rfl⟩) ?_
         refine Wr.take (v := Value.pointer (some ⟨pp, 0, none⟩)) 3 rfl (by kernel_rfl) (fun _ h => st_take [0, 0] h) (.inl ⟨rfl, q_load sc_23 rfl (.cel (i := 1) rfl rfl)⟩) ?_
         refine Wr.pure (v := Value.pointer (some ⟨wp, 0, none⟩)) 5 rfl (by kernel_rfl) (.inr (fun _ h => st_take [0, 0] h)) (.inl ⟨rfl, fun _ => q_move rfl⟩) ?_
         refine Wr.pure (v := Value.pointer (some ⟨wp, 0, none⟩)) 6 rfl (by kernel_rfl) (.inr (fun _ h => st_take [0, 0] h)) (.inl ⟨rfl, fun _ => q_nil_ptr rfl⟩) ?_
         refine Wr.pure (v := Value.pointer (some ⟨wp, 2, none⟩)) 7 rfl (by kernel_rfl) (.inr (fun _ h => st_take [0, 0] h)) (.inl ⟨rfl, fun _ => q_field (m := 2) fo_58_2 rfl rfl⟩) ?_
         refine Wr.take (v := Value.pointer (some ⟨q, 0, none⟩)) 8 rfl (by kernel_rfl) (fun _ h => st_take [0, 0] h) (.inl ⟨rfl, q_load sc_52 rfl (.cel (i := 1) rfl rfl)⟩) ?_
         refine Wr.imp (L' := (isDisk pp d) :: (pt ob 61 [Value.int .i64 o.kind, Value.int .i64 o.n, Value.int .u8 ((o.b : Nat) : Int), Value.int .i64 o.bits]) :: (pt wp 58 [Value.pointer (some ⟨pp, 0, none⟩), Value.pointer (some ⟨j, 0, none⟩), Value.pointer (some ⟨q, 0, none⟩), Value.pointer (some ⟨jr, 0, none⟩)]) :: (isJ j pp js) :: (pt jr 79 [Value.pointer (some ⟨q, 0, none⟩), Value.string ((js : JS).text), Value.int .i64 ((js : JS).seq), Value.bool ((js : JS).dead)]) :: (isRef q d) :: F) (fun _ h => st_pull [4] h) ?_
         refine Wr.e 4 (by kernel_rfl) rfl (e_call (F := (pt ob 61 [Value.int .i64 o.kind, Value.int .i64 o.n, Value.int .u8 ((o.b : Nat) : Int), Value.int .i64 o.bits]) :: (pt wp 58 [Value.pointer (some ⟨pp, 0, none⟩), Value.pointer (some ⟨j, 0, none⟩), Value.pointer (some ⟨q, 0, none⟩), Value.pointer (some ⟨jr, 0, none⟩)]) :: (isJ j pp js) :: (pt jr 79 [Value.pointer (some ⟨q, 0, none⟩), Value.string ((js : JS).text), Value.int .i64 ((js : JS).seq), Value.bool ((js : JS).dead)]) :: (isRef q d) :: F) (args := [Value.pointer (some ⟨pp, 0, none⟩)]) Try.call53 rfl (sync_c W0 pp d  hw hsince hcount)) (.inr fun _ _ _ h => st_take [1, 1] h) (fun _ _ => ?_)
         refine Wr.imp (L' := (isDisk pp ((d.sync).2)) :: (pt ob 61 [Value.int .i64 o.kind, Value.int .i64 o.n, Value.int .u8 ((o.b : Nat) : Int), Value.int .i64 o.bits]) :: (pt wp 58 [Value.pointer (some ⟨pp, 0, none⟩), Value.pointer (some ⟨j, 0, none⟩), Value.pointer (some ⟨q, 0, none⟩), Value.pointer (some ⟨jr, 0, none⟩)]) :: (isJ j pp js) :: (pt jr 79 [Value.pointer (some ⟨q, 0, none⟩), Value.string ((js : JS).text), Value.int .i64 ((js : JS).seq), Value.bool ((js : JS).dead)]) :: (isRef q d) :: F) (fun _ h => h) ?_
         refine Wr.imp (L' := (isRef q d) :: (isDisk pp ((d.sync).2)) :: (pt ob 61 [Value.int .i64 o.kind, Value.int .i64 o.n, Value.int .u8 ((o.b : Nat) : Int), Value.int .i64 o.bits]) :: (pt wp 58 [Value.pointer (some ⟨pp, 0, none⟩), Value.pointer (some ⟨j, 0, none⟩), Value.pointer (some ⟨q, 0, none⟩), Value.pointer (some ⟨jr, 0, none⟩)]) :: (isJ j pp js) :: (pt jr 79 [Value.pointer (some ⟨q, 0, none⟩), Value.string ((js : JS).text), Value.int .i64 ((js : JS).seq), Value.bool ((js : JS).dead)]) :: F) (fun _ h => st_pull [5] h) ?_
         refine Wr.e 9 (by kernel_rfl) rfl (e_call (F := (isDisk pp ((d.sync).2)) :: (pt ob 61 [Value.int .i64 o.kind, Value.int .i64 o.n, Value.int .u8 ((o.b : Nat) : Int), Value.int .i64 o.bits]) :: (pt wp 58 [Value.pointer (some ⟨pp, 0, none⟩), Value.pointer (some ⟨j, 0, none⟩), Value.pointer (some ⟨q, 0, none⟩), Value.pointer (some ⟨jr, 0, none⟩)]) :: (isJ j pp js) :: (pt jr 79 [Value.pointer (some ⟨q, 0, none⟩), Value.string ((js : JS).text), Value.int .i64 ((js : JS).seq), Value.bool ((js : JS).dead)]) :: F) (args := [Value.pointer (some ⟨q, 0, none⟩)]) Try.call54 rfl (rsync_c W0 q d  hw hsince hcount)) (.inr fun _ _ _ h => st_take [2, 2] h) (fun _ _ => ?_)
         refine Wr.imp (L' := (isRef q ((d.sync).2)) :: (isDisk pp ((d.sync).2)) :: (pt ob 61 [Value.int .i64 o.kind, Value.int .i64 o.n, Value.int .u8 ((o.b : Nat) : Int), Value.int .i64 o.bits]) :: (pt wp 58 [Value.pointer (some ⟨pp, 0, none⟩), Value.pointer (some ⟨j, 0, none⟩), Value.pointer (some ⟨q, 0, none⟩), Value.pointer (some ⟨jr, 0, none⟩)]) :: (isJ j pp js) :: (pt jr 79 [Value.pointer (some ⟨q, 0, none⟩), Value.string ((js : JS).text), Value.int .i64 ((js : JS).seq), Value.bool ((js : JS).dead)]) :: F) (fun _ h => h) ?_
         refine Wr.pure (v := Value.bool true) 10 rfl (by kernel_rfl) (.inr (fun _ h => st_take [2, 2] h)) (.inl ⟨rfl, fun _ => q_eql (r := true) rfl rfl (decide_eq_true (rfl))⟩) ?_
         refine Wr.pure (v := Value.bool true) 11 rfl (by kernel_rfl) (.inr (fun _ h => st_take [2, 2] h)) (.inl ⟨rfl, fun _ => q_assign rfl⟩) ?_
         refine Wr.done (by kernel_rfl) ?_
         refine Wx.go ?_
         refine Wc.ret ?_
         refine Wx.fin1 rfl (.inl rfl) (fun w hs => ?_)
         have e : opJ d (some js) o = (((d.sync).2), (some js)) := by unfold opJ; rw [if_neg hk0, if_neg hk1, if_neg hk2, if_neg hk3, if_neg hk4, if_neg hk5, if_neg hk6, if_neg hk8]
         exact ⟨(), trivial, rfl, by rw [e]; exact wJ_mk (j := j) (jr := jr) (js := js) (st_pull [2, 2, 2, 1, 0] (st_drop (st_pull [2] hs)))⟩

theorem do_c (W0 : World) (pp q wp : Nat) (d : DS) (o : OpJ) (hob : o.b < 256) (hw : WF d) (hn1 : 1 ≤ d.secs.length) (hsn : d.since.length < 1000000000000) (hct : d.count < 4000000000000000000) (oj : Option JS) (hj : ∀ js, oj = some js → 0 ≤ js.seq ∧ js.seq < 9223372036854775807 ∧ 4 ≤ d.secs.length) : Con Try.prog W0 26 #[Value.pointer (some ⟨wp, 0, none⟩), Value.agg #[Value.int .i64 o.kind, Value.int .i64 o.n, Value.int .u8 ((o.b : Nat) : Int), Value.int .i64 o.bits]] [wJ pp q wp oj, isDisk pp d, isRef q d] (X := Unit) (fun _ => True) (fun _ => .bool true) (fun _ => [wJ pp q wp (opJ d oj o).2, isDisk pp (opJ d oj o).1, isRef q (opJ d oj o).1]) := by
 cases oj with
 | none => exact do_none W0 pp q wp d o hob hw hn1 hsn hct
 | some js =>
  have h := hj js rfl
  exact Con.ex fun j => Con.ex fun jr => Con.grp (do_some W0 pp q wp d o hob hw hn1 hsn hct j jr js h.2.2 h.1 h.2.1)

end Go.Proofs.Ytnhejdnigblnoaa
