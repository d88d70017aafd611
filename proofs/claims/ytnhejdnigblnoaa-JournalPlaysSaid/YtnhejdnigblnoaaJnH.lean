/- Contracts of the calls. -/
import Derived.Test.YtnhejdnigblnoaaJnG
import Derived.Test.YtnhejdnigblnoaaJnPl
namespace Go.Proofs.Ytnhejdnigblnoaa
open Go Go.SL Go.Dk Go.Jn Go.RowKit
set_option linter.unusedVariables false
set_option maxRecDepth 8000
theorem fo_61_0 : fieldOff Try.prog 61 0 = some 0 := by kernel_rfl
theorem fo_58_3 : fieldOff Try.prog 58 3 = some 3 := by kernel_rfl
theorem sc_56 : scalar Try.prog 56 = true := by kernel_rfl
theorem fo_58_0 : fieldOff Try.prog 58 0 = some 0 := by kernel_rfl
theorem fo_58_2 : fieldOff Try.prog 58 2 = some 2 := by kernel_rfl
theorem fo_58_1 : fieldOff Try.prog 58 1 = some 1 := by kernel_rfl
theorem sz_22 : sizeIs Try.prog 22 = some 1 := by kernel_rfl
theorem sz_56 : sizeIs Try.prog 56 = some 1 := by kernel_rfl
theorem fo_61_1 : fieldOff Try.prog 61 1 = some 1 := by kernel_rfl
theorem fo_61_3 : fieldOff Try.prog 61 3 = some 3 := by kernel_rfl
theorem fo_61_2 : fieldOff Try.prog 61 2 = some 2 := by kernel_rfl
theorem rPut_c (W0 : World) (jr q : Nat) (js : JS) (d : DS) (s : ByteArray) (hw : WF d) (h4 : 4 ≤ d.secs.length) (hsn : d.since.length < 1000000000000) (hct : d.count < 4000000000000000000) (hq0 : 0 ≤ js.seq) (hq : js.seq < 9223372036854775807) : Con Try.prog W0 42 #[.pointer (some ⟨jr, 0, none⟩), .string s] [isRJ jr q js, isRef q d] (X := Unit) (fun _ => True) (fun _ => .int .i64 (js.put d s).1) (fun _ => [isRJ jr q (js.put d s).2.2, isRef q (js.put d s).2.1]) := by
  obtain ⟨t, n, dead⟩ := js
  have hm := hw.l.len
  obtain ⟨secs, since, down, count, cut⟩ := d
  refine Con.ref2 (fun bd cd sv lv bv hr => ?_)
  cases dead
  · cases down
    · exact rPut_on W0 jr t n s q bd cd secs since count sv lv bv cut hr hw h4 hm hsn hct hq0 hq
    · exact rPut_down W0 jr t n s q bd cd secs since count sv lv bv cut hr
  · exact rPut_dead W0 jr t n s q bd cd secs since count sv lv bv cut hr down
theorem ropen_ok (W0 : World) (q : Nat) (d : DS) (hw : WF d) (hn1 : 1 ≤ d.secs.length) (hsn : d.since.length < 1099511627776) {t : ByteArray} {n : Int} (h : openD d = (0, some (t, n))) : Con Try.prog W0 43 #[.pointer (some ⟨q, 0, none⟩)] [isRef q d] (X := Nat) (fun _ => True) (fun j => .tuple #[.pointer (some ⟨j, 0, none⟩), .int .i64 0]) (fun j => [isRJ j q ⟨t, n, false⟩, isRef q d]) := by
 have := ropen_c W0 q d hw hn1 hsn
 rw [h] at this
 exact this
theorem ropen_bad (W0 : World) (q : Nat) (d : DS) (hw : WF d) (hn1 : 1 ≤ d.secs.length) (hsn : d.since.length < 1099511627776) {c : Int} (h : openD d = (c, none)) : Con Try.prog W0 43 #[.pointer (some ⟨q, 0, none⟩)] [isRef q d] (X := Nat) (fun _ => True) (fun _ => .tuple #[.pointer none, .int .i64 c]) (fun _ => [isRef q d]) := by
 have := ropen_c W0 q d hw hn1 hsn
 rw [h] at this
 exact this

theorem sector_c (W0 : World) (b : Nat) (hb : b < 256) :
  Con Try.prog W0 50 #[Value.int .u8 ((b : Nat) : Int)] [] (X := Unit) (fun _ => True) (fun _ => .string (txt 64 b)) (fun _ => []) := by
 refine Con.of (args := [Value.int .u8 ((b : Nat) : Int)]) Try.func50 rfl Try.ntmps50 rfl (fun F => ?_)
 show Wc _ W0 _ _ _ _ _ (F)
 refine Wc.seq ?_
 refine Wc.region ?_
 refine Wl.q (v := Value.string (⟨#[]⟩)) (q_assign rfl) ?_
 refine Wl.done ?_
 refine Wx.go ?_
 refine Wc.seq ?_
 refine Wc.region ?_
 refine Wl.q (v := Value.int .u8 ((b : Nat) : Int)) (q_move rfl) ?_
 refine Wl.e (e_call (F := F) (args := [Value.int .i64 64, Value.int .u8 ((b : Nat) : Int)]) Try.call17 rfl (text_c W0 64 b (by first | decide | assumption | omega))) (fun _ _ => ?_)
 refine Wl.imp (L' := F) (fun _ h => h) ?_
 refine Wl.q (v := Value.string (txt 64 b)) (q_assign rfl) ?_
 refine Wl.done ?_
 refine Wx.go ?_
 refine Wc.ret ?_
 refine Wx.fin1 rfl (.inl rfl) (fun w hs => ?_)
 exact ⟨(), trivial, rfl, hs⟩

def wJ (pp q wp : Nat) (oj : Option JS) : HP := match oj with
 | none => pt wp 58 [.pointer (some ⟨pp, 0, none⟩), .pointer none, .pointer (some ⟨q, 0, none⟩), .pointer none]
 | some js => ex fun j => ex fun jr => grp [pt wp 58 [.pointer (some ⟨pp, 0, none⟩), .pointer (some ⟨j, 0, none⟩), .pointer (some ⟨q, 0, none⟩), .pointer (some ⟨jr, 0, none⟩)], isJ j pp js, isRJ jr q js]
theorem wJ_mk {W0 w : World} {pp q wp j jr : Nat} {js : JS} {L : List HP} (h : st W0 w (pt wp 58 [.pointer (some ⟨pp, 0, none⟩), .pointer (some ⟨j, 0, none⟩), .pointer (some ⟨q, 0, none⟩), .pointer (some ⟨jr, 0, none⟩)] :: isJ j pp js :: isRJ jr q js :: L)) : st W0 w (wJ pp q wp (some js) :: L) :=
 st_ex.2 ⟨j, st_ex.2 ⟨jr, st_grp.2 h⟩⟩

set_option maxHeartbeats 8000000 in
theorem do_none (W0 : World) (pp q wp : Nat) (d : DS) (o : OpJ) (hob : o.b < 256) (hw : WF d) (hn1 : 1 ≤ d.secs.length) (hsn : d.since.length < 1000000000000) (hct : d.count < 4000000000000000000) :
  Con Try.prog W0 26 #[Value.pointer (some ⟨wp, 0, none⟩), Value.agg #[Value.int .i64 o.kind, Value.int .i64 o.n, Value.int .u8 ((o.b : Nat) : Int), Value.int .i64 o.bits]] [pt wp 58 [Value.pointer (some ⟨pp, 0, none⟩), Value.pointer none, Value.pointer (some ⟨q, 0, none⟩), Value.pointer none], isDisk pp d, isRef q d] (X := Unit) (fun _ => True) (fun _ => .bool true) (fun _ => [wJ pp q wp (opJ d none o).2, isDisk pp (opJ d none o).1, isRef q (opJ d none o).1]) := by
 refine Con.of (args := [Value.pointer (some ⟨wp, 0, none⟩), Value.agg #[Value.int .i64 o.kind, Value.int .i64 o.n, Value.int .u8 ((o.b : Nat) : Int), Value.int .i64 o.bits]]) Try.func26 rfl Try.ntmps26 rfl (fun F => ?_)
 have hm := hw.l.len
 have hsince : d.since.length < 1099511627776 := by omega
 have hcount : d.count < 4611686018427387904 := by omega
 have hh : half d.secs ≤ 2047 := by unfold half; omega
 show Wc _ W0 _ _ _ _ _ ((pt wp 58 [Value.pointer (some ⟨pp, 0, none⟩), Value.pointer none, Value.pointer (some ⟨q, 0, none⟩), Value.pointer none]) :: (isDisk pp d) :: (isRef q d) :: F)
 refine Wc.seq ?_
 refine Wc.region ?_
 refine Wl.e (e_box (x := .tmp 1) (vs := [Value.int .i64 o.kind, Value.int .i64 o.n, Value.int .u8 ((o.b : Nat) : Int), Value.int .i64 o.bits]) rfl) (fun ob _ => ?_)
 refine Wl.imp (L' := (pt ob 61 [Value.int .i64 o.kind, Value.int .i64 o.n, Value.int .u8 ((o.b : Nat) : Int), Value.int .i64 o.bits]) :: (pt wp 58 [Value.pointer (some ⟨pp, 0, none⟩), Value.pointer none, Value.pointer (some ⟨q, 0, none⟩), Value.pointer none]) :: (isDisk pp d) :: (isRef q d) :: F) (fun _ h => h) ?_
 refine Wl.q (v := Value.bool false) (q_assign rfl) ?_
 refine Wl.done ?_
 refine Wx.go ?_
 refine Wc.seq ?_
 refine Wc.seq ?_
 refine Wc.region ?_
 refine Wl.q (v := Value.pointer (some ⟨ob, 0, none⟩)) (q_field (m := 0) fo_61_0 rfl rfl) ?_
 refine Wl.q (v := Value.int .i64 o.kind) (q_load sc_3 rfl (.cel (i := 0) rfl rfl)) ?_
 refine Wl.done ?_
 refine Wx.go ?_
 refine Wc.block ?_
 refine Wc.seq ?_
 refine Wc.region ?_
 by_cases hk0 : o.kind = 0
 ·
  refine Wl.q (v := Value.bool true) (q_eql (r := true) rfl rfl (decide_eq_true hk0)) ?_
  refine Wl.q (v := Value.bool true) (q_assign rfl) ?_
  refine Wl.done ?_
  refine Wx.go ?_
  refine Wc.yes rfl ?_
  refine Wc.seq ?_
  refine Wc.seq ?_
  refine Wc.region ?_
  refine Wl.q (v := Value.pointer (some ⟨wp, 0, none⟩)) (q_move rfl) ?_
  refine Wl.q (v := Value.pointer (some ⟨wp, 0, none⟩)) (q_nil_ptr rfl) ?_
  refine Wl.q (v := Value.pointer (some ⟨wp, 3, none⟩)) (q_field (m := 3) fo_58_3 rfl rfl) ?_
  refine Wl.q (v := Value.pointer none) (q_load sc_56 rfl (.cel (i := 1) rfl rfl)) ?_
  refine Wl.q (v := Value.bool true) (q_eql_nil (r := true) rfl rfl Try.underlying56 rfl) ?_
  refine Wl.done ?_
  refine Wx.go ?_
  refine Wc.yes rfl ?_
  refine Wc.seq ?_
  refine Wc.region ?_
  refine Wl.q (v := Value.bool true) (q_assign rfl) ?_
  refine Wl.done ?_
  refine Wx.go ?_
  refine Wc.ret ?_
  refine Wx.thenRet ?_
  refine Wx.blockRet ?_
  refine Wx.thenRet ?_
  refine Wx.fin1 rfl (.inl rfl) (fun w hs => ?_)
  have e : opJ d none o = (d, none) := by unfold opJ; rw [if_pos hk0]
  exact ⟨(), trivial, rfl, by rw [e]; exact (st_drop (st_pull [0] hs))⟩
 ·
  refine Wl.q (v := Value.bool false) (q_eql (r := false) rfl rfl (decide_eq_false hk0)) ?_
  refine Wl.q (v := Value.bool false) (q_assign rfl) ?_
  refine Wl.done ?_
  refine Wx.go ?_
  refine Wc.no rfl ?_
  refine Wc.seq ?_
  refine Wc.region ?_
  by_cases hk1 : o.kind = 1
  ·
   refine Wl.q (v := Value.bool true) (q_eql (r := true) rfl rfl (decide_eq_true hk1)) ?_
   refine Wl.q (v := Value.bool true) (q_assign rfl) ?_
   refine Wl.done ?_
   refine Wx.go ?_
   refine Wc.yes rfl ?_
   refine Wc.seq ?_
   refine Wc.region ?_
   rcases hop : openD d with ⟨c, _ | ⟨t, n⟩⟩
   ·
    refine Wl.q (v := Value.pointer (some ⟨wp, 0, none⟩)) (q_move rfl) ?_
    refine Wl.q (v := Value.pointer (some ⟨wp, 0, none⟩)) (q_nil_ptr rfl) ?_
    refine Wl.q (v := Value.pointer (some ⟨wp, 0, none⟩)) (q_field (m := 0) fo_58_0 rfl rfl) ?_
    refine Wl.q (v := Value.pointer (some ⟨pp, 0, none⟩)) (q_load sc_23 rfl (.cel (i := 1) rfl rfl)) ?_
    refine Wl.imp (L' := (isDisk pp d) :: (pt ob 61 [Value.int .i64 o.kind, Value.int .i64 o.n, Value.int .u8 ((o.b : Nat) : Int), Value.int .i64 o.bits]) :: (pt wp 58 [Value.pointer (some ⟨pp, 0, none⟩), Value.pointer none, Value.pointer (some ⟨q, 0, none⟩), Value.pointer none]) :: (isRef q d) :: F) (fun _ h => st_pull [2] h) ?_
    refine Wl.e (e_call (F := (pt ob 61 [Value.int .i64 o.kind, Value.int .i64 o.n, Value.int .u8 ((o.b : Nat) : Int), Value.int .i64 o.bits]) :: (pt wp 58 [Value.pointer (some ⟨pp, 0, none⟩), Value.pointer none, Value.pointer (some ⟨q, 0, none⟩), Value.pointer none]) :: (isRef q d) :: F) (args := [Value.pointer (some ⟨pp, 0, none⟩)]) Try.call12 rfl (open_bad W0 pp d hw hn1 hsince hop)) (fun _ _ => ?_)
    refine Wl.imp (L' := (isDisk pp d) :: (pt ob 61 [Value.int .i64 o.kind, Value.int .i64 o.n, Value.int .u8 ((o.b : Nat) : Int), Value.int .i64 o.bits]) :: (pt wp 58 [Value.pointer (some ⟨pp, 0, none⟩), Value.pointer none, Value.pointer (some ⟨q, 0, none⟩), Value.pointer none]) :: (isRef q d) :: F) (fun _ h => h) ?_
    refine Wl.q (v := Value.tuple #[Value.pointer none, Value.int .i64 c]) (q_move rfl) ?_
    refine Wl.q (v := Value.pointer none) (q_extract (i := 0) rfl rfl) ?_
    refine Wl.q (v := Value.int .i64 c) (q_extract (i := 1) rfl rfl) ?_
    refine Wl.q (v := Value.pointer none) (q_assign rfl) ?_
    refine Wl.q (v := Value.int .i64 c) (q_assign rfl) ?_
    refine Wl.done ?_
    refine Wx.go ?_
    refine Wc.seq ?_
    refine Wc.region ?_
    refine Wl.q (v := Value.pointer (some ⟨wp, 0, none⟩)) (q_move rfl) ?_
    refine Wl.q (v := Value.pointer (some ⟨wp, 0, none⟩)) (q_nil_ptr rfl) ?_
    refine Wl.q (v := Value.pointer (some ⟨wp, 2, none⟩)) (q_field (m := 2) fo_58_2 rfl rfl) ?_
    refine Wl.q (v := Value.pointer (some ⟨q, 0, none⟩)) (q_load sc_52 rfl (.cel (i := 2) rfl rfl)) ?_
    refine Wl.imp (L' := (isRef q d) :: (isDisk pp d) :: (pt ob 61 [Value.int .i64 o.kind, Value.int .i64 o.n, Value.int .u8 ((o.b : Nat) : Int), Value.int .i64 o.bits]) :: (pt wp 58 [Value.pointer (some ⟨pp, 0, none⟩), Value.pointer none, Value.pointer (some ⟨q, 0, none⟩), Value.pointer none]) :: F) (fun _ h => st_pull [3] h) ?_
    refine Wl.e (e_call (F := (isDisk pp d) :: (pt ob 61 [Value.int .i64 o.kind, Value.int .i64 o.n, Value.int .u8 ((o.b : Nat) : Int), Value.int .i64 o.bits]) :: (pt wp 58 [Value.pointer (some ⟨pp, 0, none⟩), Value.pointer none, Value.pointer (some ⟨q, 0, none⟩), Value.pointer none]) :: F) (args := [Value.pointer (some ⟨q, 0, none⟩)]) Try.call43 rfl (ropen_bad W0 q d hw hn1 hsince hop)) (fun _ _ => ?_)
    refine Wl.imp (L' := (isRef q d) :: (isDisk pp d) :: (pt ob 61 [Value.int .i64 o.kind, Value.int .i64 o.n, Value.int .u8 ((o.b : Nat) : Int), Value.int .i64 o.bits]) :: (pt wp 58 [Value.pointer (some ⟨pp, 0, none⟩), Value.pointer none, Value.pointer (some ⟨q, 0, none⟩), Value.pointer none]) :: F) (fun _ h => h) ?_
    refine Wl.q (v := Value.tuple #[Value.pointer none, Value.int .i64 c]) (q_move rfl) ?_
    refine Wl.q (v := Value.pointer none) (q_extract (i := 0) rfl rfl) ?_
    refine Wl.q (v := Value.int .i64 c) (q_extract (i := 1) rfl rfl) ?_
    refine Wl.q (v := Value.pointer none) (q_assign rfl) ?_
    refine Wl.q (v := Value.int .i64 c) (q_assign rfl) ?_
    refine Wl.done ?_
    refine Wx.go ?_
    refine Wc.seq ?_
    refine Wc.region ?_
    refine Wl.q (v := Value.pointer (some ⟨wp, 0, none⟩)) (q_move rfl) ?_
    refine Wl.q (v := Value.pointer (some ⟨wp, 0, none⟩)) (q_move rfl) ?_
    refine Wl.q (v := Value.pointer none) (q_move rfl) ?_
    refine Wl.q (v := Value.pointer none) (q_move rfl) ?_
    refine Wl.q (v := Value.pointer (some ⟨wp, 0, none⟩)) (q_nil_ptr rfl) ?_
    refine Wl.q (v := Value.pointer (some ⟨wp, 1, none⟩)) (q_field (m := 1) fo_58_1 rfl rfl) ?_
    refine Wl.e (e_store (i := 3) (v := Value.pointer none) sz_22 rfl rfl (fun _ _ => rfl) rfl (by simp)) (fun _ _ => ?_)
    refine Wl.imp (L' := (isRef q d) :: (isDisk pp d) :: (pt ob 61 [Value.int .i64 o.kind, Value.int .i64 o.n, Value.int .u8 ((o.b : Nat) : Int), Value.int .i64 o.bits]) :: (pt wp 58 [Value.pointer (some ⟨pp, 0, none⟩), Value.pointer none, Value.pointer (some ⟨q, 0, none⟩), Value.pointer none]) :: F) (fun _ h => h) ?_
    refine Wl.q (v := Value.pointer (some ⟨wp, 0, none⟩)) (q_nil_ptr rfl) ?_
    refine Wl.q (v := Value.pointer (some ⟨wp, 3, none⟩)) (q_field (m := 3) fo_58_3 rfl rfl) ?_
    refine Wl.e (e_store (i := 3) (v := Value.pointer none) sz_56 rfl rfl (fun _ _ => rfl) rfl (by simp)) (fun _ _ => ?_)
    refine Wl.imp (L' := (isRef q d) :: (isDisk pp d) :: (pt ob 61 [Value.int .i64 o.kind, Value.int .i64 o.n, Value.int .u8 ((o.b : Nat) : Int), Value.int .i64 o.bits]) :: (pt wp 58 [Value.pointer (some ⟨pp, 0, none⟩), Value.pointer none, Value.pointer (some ⟨q, 0, none⟩), Value.pointer none]) :: F) (fun _ h => h) ?_
    refine Wl.done ?_
    refine Wx.go ?_
    refine Wc.seq ?_
    refine Wc.region ?_
    refine Wl.q (v := Value.int .i64 c) (q_move rfl) ?_
    refine Wl.q (v := Value.int .i64 c) (q_move rfl) ?_
    refine Wl.q (v := Value.bool true) (q_eql (r := true) rfl rfl (decide_eq_true (rfl))) ?_
    refine Wl.q (v := Value.bool true) (q_move rfl) ?_
    refine Wl.q (v := Value.pointer none) (q_move rfl) ?_
    refine Wl.q (v := Value.bool true) (q_eql_nil (r := true) rfl rfl Try.underlying22 rfl) ?_
    refine Wl.q (v := Value.pointer none) (q_move rfl) ?_
    refine Wl.q (v := Value.bool true) (q_eql_nil (r := true) rfl rfl Try.underlying56 rfl) ?_
    refine Wl.q (v := Value.bool true) (q_eql_bool (r := true) rfl rfl Try.underlying4 rfl) ?_
    refine Wl.q (v := Value.bool true) (q_pick (t := true) rfl rfl) ?_
    refine Wl.q (v := Value.bool true) (q_assign rfl) ?_
    refine Wl.done ?_
    refine Wx.go ?_
    refine Wc.ret ?_
    refine Wx.blockRet ?_
    refine Wx.thenRet ?_
    refine Wx.fin1 rfl (.inl rfl) (fun w hs => ?_)
    have e : opJ d none o = (d, none) := by unfold opJ; rw [if_neg hk0, if_pos hk1, hop]
    exact ⟨(), trivial, rfl, by rw [e]; exact (st_pull [2, 1, 0] (st_drop (st_pull [2] hs)))⟩
   ·
    obtain rfl : c = 0 := open_err hop
    refine Wl.q (v := Value.pointer (some ⟨wp, 0, none⟩)) (q_move rfl) ?_
    refine Wl.q (v := Value.pointer (some ⟨wp, 0, none⟩)) (q_nil_ptr rfl) ?_
    refine Wl.q (v := Value.pointer (some ⟨wp, 0, none⟩)) (q_field (m := 0) fo_58_0 rfl rfl) ?_
    refine Wl.q (v := Value.pointer (some ⟨pp, 0, none⟩)) (q_load sc_23 rfl (.cel (i := 1) rfl rfl)) ?_
    refine Wl.imp (L' := (isDisk pp d) :: (pt ob 61 [Value.int .i64 o.kind, Value.int .i64 o.n, Value.int .u8 ((o.b : Nat) : Int), Value.int .i64 o.bits]) :: (pt wp 58 [Value.pointer (some ⟨pp, 0, none⟩), Value.pointer none, Value.pointer (some ⟨q, 0, none⟩), Value.pointer none]) :: (isRef q d) :: F) (fun _ h => st_pull [2] h) ?_
    refine Wl.e (e_call (F := (pt ob 61 [Value.int .i64 o.kind, Value.int .i64 o.n, Value.int .u8 ((o.b : Nat) : Int), Value.int .i64 o.bits]) :: (pt wp 58 [Value.pointer (some ⟨pp, 0, none⟩), Value.pointer none, Value.pointer (some ⟨q, 0, none⟩), Value.pointer none]) :: (isRef q d) :: F) (args := [Value.pointer (some ⟨pp, 0, none⟩)]) Try.call12 rfl (open_ok W0 pp d hw hn1 hsince hop)) (fun j2 _ => ?_)
    refine Wl.imp (L' := (isJ j2 pp ⟨t, n, false⟩) :: (isDisk pp d) :: (pt ob 61 [Value.int .i64 o.kind, Value.int .i64 o.n, Value.int .u8 ((o.b : Nat) : Int), Value.int .i64 o.bits]) :: (pt wp 58 [Value.pointer (some ⟨pp, 0, none⟩), Value.pointer none, Value.pointer (some ⟨q, 0, none⟩), Value.pointer none]) :: (isRef q d) :: F) (fun _ h => h) ?_
    refine Wl.q (v := Value.tuple #[Value.pointer (some ⟨j2, 0, none⟩), Value.int .i64 0]) (q_move rfl) ?_
    refine Wl.q (v := Value.pointer (some ⟨j2, 0, none⟩)) (q_extract (i := 0) rfl rfl) ?_
    refine Wl.q (v := Value.int .i64 0) (q_extract (i := 1) rfl rfl) ?_
    refine Wl.q (v := Value.pointer (some ⟨j2, 0, none⟩)) (q_assign rfl) ?_
    refine Wl.q (v := Value.int .i64 0) (q_assign rfl) ?_
    refine Wl.done ?_
    refine Wx.go ?_
    refine Wc.seq ?_
    refine Wc.region ?_
    refine Wl.q (v := Value.pointer (some ⟨wp, 0, none⟩)) (q_move rfl) ?_
    refine Wl.q (v := Value.pointer (some ⟨wp, 0, none⟩)) (q_nil_ptr rfl) ?_
    refine Wl.q (v := Value.pointer (some ⟨wp, 2, none⟩)) (q_field (m := 2) fo_58_2 rfl rfl) ?_
    refine Wl.q (v := Value.pointer (some ⟨q, 0, none⟩)) (q_load sc_52 rfl (.cel (i := 3) rfl rfl)) ?_
    refine Wl.imp (L' := (isRef q d) :: (isJ j2 pp ⟨t, n, false⟩) :: (isDisk pp d) :: (pt ob 61 [Value.int .i64 o.kind, Value.int .i64 o.n, Value.int .u8 ((o.b : Nat) : Int), Value.int .i64 o.bits]) :: (pt wp 58 [Value.pointer (some ⟨pp, 0, none⟩), Value.pointer none, Value.pointer (some ⟨q, 0, none⟩), Value.pointer none]) :: F) (fun _ h => st_pull [4] h) ?_
    refine Wl.e (e_call (F := (isJ j2 pp ⟨t, n, false⟩) :: (isDisk pp d) :: (pt ob 61 [Value.int .i64 o.kind, Value.int .i64 o.n, Value.int .u8 ((o.b : Nat) : Int), Value.int .i64 o.bits]) :: (pt wp 58 [Value.pointer (some ⟨pp, 0, none⟩), Value.pointer none, Value.pointer (some ⟨q, 0, none⟩), Value.pointer none]) :: F) (args := [Value.pointer (some ⟨q, 0, none⟩)]) Try.call43 rfl (ropen_ok W0 q d hw hn1 hsince hop)) (fun jr2 _ => ?_)
    refine Wl.imp (L' := (pt jr2 79 [Value.pointer (some ⟨q, 0, none⟩), Value.string ((⟨t, n, false⟩ : JS).text), Value.int .i64 ((⟨t, n, false⟩ : JS).seq), Value.bool ((⟨t, n, false⟩ : JS).dead)]) :: (isRef q d) :: (isJ j2 pp ⟨t, n, false⟩) :: (isDisk pp d) :: (pt ob 61 [Value.int .i64 o.kind, Value.int .i64 o.n, Value.int .u8 ((o.b : Nat) : Int), Value.int .i64 o.bits]) :: (pt wp 58 [Value.pointer (some ⟨pp, 0, none⟩), Value.pointer none, Value.pointer (some ⟨q, 0, none⟩), Value.pointer none]) :: F) (fun _ h => h) ?_
    refine Wl.q (v := Value.tuple #[Value.pointer (some ⟨jr2, 0, none⟩), Value.int .i64 0]) (q_move rfl) ?_
    refine Wl.q (v := Value.pointer (some ⟨jr2, 0, none⟩)) (q_extract (i := 0) rfl rfl) ?_
    refine Wl.q (v := Value.int .i64 0) (q_extract (i := 1) rfl rfl) ?_
    refine Wl.q (v := Value.pointer (some ⟨jr2, 0, none⟩)) (q_assign rfl) ?_
    refine Wl.q (v := Value.int .i64 0) (q_assign rfl) ?_
    refine Wl.done ?_
    refine Wx.go ?_
    refine Wc.seq ?_
    refine Wc.region ?_
    refine Wl.q (v := Value.pointer (some ⟨wp, 0, none⟩)) (q_move rfl) ?_
    refine Wl.q (v := Value.pointer (some ⟨wp, 0, none⟩)) (q_move rfl) ?_
    refine Wl.q (v := Value.pointer (some ⟨j2, 0, none⟩)) (q_move rfl) ?_
    refine Wl.q (v := Value.pointer (some ⟨jr2, 0, none⟩)) (q_move rfl) ?_
    refine Wl.q (v := Value.pointer (some ⟨wp, 0, none⟩)) (q_nil_ptr rfl) ?_
    refine Wl.q (v := Value.pointer (some ⟨wp, 1, none⟩)) (q_field (m := 1) fo_58_1 rfl rfl) ?_
    refine Wl.e (e_store (i := 5) (v := Value.pointer (some ⟨j2, 0, none⟩)) sz_22 rfl rfl (fun _ _ => rfl) rfl (by simp)) (fun _ _ => ?_)
    refine Wl.imp (L' := (pt jr2 79 [Value.pointer (some ⟨q, 0, none⟩), Value.string ((⟨t, n, false⟩ : JS).text), Value.int .i64 ((⟨t, n, false⟩ : JS).seq), Value.bool ((⟨t, n, false⟩ : JS).dead)]) :: (isRef q d) :: (isJ j2 pp ⟨t, n, false⟩) :: (isDisk pp d) :: (pt ob 61 [Value.int .i64 o.kind, Value.int .i64 o.n, Value.int .u8 ((o.b : Nat) : Int), Value.int .i64 o.bits]) :: (pt wp 58 [Value.pointer (some ⟨pp, 0, none⟩), Value.pointer (some ⟨j2, 0, none⟩), Value.pointer (some ⟨q, 0, none⟩), Value.pointer none]) :: F) (fun _ h => h) ?_
    refine Wl.q (v := Value.pointer (some ⟨wp, 0, none⟩)) (q_nil_ptr rfl) ?_
    refine Wl.q (v := Value.pointer (some ⟨wp, 3, none⟩)) (q_field (m := 3) fo_58_3 rfl rfl) ?_
    refine Wl.e (e_store (i := 5) (v := Value.pointer (some ⟨jr2, 0, none⟩)) sz_56 rfl rfl (fun _ _ => rfl) rfl (by simp)) (fun _ _ => ?_)
    refine Wl.imp (L' := (pt jr2 79 [Value.pointer (some ⟨q, 0, none⟩), Value.string ((⟨t, n, false⟩ : JS).text), Value.int .i64 ((⟨t, n, false⟩ : JS).seq), Value.bool ((⟨t, n, false⟩ : JS).dead)]) :: (isRef q d) :: (isJ j2 pp ⟨t, n, false⟩) :: (isDisk pp d) :: (pt ob 61 [Value.int .i64 o.kind, Value.int .i64 o.n, Value.int .u8 ((o.b : Nat) : Int), Value.int .i64 o.bits]) :: (pt wp 58 [Value.pointer (some ⟨pp, 0, none⟩), Value.pointer (some ⟨j2, 0, none⟩), Value.pointer (some ⟨q, 0, none⟩), Value.pointer (some ⟨jr2, 0, none⟩)]) :: F) (fun _ h => h) ?_
    refine Wl.done ?_
    refine Wx.go ?_
    refine Wc.seq ?_
    refine Wc.region ?_
    refine Wl.q (v := Value.int .i64 0) (q_move rfl) ?_
    refine Wl.q (v := Value.int .i64 0) (q_move rfl) ?_
    refine Wl.q (v := Value.bool true) (q_eql (r := true) rfl rfl (decide_eq_true (by decide))) ?_
    refine Wl.q (v := Value.bool true) (q_move rfl) ?_
    refine Wl.q (v := Value.pointer (some ⟨j2, 0, none⟩)) (q_move rfl) ?_
    refine Wl.q (v := Value.bool false) (q_eql_nil (r := false) rfl rfl Try.underlying22 rfl) ?_
    refine Wl.q (v := Value.pointer (some ⟨jr2, 0, none⟩)) (q_move rfl) ?_
    refine Wl.q (v := Value.bool false) (q_eql_nil (r := false) rfl rfl Try.underlying56 rfl) ?_
    refine Wl.q (v := Value.bool true) (q_eql_bool (r := true) rfl rfl Try.underlying4 rfl) ?_
    refine Wl.q (v := Value.bool true) (q_pick (t := true) rfl rfl) ?_
    refine Wl.q (v := Value.bool true) (q_assign rfl) ?_
    refine Wl.done ?_
    refine Wx.go ?_
    refine Wc.ret ?_
    refine Wx.blockRet ?_
    refine Wx.thenRet ?_
    refine Wx.fin1 rfl (.inl rfl) (fun w hs => ?_)
    have e : opJ d none o = (d, (some (⟨t, n, false⟩))) := by unfold opJ; rw [if_neg hk0, if_pos hk1, hop]
    exact ⟨(), trivial, rfl, by rw [e]; exact wJ_mk (j := j2) (jr := jr2) (js := (⟨t, n, false⟩)) (st_pull [4, 2, 0, 1, 0] (st_drop (st_pull [4] hs)))⟩
  ·
   refine Wl.q (v := Value.bool false) (q_eql (r := false) rfl rfl (decide_eq_false hk1)) ?_
   refine Wl.q (v := Value.bool false) (q_assign rfl) ?_
   refine Wl.done ?_
   refine Wx.go ?_
   refine Wc.no rfl ?_
   refine Wc.seq ?_
   refine Wc.region ?_
   by_cases hk2 : o.kind = 2
   ·
    refine Wl.q (v := Value.bool true) (q_eql (r := true) rfl rfl (decide_eq_true hk2)) ?_
    refine Wl.q (v := Value.bool true) (q_assign rfl) ?_
    refine Wl.done ?_
    refine Wx.go ?_
    refine Wc.yes rfl ?_
    refine Wc.seq ?_
    refine Wc.seq ?_
    refine Wc.region ?_
    refine Wl.q (v := Value.pointer (some ⟨wp, 0, none⟩)) (q_move rfl) ?_
    refine Wl.q (v := Value.pointer (some ⟨wp, 0, none⟩)) (q_nil_ptr rfl) ?_
    refine Wl.q (v := Value.pointer (some ⟨wp, 3, none⟩)) (q_field (m := 3) fo_58_3 rfl rfl) ?_
    refine Wl.q (v := Value.pointer none) (q_load sc_56 rfl (.cel (i := 1) rfl rfl)) ?_
    refine Wl.q (v := Value.bool true) (q_eql_nil (r := true) rfl rfl Try.underlying56 rfl) ?_
    refine Wl.done ?_
    refine Wx.go ?_
    refine Wc.yes rfl ?_
    refine Wc.seq ?_
    refine Wc.region ?_
    refine Wl.q (v := Value.bool true) (q_assign rfl) ?_
    refine Wl.done ?_
    refine Wx.go ?_
    refine Wc.ret ?_
    refine Wx.thenRet ?_
    refine Wx.blockRet ?_
    refine Wx.thenRet ?_
    refine Wx.fin1 rfl (.inl rfl) (fun w hs => ?_)
    have e : opJ d none o = (d, none) := by unfold opJ; rw [if_neg hk0, if_neg hk1, if_pos hk2]
    exact ⟨(), trivial, rfl, by rw [e]; exact (st_drop (st_pull [0] hs))⟩
   ·
    refine Wl.q (v := Value.bool false) (q_eql (r := false) rfl rfl (decide_eq_false hk2)) ?_
    refine Wl.q (v := Value.bool false) (q_assign rfl) ?_
    refine Wl.done ?_
    refine Wx.go ?_
    refine Wc.no rfl ?_
    refine Wc.seq ?_
    refine Wc.region ?_
    by_cases hk3 : o.kind = 3
    ·
     refine Wl.q (v := Value.bool true) (q_eql (r := true) rfl rfl (decide_eq_true hk3)) ?_
     refine Wl.q (v := Value.bool true) (q_assign rfl) ?_
     refine Wl.done ?_
     refine Wx.go ?_
     refine Wc.yes rfl ?_
     refine Wc.seq ?_
     refine Wc.drawsS [] ((pt ob 61 [Value.int .i64 o.kind, Value.int .i64 o.n, Value.int .u8 ((o.b : Nat) : Int), Value.int .i64 o.bits]) :: (pt wp 58 [Value.pointer (some ⟨pp, 0, none⟩), Value.pointer none, Value.pointer (some ⟨q, 0, none⟩), Value.pointer none]) :: []) (by kernel_rfl) ?_
     refine Wr.pure (v := Value.pointer (some ⟨wp, 0, none⟩)) 0 rfl (by kernel_rfl) (.inr (fun _ h => st_take [0, 0] h)) (.inl ⟨rfl, fun _ => q_move rfl⟩) ?_
     refine Wr.pure (v := Value.pointer (some ⟨wp, 0, none⟩)) 1 rfl (by kernel_rfl) (.inr (fun _ h => st_take [0, 0] h)) (.inl ⟨rfl, fun _ => q_nil_ptr rfl⟩) ?_
     refine Wr.pure (v := Value.pointer (some ⟨wp, 0, none⟩)) 2 rfl (by kernel_rfl) (.inr (fun _ h => st_take [0, 0] h)) (.inl ⟨rfl, fun _ => q_field (m := 0) fo_58_0 rfl rfl⟩) ?_
     refine Wr.take (v := Value.pointer (some ⟨pp, 0, none⟩)) 3 rfl (by kernel_rfl) (fun _ h => st_take [0, 0] h) (.inl ⟨rfl, q_load sc_23 rfl (.cel (i := 1) rfl rfl)⟩) ?_
     refine Wr.pure (v := Value.pointer (some ⟨ob, 1, none⟩)) 4 rfl (by kernel_rfl) (.inr (fun _ h => st_take [0, 0] h)) (.inl ⟨rfl, fun _ => q_field (m := 1) fo_61_1 rfl rfl⟩) ?_
     refine Wr.take (v := Value.int .i64 o.n) 5 rfl (by kernel_rfl) (fun _ h => st_take [0, 0] h) (.inl ⟨rfl, q_load sc_3 rfl (.cel (i := 0) rfl rfl)⟩) ?_
     refine Wr.pure (v := Value.pointer (some ⟨ob, 3, none⟩)) 6 rfl (by kernel_rfl) (.inr (fun _ h => st_take [0, 0] h)) (.inl ⟨rfl, fun _ => q_field (m := 3) fo_61_3 rfl rfl⟩) ?_
     refine Wr.take (v := Value.int .i64 o.bits) 7 rfl (by kernel_rfl) (fun _ h => st_take [0, 0] h) (.inl ⟨rfl, q_load sc_2 rfl (.cel (i := 0) rfl rfl)⟩) ?_
     refine Wr.pure (v := Value.pointer (some ⟨wp, 0, none⟩)) 9 rfl (by kernel_rfl) (.inr (fun _ h => st_take [0, 0] h)) (.inl ⟨rfl, fun _ => q_move rfl⟩) ?_
     refine Wr.pure (v := Value.pointer (some ⟨wp, 0, none⟩)) 10 rfl (by kernel_rfl) (.inr (fun _ h => st_take [0, 0] h)) (.inl ⟨rfl, fun _ => q_nil_ptr rfl⟩) ?_
     refine Wr.pure (v := Value.pointer (some ⟨wp, 2, none⟩)) 11 rfl (by kernel_rfl) (.inr (fun _ h => st_take [0, 0] h)) (.inl ⟨rfl, fun _ => q_field (m := 2) fo_58_2 rfl rfl⟩) ?_
     refine Wr.take (v := Value.pointer (some ⟨q, 0, none⟩)) 12 rfl (by kernel_rfl) (fun _ h => st_take [0, 0] h) (.inl ⟨rfl, q_load sc_52 rfl (.cel (i := 1) rfl rfl)⟩) ?_
     refine Wr.pure (v := Value.pointer (some ⟨ob, 1, none⟩)) 13 rfl (by kernel_rfl) (.inr (fun _ h => st_take [0, 0] h)) (.inl ⟨rfl, fun _ => q_field (m := 1) fo_61_1 rfl rfl⟩) ?_
     refine Wr.take (v := Value.int .i64 o.n) 14 rfl (by kernel_rfl) (fun _ h => st_take [0, 0] h) (.inl ⟨rfl, q_load sc_3 rfl (.cel (i := 0) rfl rfl)⟩) ?_
     refine Wr.pure (v := Value.pointer (some ⟨ob, 3, none⟩)) 15 rfl (by kernel_rfl) (.inr (fun _ h => st_take [0, 0] h)) (.inl ⟨rfl, fun _ => q_field (m := 3) fo_61_3 rfl rfl⟩) ?_
     refine Wr.take (v := Value.int .i64 o.bits) 16 rfl (by kernel_rfl) (fun _ h => st_take [0, 0] h) (.inl ⟨rfl, q_load sc_2 rfl (.cel (i := 0) rfl rfl)⟩) ?_
     refine Wr.imp (L' := (isDisk pp d) :: (pt ob 61 [Value.int .i64 o.kind, Value.int .i64 o.n, Value.int .u8 ((o.b : Nat) : Int), Value.int .i64 o.bits]) :: (pt wp 58 [Value.pointer (some ⟨pp, 0, none⟩), Value.pointer none, Value.pointer (some ⟨q, 0, none⟩), Value.pointer none]) :: (isRef q d) :: F) (fun _ h => st_pull [2] h) ?_
     refine Wr.e 8 (by kernel_rfl) rfl (e_call (F := (pt ob 61 [Value.int .i64 o.kind, Value.int .i64 o.n, Value.int .u8 ((o.b : Nat) : Int), Value.int .i64 o.bits]) :: (pt wp 58 [Value.pointer (some ⟨pp, 0, none⟩), Value.pointer none, Value.pointer (some ⟨q, 0, none⟩), Value.pointer none]) :: (isRef q d) :: F) (args := [Value.pointer (some ⟨pp, 0, none⟩), Value.int .i64 o.n, Value.int .i64 o.bits]) Try.call21 rfl (cut_c W0 pp d o.n o.bits)) (.inr fun _ _ _ h => st_take [1, 1] h) (fun _ _ => ?_)
     refine Wr.imp (L' := (isDisk pp ((d.cutTo o.n o.bits).2)) :: (pt ob 61 [Value.int .i64 o.kind, Value.int .i64 o.n, Value.int .u8 ((o.b : Nat) : Int), Value.int .i64 o.bits]) :: (pt wp 58 [Value.pointer (some ⟨pp, 0, none⟩), Value.pointer none, Value.pointer (some ⟨q, 0, none⟩), Value.pointer none]) :: (isRef q d) :: F) (fun _ h => h) ?_
     refine Wr.imp (L' := (isRef q d) :: (isDisk pp ((d.cutTo o.n o.bits).2)) :: (pt ob 61 [Value.int .i64 o.kind, Value.int .i64 o.n, Value.int .u8 ((o.b : Nat) : Int), Value.int .i64 o.bits]) :: (pt wp 58 [Value.pointer (some ⟨pp, 0, none⟩), Value.pointer none, Value.pointer (some ⟨q, 0, none⟩), Value.pointer none]) :: F) (fun _ h => st_pull [3] h) ?_
     refine Wr.e 17 (by kernel_rfl) rfl (e_call (F := (isDisk pp ((d.cutTo o.n o.bits).2)) :: (pt ob 61 [Value.int .i64 o.kind, Value.int .i64 o.n, Value.int .u8 ((o.b : Nat) : Int), Value.int .i64 o.bits]) :: (pt wp 58 [Value.pointer (some ⟨pp, 0, none⟩), Value.pointer none, Value.pointer (some ⟨q, 0, none⟩), Value.pointer none]) :: F) (args := [Value.pointer (some ⟨q, 0, none⟩), Value.int .i64 o.n, Value.int .i64 o.bits]) Try.call46 rfl (rcut_c W0 q d o.n o.bits )) (.inr fun _ _ _ h => st_take [2, 2] h) (fun _ _ => ?_)
     refine Wr.imp (L' := (isRef q ((d.cutTo o.n o.bits).2)) :: (isDisk pp ((d.cutTo o.n o.bits).2)) :: (pt ob 61 [Value.int .i64 o.kind, Value.int .i64 o.n, Value.int .u8 ((o.b : Nat) : Int), Value.int .i64 o.bits]) :: (pt wp 58 [Value.pointer (some ⟨pp, 0, none⟩), Value.pointer none, Value.pointer (some ⟨q, 0, none⟩), Value.pointer none]) :: F) (fun _ h => h) ?_
     refine Wr.pure (v := Value.bool true) 18 rfl (by kernel_rfl) (.inr (fun _ h => st_take [2, 2] h)) (.inl ⟨rfl, fun _ => q_eql (r := true) rfl rfl (decide_eq_true (rfl))⟩) ?_
     refine Wr.pure (v := Value.bool true) 19 rfl (by kernel_rfl) (.inr (fun _ h => st_take [2, 2] h)) (.inl ⟨rfl, fun _ => q_assign rfl⟩) ?_
     refine Wr.done (by kernel_rfl) ?_
     refine Wx.go ?_
     refine Wc.ret ?_
     refine Wx.blockRet ?_
     refine Wx.thenRet ?_
     refine Wx.fin1 rfl (.inl rfl) (fun w hs => ?_)
     have e : opJ d none o = (((d.cutTo o.n o.bits).2), none) := by unfold opJ; rw [if_neg hk0, if_neg hk1, if_neg hk2, if_pos hk3]
     exact ⟨(), trivial, rfl, by rw [e]; exact (st_pull [2, 1, 0] (st_drop (st_pull [2] hs)))⟩
    ·
     refine Wl.q (v := Value.bool false) (q_eql (r := false) rfl rfl (decide_eq_false hk3)) ?_
     refine Wl.q (v := Value.bool false) (q_assign rfl) ?_
     refine Wl.done ?_
     refine Wx.go ?_
     refine Wc.no rfl ?_
     refine Wc.seq ?_
     refine Wc.region ?_
     by_cases hk4 : o.kind = 4
     ·
      refine Wl.q (v := Value.bool true) (q_eql (r := true) rfl rfl (decide_eq_true hk4)) ?_
      refine Wl.q (v := Value.bool true) (q_assign rfl) ?_
      refine Wl.done ?_
      refine Wx.go ?_
      refine Wc.yes rfl ?_
      refine Wc.seq ?_
      refine Wc.drawsS [] ((pt ob 61 [Value.int .i64 o.kind, Value.int .i64 o.n, Value.int .u8 ((o.b : Nat) : Int), Value.int .i64 o.bits]) :: (pt wp 58 [Value.pointer (some ⟨pp, 0, none⟩), Value.pointer none, Value.pointer (some ⟨q, 0, none⟩), Value.pointer none]) :: []) (by kernel_rfl) ?_
      refine Wr.pure (v := Value.pointer (some ⟨wp, 0, none⟩)) 0 rfl (by kernel_rfl) (.inr (fun _ h => st_take [0, 0] h)) (.inl ⟨rfl, fun _ => q_move rfl⟩) ?_
      refine Wr.pure (v := Value.pointer (some ⟨wp, 0, none⟩)) 1 rfl (by kernel_rfl) (.inr (fun _ h => st_take [0, 0] h)) (.inl ⟨rfl, fun _ => q_nil_ptr rfl⟩) ?_
      refine Wr.pure (v := Value.pointer (some ⟨wp, 0, none⟩)) 2 rfl (by kernel_rfl) (.inr (fun _ h => st_take [0, 0] h)) (.inl ⟨rfl, fun _ => q_field (m := 0) fo_58_0 rfl rfl⟩) ?_
      refine Wr.take (v := Value.pointer (some ⟨pp, 0, none⟩)) 3 rfl (by kernel_rfl) (fun _ h => st_take [0, 0] h) (.inl ⟨rfl, q_load sc_23 rfl (.cel (i := 1) rfl rfl)⟩) ?_
      refine Wr.pure (v := Value.pointer (some ⟨ob, 3, none⟩)) 4 rfl (by kernel_rfl) (.inr (fun _ h => st_take [0, 0] h)) (.inl ⟨rfl, fun _ => q_field (m := 3) fo_61_3 rfl rfl⟩) ?_
      refine Wr.take (v := Value.int .i64 o.bits) 5 rfl (by kernel_rfl) (fun _ h => st_take [0, 0] h) (.inl ⟨rfl, q_load sc_2 rfl (.cel (i := 0) rfl rfl)⟩) ?_
      refine Wr.pure (v := Value.pointer (some ⟨wp, 0, none⟩)) 7 rfl (by kernel_rfl) (.inr (fun _ h => st_take [0, 0] h)) (.inl ⟨rfl, fun _ => q_move rfl⟩) ?_
      refine Wr.pure (v := Value.pointer (some ⟨wp, 0, none⟩)) 8 rfl (by kernel_rfl) (.inr (fun _ h => st_take [0, 0] h)) (.inl ⟨rfl, fun _ => q_nil_ptr rfl⟩) ?_
      refine Wr.pure (v := Value.pointer (some ⟨wp, 2, none⟩)) 9 rfl (by kernel_rfl) (.inr (fun _ h => st_take [0, 0] h)) (.inl ⟨rfl, fun _ => q_field (m := 2) fo_58_2 rfl rfl⟩) ?_
      refine Wr.take (v := Value.pointer (some ⟨q, 0, none⟩)) 10 rfl (by kernel_rfl) (fun _ h => st_take [0, 0] h) (.inl ⟨rfl, q_load sc_52 rfl (.cel (i := 1) rfl rfl)⟩) ?_
      refine Wr.pure (v := Value.pointer (some ⟨ob, 3, none⟩)) 11 rfl (by kernel_rfl) (.inr (fun _ h => st_take [0, 0] h)) (.inl ⟨rfl, fun _ => q_field (m := 3) fo_61_3 rfl rfl⟩) ?_
      refine Wr.take (v := Value.int .i64 o.bits) 12 rfl (by kernel_rfl) (fun _ h => st_take [0, 0] h) (.inl ⟨rfl, q_load sc_2 rfl (.cel (i := 0) rfl rfl)⟩) ?_
      refine Wr.imp (L' := (isDisk pp d) :: (pt ob 61 [Value.int .i64 o.kind, Value.int .i64 o.n, Value.int .u8 ((o.b : Nat) : Int), Value.int .i64 o.bits]) :: (pt wp 58 [Value.pointer (some ⟨pp, 0, none⟩), Value.pointer none, Value.pointer (some ⟨q, 0, none⟩), Value.pointer none]) :: (isRef q d) :: F) (fun _ h => st_pull [2] h) ?_
      refine Wr.e 6 (by kernel_rfl) rfl (e_call (F := (pt ob 61 [Value.int .i64 o.kind, Value.int .i64 o.n, Value.int .u8 ((o.b : Nat) : Int), Value.int .i64 o.bits]) :: (pt wp 58 [Value.pointer (some ⟨pp, 0, none⟩), Value.pointer none, Value.pointer (some ⟨q, 0, none⟩), Value.pointer none]) :: (isRef q d) :: F) (args := [Value.pointer (some ⟨pp, 0, none⟩), Value.int .i64 o.bits]) Try.call22 rfl (crash_c W0 pp d o.bits hw)) (.inr fun _ _ _ h => st_take [1, 1] h) (fun _ _ => ?_)
      refine Wr.imp (L' := (isDisk pp ((d.crash o.bits).2)) :: (pt ob 61 [Value.int .i64 o.kind, Value.int .i64 o.n, Value.int .u8 ((o.b : Nat) : Int), Value.int .i64 o.bits]) :: (pt wp 58 [Value.pointer (some ⟨pp, 0, none⟩), Value.pointer none, Value.pointer (some ⟨q, 0, none⟩), Value.pointer none]) :: (isRef q d) :: F) (fun _ h => h) ?_
      refine Wr.imp (L' := (isRef q d) :: (isDisk pp ((d.crash o.bits).2)) :: (pt ob 61 [Value.int .i64 o.kind, Value.int .i64 o.n, Value.int .u8 ((o.b : Nat) : Int), Value.int .i64 o.bits]) :: (pt wp 58 [Value.pointer (some ⟨pp, 0, none⟩), Value.pointer none, Value.pointer (some ⟨q, 0, none⟩), Value.pointer none]) :: F) (fun _ h => st_pull [3] h) ?_
      refine Wr.e 13 (by kernel_rfl) rfl (e_call (F := (isDisk pp ((d.crash o.bits).2)) :: (pt ob 61 [Value.int .i64 o.kind, Value.int .i64 o.n, Value.int .u8 ((o.b : Nat) : Int), Value.int .i64 o.bits]) :: (pt wp 58 [Value.pointer (some ⟨pp, 0, none⟩), Value.pointer none, Value.pointer (some ⟨q, 0, none⟩), Value.pointer none]) :: F) (args := [Value.pointer (some ⟨q, 0, none⟩), Value.int .i64 o.bits]) Try.call47 rfl (rcrash_c W0 q d o.bits hw hsince)) (.inr fun _ _ _ h => st_take [2, 2] h) (fun _ _ => ?_)
      refine Wr.imp (L' := (isRef q ((d.crash o.bits).2)) :: (isDisk pp ((d.crash o.bits).2)) :: (pt ob 61 [Value.int .i64 o.kind, Value.int .i64 o.n, Value.int .u8 ((o.b : Nat) : Int), Value.int .i64 o.bits]) :: (pt wp 58 [Value.pointer (some ⟨pp, 0, none⟩), Value.pointer none, Value.pointer (some ⟨q, 0, none⟩), Value.pointer none]) :: F) (fun _ h => h) ?_
      refine Wr.pure (v := Value.bool true) 14 rfl (by kernel_rfl) (.inr (fun _ h => st_take [2, 2] h)) (.inl ⟨rfl, fun _ => q_eql (r := true) rfl rfl (decide_eq_true (rfl))⟩) ?_
      refine Wr.pure (v := Value.bool true) 15 rfl (by kernel_rfl) (.inr (fun _ h => st_take [2, 2] h)) (.inl ⟨rfl, fun _ => q_assign rfl⟩) ?_
      refine Wr.done (by kernel_rfl) ?_
      refine Wx.go ?_
      refine Wc.ret ?_
      refine Wx.blockRet ?_
      refine Wx.thenRet ?_
      refine Wx.fin1 rfl (.inl rfl) (fun w hs => ?_)
      have e : opJ d none o = (((d.crash o.bits).2), none) := by unfold opJ; rw [if_neg hk0, if_neg hk1, if_neg hk2, if_neg hk3, if_pos hk4]
      exact ⟨(), trivial, rfl, by rw [e]; exact (st_pull [2, 1, 0] (st_drop (st_pull [2] hs)))⟩
     ·
      refine Wl.q (v := Value.bool false) (q_eql (r := false) rfl rfl (decide_eq_false hk4)) ?_
      refine Wl.q (v := Value.bool false) (q_assign rfl) ?_
      refine Wl.done ?_
      refine Wx.go ?_
      refine Wc.no rfl ?_
      refine Wc.seq ?_
      refine Wc.region ?_
      by_cases hk5 : o.kind = 5
      ·
       refine Wl.q (v := Value.bool true) (q_eql (r := true) rfl rfl (decide_eq_true hk5)) ?_
       refine Wl.q (v := Value.bool true) (q_assign rfl) ?_
       refine Wl.done ?_
       refine Wx.go ?_
       refine Wc.yes rfl ?_
       refine Wc.seq ?_
       refine Wc.drawsS [] ((pt ob 61 [Value.int .i64 o.kind, Value.int .i64 o.n, Value.int .u8 ((o.b : Nat) : Int), Value.int .i64 o.bits]) :: (pt wp 58 [Value.pointer (some ⟨pp, 0, none⟩), Value.pointer none, Value.pointer (some ⟨q, 0, none⟩), Value.pointer none]) :: []) (by kernel_rfl) ?_
       refine Wr.pure (v := Value.pointer (some ⟨wp, 0, none⟩)) 0 rfl (by kernel_rfl) (.inr (fun _ h => st_take [0, 0] h)) (.inl ⟨rfl, fun _ => q_move rfl⟩) ?_
       refine Wr.pure (v := Value.pointer (some ⟨wp, 0, none⟩)) 1 rfl (by kernel_rfl) (.inr (fun _ h => st_take [0, 0] h)) (.inl ⟨rfl, fun _ => q_nil_ptr rfl⟩) ?_
       refine Wr.pure (v := Value.pointer (some ⟨wp, 0, none⟩)) 2 rfl (by kernel_rfl) (.inr (fun _ h => st_take [0, 0] h)) (.inl ⟨rfl, fun _ => q_field (m := 0) fo_58_0 rfl rfl⟩) ?_
       refine Wr.take (v := Value.pointer (some ⟨pp, 0, none⟩)) 3 rfl (by kernel_rfl) (fun _ h => st_take [0, 0] h) (.inl ⟨rfl, q_load sc_23 rfl (.cel (i := 1) rfl rfl)⟩) ?_
       refine Wr.pure (v := Value.pointer (some ⟨wp, 0, none⟩)) 5 rfl (by kernel_rfl) (.inr (fun _ h => st_take [0, 0] h)) (.inl ⟨rfl, fun _ => q_move rfl⟩) ?_
       refine Wr.pure (v := Value.pointer (some ⟨wp, 0, none⟩)) 6 rfl (by kernel_rfl) (.inr (fun _ h => st_take [0, 0] h)) (.inl ⟨rfl, fun _ => q_nil_ptr rfl⟩) ?_
       refine Wr.pure (v := Value.pointer (some ⟨wp, 2, none⟩)) 7 rfl (by kernel_rfl) (.inr (fun _ h => st_take [0, 0] h)) (.inl ⟨rfl, fun _ => q_field (m := 2) fo_58_2 rfl rfl⟩) ?_
       refine Wr.take (v := Value.pointer (some ⟨q, 0, none⟩)) 8 rfl (by kernel_rfl) (fun _ h => st_take [0, 0] h) (.inl ⟨rfl, q_load sc_52 rfl (.cel (i := 1) rfl rfl)⟩) ?_
       refine Wr.imp (L' := (isDisk pp d) :: (pt ob 61 [Value.int .i64 o.kind, Value.int .i64 o.n, Value.int .u8 ((o.b : Nat) : Int), Value.int .i64 o.bits]) :: (pt wp 58 [Value.pointer (some ⟨pp, 0, none⟩), Value.pointer none, Value.pointer (some ⟨q, 0, none⟩), Value.pointer none]) :: (isRef q d) :: F) (fun _ h => st_pull [2] h) ?_
       refine Wr.e 4 (by kernel_rfl) rfl (e_call (F := (pt ob 61 [Value.int .i64 o.kind, Value.int .i64 o.n, Value.int .u8 ((o.b : Nat) : Int), Value.int .i64 o.bits]) :: (pt wp 58 [Value.pointer (some ⟨pp, 0, none⟩), Value.pointer none, Value.pointer (some ⟨q, 0, none⟩), Value.pointer none]) :: (isRef q d) :: F) (args := [Value.pointer (some ⟨pp, 0, none⟩)]) Try.call23 rfl (start_c W0 pp d )) (.inr fun _ _ _ h => st_take [1, 1] h) (fun _ _ => ?_)
       refine Wr.imp (L' := (isDisk pp ((d.start).2)) :: (pt ob 61 [Value.int .i64 o.kind, Value.int .i64 o.n, Value.int .u8 ((o.b : Nat) : Int), Value.int .i64 o.bits]) :: (pt wp 58 [Value.pointer (some ⟨pp, 0, none⟩), Value.pointer none, Value.pointer (some ⟨q, 0, none⟩), Value.pointer none]) :: (isRef q d) :: F) (fun _ h => h) ?_
       refine Wr.imp (L' := (isRef q d) :: (isDisk pp ((d.start).2)) :: (pt ob 61 [Value.int .i64 o.kind, Value.int .i64 o.n, Value.int .u8 ((o.b : Nat) : Int), Value.int .i64 o.bits]) :: (pt wp 58 [Value.pointer (some ⟨pp, 0, none⟩), Value.pointer none, Value.pointer (some ⟨q, 0, none⟩), Value.pointer none]) :: F) (fun _ h => st_pull [3] h) ?_
       refine Wr.e 9 (by kernel_rfl) rfl (e_call (F := (isDisk pp ((d.start).2)) :: (pt ob 61 [Value.int .i64 o.kind, Value.int .i64 o.n, Value.int .u8 ((o.b : Nat) : Int), Value.int .i64 o.bits]) :: (pt wp 58 [Value.pointer (some ⟨pp, 0, none⟩), Value.pointer none, Value.pointer (some ⟨q, 0, none⟩), Value.pointer none]) :: F) (args := [Value.pointer (some ⟨q, 0, none⟩)]) Try.call48 rfl (rstart_c W0 q d  )) (.inr fun _ _ _ h => st_take [2, 2] h) (fun _ _ => ?_)
       refine Wr.imp (L' := (isRef q ((d.start).2)) :: (isDisk pp ((d.start).2)) :: (pt ob 61 [Value.int .i64 o.kind, Value.int .i64 o.n, Value.int .u8 ((o.b : Nat) : Int), Value.int .i64 o.bits]) :: (pt wp 58 [Value.pointer (some ⟨pp, 0, none⟩), Value.pointer none, Value.pointer (some ⟨q, 0, none⟩), Value.pointer none]) :: F) (fun _ h => h) ?_
       refine Wr.pure (v := Value.bool true) 10 rfl (by kernel_rfl) (.inr (fun _ h => st_take [2, 2] h)) (.inl ⟨rfl, fun _ => q_eql (r := true) rfl rfl (decide_eq_true (rfl))⟩) ?_
       refine Wr.pure (v := Value.bool true) 11 rfl (by kernel_rfl) (.inr (fun _ h => st_take [2, 2] h)) (.inl ⟨rfl, fun _ => q_assign rfl⟩) ?_
       refine Wr.done (by kernel_rfl) ?_
       refine Wx.go ?_
       refine Wc.ret ?_
       refine Wx.blockRet ?_
       refine Wx.thenRet ?_
       refine Wx.fin1 rfl (.inl rfl) (fun w hs => ?_)
       have e : opJ d none o = (((d.start).2), none) := by unfold opJ; rw [if_neg hk0, if_neg hk1, if_neg hk2, if_neg hk3, if_neg hk4, if_pos hk5]
       exact ⟨(), trivial, rfl, by rw [e]; exact (st_pull [2, 1, 0] (st_drop (st_pull [2] hs)))⟩
      ·
       refine Wl.q (v := Value.bool false) (q_eql (r := false) rfl rfl (decide_eq_false hk5)) ?_
       refine Wl.q (v := Value.bool false) (q_assign rfl) ?_
       refine Wl.done ?_
       refine Wx.go ?_
       refine Wc.no rfl ?_
       refine Wc.seq ?_
       refine Wc.region ?_
       by_cases hk6 : o.kind = 6
       ·
        refine Wl.q (v := Value.bool true) (q_eql (r := true) rfl rfl (decide_eq_true hk6)) ?_
        refine Wl.q (v := Value.bool true) (q_assign rfl) ?_
        refine Wl.done ?_
        refine Wx.go ?_
        refine Wc.yes rfl ?_
        refine Wc.seq ?_
        refine Wc.drawsS [] ((pt ob 61 [Value.int .i64 o.kind, Value.int .i64 o.n, Value.int .u8 ((o.b : Nat) : Int), Value.int .i64 o.bits]) :: (pt wp 58 [Value.pointer (some ⟨pp, 0, none⟩), Value.pointer none, Value.pointer (some ⟨q, 0, none⟩), Value.pointer none]) :: []) (by kernel_rfl) ?_
        refine Wr.pure (v := Value.pointer (some ⟨wp, 0, none⟩)) 0 rfl (by kernel_rfl) (.inr (fun _ h => st_take [0, 0] h)) (.inl ⟨rfl, fun _ => q_move rfl⟩) ?_
        refine Wr.pure (v := Value.pointer (some ⟨wp, 0, none⟩)) 1 rfl (by kernel_rfl) (.inr (fun _ h => st_take [0, 0] h)) (.inl ⟨rfl, fun _ => q_nil_ptr rfl⟩) ?_
        refine Wr.pure (v := Value.pointer (some ⟨wp, 0, none⟩)) 2 rfl (by kernel_rfl) (.inr (fun _ h => st_take [0, 0] h)) (.inl ⟨rfl, fun _ => q_field (m := 0) fo_58_0 rfl rfl⟩) ?_
        refine Wr.take (v := Value.pointer (some ⟨pp, 0, none⟩)) 3 rfl (by kernel_rfl) (fun _ h => st_take [0, 0] h) (.inl ⟨rfl, q_load sc_23 rfl (.cel (i := 1) rfl rfl)⟩) ?_
        refine Wr.pure (v := Value.pointer (some ⟨ob, 1, none⟩)) 4 rfl (by kernel_rfl) (.inr (fun _ h => st_take [0, 0] h)) (.inl ⟨rfl, fun _ => q_field (m := 1) fo_61_1 rfl rfl⟩) ?_
        refine Wr.take (v := Value.int .i64 o.n) 5 rfl (by kernel_rfl) (fun _ h => st_take [0, 0] h) (.inl ⟨rfl, q_load sc_3 rfl (.cel (i := 0) rfl rfl)⟩) ?_
        refine Wr.pure (v := Value.pointer (some ⟨ob, 2, none⟩)) 6 rfl (by kernel_rfl) (.inr (fun _ h => st_take [0, 0] h)) (.inl ⟨rfl, fun _ => q_field (m := 2) fo_61_2 rfl rfl⟩) ?_
        refine Wr.take (v := Value.int .u8 ((o.b : Nat) : Int)) 7 rfl (by kernel_rfl) (fun _ h => st_take [0, 0] h) (.inl ⟨rfl, q_load sc_5 rfl (.cel (i := 0) rfl rfl)⟩) ?_
        refine Wr.pure (v := Value.pointer (some ⟨wp, 0, none⟩)) 10 rfl (by kernel_rfl) (.inr (fun _ h => st_take [0, 0] h)) (.inl ⟨rfl, fun _ => q_move rfl⟩) ?_
        refine Wr.pure (v := Value.pointer (some ⟨wp, 0, none⟩)) 11 rfl (by kernel_rfl) (.inr (fun _ h => st_take [0, 0] h)) (.inl ⟨rfl, fun _ => q_nil_ptr rfl⟩) ?_
        refine Wr.pure (v := Value.pointer (some ⟨wp, 2, none⟩)) 12 rfl (by kernel_rfl) (.inr (fun _ h => st_take [0, 0] h)) (.inl ⟨rfl, fun _ => q_field (m := 2) fo_58_2 rfl rfl⟩) ?_
        refine Wr.take (v := Value.pointer (some ⟨q, 0, none⟩)) 13 rfl (by kernel_rfl) (fun _ h => st_take [0, 0] h) (.inl ⟨rfl, q_load sc_52 rfl (.cel (i := 1) rfl rfl)⟩) ?_
        refine Wr.pure (v := Value.pointer (some ⟨ob, 1, none⟩)) 14 rfl (by kernel_rfl) (.inr (fun _ h => st_take [0, 0] h)) (.inl ⟨rfl, fun _ => q_field (m := 1) fo_61_1 rfl rfl⟩) ?_
        refine Wr.take (v := Value.int .i64 o.n) 15 rfl (by kernel_rfl) (fun _ h => st_take [0, 0] h) (.inl ⟨rfl, q_load sc_3 rfl (.cel (i := 0) rfl rfl)⟩) ?_
        refine Wr.pure (v := Value.pointer (some ⟨ob, 2, none⟩)) 16 rfl (by kernel_rfl) (.inr (fun _ h => st_take [0, 0] h)) (.inl ⟨rfl, fun _ => q_field (m := 2) fo_61_2 rfl rfl⟩) ?_
        refine Wr.take (v := Value.int .u8 ((o.b : Nat) : Int)) 17 rfl (by kernel_rfl) (fun _ h => st_take [0, 0] h) (.inl ⟨rfl, q_load sc_5 rfl (.cel (i := 0) rfl rfl)⟩) ?_
        refine Wr.e 8 (by kernel_rfl) rfl (e_call (F := (pt ob 61 [Value.int .i64 o.kind, Value.int .i64 o.n, Value.int .u8 ((o.b : Nat) : Int), Value.int .i64 o.bits]) :: (pt wp 58 [Value.pointer (some ⟨pp, 0, none⟩), Value.pointer none, Value.pointer (some ⟨q, 0, none⟩), Value.pointer none]) :: (isDisk pp d) :: (isRef q d) :: F) (args := [Value.int .u8 ((o.b : Nat) : Int)]) Try.call50 rfl (sector_c W0 o.b hob)) (.inr fun _ _ _ h => st_take [0, 0] h) (fun _ _ => ?_)
        refine Wr.imp (L' := (pt ob 61 [Value.int .i64 o.kind, Value.int .i64 o.n, Value.int .u8 ((o.b : Nat) : Int), Value.int .i64 o.bits]) :: (pt wp 58 [Value.pointer (some ⟨pp, 0, none⟩), Value.pointer none, Value.pointer (some ⟨q, 0, none⟩), Value.pointer none]) :: (isDisk pp d) :: (isRef q d) :: F) (fun _ h => h) ?_
        refine Wr.imp (L' := (isDisk pp d) :: (pt ob 61 [Value.int .i64 o.kind, Value.int .i64 o.n, Value.int .u8 ((o.b : Nat) : Int), Value.int .i64 o.bits]) :: (pt wp 58 [Value.pointer (some ⟨pp, 0, none⟩), Value.pointer none, Value.pointer (some ⟨q, 0, none⟩), Value.pointer none]) :: (isRef q d) :: F) (fun _ h => st_pull [2] h) ?_
        refine Wr.e 9 (by kernel_rfl) rfl (e_call (F := (pt ob 61 [Value.int .i64 o.kind, Value.int .i64 o.n, Value.int .u8 ((o.b : Nat) : Int), Value.int .i64 o.bits]) :: (pt wp 58 [Value.pointer (some ⟨pp, 0, none⟩), Value.pointer none, Value.pointer (some ⟨q, 0, none⟩), Value.pointer none]) :: (isRef q d) :: F) (args := [Value.pointer (some ⟨pp, 0, none⟩), Value.int .i64 o.n, Value.string (txt 64 o.b)]) Try.call49 rfl (write_c W0 pp d o.n (txt 64 o.b) hw hsince hcount)) (.inr fun _ _ _ h => st_take [1, 1] h) (fun _ _ => ?_)
        refine Wr.imp (L' := (isDisk pp ((d.write o.n (txt 64 o.b)).2)) :: (pt ob 61 [Value.int .i64 o.kind, Value.int .i64 o.n, Value.int .u8 ((o.b : Nat) : Int), Value.int .i64 o.bits]) :: (pt wp 58 [Value.pointer (some ⟨pp, 0, none⟩), Value.pointer none, Value.pointer (some ⟨q, 0, none⟩), Value.pointer none]) :: (isRef q d) :: F) (fun _ h => h) ?_
        refine Wr.e 18 (by kernel_rfl) rfl (e_call (F := (isDisk pp ((d.write o.n (txt 64 o.b)).2)) :: (pt ob 61 [Value.int .i64 o.kind, Value.int .i64 o.n, Value.int .u8 ((o.b : Nat) : Int), Value.int .i64 o.bits]) :: (pt wp 58 [Value.pointer (some ⟨pp, 0, none⟩), Value.pointer none, Value.pointer (some ⟨q, 0, none⟩), Value.pointer none]) :: (isRef q d) :: F) (args := [Value.int .u8 ((o.b : Nat) : Int)]) Try.call50 rfl (sector_c W0 o.b hob)) (.inr fun _ _ _ h => st_take [1, 1] h) (fun _ _ => ?_)
        refine Wr.imp (L' := (isDisk pp ((d.write o.n (txt 64 o.b)).2)) :: (pt ob 61 [Value.int .i64 o.kind, Value.int .i64 o.n, Value.int .u8 ((o.b : Nat) : Int), Value.int .i64 o.bits]) :: (pt wp 58 [Value.pointer (some ⟨pp, 0, none⟩), Value.pointer none, Value.pointer (some ⟨q, 0, none⟩), Value.pointer none]) :: (isRef q d) :: F) (fun _ h => h) ?_
        refine Wr.imp (L' := (isRef q d) :: (isDisk pp ((d.write o.n (txt 64 o.b)).2)) :: (pt ob 61 [Value.int .i64 o.kind, Value.int .i64 o.n, Value.int .u8 ((o.b : Nat) : Int), Value.int .i64 o.bits]) :: (pt wp 58 [Value.pointer (some ⟨pp, 0, none⟩), Value.pointer none, Value.pointer (some ⟨q, 0, none⟩), Value.pointer none]) :: F) (fun _ h => st_pull [3] h) ?_
        refine Wr.e 19 (by kernel_rfl) rfl (e_call (F := (isDisk pp ((d.write o.n (txt 64 o.b)).2)) :: (pt ob 61 [Value.int .i64 o.kind, Value.int .i64 o.n, Value.int .u8 ((o.b : Nat) : Int), Value.int .i64 o.bits]) :: (pt wp 58 [Value.pointer (some ⟨pp, 0, none⟩), Value.pointer none, Value.pointer (some ⟨q, 0, none⟩), Value.pointer none]) :: F) (args := [Value.pointer (some ⟨q, 0, none⟩), Value.int .i64 o.n, Value.string (txt 64 o.b)]) Try.call51 rfl (rwrite_c W0 q d o.n (txt 64 o.b) hw hsince hcount)) (.inr fun _ _ _ h => st_take [2, 2] h) (fun _ _ => ?_)
        refine Wr.imp (L' := (isRef q ((d.write o.n (txt 64 o.b)).2)) :: (isDisk pp ((d.write o.n (txt 64 o.b)).2)) :: (pt ob 61 [Value.int .i64 o.kind, Value.int .i64 o.n, Value.int .u8 ((o.b : Nat) : Int), Value.int .i64 o.bits]) :: (pt wp 58 [Value.pointer (some ⟨pp, 0, none⟩), Value.pointer none, Value.pointer (some ⟨q, 0, none⟩), Value.pointer none]) :: F) (fun _ h => h) ?_
        refine Wr.pure (v := Value.bool true) 20 rfl (by kernel_rfl) (.inr (fun _ h => st_take [2, 2] h)) (.inl ⟨rfl, fun _ => q_eql (r := true) rfl rfl (decide_eq_true (rfl))⟩) ?_
        refine Wr.pure (v := Value.bool true) 21 rfl (by kernel_rfl) (.inr (fun _ h => st_take [2, 2] h)) (.inl ⟨rfl, fun _ => q_assign rfl⟩) ?_
        refine Wr.done (by kernel_rfl) ?_
        refine Wx.go ?_
        refine Wc.ret ?_
        refine Wx.blockRet ?_
        refine Wx.thenRet ?_
        refine Wx.fin1 rfl (.inl rfl) (fun w hs => ?_)
        have e : opJ d none o = (((d.write o.n (txt 64 o.b)).2), none) := by unfold opJ; rw [if_neg hk0, if_neg hk1, if_neg hk2, if_neg hk3, if_neg hk4, if_neg hk5, if_pos hk6]
        exact ⟨(), trivial, rfl, by rw [e]; exact (st_pull [2, 1, 0] (st_drop (st_pull [2] hs)))⟩
       ·
        refine Wl.q (v := Value.bool false) (q_eql (r := false) rfl rfl (decide_eq_false hk6)) ?_
        refine Wl.q (v := Value.bool false) (q_assign rfl) ?_
        refine Wl.done ?_
        refine Wx.go ?_
        refine Wc.no rfl ?_
        refine Wc.seq ?_
        refine Wc.region ?_
        by_cases hk8 : o.kind = 8
        ·
         refine Wl.q (v := Value.bool true) (q_eql (r := true) rfl rfl (decide_eq_true hk8)) ?_
         refine Wl.q (v := Value.bool true) (q_assign rfl) ?_
         refine Wl.done ?_
         refine Wx.go ?_
         refine Wc.yes rfl ?_
         refine Wc.seq ?_
         refine Wc.region ?_
         refine Wl.q (v := Value.pointer (some ⟨ob, 2, none⟩)) (q_field (m := 2) fo_61_2 rfl rfl) ?_
         refine Wl.q (v := Value.int .u8 ((o.b : Nat) : Int)) (q_load sc_5 rfl (.cel (i := 0) rfl rfl)) ?_
         refine Wl.q (v := Value.int .i64 ((o.b : Nat) : Int)) (q_conv_int (c := ((o.b : Nat) : Int)) Try.underlying3 (by rw [Try.underlying5]; rfl) rfl (wrap_i64 (by omega) (by omega))) ?_
         refine Wl.q (v := Value.pointer (some ⟨ob, 3, none⟩)) (q_field (m := 3) fo_61_3 rfl rfl) ?_
         refine Wl.q (v := Value.int .i64 o.bits) (q_load sc_2 rfl (.cel (i := 0) rfl rfl)) ?_
         refine Wl.q (v := Value.int .i64 (andJ o.bits)) (q_and (c := (andJ o.bits)) rfl rfl rfl) ?_
         refine Wl.e (e_call (F := (pt ob 61 [Value.int .i64 o.kind, Value.int .i64 o.n, Value.int .u8 ((o.b : Nat) : Int), Value.int .i64 o.bits]) :: (pt wp 58 [Value.pointer (some ⟨pp, 0, none⟩), Value.pointer none, Value.pointer (some ⟨q, 0, none⟩), Value.pointer none]) :: (isDisk pp d) :: (isRef q d) :: F) (args := [Value.int .i64 ((o.b : Nat) : Int), Value.int .i64 (andJ o.bits)]) Try.call52 rfl (rhead_c W0 ((o.b : Nat) : Int) (andJ o.bits))) (fun _ _ => ?_)
         refine Wl.imp (L' := (pt ob 61 [Value.int .i64 o.kind, Value.int .i64 o.n, Value.int .u8 ((o.b : Nat) : Int), Value.int .i64 o.bits]) :: (pt wp 58 [Value.pointer (some ⟨pp, 0, none⟩), Value.pointer none, Value.pointer (some ⟨q, 0, none⟩), Value.pointer none]) :: (isDisk pp d) :: (isRef q d) :: F) (fun _ h => h) ?_
         refine Wl.q (v := Value.string (headB ((o.b : Nat) : Int) (andJ o.bits))) (q_assign rfl) ?_
         refine Wl.done ?_
         refine Wx.go ?_
         refine Wc.seq ?_
         refine Wc.drawsS [] ((pt ob 61 [Value.int .i64 o.kind, Value.int .i64 o.n, Value.int .u8 ((o.b : Nat) : Int), Value.int .i64 o.bits]) :: (pt wp 58 [Value.pointer (some ⟨pp, 0, none⟩), Value.pointer none, Value.pointer (some ⟨q, 0, none⟩), Value.pointer none]) :: []) (by kernel_rfl) ?_
         refine Wr.pure (v := Value.pointer (some ⟨wp, 0, none⟩)) 0 rfl (by kernel_rfl) (.inr (fun _ h => st_take [0, 0] h)) (.inl ⟨rfl, fun _ => q_move rfl⟩) ?_
         refine Wr.pure (v := Value.pointer (some ⟨wp, 0, none⟩)) 1 rfl (by kernel_rfl) (.inr (fun _ h => st_take [0, 0] h)) (.inl ⟨rfl, fun _ => q_nil_ptr rfl⟩) ?_
         refine Wr.pure (v := Value.pointer (some ⟨wp, 0, none⟩)) 2 rfl (by kernel_rfl) (.inr (fun _ h => st_take [0, 0] h)) (.inl ⟨rfl, fun _ => q_field (m := 0) fo_58_0 rfl rfl⟩) ?_
         refine Wr.take (v := Value.pointer (some ⟨pp, 0, none⟩)) 3 rfl (by kernel_rfl) (fun _ h => st_take [0, 0] h) (.inl ⟨rfl, q_load sc_23 rfl (.cel (i := 1) rfl rfl)⟩) ?_
         refine Wr.pure (v := Value.pointer (some ⟨ob, 1, none⟩)) 4 rfl (by kernel_rfl) (.inr (fun _ h => st_take [0, 0] h)) (.inl ⟨rfl, fun _ => q_field (m := 1) fo_61_1 rfl rfl⟩) ?_
         refine Wr.take (v := Value.int .i64 o.n) 5 rfl (by kernel_rfl) (fun _ h => st_take [0, 0] h) (.inl ⟨rfl, q_load sc_3 rfl (.cel (i := 0) rfl rfl)⟩) ?_
         refine Wr.pure (v := Value.string (headB ((o.b : Nat) : Int) (andJ o.bits))) 6 rfl (by kernel_rfl) (.inr (fun _ h => st_take [0, 0] h)) (.inl ⟨rfl, fun _ => q_move rfl⟩) ?_
         refine Wr.pure (v := Value.pointer (some ⟨wp, 0, none⟩)) 8 rfl (by kernel_rfl) (.inr (fun _ h => st_take [0, 0] h)) (.inl ⟨rfl, fun _ => q_move rfl⟩) ?_
         refine Wr.pure (v := Value.pointer (some ⟨wp, 0, none⟩)) 9 rfl (by kernel_rfl) (.inr (fun _ h => st_take [0, 0] h)) (.inl ⟨rfl, fun _ => q_nil_ptr rfl⟩) ?_
         refine Wr.pure (v := Value.pointer (some ⟨wp, 2, none⟩)) 10 rfl (by kernel_rfl) (.inr (fun _ h => st_take [0, 0] h)) (.inl ⟨rfl, fun _ => q_field (m := 2) fo_58_2 rfl rfl⟩) ?_
         refine Wr.take (v := Value.pointer (some ⟨q, 0, none⟩)) 11 rfl (by kernel_rfl) (fun _ h => st_take [0, 0] h) (.inl ⟨rfl, q_load sc_52 rfl (.cel (i := 1) rfl rfl)⟩) ?_
         refine Wr.pure (v := Value.pointer (some ⟨ob, 1, none⟩)) 12 rfl (by kernel_rfl) (.inr (fun _ h => st_take [0, 0] h)) (.inl ⟨rfl, fun _ => q_field (m := 1) fo_61_1 rfl rfl⟩) ?_
         refine Wr.take (v := Value.int .i64 o.n) 13 rfl (by kernel_rfl) (fun _ h => st_take [0, 0] h) (.inl ⟨rfl, q_load sc_3 rfl (.cel (i := 0) rfl rfl)⟩) ?_
         refine Wr.pure (v := Value.string (headB ((o.b : Nat) : Int) (andJ o.bits))) 14 rfl (by kernel_rfl) (.inr (fun _ h => st_take [0, 0] h)) (.inl ⟨rfl, fun _ => q_move rfl⟩) ?_
         refine Wr.imp (L' := (isDisk pp d) :: (pt ob 61 [Value.int .i64 o.kind, Value.int .i64 o.n, Value.int .u8 ((o.b : Nat) : Int), Value.int .i64 o.bits]) :: (pt wp 58 [Value.pointer (some ⟨pp, 0, none⟩), Value.pointer none, Value.pointer (some ⟨q, 0, none⟩), Value.pointer none]) :: (isRef q d) :: F) (fun _ h => st_pull [2] h) ?_
         refine Wr.e 7 (by kernel_rfl) rfl (e_call (F := (pt ob 61 [Value.int .i64 o.kind, Value.int .i64 o.n, Value.int .u8 ((o.b : Nat) : Int), Value.int .i64 o.bits]) :: (pt wp 58 [Value.pointer (some ⟨pp, 0, none⟩), Value.pointer none, Value.pointer (some ⟨q, 0, none⟩), Value.pointer none]) :: (isRef q d) :: F) (args := [Value.pointer (some ⟨pp, 0, none⟩), Value.int .i64 o.n, Value.string (headB ((o.b : Nat) : Int) (andJ o.bits))]) Try.call49 rfl (write_c W0 pp d o.n (headB ((o.b : Nat) : Int) (andJ o.bits)) hw hsince hcount)) (.inr fun _ _ _ h => st_take [1, 1] h) (fun _ _ => ?_)
         refine Wr.imp (L' := (isDisk pp ((d.write o.n (headB ((o.b : Nat) : Int) (andJ o.bits))).2)) :: (pt ob 61 [Value.int .i64 o.kind, Value.int .i64 o.n, Value.int .u8 ((o.b : Nat) : Int), Value.int .i64 o.bits]) :: (pt wp 58 [Value.pointer (some ⟨pp, 0, none⟩), Value.pointer none, Value.pointer (some ⟨q, 0, none⟩), Value.pointer none]) :: (isRef q d) :: F) (fun _ h => h) ?_
         refine Wr.imp (L' := (isRef q d) :: (isDisk pp ((d.write o.n (headB ((o.b : Nat) : Int) (andJ o.bits))).2)) :: (pt ob 61 [Value.int .i64 o.kind, Value.int .i64 o.n, Value.int .u8 ((o.b : Nat) : Int), Value.int .i64 o.bits]) :: (pt wp 58 [Value.pointer (some ⟨pp, 0, none⟩), Value.pointer none, Value.pointer (some ⟨q, 0, none⟩), Value.pointer none]) :: F) (fun _ h => st_pull [3] h) ?_
         refine Wr.e 15 (by kernel_rfl) rfl (e_call (F := (isDisk pp ((d.write o.n (headB ((o.b : Nat) : Int) (andJ o.bits))).2)) :: (pt ob 61 [Value.int .i64 o.kind, Value.int .i64 o.n, Value.int .u8 ((o.b : Nat) : Int), Value.int .i64 o.bits]) :: (pt wp 58 [Value.pointer (some ⟨pp, 0, none⟩), Value.pointer none, Value.pointer (some ⟨q, 0, none⟩), Value.pointer none]) :: F) (args := [Value.pointer (some ⟨q, 0, none⟩), Value.int .i64 o.n, Value.string (headB ((o.b : Nat) : Int) (andJ o.bits))]) Try.call51 rfl (rwrite_c W0 q d o.n (headB ((o.b : Nat) : Int) (andJ o.bits)) hw hsince hcount)) (.inr fun _ _ _ h => st_take [2, 2] h) (fun _ _ => ?_)
         refine Wr.imp (L' := (isRef q ((d.write o.n (headB ((o.b : Nat) : Int) (andJ o.bits))).2)) :: (isDisk pp ((d.write o.n (headB ((o.b : Nat) : Int) (andJ o.bits))).2)) :: (pt ob 61 [Value.int .i64 o.kind, Value.int .i64 o.n, Value.int .u8 ((o.b : Nat) : Int), Value.int .i64 o.bits]) :: (pt wp 58 [Value.pointer (some ⟨pp, 0, none⟩), Value.pointer none, Value.pointer (some ⟨q, 0, none⟩), Value.pointer none]) :: F) (fun _ h => h) ?_
         refine Wr.pure (v := Value.bool true) 16 rfl (by kernel_rfl) (.inr (fun _ h => st_take [2, 2] h)) (.inl ⟨rfl, fun _ => q_eql (r := true) rfl rfl (decide_eq_true (rfl))⟩) ?_
         refine Wr.pure (v := Value.bool true) 17 rfl (by kernel_rfl) (.inr (fun _ h => st_take [2, 2] h)) (.inl ⟨rfl, fun _ => q_assign rfl⟩) ?_
         refine Wr.done (by kernel_rfl) ?_
         refine Wx.go ?_
         refine Wc.ret ?_
         refine Wx.blockRet ?_
         refine Wx.thenRet ?_
         refine Wx.fin1 rfl (.inl rfl) (fun w hs => ?_)
         have e : opJ d none o = (((d.write o.n (headB ((o.b : Nat) : Int) (andJ o.bits))).2), none) := by unfold opJ; rw [if_neg hk0, if_neg hk1, if_neg hk2, if_neg hk3, if_neg hk4, if_neg hk5, if_neg hk6, if_pos hk8]
         exact ⟨(), trivial, rfl, by rw [e]; exact (st_pull [2, 1, 0] (st_drop (st_pull [2] hs)))⟩
        ·
         refine Wl.q (v := Value.bool false) (q_eql (r := false) rfl rfl (decide_eq_false hk8)) ?_
         refine Wl.q (v := Value.bool false) (q_assign rfl) ?_
         refine Wl.done ?_
         refine Wx.go ?_
         refine Wc.no rfl ?_
         refine Wc.skip ?_
         refine Wx.blockEnd ?_
         refine Wx.go ?_
         refine Wc.seq ?_
         refine Wc.drawsS [] ((pt ob 61 [Value.int .i64 o.kind, Value.int .i64 o.n, Value.int .u8 ((o.b : Nat) : Int), Value.int .i64 o.bits]) :: (pt wp 58 [Value.pointer (some ⟨pp, 0, none⟩), Value.pointer none, Value.pointer (some ⟨q, 0, none⟩), Value.pointer none]) :: []) (by kernel_rfl) ?_
         refine Wr.pure (v := Value.pointer (some ⟨wp, 0, none⟩)) 0 rfl (by kernel_rfl) (.inr (fun _ h => st_take [0, 0] h)) (.inl ⟨rfl, fun _ => q_move rfl⟩) ?_
         refine Wr.pure (v := Value.pointer (some ⟨wp, 0, none⟩)) 1 rfl (by kernel_rfl) (.inr (fun _ h => st_take [0, 0] h)) (.inl ⟨rfl, fun _ => q_nil_ptr rfl⟩) ?_
         refine Wr.pure (v := Value.pointer (some ⟨wp, 0, none⟩)) 2 rfl (by kernel_rfl) (.inr (fun _ h => st_take [0, 0] h)) (.inl ⟨rfl, fun _ => q_field (m := 0) fo_58_0 rfl rfl⟩) ?_
         refine Wr.take (v := Value.pointer (some ⟨pp, 0, none⟩)) 3 rfl (by kernel_rfl) (fun _ h => st_take [0, 0] h) (.inl ⟨rfl, q_load sc_23 rfl (.cel (i := 1) rfl rfl)⟩) ?_
         refine Wr.pure (v := Value.pointer (some ⟨wp, 0, none⟩)) 5 rfl (by kernel_rfl) (.inr (fun _ h => st_take [0, 0] h)) (.inl ⟨rfl, fun _ => q_move rfl⟩) ?_
         refine Wr.pure (v := Value.pointer (some ⟨wp, 0, none⟩)) 6 rfl (by kernel_rfl) (.inr (fun _ h => st_take [0, 0] h)) (.inl ⟨rfl, fun _ => q_nil_ptr rfl⟩) ?_
         refine Wr.pure (v := Value.pointer (some ⟨wp, 2, none⟩)) 7 rfl (by kernel_rfl) (.inr (fun _ h => st_take [0, 0] h)) (.inl ⟨rfl, fun _ => q_field (m := 2) fo_58_2 rfl rfl⟩) ?_
         refine Wr.take (v := Value.pointer (some ⟨q, 0, none⟩)) 8 rfl (by kernel_rfl) (fun _ h => st_take [0, 0] h) (.inl ⟨rfl, q_load sc_52 rfl (.cel (i := 1) rfl rfl)⟩) ?_
         refine Wr.imp (L' := (isDisk pp d) :: (pt ob 61 [Value.int .i64 o.kind, Value.int .i64 o.n, Value.int .u8 ((o.b : Nat) : Int), Value.int .i64 o.bits]) :: (pt wp 58 [Value.pointer (some ⟨pp, 0, none⟩), Value.pointer none, Value.pointer (some ⟨q, 0, none⟩), Value.pointer none]) :: (isRef q d) :: F) (fun _ h => st_pull [2] h) ?_
         refine Wr.e 4 (by kernel_rfl) rfl (e_call (F := (pt ob 61 [Value.int .i64 o.kind, Value.int .i64 o.n, Value.int .u8 ((o.b : Nat) : Int), Value.int .i64 o.bits]) :: (pt wp 58 [Value.pointer (some ⟨pp, 0, none⟩), Value.pointer none, Value.pointer (some ⟨q, 0, none⟩), Value.pointer none]) :: (isRef q d) :: F) (args := [Value.pointer (some ⟨pp, 0, none⟩)]) Try.call53 rfl (sync_c W0 pp d  hw hsince hcount)) (.inr fun _ _ _ h => st_take [1, 1] h) (fun _ _ => ?_)
         refine Wr.imp (L' := (isDisk pp ((d.sync).2)) :: (pt ob 61 [Value.int .i64 o.kind, Value.int .i64 o.n, Value.int .u8 ((o.b : Nat) : Int), Value.int .i64 o.bits]) :: (pt wp 58 [Value.pointer (some ⟨pp, 0, none⟩), Value.pointer none, Value.pointer (some ⟨q, 0, none⟩), Value.pointer none]) :: (isRef q d) :: F) (fun _ h => h) ?_
         refine Wr.imp (L' := (isRef q d) :: (isDisk pp ((d.sync).2)) :: (pt ob 61 [Value.int .i64 o.kind, Value.int .i64 o.n, Value.int .u8 ((o.b : Nat) : Int), Value.int .i64 o.bits]) :: (pt wp 58 [Value.pointer (some ⟨pp, 0, none⟩), Value.pointer none, Value.pointer (some ⟨q, 0, none⟩), Value.pointer none]) :: F) (fun _ h => st_pull [3] h) ?_
         refine Wr.e 9 (by kernel_rfl) rfl (e_call (F := (isDisk pp ((d.sync).2)) :: (pt ob 61 [Value.int .i64 o.kind, Value.int .i64 o.n, Value.int .u8 ((o.b : Nat) : Int), Value.int .i64 o.bits]) :: (pt wp 58 [Value.pointer (some ⟨pp, 0, none⟩), Value.pointer none, Value.pointer (some ⟨q, 0, none⟩), Value.pointer none]) :: F) (args := [Value.pointer (some ⟨q, 0, none⟩)]) Try.call54 rfl (rsync_c W0 q d  hw hsince hcount)) (.inr fun _ _ _ h => st_take [2, 2] h) (fun _ _ => ?_)
         refine Wr.imp (L' := (isRef q ((d.sync).2)) :: (isDisk pp ((d.sync).2)) :: (pt ob 61 [Value.int .i64 o.kind, Value.int .i64 o.n, Value.int .u8 ((o.b : Nat) : Int), Value.int .i64 o.bits]) :: (pt wp 58 [Value.pointer (some ⟨pp, 0, none⟩), Value.pointer none, Value.pointer (some ⟨q, 0, none⟩), Value.pointer none]) :: F) (fun _ h => h) ?_
         refine Wr.pure (v := Value.bool true) 10 rfl (by kernel_rfl) (.inr (fun _ h => st_take [2, 2] h)) (.inl ⟨rfl, fun _ => q_eql (r := true) rfl rfl (decide_eq_true (rfl))⟩) ?_
         refine Wr.pure (v := Value.bool true) 11 rfl (by kernel_rfl) (.inr (fun _ h => st_take [2, 2] h)) (.inl ⟨rfl, fun _ => q_assign rfl⟩) ?_
         refine Wr.done (by kernel_rfl) ?_
         refine Wx.go ?_
         refine Wc.ret ?_
         refine Wx.fin1 rfl (.inl rfl) (fun w hs => ?_)
         have e : opJ d none o = (((d.sync).2), none) := by unfold opJ; rw [if_neg hk0, if_neg hk1, if_neg hk2, if_neg hk3, if_neg hk4, if_neg hk5, if_neg hk6, if_neg hk8]
         exact ⟨(), trivial, rfl, by rw [e]; exact (st_pull [2, 1, 0] (st_drop (st_pull [2] hs)))⟩

end Go.Proofs.Ytnhejdnigblnoaa
