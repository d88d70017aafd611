/- What follows: contracts of the calls. -/
import Derived.Test.YtmghnmfhniohkaaDdI
namespace Go.Proofs.Ytmghnmfhniohkaa
open Go Go.SL Go.Dd Go.RowKit
set_option linter.unusedVariables false
theorem fo_61_1 : fieldOff Try.prog 61 1 = some 1 := by kernel_rfl
theorem fo_61_0 : fieldOff Try.prog 61 0 = some 0 := by kernel_rfl
theorem sc_25 : scalar Try.prog 25 = true := by kernel_rfl
theorem rhas_is (W0 : World) (w r lb lc m : Nat) (L : List Bool) (x : Int) (hm : L.length = m) (hx : 0 ≤ x) (hxm : x < (m : Int)) {b : Bool} (h : rN L x.toNat = b) :
    Con Try.prog W0 46 #[Value.pointer (some ⟨w, 0, none⟩), Value.int .i64 x] [pt w 61 [Value.pointer (some ⟨r, 0, none⟩), Value.slice (some ⟨lb, 0, none⟩) m lc], slp 4 1 lb lc (L.map Value.bool)] (X := Unit) (fun _ => True) (fun _ => .bool b) (fun _ => [pt w 61 [Value.pointer (some ⟨r, 0, none⟩), Value.slice (some ⟨lb, 0, none⟩) m lc], slp 4 1 lb lc (L.map Value.bool)]) := by
  refine Con.of (args := [Value.pointer (some ⟨w, 0, none⟩), Value.int .i64 x]) Try.func46 rfl Try.ntmps46 rfl (fun F => ?_)
  show Wc _ W0 _ _ _ _ _ ((pt w 61 [Value.pointer (some ⟨r, 0, none⟩), Value.slice (some ⟨lb, 0, none⟩) m lc]) :: (slp 4 1 lb lc (L.map Value.bool)) :: F)
  refine Wc.seq ?_
  refine Wc.region ?_
  refine Wl.q (v := Value.bool false) (q_assign rfl) ?_
  refine Wl.done ?_
  refine Wx.go ?_
  refine Wc.seq ?_
  refine Wc.region ?_
  refine Wl.q (v := Value.int .i64 x) (q_move rfl) ?_
  by_cases hx0 : x = 0
  ·
    refine Wl.q (v := Value.bool true) (q_eql (r := true) rfl rfl (decide_eq_true hx0)) ?_
    refine Wl.q (v := Value.bool true) (q_move rfl) ?_
    refine Wl.no ?_
    refine Wl.no ?_
    refine Wl.no ?_
    refine Wl.no ?_
    refine Wl.no ?_
    refine Wl.no ?_
    refine Wl.no ?_
    refine Wl.q (v := Value.bool true) (q_pick (t := true) rfl rfl) ?_
    refine Wl.q (v := Value.bool true) (q_assign rfl) ?_
    refine Wl.done ?_
    refine Wx.go ?_
    refine Wc.ret ?_
    refine Wx.fin1 rfl (.inl rfl) (fun w hs => ?_)
    exact ⟨(), trivial, congrArg Value.bool (by rw [← h]; unfold rN; rw [decide_eq_true (by omega)]; rfl), hs⟩
  ·
    refine Wl.q (v := Value.bool false) (q_eql (r := false) rfl rfl (decide_eq_false hx0)) ?_
    refine Wl.q (v := Value.bool false) (q_move rfl) ?_
    refine Wl.q (v := Value.pointer (some ⟨w, 0, none⟩)) (q_move rfl) ?_
    refine Wl.q (v := Value.pointer (some ⟨w, 0, none⟩)) (q_nil_ptr rfl) ?_
    refine Wl.q (v := Value.pointer (some ⟨w, 1, none⟩)) (q_field (m := 1) fo_61_1 rfl rfl) ?_
    refine Wl.q (v := Value.slice (some ⟨lb, 0, none⟩) m lc) (q_load sc_57 rfl (.cel (i := 0) rfl rfl)) ?_
    refine Wl.q (v := Value.int .i64 x) (q_move rfl) ?_
    refine Wl.q (v := Value.pointer (some ⟨lb, (x).toNat, none⟩)) (q_idx (m := (x).toNat) se_57 rfl rfl (by omega) (by omega) (by simp)) ?_
    by_cases hhx : hN L ((x).toNat) = true
    ·
      refine Wl.q (v := Value.bool true) (q_load sc_4 rfl (.row (i := 1) rfl (bool_yes hhx))) ?_
      refine Wl.q (v := Value.bool true) (q_pick (t := false) rfl rfl) ?_
      refine Wl.q (v := Value.bool true) (q_assign rfl) ?_
      refine Wl.done ?_
      refine Wx.go ?_
      refine Wc.ret ?_
      refine Wx.fin1 rfl (.inl rfl) (fun w hs => ?_)
      exact ⟨(), trivial, congrArg Value.bool (by rw [← h]; unfold rN; rw [decide_eq_false (by omega), Bool.false_or]; first | exact hhx.symm | exact (Bool.eq_false_iff.2 hhx).symm), hs⟩
    ·
      refine Wl.q (v := Value.bool false) (q_load sc_4 rfl (.row (i := 1) rfl (bool_no (by first | omega | (simp only [List.length_set]; omega)) hhx))) ?_
      refine Wl.q (v := Value.bool false) (q_pick (t := false) rfl rfl) ?_
      refine Wl.q (v := Value.bool false) (q_assign rfl) ?_
      refine Wl.done ?_
      refine Wx.go ?_
      refine Wc.ret ?_
      refine Wx.fin1 rfl (.inl rfl) (fun w hs => ?_)
      exact ⟨(), trivial, congrArg Value.bool (by rw [← h]; unfold rN; rw [decide_eq_false (by omega), Bool.false_or]; first | exact hhx.symm | exact (Bool.eq_false_iff.2 hhx).symm), hs⟩

theorem rmakes_is (W0 : World) (w r lb lc m : Nat) (L : List Bool) (ts : List TermR) (n : Nat) (hm : L.length = m) (hw : Wf ts) (hl : ts.length ≤ 1048576) (t : TermR) (hat : atN ts n = some t) (hn : n < m) {b : Bool} (h : mkR ts L n = b) :
    Con Try.prog W0 40 #[Value.pointer (some ⟨w, 0, none⟩), Value.int .i64 ((n : Nat) : Int)] [pt w 61 [Value.pointer (some ⟨r, 0, none⟩), Value.slice (some ⟨lb, 0, none⟩) m lc], slp 4 1 lb lc (L.map Value.bool), refI r ts] (X := Unit) (fun _ => True) (fun _ => .bool b) (fun _ => [pt w 61 [Value.pointer (some ⟨r, 0, none⟩), Value.slice (some ⟨lb, 0, none⟩) m lc], slp 4 1 lb lc (L.map Value.bool), refI r ts]) := by
  refine Con.of (args := [Value.pointer (some ⟨w, 0, none⟩), Value.int .i64 ((n : Nat) : Int)]) Try.func40 rfl Try.ntmps40 rfl (fun F => ?_)
  have hp := hw.parts hat
  show Wc _ W0 _ _ _ _ _ ((pt w 61 [Value.pointer (some ⟨r, 0, none⟩), Value.slice (some ⟨lb, 0, none⟩) m lc]) :: (slp 4 1 lb lc (L.map Value.bool)) :: (refI r ts) :: F)
  refine Wc.seq ?_
  refine Wc.region ?_
  refine Wl.q (v := Value.bool false) (q_assign rfl) ?_
  refine Wl.done ?_
  refine Wx.go ?_
  refine Wc.seq ?_
  refine Wc.region ?_
  refine Wl.q (v := Value.pointer (some ⟨w, 0, none⟩)) (q_move rfl) ?_
  refine Wl.q (v := Value.pointer (some ⟨w, 0, none⟩)) (q_nil_ptr rfl) ?_
  refine Wl.q (v := Value.pointer (some ⟨w, 0, none⟩)) (q_field (m := 0) fo_61_0 rfl rfl) ?_
  refine Wl.q (v := Value.pointer (some ⟨r, 0, none⟩)) (q_load sc_25 rfl (.cel (i := 0) rfl rfl)) ?_
  refine Wl.q (v := Value.int .i64 ((n : Nat) : Int)) (q_move rfl) ?_
  refine Wl.imp (L' := (refI r ts) :: (pt w 61 [Value.pointer (some ⟨r, 0, none⟩), Value.slice (some ⟨lb, 0, none⟩) m lc]) :: (slp 4 1 lb lc (L.map Value.bool)) :: F) (fun _ h => st_pull [2] h) ?_
  refine Wl.e (e_call (F := (pt w 61 [Value.pointer (some ⟨r, 0, none⟩), Value.slice (some ⟨lb, 0, none⟩) m lc]) :: (slp 4 1 lb lc (L.map Value.bool)) :: F) (args := [Value.pointer (some ⟨r, 0, none⟩), Value.int .i64 ((n : Nat) : Int)]) Try.call45 rfl (rget_c W0 r ts ((n : Nat) : Int) hl t (by omega) (atN_get hat))) (fun _ _ => ?_)
  refine Wl.imp (L' := (refI r ts) :: (pt w 61 [Value.pointer (some ⟨r, 0, none⟩), Value.slice (some ⟨lb, 0, none⟩) m lc]) :: (slp 4 1 lb lc (L.map Value.bool)) :: F) (fun _ h => h) ?_
  refine Wl.q (v := Value.tuple #[Value.agg #[Value.int .u8 ((t.kind : Nat) : Int), Value.int .i64 t.n, Value.int .i64 t.a, Value.int .i64 t.b], Value.bool true]) (q_move rfl) ?_
  refine Wl.q (v := Value.agg #[Value.int .u8 ((t.kind : Nat) : Int), Value.int .i64 t.n, Value.int .i64 t.a, Value.int .i64 t.b]) (q_extract (i := 0) rfl rfl) ?_
  refine Wl.q (v := Value.bool true) (q_extract (i := 1) rfl rfl) ?_
  refine Wl.e (e_alloc (vs := [Value.int .u8 0, Value.int .i64 0, Value.int .i64 0, Value.int .i64 0]) zo_46 rfl) (fun b1 _ => ?_)
  refine Wl.imp (L' := (pt b1 46 [Value.int .u8 0, Value.int .i64 0, Value.int .i64 0, Value.int .i64 0]) :: (refI r ts) :: (pt w 61 [Value.pointer (some ⟨r, 0, none⟩), Value.slice (some ⟨lb, 0, none⟩) m lc]) :: (slp 4 1 lb lc (L.map Value.bool)) :: F) (fun _ h => h) ?_
  refine Wl.e (e_storeAgg (i := 0) (vs := [Value.int .u8 ((t.kind : Nat) : Int), Value.int .i64 t.n, Value.int .i64 t.a, Value.int .i64 t.b]) (c' := [Value.int .u8 ((t.kind : Nat) : Int), Value.int .i64 t.n, Value.int .i64 t.a, Value.int .i64 t.b]) sz_46 rfl rfl rfl rfl (by simp) rfl) (fun _ _ => ?_)
  refine Wl.imp (L' := (pt b1 46 [Value.int .u8 ((t.kind : Nat) : Int), Value.int .i64 t.n, Value.int .i64 t.a, Value.int .i64 t.b]) :: (refI r ts) :: (pt w 61 [Value.pointer (some ⟨r, 0, none⟩), Value.slice (some ⟨lb, 0, none⟩) m lc]) :: (slp 4 1 lb lc (L.map Value.bool)) :: F) (fun _ h => h) ?_
  refine Wl.q (v := Value.bool true) (q_assign rfl) ?_
  refine Wl.done ?_
  refine Wx.go ?_
  refine Wc.seq ?_
  refine Wc.seq ?_
  refine Wc.region ?_
  refine Wl.q (v := Value.pointer (some ⟨b1, 0, none⟩)) (q_field (m := 0) fo_46_0 rfl rfl) ?_
  refine Wl.q (v := Value.int .u8 ((t.kind : Nat) : Int)) (q_load sc_44 rfl (.cel (i := 0) rfl rfl)) ?_
  refine Wl.done ?_
  refine Wx.go ?_
  refine Wc.block ?_
  refine Wc.seq ?_
  refine Wc.region ?_
  by_cases hk2 : ((t.kind : Nat) : Int) = 2
  ·
    refine Wl.q (v := Value.bool true) (q_eql (r := true) rfl rfl (decide_eq_true hk2)) ?_
    refine Wl.q (v := Value.bool true) (q_assign rfl) ?_
    refine Wl.done ?_
    refine Wx.go ?_
    refine Wc.yes rfl ?_
    refine Wc.seq ?_
    refine Wc.region ?_
    refine Wl.q (v := Value.bool true) (q_assign rfl) ?_
    refine Wl.done ?_
    refine Wx.go ?_
    refine Wc.ret ?_
    refine Wx.blockRet ?_
    refine Wx.thenRet ?_
    refine Wx.fin1 rfl (.inl rfl) (fun w hs => ?_)
    have e : mkR ts L n = true := by unfold mkR; rw [hat]; simp only; rw [if_pos (by omega)]
    exact ⟨(), trivial, congrArg Value.bool (e.symm.trans h), (st_pull [1, 1, 0] (st_drop (st_pull [0] hs)))⟩
  ·
    refine Wl.q (v := Value.bool false) (q_eql (r := false) rfl rfl (decide_eq_false hk2)) ?_
    refine Wl.q (v := Value.bool false) (q_assign rfl) ?_
    refine Wl.done ?_
    refine Wx.go ?_
    refine Wc.no rfl ?_
    refine Wc.seq ?_
    refine Wc.region ?_
    by_cases hk1 : ((t.kind : Nat) : Int) = 1
    ·
      refine Wl.q (v := Value.bool true) (q_eql (r := true) rfl rfl (decide_eq_true hk1)) ?_
      refine Wl.q (v := Value.bool true) (q_assign rfl) ?_
      refine Wl.done ?_
      refine Wx.go ?_
      refine Wc.yes rfl ?_
      refine Wc.seq ?_
      refine Wc.region ?_
      refine Wl.q (v := Value.bool false) (q_assign rfl) ?_
      refine Wl.done ?_
      refine Wx.go ?_
      refine Wc.ret ?_
      refine Wx.blockRet ?_
      refine Wx.thenRet ?_
      refine Wx.fin1 rfl (.inl rfl) (fun w hs => ?_)
      have e : mkR ts L n = false := by unfold mkR; rw [hat]; simp only; rw [if_neg (by omega), if_pos (by omega)]
      exact ⟨(), trivial, congrArg Value.bool (e.symm.trans h), (st_pull [1, 1, 0] (st_drop (st_pull [0] hs)))⟩
    ·
      refine Wl.q (v := Value.bool false) (q_eql (r := false) rfl rfl (decide_eq_false hk1)) ?_
      refine Wl.q (v := Value.bool false) (q_assign rfl) ?_
      refine Wl.done ?_
      refine Wx.go ?_
      refine Wc.no rfl ?_
      refine Wc.skip ?_
      refine Wx.blockEnd ?_
      refine Wx.go ?_
      refine Wc.seq ?_
      refine Wc.region ?_
      by_cases hra : rN L t.a.toNat = true
      ·
        by_cases hrb : rN L t.b.toNat = true
        ·
          refine Wl.q (v := Value.pointer (some ⟨w, 0, none⟩)) (q_move rfl) ?_
          refine Wl.q (v := Value.pointer (some ⟨b1, 2, none⟩)) (q_field (m := 2) fo_46_2 rfl rfl) ?_
          refine Wl.q (v := Value.int .i64 t.a) (q_load sc_3 rfl (.cel (i := 0) rfl rfl)) ?_
          refine Wl.imp (L' := (pt w 61 [Value.pointer (some ⟨r, 0, none⟩), Value.slice (some ⟨lb, 0, none⟩) m lc]) :: (slp 4 1 lb lc (L.map Value.bool)) :: (pt b1 46 [Value.int .u8 ((t.kind : Nat) : Int), Value.int .i64 t.n, Value.int .i64 t.a, Value.int .i64 t.b]) :: (refI r ts) :: F) (fun _ h => st_pull [2, 2] h) ?_
          refine Wl.e (e_call (F := (pt b1 46 [Value.int .u8 ((t.kind : Nat) : Int), Value.int .i64 t.n, Value.int .i64 t.a, Value.int .i64 t.b]) :: (refI r ts) :: F) (args := [Value.pointer (some ⟨w, 0, none⟩), Value.int .i64 t.a]) Try.call46 rfl (rhas_is W0 w r lb lc m L t.a hm (by omega) (by omega) hra)) (fun _ _ => ?_)
          refine Wl.imp (L' := (pt w 61 [Value.pointer (some ⟨r, 0, none⟩), Value.slice (some ⟨lb, 0, none⟩) m lc]) :: (slp 4 1 lb lc (L.map Value.bool)) :: (pt b1 46 [Value.int .u8 ((t.kind : Nat) : Int), Value.int .i64 t.n, Value.int .i64 t.a, Value.int .i64 t.b]) :: (refI r ts) :: F) (fun _ h => h) ?_
          refine Wl.q (v := Value.bool true) (q_move rfl) ?_
          refine Wl.q (v := Value.pointer (some ⟨w, 0, none⟩)) (q_move rfl) ?_
          refine Wl.q (v := Value.pointer (some ⟨b1, 3, none⟩)) (q_field (m := 3) fo_46_3 rfl rfl) ?_
          refine Wl.q (v := Value.int .i64 t.b) (q_load sc_3 rfl (.cel (i := 2) rfl rfl)) ?_
          refine Wl.e (e_call (F := (pt b1 46 [Value.int .u8 ((t.kind : Nat) : Int), Value.int .i64 t.n, Value.int .i64 t.a, Value.int .i64 t.b]) :: (refI r ts) :: F) (args := [Value.pointer (some ⟨w, 0, none⟩), Value.int .i64 t.b]) Try.call46 rfl (rhas_is W0 w r lb lc m L t.b hm (by omega) (by omega) hrb)) (fun _ _ => ?_)
          refine Wl.imp (L' := (pt w 61 [Value.pointer (some ⟨r, 0, none⟩), Value.slice (some ⟨lb, 0, none⟩) m lc]) :: (slp 4 1 lb lc (L.map Value.bool)) :: (pt b1 46 [Value.int .u8 ((t.kind : Nat) : Int), Value.int .i64 t.n, Value.int .i64 t.a, Value.int .i64 t.b]) :: (refI r ts) :: F) (fun _ h => h) ?_
          refine Wl.q (v := Value.bool true) (q_pick (t := true) rfl rfl) ?_
          refine Wl.q (v := Value.bool true) (q_assign rfl) ?_
          refine Wl.done ?_
          refine Wx.go ?_
          refine Wc.ret ?_
          refine Wx.fin1 rfl (.inl rfl) (fun w hs => ?_)
          have e : mkR ts L n = true := by unfold mkR; rw [hat]; simp only; rw [if_neg (by omega), if_neg (by omega), hra, hrb]; rfl
          exact ⟨(), trivial, congrArg Value.bool (e.symm.trans h), (st_drop (st_pull [2] hs))⟩
        ·
          refine Wl.q (v := Value.pointer (some ⟨w, 0, none⟩)) (q_move rfl) ?_
          refine Wl.q (v := Value.pointer (some ⟨b1, 2, none⟩)) (q_field (m := 2) fo_46_2 rfl rfl) ?_
          refine Wl.q (v := Value.int .i64 t.a) (q_load sc_3 rfl (.cel (i := 0) rfl rfl)) ?_
          refine Wl.imp (L' := (pt w 61 [Value.pointer (some ⟨r, 0, none⟩), Value.slice (some ⟨lb, 0, none⟩) m lc]) :: (slp 4 1 lb lc (L.map Value.bool)) :: (pt b1 46 [Value.int .u8 ((t.kind : Nat) : Int), Value.int .i64 t.n, Value.int .i64 t.a, Value.int .i64 t.b]) :: (refI r ts) :: F) (fun _ h => st_pull [2, 2] h) ?_
          refine Wl.e (e_call (F := (pt b1 46 [Value.int .u8 ((t.kind : Nat) : Int), Value.int .i64 t.n, Value.int .i64 t.a, Value.int .i64 t.b]) :: (refI r ts) :: F) (args := [Value.pointer (some ⟨w, 0, none⟩), Value.int .i64 t.a]) Try.call46 rfl (rhas_is W0 w r lb lc m L t.a hm (by omega) (by omega) hra)) (fun _ _ => ?_)
          refine Wl.imp (L' := (pt w 61 [Value.pointer (some ⟨r, 0, none⟩), Value.slice (some ⟨lb, 0, none⟩) m lc]) :: (slp 4 1 lb lc (L.map Value.bool)) :: (pt b1 46 [Value.int .u8 ((t.kind : Nat) : Int), Value.int .i64 t.n, Value.int .i64 t.a, Value.int .i64 t.b]) :: (refI r ts) :: F) (fun _ h => h) ?_
          refine Wl.q (v := Value.bool true) (q_move rfl) ?_
          refine Wl.q (v := Value.pointer (some ⟨w, 0, none⟩)) (q_move rfl) ?_
          refine Wl.q (v := Value.pointer (some ⟨b1, 3, none⟩)) (q_field (m := 3) fo_46_3 rfl rfl) ?_
          refine Wl.q (v := Value.int .i64 t.b) (q_load sc_3 rfl (.cel (i := 2) rfl rfl)) ?_
          refine Wl.e (e_call (F := (pt b1 46 [Value.int .u8 ((t.kind : Nat) : Int), Value.int .i64 t.n, Value.int .i64 t.a, Value.int .i64 t.b]) :: (refI r ts) :: F) (args := [Value.pointer (some ⟨w, 0, none⟩), Value.int .i64 t.b]) Try.call46 rfl (rhas_is W0 w r lb lc m L t.b hm (by omega) (by omega) (Bool.eq_false_iff.2 hrb))) (fun _ _ => ?_)
          refine Wl.imp (L' := (pt w 61 [Value.pointer (some ⟨r, 0, none⟩), Value.slice (some ⟨lb, 0, none⟩) m lc]) :: (slp 4 1 lb lc (L.map Value.bool)) :: (pt b1 46 [Value.int .u8 ((t.kind : Nat) : Int), Value.int .i64 t.n, Value.int .i64 t.a, Value.int .i64 t.b]) :: (refI r ts) :: F) (fun _ h => h) ?_
          refine Wl.q (v := Value.bool false) (q_pick (t := true) rfl rfl) ?_
          refine Wl.q (v := Value.bool false) (q_assign rfl) ?_
          refine Wl.done ?_
          refine Wx.go ?_
          refine Wc.ret ?_
          refine Wx.fin1 rfl (.inl rfl) (fun w hs => ?_)
          have e : mkR ts L n = false := by unfold mkR; rw [hat]; simp only; rw [if_neg (by omega), if_neg (by omega), hra, Bool.eq_false_iff.2 hrb]; rfl
          exact ⟨(), trivial, congrArg Value.bool (e.symm.trans h), (st_drop (st_pull [2] hs))⟩
      ·
        refine Wl.q (v := Value.pointer (some ⟨w, 0, none⟩)) (q_move rfl) ?_
        refine Wl.q (v := Value.pointer (some ⟨b1, 2, none⟩)) (q_field (m := 2) fo_46_2 rfl rfl) ?_
        refine Wl.q (v := Value.int .i64 t.a) (q_load sc_3 rfl (.cel (i := 0) rfl rfl)) ?_
        refine Wl.imp (L' := (pt w 61 [Value.pointer (some ⟨r, 0, none⟩), Value.slice (some ⟨lb, 0, none⟩) m lc]) :: (slp 4 1 lb lc (L.map Value.bool)) :: (pt b1 46 [Value.int .u8 ((t.kind : Nat) : Int), Value.int .i64 t.n, Value.int .i64 t.a, Value.int .i64 t.b]) :: (refI r ts) :: F) (fun _ h => st_pull [2, 2] h) ?_
        refine Wl.e (e_call (F := (pt b1 46 [Value.int .u8 ((t.kind : Nat) : Int), Value.int .i64 t.n, Value.int .i64 t.a, Value.int .i64 t.b]) :: (refI r ts) :: F) (args := [Value.pointer (some ⟨w, 0, none⟩), Value.int .i64 t.a]) Try.call46 rfl (rhas_is W0 w r lb lc m L t.a hm (by omega) (by omega) (Bool.eq_false_iff.2 hra))) (fun _ _ => ?_)
        refine Wl.imp (L' := (pt w 61 [Value.pointer (some ⟨r, 0, none⟩), Value.slice (some ⟨lb, 0, none⟩) m lc]) :: (slp 4 1 lb lc (L.map Value.bool)) :: (pt b1 46 [Value.int .u8 ((t.kind : Nat) : Int), Value.int .i64 t.n, Value.int .i64 t.a, Value.int .i64 t.b]) :: (refI r ts) :: F) (fun _ h => h) ?_
        refine Wl.q (v := Value.bool false) (q_move rfl) ?_
        refine Wl.no ?_
        refine Wl.no ?_
        refine Wl.no ?_
        refine Wl.no ?_
        refine Wl.q (v := Value.bool false) (q_pick (t := false) rfl rfl) ?_
        refine Wl.q (v := Value.bool false) (q_assign rfl) ?_
        refine Wl.done ?_
        refine Wx.go ?_
        refine Wc.ret ?_
        refine Wx.fin1 rfl (.inl rfl) (fun w hs => ?_)
        have e : mkR ts L n = false := by unfold mkR; rw [hat]; simp only; rw [if_neg (by omega), if_neg (by omega), Bool.eq_false_iff.2 hra]; rfl
        exact ⟨(), trivial, congrArg Value.bool (e.symm.trans h), (st_drop (st_pull [2] hs))⟩

set_option maxRecDepth 4000 in
theorem rgive_c (W0 : World) (w r lb lc m : Nat) (L : List Bool) (ts : List TermR) (n : Nat) (hm : L.length = m) (hw : Wf ts) (hl : ts.length ≤ 1048576) (t : TermR) (hat : atN ts n = some t) (hn : n < m)  :
    Con Try.prog W0 41 #[Value.pointer (some ⟨w, 0, none⟩), Value.int .i64 ((n : Nat) : Int)] [pt w 61 [Value.pointer (some ⟨r, 0, none⟩), Value.slice (some ⟨lb, 0, none⟩) m lc], slp 4 1 lb lc (L.map Value.bool), refI r ts] (X := Unit) (fun _ => True) (fun _ => .bool (gvR ts L n).2) (fun _ => [pt w 61 [Value.pointer (some ⟨r, 0, none⟩), Value.slice (some ⟨lb, 0, none⟩) m lc], slp 4 1 lb lc ((gvR ts L n).1.map Value.bool), refI r ts]) := by
  refine Con.of (args := [Value.pointer (some ⟨w, 0, none⟩), Value.int .i64 ((n : Nat) : Int)]) Try.func41 rfl Try.ntmps41 rfl (fun F => ?_)
  have hp := hw.parts hat
  show Wc _ W0 _ _ _ _ _ ((pt w 61 [Value.pointer (some ⟨r, 0, none⟩), Value.slice (some ⟨lb, 0, none⟩) m lc]) :: (slp 4 1 lb lc (L.map Value.bool)) :: (refI r ts) :: F)
  refine Wc.seq ?_
  refine Wc.region ?_
  refine Wl.q (v := Value.bool false) (q_assign rfl) ?_
  refine Wl.done ?_
  refine Wx.go ?_
  refine Wc.seq ?_
  refine Wc.region ?_
  refine Wl.q (v := Value.pointer (some ⟨w, 0, none⟩)) (q_move rfl) ?_
  refine Wl.q (v := Value.pointer (some ⟨w, 0, none⟩)) (q_nil_ptr rfl) ?_
  refine Wl.q (v := Value.pointer (some ⟨w, 0, none⟩)) (q_field (m := 0) fo_61_0 rfl rfl) ?_
  refine Wl.q (v := Value.pointer (some ⟨r, 0, none⟩)) (q_load sc_25 rfl (.cel (i := 0) rfl rfl)) ?_
  refine Wl.q (v := Value.int .i64 ((n : Nat) : Int)) (q_move rfl) ?_
  refine Wl.imp (L' := (refI r ts) :: (pt w 61 [Value.pointer (some ⟨r, 0, none⟩), Value.slice (some ⟨lb, 0, none⟩) m lc]) :: (slp 4 1 lb lc (L.map Value.bool)) :: F) (fun _ h => st_pull [2] h) ?_
  refine Wl.e (e_call (F := (pt w 61 [Value.pointer (some ⟨r, 0, none⟩), Value.slice (some ⟨lb, 0, none⟩) m lc]) :: (slp 4 1 lb lc (L.map Value.bool)) :: F) (args := [Value.pointer (some ⟨r, 0, none⟩), Value.int .i64 ((n : Nat) : Int)]) Try.call45 rfl (rget_c W0 r ts ((n : Nat) : Int) hl t (by omega) (atN_get hat))) (fun _ _ => ?_)
  refine Wl.imp (L' := (refI r ts) :: (pt w 61 [Value.pointer (some ⟨r, 0, none⟩), Value.slice (some ⟨lb, 0, none⟩) m lc]) :: (slp 4 1 lb lc (L.map Value.bool)) :: F) (fun _ h => h) ?_
  refine Wl.q (v := Value.tuple #[Value.agg #[Value.int .u8 ((t.kind : Nat) : Int), Value.int .i64 t.n, Value.int .i64 t.a, Value.int .i64 t.b], Value.bool true]) (q_move rfl) ?_
  refine Wl.q (v := Value.agg #[Value.int .u8 ((t.kind : Nat) : Int), Value.int .i64 t.n, Value.int .i64 t.a, Value.int .i64 t.b]) (q_extract (i := 0) rfl rfl) ?_
  refine Wl.q (v := Value.bool true) (q_extract (i := 1) rfl rfl) ?_
  refine Wl.e (e_alloc (vs := [Value.int .u8 0, Value.int .i64 0, Value.int .i64 0, Value.int .i64 0]) zo_46 rfl) (fun b1 _ => ?_)
  refine Wl.imp (L' := (pt b1 46 [Value.int .u8 0, Value.int .i64 0, Value.int .i64 0, Value.int .i64 0]) :: (refI r ts) :: (pt w 61 [Value.pointer (some ⟨r, 0, none⟩), Value.slice (some ⟨lb, 0, none⟩) m lc]) :: (slp 4 1 lb lc (L.map Value.bool)) :: F) (fun _ h => h) ?_
  refine Wl.e (e_storeAgg (i := 0) (vs := [Value.int .u8 ((t.kind : Nat) : Int), Value.int .i64 t.n, Value.int .i64 t.a, Value.int .i64 t.b]) (c' := [Value.int .u8 ((t.kind : Nat) : Int), Value.int .i64 t.n, Value.int .i64 t.a, Value.int .i64 t.b]) sz_46 rfl rfl rfl rfl (by simp) rfl) (fun _ _ => ?_)
  refine Wl.imp (L' := (pt b1 46 [Value.int .u8 ((t.kind : Nat) : Int), Value.int .i64 t.n, Value.int .i64 t.a, Value.int .i64 t.b]) :: (refI r ts) :: (pt w 61 [Value.pointer (some ⟨r, 0, none⟩), Value.slice (some ⟨lb, 0, none⟩) m lc]) :: (slp 4 1 lb lc (L.map Value.bool)) :: F) (fun _ h => h) ?_
  refine Wl.q (v := Value.bool true) (q_assign rfl) ?_
  refine Wl.done ?_
  refine Wx.go ?_
  refine Wc.seq ?_
  refine Wc.region ?_
  refine Wl.q (v := Value.bool false) (q_assign rfl) ?_
  refine Wl.done ?_
  refine Wx.go ?_
  refine Wc.seq ?_
  refine Wc.seq ?_
  refine Wc.region ?_
  refine Wl.q (v := Value.pointer (some ⟨b1, 0, none⟩)) (q_field (m := 0) fo_46_0 rfl rfl) ?_
  refine Wl.q (v := Value.int .u8 ((t.kind : Nat) : Int)) (q_load sc_44 rfl (.cel (i := 0) rfl rfl)) ?_
  refine Wl.done ?_
  refine Wx.go ?_
  refine Wc.block ?_
  refine Wc.seq ?_
  refine Wc.region ?_
  by_cases hk3 : ((t.kind : Nat) : Int) = 3
  ·
    refine Wl.q (v := Value.bool true) (q_eql (r := true) rfl rfl (decide_eq_true hk3)) ?_
    refine Wl.q (v := Value.bool true) (q_assign rfl) ?_
    refine Wl.done ?_
    refine Wx.go ?_
    refine Wc.yes rfl ?_
    refine Wc.seq ?_
    refine Wc.drawsS [] ((pt b1 46 [Value.int .u8 ((t.kind : Nat) : Int), Value.int .i64 t.n, Value.int .i64 t.a, Value.int .i64 t.b]) :: (refI r ts) :: (pt w 61 [Value.pointer (some ⟨r, 0, none⟩), Value.slice (some ⟨lb, 0, none⟩) m lc]) :: (slp 4 1 lb lc (L.map Value.bool)) :: []) (by kernel_rfl) ?_
    refine Wr.pure (v := Value.pointer (some ⟨w, 0, none⟩)) 0 rfl (by kernel_rfl) (.inr (fun _ h => st_take [0, 0, 0, 0] h)) (.inl ⟨rfl, fun _ => q_move rfl⟩) ?_
    refine Wr.pure (v := Value.pointer (some ⟨w, 0, none⟩)) 1 rfl (by kernel_rfl) (.inr (fun _ h => st_take [0, 0, 0, 0] h)) (.inl ⟨rfl, fun _ => q_nil_ptr rfl⟩) ?_
    refine Wr.pure (v := Value.pointer (some ⟨w, 1, none⟩)) 2 rfl (by kernel_rfl) (.inr (fun _ h => st_take [0, 0, 0, 0] h)) (.inl ⟨rfl, fun _ => q_field (m := 1) fo_61_1 rfl rfl⟩) ?_
    refine Wr.take (v := Value.slice (some ⟨lb, 0, none⟩) m lc) 3 rfl (by kernel_rfl) (fun _ h => st_take [0, 0, 0, 0] h) (.inl ⟨rfl, q_load sc_57 rfl (.cel (i := 2) rfl rfl)⟩) ?_
    refine Wr.pure (v := Value.pointer (some ⟨b1, 2, none⟩)) 4 rfl (by kernel_rfl) (.inr (fun _ h => st_take [0, 0, 0, 0] h)) (.inl ⟨rfl, fun _ => q_field (m := 2) fo_46_2 rfl rfl⟩) ?_
    refine Wr.take (v := Value.int .i64 t.a) 5 rfl (by kernel_rfl) (fun _ h => st_take [0, 0, 0, 0] h) (.inl ⟨rfl, q_load sc_3 rfl (.cel (i := 0) rfl rfl)⟩) ?_
    refine Wr.pure (v := Value.pointer (some ⟨lb, (t.a).toNat, none⟩)) 6 rfl (by kernel_rfl) (.inr (fun _ h => st_take [0, 0, 0, 0] h)) (.inl ⟨rfl, fun _ => q_idx (m := (t.a).toNat) se_57 rfl rfl (by omega) (by omega) (by simp)⟩) ?_
    by_cases hLa : hN L ((t.a).toNat) = true
    ·
      refine Wr.take (v := Value.bool true) 7 rfl (by kernel_rfl) (fun _ h => st_take [0, 0, 0, 0] h) (.inl ⟨rfl, q_load sc_4 rfl (.row (i := 3) rfl (bool_yes hLa))⟩) ?_
      refine Wr.pure (v := Value.bool false) 8 rfl (by kernel_rfl) (.inr (fun _ h => st_take [0, 0, 0, 0] h)) (.inl ⟨rfl, fun _ => q_not rfl rfl⟩) ?_
      refine Wr.pure (v := Value.bool false) 9 rfl (by kernel_rfl) (.inr (fun _ h => st_take [0, 0, 0, 0] h)) (.inl ⟨rfl, fun _ => q_move rfl⟩) ?_
      refine Wr.pure (v := Value.pointer (some ⟨w, 0, none⟩)) 10 rfl (by kernel_rfl) (.inr (fun _ h => st_take [0, 0, 0, 0] h)) (.inl ⟨rfl, fun _ => q_move rfl⟩) ?_
      refine Wr.pure (v := Value.pointer (some ⟨w, 0, none⟩)) 11 rfl (by kernel_rfl) (.inr (fun _ h => st_take [0, 0, 0, 0] h)) (.inl ⟨rfl, fun _ => q_nil_ptr rfl⟩) ?_
      refine Wr.pure (v := Value.pointer (some ⟨w, 1, none⟩)) 12 rfl (by kernel_rfl) (.inr (fun _ h => st_take [0, 0, 0, 0] h)) (.inl ⟨rfl, fun _ => q_field (m := 1) fo_61_1 rfl rfl⟩) ?_
      refine Wr.take (v := Value.slice (some ⟨lb, 0, none⟩) m lc) 13 rfl (by kernel_rfl) (fun _ h => st_take [0, 0, 0, 0] h) (.inl ⟨rfl, q_load sc_57 rfl (.cel (i := 2) rfl rfl)⟩) ?_
      refine Wr.pure (v := Value.pointer (some ⟨b1, 3, none⟩)) 14 rfl (by kernel_rfl) (.inr (fun _ h => st_take [0, 0, 0, 0] h)) (.inl ⟨rfl, fun _ => q_field (m := 3) fo_46_3 rfl rfl⟩) ?_
      refine Wr.take (v := Value.int .i64 t.b) 15 rfl (by kernel_rfl) (fun _ h => st_take [0, 0, 0, 0] h) (.inl ⟨rfl, q_load sc_3 rfl (.cel (i := 0) rfl rfl)⟩) ?_
      refine Wr.pure (v := Value.pointer (some ⟨lb, (t.b).toNat, none⟩)) 16 rfl (by kernel_rfl) (.inr (fun _ h => st_take [0, 0, 0, 0] h)) (.inl ⟨rfl, fun _ => q_idx (m := (t.b).toNat) se_57 rfl rfl (by omega) (by omega) (by simp)⟩) ?_
      by_cases hLb : hN L ((t.b).toNat) = true
      ·
        refine Wr.take (v := Value.bool true) 17 rfl (by kernel_rfl) (fun _ h => st_take [0, 0, 0, 0] h) (.inl ⟨rfl, q_load sc_4 rfl (.row (i := 3) rfl (bool_yes hLb))⟩) ?_
        refine Wr.pure (v := Value.bool false) 18 rfl (by kernel_rfl) (.inr (fun _ h => st_take [0, 0, 0, 0] h)) (.inl ⟨rfl, fun _ => q_not rfl rfl⟩) ?_
        refine Wr.pure (v := Value.bool false) 19 rfl (by kernel_rfl) (.inr (fun _ h => st_take [0, 0, 0, 0] h)) (.inl ⟨rfl, fun _ => q_pick (t := false) rfl rfl⟩) ?_
        refine Wr.pure (v := Value.bool false) 20 rfl (by kernel_rfl) (.inr (fun _ h => st_take [0, 0, 0, 0] h)) (.inl ⟨rfl, fun _ => q_assign rfl⟩) ?_
        refine Wr.done (by kernel_rfl) ?_
        refine Wx.go ?_
        refine Wc.seq ?_
        refine Wc.drawsS [7] ((pt b1 46 [Value.int .u8 ((t.kind : Nat) : Int), Value.int .i64 t.n, Value.int .i64 t.a, Value.int .i64 t.b]) :: (refI r ts) :: (pt w 61 [Value.pointer (some ⟨r, 0, none⟩), Value.slice (some ⟨lb, 0, none⟩) m lc]) :: (slp 4 1 lb lc (L.map Value.bool)) :: []) (by kernel_rfl) ?_
        refine Wr.pure (v := Value.pointer (some ⟨w, 0, none⟩)) 0 rfl (by kernel_rfl) (.inr (fun _ h => st_take [0, 0, 0, 0] h)) (.inl ⟨rfl, fun _ => q_move rfl⟩) ?_
        refine Wr.pure (v := Value.pointer (some ⟨w, 0, none⟩)) 1 rfl (by kernel_rfl) (.inr (fun _ h => st_take [0, 0, 0, 0] h)) (.inl ⟨rfl, fun _ => q_nil_ptr rfl⟩) ?_
        refine Wr.pure (v := Value.pointer (some ⟨w, 1, none⟩)) 2 rfl (by kernel_rfl) (.inr (fun _ h => st_take [0, 0, 0, 0] h)) (.inl ⟨rfl, fun _ => q_field (m := 1) fo_61_1 rfl rfl⟩) ?_
        refine Wr.take (v := Value.slice (some ⟨lb, 0, none⟩) m lc) 3 rfl (by kernel_rfl) (fun _ h => st_take [0, 0, 0, 0] h) (.inl ⟨rfl, q_load sc_57 rfl (.cel (i := 2) rfl rfl)⟩) ?_
        refine Wr.pure (v := Value.pointer (some ⟨b1, 2, none⟩)) 4 rfl (by kernel_rfl) (.inr (fun _ h => st_take [0, 0, 0, 0] h)) (.inl ⟨rfl, fun _ => q_field (m := 2) fo_46_2 rfl rfl⟩) ?_
        refine Wr.take (v := Value.int .i64 t.a) 5 rfl (by kernel_rfl) (fun _ h => st_take [0, 0, 0, 0] h) (.inl ⟨rfl, q_load sc_3 rfl (.cel (i := 0) rfl rfl)⟩) ?_
        refine Wr.pure (v := Value.pointer (some ⟨lb, (t.a).toNat, none⟩)) 6 rfl (by kernel_rfl) (.inr (fun _ h => st_take [0, 0, 0, 0] h)) (.inl ⟨rfl, fun _ => q_idx (m := (t.a).toNat) se_57 rfl rfl (by omega) (by omega) (by simp)⟩) ?_
        refine Wr.e 7 (by kernel_rfl) rfl (e_store_slp (i := 3) (vs := [Value.bool true]) (c' := (L.set ((t.a).toNat) true).map Value.bool) sz_4 rfl (congrArg Value.cells (rfl)) rfl rfl (by simp; omega) (splice_map (by first | omega | (simp only [List.length_set]; omega)))) (.inl (by kernel_rfl)) (fun _ _ => ?_)
        refine Wr.imp (L' := (pt b1 46 [Value.int .u8 ((t.kind : Nat) : Int), Value.int .i64 t.n, Value.int .i64 t.a, Value.int .i64 t.b]) :: (refI r ts) :: (pt w 61 [Value.pointer (some ⟨r, 0, none⟩), Value.slice (some ⟨lb, 0, none⟩) m lc]) :: (slp 4 1 lb lc ((L.set ((t.a).toNat) true).map Value.bool)) :: F) (fun _ h => h) ?_
        refine Wr.rebaseS [] ((pt b1 46 [Value.int .u8 ((t.kind : Nat) : Int), Value.int .i64 t.n, Value.int .i64 t.a, Value.int .i64 t.b]) :: (refI r ts) :: (pt w 61 [Value.pointer (some ⟨r, 0, none⟩), Value.slice (some ⟨lb, 0, none⟩) m lc]) :: (slp 4 1 lb lc ((L.set ((t.a).toNat) true).map Value.bool)) :: []) (by kernel_rfl) ?_
        refine Wr.done (by kernel_rfl) ?_
        refine Wx.go ?_
        refine Wc.drawsS [7] ((pt b1 46 [Value.int .u8 ((t.kind : Nat) : Int), Value.int .i64 t.n, Value.int .i64 t.a, Value.int .i64 t.b]) :: (refI r ts) :: (pt w 61 [Value.pointer (some ⟨r, 0, none⟩), Value.slice (some ⟨lb, 0, none⟩) m lc]) :: (slp 4 1 lb lc ((L.set ((t.a).toNat) true).map Value.bool)) :: []) (by kernel_rfl) ?_
        refine Wr.pure (v := Value.pointer (some ⟨w, 0, none⟩)) 0 rfl (by kernel_rfl) (.inr (fun _ h => st_take [0, 0, 0, 0] h)) (.inl ⟨rfl, fun _ => q_move rfl⟩) ?_
        refine Wr.pure (v := Value.pointer (some ⟨w, 0, none⟩)) 1 rfl (by kernel_rfl) (.inr (fun _ h => st_take [0, 0, 0, 0] h)) (.inl ⟨rfl, fun _ => q_nil_ptr rfl⟩) ?_
        refine Wr.pure (v := Value.pointer (some ⟨w, 1, none⟩)) 2 rfl (by kernel_rfl) (.inr (fun _ h => st_take [0, 0, 0, 0] h)) (.inl ⟨rfl, fun _ => q_field (m := 1) fo_61_1 rfl rfl⟩) ?_
        refine Wr.take (v := Value.slice (some ⟨lb, 0, none⟩) m lc) 3 rfl (by kernel_rfl) (fun _ h => st_take [0, 0, 0, 0] h) (.inl ⟨rfl, q_load sc_57 rfl (.cel (i := 2) rfl rfl)⟩) ?_
        refine Wr.pure (v := Value.pointer (some ⟨b1, 3, none⟩)) 4 rfl (by kernel_rfl) (.inr (fun _ h => st_take [0, 0, 0, 0] h)) (.inl ⟨rfl, fun _ => q_field (m := 3) fo_46_3 rfl rfl⟩) ?_
        refine Wr.take (v := Value.int .i64 t.b) 5 rfl (by kernel_rfl) (fun _ h => st_take [0, 0, 0, 0] h) (.inl ⟨rfl, q_load sc_3 rfl (.cel (i := 0) rfl rfl)⟩) ?_
        refine Wr.pure (v := Value.pointer (some ⟨lb, (t.b).toNat, none⟩)) 6 rfl (by kernel_rfl) (.inr (fun _ h => st_take [0, 0, 0, 0] h)) (.inl ⟨rfl, fun _ => q_idx (m := (t.b).toNat) se_57 rfl rfl (by omega) (by omega) (by simp)⟩) ?_
        refine Wr.e 7 (by kernel_rfl) rfl (e_store_slp (i := 3) (vs := [Value.bool true]) (c' := ((L.set ((t.a).toNat) true).set ((t.b).toNat) true).map Value.bool) sz_4 rfl (congrArg Value.cells (rfl)) rfl rfl (by simp; omega) (splice_map (by first | omega | (simp only [List.length_set]; omega)))) (.inl (by kernel_rfl)) (fun _ _ => ?_)
        refine Wr.imp (L' := (pt b1 46 [Value.int .u8 ((t.kind : Nat) : Int), Value.int .i64 t.n, Value.int .i64 t.a, Value.int .i64 t.b]) :: (refI r ts) :: (pt w 61 [Value.pointer (some ⟨r, 0, none⟩), Value.slice (some ⟨lb, 0, none⟩) m lc]) :: (slp 4 1 lb lc (((L.set ((t.a).toNat) true).set ((t.b).toNat) true).map Value.bool)) :: F) (fun _ h => h) ?_
        refine Wr.rebaseS [] ((pt b1 46 [Value.int .u8 ((t.kind : Nat) : Int), Value.int .i64 t.n, Value.int .i64 t.a, Value.int .i64 t.b]) :: (refI r ts) :: (pt w 61 [Value.pointer (some ⟨r, 0, none⟩), Value.slice (some ⟨lb, 0, none⟩) m lc]) :: (slp 4 1 lb lc (((L.set ((t.a).toNat) true).set ((t.b).toNat) true).map Value.bool)) :: []) (by kernel_rfl) ?_
        refine Wr.done (by kernel_rfl) ?_
        refine Wx.blockEnd ?_
        refine Wx.go ?_
        refine Wc.seq ?_
        refine Wc.region ?_
        refine Wl.q (v := Value.bool false) (q_move rfl) ?_
        refine Wl.q (v := Value.bool false) (q_assign rfl) ?_
        refine Wl.done ?_
        refine Wx.go ?_
        refine Wc.ret ?_
        refine Wx.fin1 rfl (.inl rfl) (fun w hs => ?_)
        have e : gvR ts L n = (((L.set ((t.a).toNat) true).set ((t.b).toNat) true), false) := by unfold gvR; rw [hat]; simp only; rw [if_pos (by omega), hLa, hLb]; rfl
        exact ⟨(), trivial, congrArg Value.bool (by rw [e]), by rw [e]; exact (st_pull [1, 1, 0] (st_drop (st_pull [0] hs)))⟩
      ·
        refine Wr.take (v := Value.bool false) 17 rfl (by kernel_rfl) (fun _ h => st_take [0, 0, 0, 0] h) (.inl ⟨rfl, q_load sc_4 rfl (.row (i := 3) rfl (bool_no (by first | omega | (simp only [List.length_set]; omega)) hLb))⟩) ?_
        refine Wr.pure (v := Value.bool true) 18 rfl (by kernel_rfl) (.inr (fun _ h => st_take [0, 0, 0, 0] h)) (.inl ⟨rfl, fun _ => q_not rfl rfl⟩) ?_
        refine Wr.pure (v := Value.bool true) 19 rfl (by kernel_rfl) (.inr (fun _ h => st_take [0, 0, 0, 0] h)) (.inl ⟨rfl, fun _ => q_pick (t := false) rfl rfl⟩) ?_
        refine Wr.pure (v := Value.bool true) 20 rfl (by kernel_rfl) (.inr (fun _ h => st_take [0, 0, 0, 0] h)) (.inl ⟨rfl, fun _ => q_assign rfl⟩) ?_
        refine Wr.done (by kernel_rfl) ?_
        refine Wx.go ?_
        refine Wc.seq ?_
        refine Wc.drawsS [7] ((pt b1 46 [Value.int .u8 ((t.kind : Nat) : Int), Value.int .i64 t.n, Value.int .i64 t.a, Value.int .i64 t.b]) :: (refI r ts) :: (pt w 61 [Value.pointer (some ⟨r, 0, none⟩), Value.slice (some ⟨lb, 0, none⟩) m lc]) :: (slp 4 1 lb lc (L.map Value.bool)) :: []) (by kernel_rfl) ?_
        refine Wr.pure (v := Value.pointer (some ⟨w, 0, none⟩)) 0 rfl (by kernel_rfl) (.inr (fun _ h => st_take [0, 0, 0, 0] h)) (.inl ⟨rfl, fun _ => q_move rfl⟩) ?_
        refine Wr.pure (v := Value.pointer (some ⟨w, 0, none⟩)) 1 rfl (by kernel_rfl) (.inr (fun _ h => st_take [0, 0, 0, 0] h)) (.inl ⟨rfl, fun _ => q_nil_ptr rfl⟩) ?_
        refine Wr.pure (v := Value.pointer (some ⟨w, 1, none⟩)) 2 rfl (by kernel_rfl) (.inr (fun _ h => st_take [0, 0, 0, 0] h)) (.inl ⟨rfl, fun _ => q_field (m := 1) fo_61_1 rfl rfl⟩) ?_
        refine Wr.take (v := Value.slice (some ⟨lb, 0, none⟩) m lc) 3 rfl (by kernel_rfl) (fun _ h => st_take [0, 0, 0, 0] h) (.inl ⟨rfl, q_load sc_57 rfl (.cel (i := 2) rfl rfl)⟩) ?_
        refine Wr.pure (v := Value.pointer (some ⟨b1, 2, none⟩)) 4 rfl (by kernel_rfl) (.inr (fun _ h => st_take [0, 0, 0, 0] h)) (.inl ⟨rfl, fun _ => q_field (m := 2) fo_46_2 rfl rfl⟩) ?_
        refine Wr.take (v := Value.int .i64 t.a) 5 rfl (by kernel_rfl) (fun _ h => st_take [0, 0, 0, 0] h) (.inl ⟨rfl, q_load sc_3 rfl (.cel (i := 0) rfl rfl)⟩) ?_
        refine Wr.pure (v := Value.pointer (some ⟨lb, (t.a).toNat, none⟩)) 6 rfl (by kernel_rfl) (.inr (fun _ h => st_take [0, 0, 0, 0] h)) (.inl ⟨rfl, fun _ => q_idx (m := (t.a).toNat) se_57 rfl rfl (by omega) (by omega) (by simp)⟩) ?_
        refine Wr.e 7 (by kernel_rfl) rfl (e_store_slp (i := 3) (vs := [Value.bool true]) (c' := (L.set ((t.a).toNat) true).map Value.bool) sz_4 rfl (congrArg Value.cells (rfl)) rfl rfl (by simp; omega) (splice_map (by first | omega | (simp only [List.length_set]; omega)))) (.inl (by kernel_rfl)) (fun _ _ => ?_)
        refine Wr.imp (L' := (pt b1 46 [Value.int .u8 ((t.kind : Nat) : Int), Value.int .i64 t.n, Value.int .i64 t.a, Value.int .i64 t.b]) :: (refI r ts) :: (pt w 61 [Value.pointer (some ⟨r, 0, none⟩), Value.slice (some ⟨lb, 0, none⟩) m lc]) :: (slp 4 1 lb lc ((L.set ((t.a).toNat) true).map Value.bool)) :: F) (fun _ h => h) ?_
        refine Wr.rebaseS [] ((pt b1 46 [Value.int .u8 ((t.kind : Nat) : Int), Value.int .i64 t.n, Value.int .i64 t.a, Value.int .i64 t.b]) :: (refI r ts) :: (pt w 61 [Value.pointer (some ⟨r, 0, none⟩), Value.slice (some ⟨lb, 0, none⟩) m lc]) :: (slp 4 1 lb lc ((L.set ((t.a).toNat) true).map Value.bool)) :: []) (by kernel_rfl) ?_
        refine Wr.done (by kernel_rfl) ?_
        refine Wx.go ?_
        refine Wc.drawsS [7] ((pt b1 46 [Value.int .u8 ((t.kind : Nat) : Int), Value.int .i64 t.n, Value.int .i64 t.a, Value.int .i64 t.b]) :: (refI r ts) :: (pt w 61 [Value.pointer (some ⟨r, 0, none⟩), Value.slice (some ⟨lb, 0, none⟩) m lc]) :: (slp 4 1 lb lc ((L.set ((t.a).toNat) true).map Value.bool)) :: []) (by kernel_rfl) ?_
        refine Wr.pure (v := Value.pointer (some ⟨w, 0, none⟩)) 0 rfl (by kernel_rfl) (.inr (fun _ h => st_take [0, 0, 0, 0] h)) (.inl ⟨rfl, fun _ => q_move rfl⟩) ?_
        refine Wr.pure (v := Value.pointer (some ⟨w, 0, none⟩)) 1 rfl (by kernel_rfl) (.inr (fun _ h => st_take [0, 0, 0, 0] h)) (.inl ⟨rfl, fun _ => q_nil_ptr rfl⟩) ?_
        refine Wr.pure (v := Value.pointer (some ⟨w, 1, none⟩)) 2 rfl (by kernel_rfl) (.inr (fun _ h => st_take [0, 0, 0, 0] h)) (.inl ⟨rfl, fun _ => q_field (m := 1) fo_61_1 rfl rfl⟩) ?_
        refine Wr.take (v := Value.slice (some ⟨lb, 0, none⟩) m lc) 3 rfl (by kernel_rfl) (fun _ h => st_take [0, 0, 0, 0] h) (.inl ⟨rfl, q_load sc_57 rfl (.cel (i := 2) rfl rfl)⟩) ?_
        refine Wr.pure (v := Value.pointer (some ⟨b1, 3, none⟩)) 4 rfl (by kernel_rfl) (.inr (fun _ h => st_take [0, 0, 0, 0] h)) (.inl ⟨rfl, fun _ => q_field (m := 3) fo_46_3 rfl rfl⟩) ?_
        refine Wr.take (v := Value.int .i64 t.b) 5 rfl (by kernel_rfl) (fun _ h => st_take [0, 0, 0, 0] h) (.inl ⟨rfl, q_load sc_3 rfl (.cel (i := 0) rfl rfl)⟩) ?_
        refine Wr.pure (v := Value.pointer (some ⟨lb, (t.b).toNat, none⟩)) 6 rfl (by kernel_rfl) (.inr (fun _ h => st_take [0, 0, 0, 0] h)) (.inl ⟨rfl, fun _ => q_idx (m := (t.b).toNat) se_57 rfl rfl (by omega) (by omega) (by simp)⟩) ?_
        refine Wr.e 7 (by kernel_rfl) rfl (e_store_slp (i := 3) (vs := [Value.bool true]) (c' := ((L.set ((t.a).toNat) true).set ((t.b).toNat) true).map Value.bool) sz_4 rfl (congrArg Value.cells (rfl)) rfl rfl (by simp; omega) (splice_map (by first | omega | (simp only [List.length_set]; omega)))) (.inl (by kernel_rfl)) (fun _ _ => ?_)
        refine Wr.imp (L' := (pt b1 46 [Value.int .u8 ((t.kind : Nat) : Int), Value.int .i64 t.n, Value.int .i64 t.a, Value.int .i64 t.b]) :: (refI r ts) :: (pt w 61 [Value.pointer (some ⟨r, 0, none⟩), Value.slice (some ⟨lb, 0, none⟩) m lc]) :: (slp 4 1 lb lc (((L.set ((t.a).toNat) true).set ((t.b).toNat) true).map Value.bool)) :: F) (fun _ h => h) ?_
        refine Wr.rebaseS [] ((pt b1 46 [Value.int .u8 ((t.kind : Nat) : Int), Value.int .i64 t.n, Value.int .i64 t.a, Value.int .i64 t.b]) :: (refI r ts) :: (pt w 61 [Value.pointer (some ⟨r, 0, none⟩), Value.slice (some ⟨lb, 0, none⟩) m lc]) :: (slp 4 1 lb lc (((L.set ((t.a).toNat) true).set ((t.b).toNat) true).map Value.bool)) :: []) (by kernel_rfl) ?_
        refine Wr.done (by kernel_rfl) ?_
        refine Wx.blockEnd ?_
        refine Wx.go ?_
        refine Wc.seq ?_
        refine Wc.region ?_
        refine Wl.q (v := Value.bool true) (q_move rfl) ?_
        refine Wl.q (v := Value.bool true) (q_assign rfl) ?_
        refine Wl.done ?_
        refine Wx.go ?_
        refine Wc.ret ?_
        refine Wx.fin1 rfl (.inl rfl) (fun w hs => ?_)
        have e : gvR ts L n = (((L.set ((t.a).toNat) true).set ((t.b).toNat) true), true) := by unfold gvR; rw [hat]; simp only; rw [if_pos (by omega), hLa, Bool.eq_false_iff.2 hLb]; rfl
        exact ⟨(), trivial, congrArg Value.bool (by rw [e]), by rw [e]; exact (st_pull [1, 1, 0] (st_drop (st_pull [0] hs)))⟩
    ·
      refine Wr.take (v := Value.bool false) 7 rfl (by kernel_rfl) (fun _ h => st_take [0, 0, 0, 0] h) (.inl ⟨rfl, q_load sc_4 rfl (.row (i := 3) rfl (bool_no (by first | omega | (simp only [List.length_set]; omega)) hLa))⟩) ?_
      refine Wr.pure (v := Value.bool true) 8 rfl (by kernel_rfl) (.inr (fun _ h => st_take [0, 0, 0, 0] h)) (.inl ⟨rfl, fun _ => q_not rfl rfl⟩) ?_
      refine Wr.pure (v := Value.bool true) 9 rfl (by kernel_rfl) (.inr (fun _ h => st_take [0, 0, 0, 0] h)) (.inl ⟨rfl, fun _ => q_move rfl⟩) ?_
      refine Wr.pure (v := undef) 10 rfl (by kernel_rfl) (.inr (fun _ h => st_take [0, 0, 0, 0] h)) (.inr ⟨rfl, rfl⟩) ?_
      refine Wr.pure (v := undef) 11 rfl (by kernel_rfl) (.inr (fun _ h => st_take [0, 0, 0, 0] h)) (.inr ⟨rfl, rfl⟩) ?_
      refine Wr.pure (v := undef) 12 rfl (by kernel_rfl) (.inr (fun _ h => st_take [0, 0, 0, 0] h)) (.inr ⟨rfl, rfl⟩) ?_
      refine Wr.pure (v := undef) 13 rfl (by kernel_rfl) (.inr (fun _ h => st_take [0, 0, 0, 0] h)) (.inr ⟨rfl, rfl⟩) ?_
      refine Wr.pure (v := undef) 14 rfl (by kernel_rfl) (.inr (fun _ h => st_take [0, 0, 0, 0] h)) (.inr ⟨rfl, rfl⟩) ?_
      refine Wr.pure (v := undef) 15 rfl (by kernel_rfl) (.inr (fun _ h => st_take [0, 0, 0, 0] h)) (.inr ⟨rfl, rfl⟩) ?_
      refine Wr.pure (v := undef) 16 rfl (by kernel_rfl) (.inr (fun _ h => st_take [0, 0, 0, 0] h)) (.inr ⟨rfl, rfl⟩) ?_
      refine Wr.pure (v := undef) 17 rfl (by kernel_rfl) (.inr (fun _ h => st_take [0, 0, 0, 0] h)) (.inr ⟨rfl, rfl⟩) ?_
      refine Wr.pure (v := undef) 18 rfl (by kernel_rfl) (.inr (fun _ h => st_take [0, 0, 0, 0] h)) (.inr ⟨rfl, rfl⟩) ?_
      refine Wr.pure (v := Value.bool true) 19 rfl (by kernel_rfl) (.inr (fun _ h => st_take [0, 0, 0, 0] h)) (.inl ⟨rfl, fun _ => q_pick (t := true) rfl rfl⟩) ?_
      refine Wr.pure (v := Value.bool true) 20 rfl (by kernel_rfl) (.inr (fun _ h => st_take [0, 0, 0, 0] h)) (.inl ⟨rfl, fun _ => q_assign rfl⟩) ?_
      refine Wr.done (by kernel_rfl) ?_
      refine Wx.go ?_
      refine Wc.seq ?_
      refine Wc.drawsS [7] ((pt b1 46 [Value.int .u8 ((t.kind : Nat) : Int), Value.int .i64 t.n, Value.int .i64 t.a, Value.int .i64 t.b]) :: (refI r ts) :: (pt w 61 [Value.pointer (some ⟨r, 0, none⟩), Value.slice (some ⟨lb, 0, none⟩) m lc]) :: (slp 4 1 lb lc (L.map Value.bool)) :: []) (by kernel_rfl) ?_
      refine Wr.pure (v := Value.pointer (some ⟨w, 0, none⟩)) 0 rfl (by kernel_rfl) (.inr (fun _ h => st_take [0, 0, 0, 0] h)) (.inl ⟨rfl, fun _ => q_move rfl⟩) ?_
      refine Wr.pure (v := Value.pointer (some ⟨w, 0, none⟩)) 1 rfl (by kernel_rfl) (.inr (fun _ h => st_take [0, 0, 0, 0] h)) (.inl ⟨rfl, fun _ => q_nil_ptr rfl⟩) ?_
      refine Wr.pure (v := Value.pointer (some ⟨w, 1, none⟩)) 2 rfl (by kernel_rfl) (.inr (fun _ h => st_take [0, 0, 0, 0] h)) (.inl ⟨rfl, fun _ => q_field (m := 1) fo_61_1 rfl rfl⟩) ?_
      refine Wr.take (v := Value.slice (some ⟨lb, 0, none⟩) m lc) 3 rfl (by kernel_rfl) (fun _ h => st_take [0, 0, 0, 0] h) (.inl ⟨rfl, q_load sc_57 rfl (.cel (i := 2) rfl rfl)⟩) ?_
      refine Wr.pure (v := Value.pointer (some ⟨b1, 2, none⟩)) 4 rfl (by kernel_rfl) (.inr (fun _ h => st_take [0, 0, 0, 0] h)) (.inl ⟨rfl, fun _ => q_field (m := 2) fo_46_2 rfl rfl⟩) ?_
      refine Wr.take (v := Value.int .i64 t.a) 5 rfl (by kernel_rfl) (fun _ h => st_take [0, 0, 0, 0] h) (.inl ⟨rfl, q_load sc_3 rfl (.cel (i := 0) rfl rfl)⟩) ?_
      refine Wr.pure (v := Value.pointer (some ⟨lb, (t.a).toNat, none⟩)) 6 rfl (by kernel_rfl) (.inr (fun _ h => st_take [0, 0, 0, 0] h)) (.inl ⟨rfl, fun _ => q_idx (m := (t.a).toNat) se_57 rfl rfl (by omega) (by omega) (by simp)⟩) ?_
      refine Wr.e 7 (by kernel_rfl) rfl (e_store_slp (i := 3) (vs := [Value.bool true]) (c' := (L.set ((t.a).toNat) true).map Value.bool) sz_4 rfl (congrArg Value.cells (rfl)) rfl rfl (by simp; omega) (splice_map (by first | omega | (simp only [List.length_set]; omega)))) (.inl (by kernel_rfl)) (fun _ _ => ?_)
      refine Wr.imp (L' := (pt b1 46 [Value.int .u8 ((t.kind : Nat) : Int), Value.int .i64 t.n, Value.int .i64 t.a, Value.int .i64 t.b]) :: (refI r ts) :: (pt w 61 [Value.pointer (some ⟨r, 0, none⟩), Value.slice (some ⟨lb, 0, none⟩) m lc]) :: (slp 4 1 lb lc ((L.set ((t.a).toNat) true).map Value.bool)) :: F) (fun _ h => h) ?_
      refine Wr.rebaseS [] ((pt b1 46 [Value.int .u8 ((t.kind : Nat) : Int), Value.int .i64 t.n, Value.int .i64 t.a, Value.int .i64 t.b]) :: (refI r ts) :: (pt w 61 [Value.pointer (some ⟨r, 0, none⟩), Value.slice (some ⟨lb, 0, none⟩) m lc]) :: (slp 4 1 lb lc ((L.set ((t.a).toNat) true).map Value.bool)) :: []) (by kernel_rfl) ?_
      refine Wr.done (by kernel_rfl) ?_
      refine Wx.go ?_
      refine Wc.drawsS [7] ((pt b1 46 [Value.int .u8 ((t.kind : Nat) : Int), Value.int .i64 t.n, Value.int .i64 t.a, Value.int .i64 t.b]) :: (refI r ts) :: (pt w 61 [Value.pointer (some ⟨r, 0, none⟩), Value.slice (some ⟨lb, 0, none⟩) m lc]) :: (slp 4 1 lb lc ((L.set ((t.a).toNat) true).map Value.bool)) :: []) (by kernel_rfl) ?_
      refine Wr.pure (v := Value.pointer (some ⟨w, 0, none⟩)) 0 rfl (by kernel_rfl) (.inr (fun _ h => st_take [0, 0, 0, 0] h)) (.inl ⟨rfl, fun _ => q_move rfl⟩) ?_
      refine Wr.pure (v := Value.pointer (some ⟨w, 0, none⟩)) 1 rfl (by kernel_rfl) (.inr (fun _ h => st_take [0, 0, 0, 0] h)) (.inl ⟨rfl, fun _ => q_nil_ptr rfl⟩) ?_
      refine Wr.pure (v := Value.pointer (some ⟨w, 1, none⟩)) 2 rfl (by kernel_rfl) (.inr (fun _ h => st_take [0, 0, 0, 0] h)) (.inl ⟨rfl, fun _ => q_field (m := 1) fo_61_1 rfl rfl⟩) ?_
      refine Wr.take (v := Value.slice (some ⟨lb, 0, none⟩) m lc) 3 rfl (by kernel_rfl) (fun _ h => st_take [0, 0, 0, 0] h) (.inl ⟨rfl, q_load sc_57 rfl (.cel (i := 2) rfl rfl)⟩) ?_
      refine Wr.pure (v := Value.pointer (some ⟨b1, 3, none⟩)) 4 rfl (by kernel_rfl) (.inr (fun _ h => st_take [0, 0, 0, 0] h)) (.inl ⟨rfl, fun _ => q_field (m := 3) fo_46_3 rfl rfl⟩) ?_
      refine Wr.take (v := Value.int .i64 t.b) 5 rfl (by kernel_rfl) (fun _ h => st_take [0, 0, 0, 0] h) (.inl ⟨rfl, q_load sc_3 rfl (.cel (i := 0) rfl rfl)⟩) ?_
      refine Wr.pure (v := Value.pointer (some ⟨lb, (t.b).toNat, none⟩)) 6 rfl (by kernel_rfl) (.inr (fun _ h => st_take [0, 0, 0, 0] h)) (.inl ⟨rfl, fun _ => q_idx (m := (t.b).toNat) se_57 rfl rfl (by omega) (by omega) (by simp)⟩) ?_
      refine Wr.e 7 (by kernel_rfl) rfl (e_store_slp (i := 3) (vs := [Value.bool true]) (c' := ((L.set ((t.a).toNat) true).set ((t.b).toNat) true).map Value.bool) sz_4 rfl (congrArg Value.cells (rfl)) rfl rfl (by simp; omega) (splice_map (by first | omega | (simp only [List.length_set]; omega)))) (.inl (by kernel_rfl)) (fun _ _ => ?_)
      refine Wr.imp (L' := (pt b1 46 [Value.int .u8 ((t.kind : Nat) : Int), Value.int .i64 t.n, Value.int .i64 t.a, Value.int .i64 t.b]) :: (refI r ts) :: (pt w 61 [Value.pointer (some ⟨r, 0, none⟩), Value.slice (some ⟨lb, 0, none⟩) m lc]) :: (slp 4 1 lb lc (((L.set ((t.a).toNat) true).set ((t.b).toNat) true).map Value.bool)) :: F) (fun _ h => h) ?_
      refine Wr.rebaseS [] ((pt b1 46 [Value.int .u8 ((t.kind : Nat) : Int), Value.int .i64 t.n, Value.int .i64 t.a, Value.int .i64 t.b]) :: (refI r ts) :: (pt w 61 [Value.pointer (some ⟨r, 0, none⟩), Value.slice (some ⟨lb, 0, none⟩) m lc]) :: (slp 4 1 lb lc (((L.set ((t.a).toNat) true).set ((t.b).toNat) true).map Value.bool)) :: []) (by kernel_rfl) ?_
      refine Wr.done (by kernel_rfl) ?_
      refine Wx.blockEnd ?_
      refine Wx.go ?_
      refine Wc.seq ?_
      refine Wc.region ?_
      refine Wl.q (v := Value.bool true) (q_move rfl) ?_
      refine Wl.q (v := Value.bool true) (q_assign rfl) ?_
      refine Wl.done ?_
      refine Wx.go ?_
      refine Wc.ret ?_
      refine Wx.fin1 rfl (.inl rfl) (fun w hs => ?_)
      have e : gvR ts L n = (((L.set ((t.a).toNat) true).set ((t.b).toNat) true), true) := by unfold gvR; rw [hat]; simp only; rw [if_pos (by omega), Bool.eq_false_iff.2 hLa]; rfl
      exact ⟨(), trivial, congrArg Value.bool (by rw [e]), by rw [e]; exact (st_pull [1, 1, 0] (st_drop (st_pull [0] hs)))⟩
  ·
    refine Wl.q (v := Value.bool false) (q_eql (r := false) rfl rfl (decide_eq_false hk3)) ?_
    refine Wl.q (v := Value.bool false) (q_assign rfl) ?_
    refine Wl.done ?_
    refine Wx.go ?_
    refine Wc.no rfl ?_
    refine Wc.seq ?_
    refine Wc.region ?_
    by_cases hk6 : ((t.kind : Nat) : Int) = 6
    ·
      obtain ⟨kk, hkk⟩ := at_some (ts := ts) (n := t.a.toNat) (by omega) (by omega)
      have hpk := hw.parts hkk
      refine Wl.q (v := Value.bool true) (q_eql (r := true) rfl rfl (decide_eq_true hk6)) ?_
      refine Wl.q (v := Value.bool true) (q_assign rfl) ?_
      refine Wl.done ?_
      refine Wx.go ?_
      refine Wc.yes rfl ?_
      refine Wc.seq ?_
      refine Wc.drawsS [11] ((pt b1 46 [Value.int .u8 ((t.kind : Nat) : Int), Value.int .i64 t.n, Value.int .i64 t.a, Value.int .i64 t.b]) :: (refI r ts) :: (pt w 61 [Value.pointer (some ⟨r, 0, none⟩), Value.slice (some ⟨lb, 0, none⟩) m lc]) :: (slp 4 1 lb lc (L.map Value.bool)) :: []) (by kernel_rfl) ?_
      refine Wr.pure (v := Value.pointer (some ⟨w, 0, none⟩)) 0 rfl (by kernel_rfl) (.inr (fun _ h => st_take [0, 0, 0, 0] h)) (.inl ⟨rfl, fun _ => q_move rfl⟩) ?_
      refine Wr.pure (v := Value.pointer (some ⟨w, 0, none⟩)) 1 rfl (by kernel_rfl) (.inr (fun _ h => st_take [0, 0, 0, 0] h)) (.inl ⟨rfl, fun _ => q_nil_ptr rfl⟩) ?_
      refine Wr.pure (v := Value.pointer (some ⟨w, 0, none⟩)) 2 rfl (by kernel_rfl) (.inr (fun _ h => st_take [0, 0, 0, 0] h)) (.inl ⟨rfl, fun _ => q_field (m := 0) fo_61_0 rfl rfl⟩) ?_
      refine Wr.take (v := Value.pointer (some ⟨r, 0, none⟩)) 3 rfl (by kernel_rfl) (fun _ h => st_take [0, 0, 0, 0] h) (.inl ⟨rfl, q_load sc_25 rfl (.cel (i := 2) rfl rfl)⟩) ?_
      refine Wr.pure (v := Value.pointer (some ⟨b1, 2, none⟩)) 4 rfl (by kernel_rfl) (.inr (fun _ h => st_take [0, 0, 0, 0] h)) (.inl ⟨rfl, fun _ => q_field (m := 2) fo_46_2 rfl rfl⟩) ?_
      refine Wr.take (v := Value.int .i64 t.a) 5 rfl (by kernel_rfl) (fun _ h => st_take [0, 0, 0, 0] h) (.inl ⟨rfl, q_load sc_3 rfl (.cel (i := 0) rfl rfl)⟩) ?_
      refine Wr.some [6, 10] (by kernel_rfl) (by decide) (List.forall_mem_cons.2 ⟨?_, (List.forall_mem_cons.2 ⟨?_, (fun _ h => by cases h)⟩)⟩)
      ·
        refine Wo.imp (L' := (refI r ts) :: (pt b1 46 [Value.int .u8 ((t.kind : Nat) : Int), Value.int .i64 t.n, Value.int .i64 t.a, Value.int .i64 t.b]) :: (pt w 61 [Value.pointer (some ⟨r, 0, none⟩), Value.slice (some ⟨lb, 0, none⟩) m lc]) :: (slp 4 1 lb lc (L.map Value.bool)) :: F) (fun _ h => st_pull [1] h) ?_
        refine Wo.e 6 rfl (e_call (F := (pt b1 46 [Value.int .u8 ((t.kind : Nat) : Int), Value.int .i64 t.n, Value.int .i64 t.a, Value.int .i64 t.b]) :: (pt w 61 [Value.pointer (some ⟨r, 0, none⟩), Value.slice (some ⟨lb, 0, none⟩) m lc]) :: (slp 4 1 lb lc (L.map Value.bool)) :: F) (args := [Value.pointer (some ⟨r, 0, none⟩), Value.int .i64 t.a]) Try.call45 rfl (rget_c W0 r ts t.a hl kk (by omega) (atN_geti hkk))) (.inr fun _ _ _ h => st_take [1, 0, 0, 0] h) (fun _ _ => ?_)
        refine Wr.imp (L' := (refI r ts) :: (pt b1 46 [Value.int .u8 ((t.kind : Nat) : Int), Value.int .i64 t.n, Value.int .i64 t.a, Value.int .i64 t.b]) :: (pt w 61 [Value.pointer (some ⟨r, 0, none⟩), Value.slice (some ⟨lb, 0, none⟩) m lc]) :: (slp 4 1 lb lc (L.map Value.bool)) :: F) (fun _ h => h) ?_
        refine Wr.pure (v := Value.tuple #[Value.agg #[Value.int .u8 ((kk.kind : Nat) : Int), Value.int .i64 kk.n, Value.int .i64 kk.a, Value.int .i64 kk.b], Value.bool true]) 7 rfl (by kernel_rfl) (.inr (fun _ h => st_take [1, 0, 0, 0] h)) (.inl ⟨rfl, fun _ => q_move rfl⟩) ?_
        refine Wr.pure (v := Value.agg #[Value.int .u8 ((kk.kind : Nat) : Int), Value.int .i64 kk.n, Value.int .i64 kk.a, Value.int .i64 kk.b]) 8 rfl (by kernel_rfl) (.inr (fun _ h => st_take [1, 0, 0, 0] h)) (.inl ⟨rfl, fun _ => q_extract (i := 0) rfl rfl⟩) ?_
        refine Wr.pure (v := Value.bool true) 9 rfl (by kernel_rfl) (.inr (fun _ h => st_take [1, 0, 0, 0] h)) (.inl ⟨rfl, fun _ => q_extract (i := 1) rfl rfl⟩) ?_
        refine Wr.e 10 (by kernel_rfl) rfl (e_alloc (vs := [Value.int .u8 0, Value.int .i64 0, Value.int .i64 0, Value.int .i64 0]) zo_46 rfl) (.inr fun _ _ _ h => st_take [2, 1, 1, 1] h) (fun b2 _ => ?_)
        refine Wr.imp (L' := (pt b2 46 [Value.int .u8 0, Value.int .i64 0, Value.int .i64 0, Value.int .i64 0]) :: (refI r ts) :: (pt b1 46 [Value.int .u8 ((t.kind : Nat) : Int), Value.int .i64 t.n, Value.int .i64 t.a, Value.int .i64 t.b]) :: (pt w 61 [Value.pointer (some ⟨r, 0, none⟩), Value.slice (some ⟨lb, 0, none⟩) m lc]) :: (slp 4 1 lb lc (L.map Value.bool)) :: F) (fun _ h => h) ?_
        refine Wr.more (S' := (pt b2 46 [Value.int .u8 0, Value.int .i64 0, Value.int .i64 0, Value.int .i64 0]) :: (pt b1 46 [Value.int .u8 ((t.kind : Nat) : Int), Value.int .i64 t.n, Value.int .i64 t.a, Value.int .i64 t.b]) :: (refI r ts) :: (pt w 61 [Value.pointer (some ⟨r, 0, none⟩), Value.slice (some ⟨lb, 0, none⟩) m lc]) :: (slp 4 1 lb lc (L.map Value.bool)) :: []) (fun _ h => st_drop h) ?_
        refine Wr.e 11 (by kernel_rfl) rfl (e_storeAgg (i := 0) (vs := [Value.int .u8 ((kk.kind : Nat) : Int), Value.int .i64 kk.n, Value.int .i64 kk.a, Value.int .i64 kk.b]) (c' := [Value.int .u8 ((kk.kind : Nat) : Int), Value.int .i64 kk.n, Value.int .i64 kk.a, Value.int .i64 kk.b]) sz_46 rfl rfl rfl rfl (by simp) rfl) (.inl (by kernel_rfl)) (fun _ _ => ?_)
        refine Wr.imp (L' := (pt b2 46 [Value.int .u8 ((kk.kind : Nat) : Int), Value.int .i64 kk.n, Value.int .i64 kk.a, Value.int .i64 kk.b]) :: (refI r ts) :: (pt b1 46 [Value.int .u8 ((t.kind : Nat) : Int), Value.int .i64 t.n, Value.int .i64 t.a, Value.int .i64 t.b]) :: (pt w 61 [Value.pointer (some ⟨r, 0, none⟩), Value.slice (some ⟨lb, 0, none⟩) m lc]) :: (slp 4 1 lb lc (L.map Value.bool)) :: F) (fun _ h => h) ?_
        refine Wr.rebaseS [] ((pt b2 46 [Value.int .u8 ((kk.kind : Nat) : Int), Value.int .i64 kk.n, Value.int .i64 kk.a, Value.int .i64 kk.b]) :: (refI r ts) :: (pt b1 46 [Value.int .u8 ((t.kind : Nat) : Int), Value.int .i64 t.n, Value.int .i64 t.a, Value.int .i64 t.b]) :: (pt w 61 [Value.pointer (some ⟨r, 0, none⟩), Value.slice (some ⟨lb, 0, none⟩) m lc]) :: (slp 4 1 lb lc (L.map Value.bool)) :: []) (by kernel_rfl) ?_
        refine Wr.pure (v := Value.bool true) 12 rfl (by kernel_rfl) (.inr (fun _ h => st_take [0, 0, 0, 0, 0] h)) (.inl ⟨rfl, fun _ => q_assign rfl⟩) ?_
        refine Wr.done (by kernel_rfl) ?_
        refine Wx.go ?_
        refine Wc.seq ?_
        refine Wc.drawsS [] ((pt b2 46 [Value.int .u8 ((kk.kind : Nat) : Int), Value.int .i64 kk.n, Value.int .i64 kk.a, Value.int .i64 kk.b]) :: (refI r ts) :: (pt b1 46 [Value.int .u8 ((t.kind : Nat) : Int), Value.int .i64 t.n, Value.int .i64 t.a, Value.int .i64 t.b]) :: (pt w 61 [Value.pointer (some ⟨r, 0, none⟩), Value.slice (some ⟨lb, 0, none⟩) m lc]) :: (slp 4 1 lb lc (L.map Value.bool)) :: []) (by kernel_rfl) ?_
        refine Wr.pure (v := Value.pointer (some ⟨b2, 0, none⟩)) 0 rfl (by kernel_rfl) (.inr (fun _ h => st_take [0, 0, 0, 0, 0] h)) (.inl ⟨rfl, fun _ => q_field (m := 0) fo_46_0 rfl rfl⟩) ?_
        refine Wr.take (v := Value.int .u8 ((kk.kind : Nat) : Int)) 1 rfl (by kernel_rfl) (fun _ h => st_take [0, 0, 0, 0, 0] h) (.inl ⟨rfl, q_load sc_44 rfl (.cel (i := 0) rfl rfl)⟩) ?_
        by_cases hk5 : ((kk.kind : Nat) : Int) = 5
        ·
          have hbn : byN ts t.a.toNat = kk.a.toNat := by unfold byN; rw [hkk]; simp only; rw [if_pos (by omega)]
          refine Wr.pure (v := Value.bool true) 2 rfl (by kernel_rfl) (.inr (fun _ h => st_take [0, 0, 0, 0, 0] h)) (.inl ⟨rfl, fun _ => q_eql (r := true) rfl rfl (decide_eq_true hk5)⟩) ?_
          refine Wr.pure (v := Value.bool true) 3 rfl (by kernel_rfl) (.inr (fun _ h => st_take [0, 0, 0, 0, 0] h)) (.inl ⟨rfl, fun _ => q_move rfl⟩) ?_
          refine Wr.pure (v := Value.pointer (some ⟨w, 0, none⟩)) 4 rfl (by kernel_rfl) (.inr (fun _ h => st_take [0, 0, 0, 0, 0] h)) (.inl ⟨rfl, fun _ => q_move rfl⟩) ?_
          refine Wr.pure (v := Value.pointer (some ⟨w, 0, none⟩)) 5 rfl (by kernel_rfl) (.inr (fun _ h => st_take [0, 0, 0, 0, 0] h)) (.inl ⟨rfl, fun _ => q_nil_ptr rfl⟩) ?_
          refine Wr.pure (v := Value.pointer (some ⟨w, 1, none⟩)) 6 rfl (by kernel_rfl) (.inr (fun _ h => st_take [0, 0, 0, 0, 0] h)) (.inl ⟨rfl, fun _ => q_field (m := 1) fo_61_1 rfl rfl⟩) ?_
          refine Wr.take (v := Value.slice (some ⟨lb, 0, none⟩) m lc) 7 rfl (by kernel_rfl) (fun _ h => st_take [0, 0, 0, 0, 0] h) (.inl ⟨rfl, q_load sc_57 rfl (.cel (i := 3) rfl rfl)⟩) ?_
          refine Wr.pure (v := Value.pointer (some ⟨b2, 2, none⟩)) 8 rfl (by kernel_rfl) (.inr (fun _ h => st_take [0, 0, 0, 0, 0] h)) (.inl ⟨rfl, fun _ => q_field (m := 2) fo_46_2 rfl rfl⟩) ?_
          refine Wr.take (v := Value.int .i64 kk.a) 9 rfl (by kernel_rfl) (fun _ h => st_take [0, 0, 0, 0, 0] h) (.inl ⟨rfl, q_load sc_3 rfl (.cel (i := 0) rfl rfl)⟩) ?_
          refine Wr.pure (v := Value.pointer (some ⟨lb, (kk.a).toNat, none⟩)) 10 rfl (by kernel_rfl) (.inr (fun _ h => st_take [0, 0, 0, 0, 0] h)) (.inl ⟨rfl, fun _ => q_idx (m := (kk.a).toNat) se_57 rfl rfl (by omega) (by omega) (by simp)⟩) ?_
          by_cases hby : hN L ((kk.a).toNat) = true
          ·
            refine Wr.take (v := Value.bool true) 11 rfl (by kernel_rfl) (fun _ h => st_take [0, 0, 0, 0, 0] h) (.inl ⟨rfl, q_load sc_4 rfl (.row (i := 4) rfl (bool_yes hby))⟩) ?_
            refine Wr.pure (v := Value.bool true) 12 rfl (by kernel_rfl) (.inr (fun _ h => st_take [0, 0, 0, 0, 0] h)) (.inl ⟨rfl, fun _ => q_pick (t := true) rfl rfl⟩) ?_
            refine Wr.pure (v := Value.bool true) 13 rfl (by kernel_rfl) (.inr (fun _ h => st_take [0, 0, 0, 0, 0] h)) (.inl ⟨rfl, fun _ => q_move rfl⟩) ?_
            refine Wr.pure (v := undef) 14 rfl (by kernel_rfl) (.inr (fun _ h => st_take [0, 0, 0, 0, 0] h)) (.inr ⟨rfl, rfl⟩) ?_
            refine Wr.pure (v := undef) 15 rfl (by kernel_rfl) (.inr (fun _ h => st_take [0, 0, 0, 0, 0] h)) (.inr ⟨rfl, rfl⟩) ?_
            refine Wr.pure (v := undef) 16 rfl (by kernel_rfl) (.inr (fun _ h => st_take [0, 0, 0, 0, 0] h)) (.inr ⟨rfl, rfl⟩) ?_
            refine Wr.pure (v := undef) 17 rfl (by kernel_rfl) (.inr (fun _ h => st_take [0, 0, 0, 0, 0] h)) (.inr ⟨rfl, rfl⟩) ?_
            refine Wr.pure (v := undef) 18 rfl (by kernel_rfl) (.inr (fun _ h => st_take [0, 0, 0, 0, 0] h)) (.inr ⟨rfl, rfl⟩) ?_
            refine Wr.pure (v := undef) 19 rfl (by kernel_rfl) (.inr (fun _ h => st_take [0, 0, 0, 0, 0] h)) (.inr ⟨rfl, rfl⟩) ?_
            refine Wr.pure (v := undef) 20 rfl (by kernel_rfl) (.inr (fun _ h => st_take [0, 0, 0, 0, 0] h)) (.inr ⟨rfl, rfl⟩) ?_
            refine Wr.pure (v := undef) 21 rfl (by kernel_rfl) (.inr (fun _ h => st_take [0, 0, 0, 0, 0] h)) (.inr ⟨rfl, rfl⟩) ?_
            refine Wr.pure (v := undef) 22 rfl (by kernel_rfl) (.inr (fun _ h => st_take [0, 0, 0, 0, 0] h)) (.inr ⟨rfl, rfl⟩) ?_
            refine Wr.pure (v := undef) 23 rfl (by kernel_rfl) (.inr (fun _ h => st_take [0, 0, 0, 0, 0] h)) (.inr ⟨rfl, rfl⟩) ?_
            refine Wr.pure (v := undef) 24 rfl (by kernel_rfl) (.inr (fun _ h => st_take [0, 0, 0, 0, 0] h)) (.inr ⟨rfl, rfl⟩) ?_
            refine Wr.pure (v := undef) 25 rfl (by kernel_rfl) (.inr (fun _ h => st_take [0, 0, 0, 0, 0] h)) (.inr ⟨rfl, rfl⟩) ?_
            refine Wr.pure (v := undef) 26 rfl (by kernel_rfl) (.inr (fun _ h => st_take [0, 0, 0, 0, 0] h)) (.inr ⟨rfl, rfl⟩) ?_
            refine Wr.pure (v := Value.bool true) 27 rfl (by kernel_rfl) (.inr (fun _ h => st_take [0, 0, 0, 0, 0] h)) (.inl ⟨rfl, fun _ => q_pick (t := true) rfl rfl⟩) ?_
            refine Wr.done (by kernel_rfl) ?_
            refine Wx.go ?_
            refine Wc.yes rfl ?_
            refine Wc.seq ?_
            refine Wc.drawsS [] ((pt b2 46 [Value.int .u8 ((kk.kind : Nat) : Int), Value.int .i64 kk.n, Value.int .i64 kk.a, Value.int .i64 kk.b]) :: (refI r ts) :: (pt b1 46 [Value.int .u8 ((t.kind : Nat) : Int), Value.int .i64 t.n, Value.int .i64 t.a, Value.int .i64 t.b]) :: (pt w 61 [Value.pointer (some ⟨r, 0, none⟩), Value.slice (some ⟨lb, 0, none⟩) m lc]) :: (slp 4 1 lb lc (L.map Value.bool)) :: []) (by kernel_rfl) ?_
            refine Wr.pure (v := Value.pointer (some ⟨w, 0, none⟩)) 0 rfl (by kernel_rfl) (.inr (fun _ h => st_take [0, 0, 0, 0, 0] h)) (.inl ⟨rfl, fun _ => q_move rfl⟩) ?_
            refine Wr.pure (v := Value.pointer (some ⟨w, 0, none⟩)) 1 rfl (by kernel_rfl) (.inr (fun _ h => st_take [0, 0, 0, 0, 0] h)) (.inl ⟨rfl, fun _ => q_nil_ptr rfl⟩) ?_
            refine Wr.pure (v := Value.pointer (some ⟨w, 1, none⟩)) 2 rfl (by kernel_rfl) (.inr (fun _ h => st_take [0, 0, 0, 0, 0] h)) (.inl ⟨rfl, fun _ => q_field (m := 1) fo_61_1 rfl rfl⟩) ?_
            refine Wr.take (v := Value.slice (some ⟨lb, 0, none⟩) m lc) 3 rfl (by kernel_rfl) (fun _ h => st_take [0, 0, 0, 0, 0] h) (.inl ⟨rfl, q_load sc_57 rfl (.cel (i := 3) rfl rfl)⟩) ?_
            refine Wr.pure (v := Value.pointer (some ⟨b1, 3, none⟩)) 4 rfl (by kernel_rfl) (.inr (fun _ h => st_take [0, 0, 0, 0, 0] h)) (.inl ⟨rfl, fun _ => q_field (m := 3) fo_46_3 rfl rfl⟩) ?_
            refine Wr.take (v := Value.int .i64 t.b) 5 rfl (by kernel_rfl) (fun _ h => st_take [0, 0, 0, 0, 0] h) (.inl ⟨rfl, q_load sc_3 rfl (.cel (i := 2) rfl rfl)⟩) ?_
            refine Wr.pure (v := Value.pointer (some ⟨lb, (t.b).toNat, none⟩)) 6 rfl (by kernel_rfl) (.inr (fun _ h => st_take [0, 0, 0, 0, 0] h)) (.inl ⟨rfl, fun _ => q_idx (m := (t.b).toNat) se_57 rfl rfl (by omega) (by omega) (by simp)⟩) ?_
            by_cases hLb2 : hN L ((t.b).toNat) = true
            ·
              refine Wr.take (v := Value.bool true) 7 rfl (by kernel_rfl) (fun _ h => st_take [0, 0, 0, 0, 0] h) (.inl ⟨rfl, q_load sc_4 rfl (.row (i := 4) rfl (bool_yes hLb2))⟩) ?_
              refine Wr.pure (v := Value.bool false) 8 rfl (by kernel_rfl) (.inr (fun _ h => st_take [0, 0, 0, 0, 0] h)) (.inl ⟨rfl, fun _ => q_not rfl rfl⟩) ?_
              refine Wr.pure (v := Value.bool false) 9 rfl (by kernel_rfl) (.inr (fun _ h => st_take [0, 0, 0, 0, 0] h)) (.inl ⟨rfl, fun _ => q_assign rfl⟩) ?_
              refine Wr.done (by kernel_rfl) ?_
              refine Wx.go ?_
              refine Wc.drawsS [7] ((pt b2 46 [Value.int .u8 ((kk.kind : Nat) : Int), Value.int .i64 kk.n, Value.int .i64 kk.a, Value.int .i64 kk.b]) :: (refI r ts) :: (pt b1 46 [Value.int .u8 ((t.kind : Nat) : Int), Value.int .i64 t.n, Value.int .i64 t.a, Value.int .i64 t.b]) :: (pt w 61 [Value.pointer (some ⟨r, 0, none⟩), Value.slice (some ⟨lb, 0, none⟩) m lc]) :: (slp 4 1 lb lc (L.map Value.bool)) :: []) (by kernel_rfl) ?_
              refine Wr.pure (v := Value.pointer (some ⟨w, 0, none⟩)) 0 rfl (by kernel_rfl) (.inr (fun _ h => st_take [0, 0, 0, 0, 0] h)) (.inl ⟨rfl, fun _ => q_move rfl⟩) ?_
              refine Wr.pure (v := Value.pointer (some ⟨w, 0, none⟩)) 1 rfl (by kernel_rfl) (.inr (fun _ h => st_take [0, 0, 0, 0, 0] h)) (.inl ⟨rfl, fun _ => q_nil_ptr rfl⟩) ?_
              refine Wr.pure (v := Value.pointer (some ⟨w, 1, none⟩)) 2 rfl (by kernel_rfl) (.inr (fun _ h => st_take [0, 0, 0, 0, 0] h)) (.inl ⟨rfl, fun _ => q_field (m := 1) fo_61_1 rfl rfl⟩) ?_
              refine Wr.take (v := Value.slice (some ⟨lb, 0, none⟩) m lc) 3 rfl (by kernel_rfl) (fun _ h => st_take [0, 0, 0, 0, 0] h) (.inl ⟨rfl, q_load sc_57 rfl (.cel (i := 3) rfl rfl)⟩) ?_
              refine Wr.pure (v := Value.pointer (some ⟨b1, 3, none⟩)) 4 rfl (by kernel_rfl) (.inr (fun _ h => st_take [0, 0, 0, 0, 0] h)) (.inl ⟨rfl, fun _ => q_field (m := 3) fo_46_3 rfl rfl⟩) ?_
              refine Wr.take (v := Value.int .i64 t.b) 5 rfl (by kernel_rfl) (fun _ h => st_take [0, 0, 0, 0, 0] h) (.inl ⟨rfl, q_load sc_3 rfl (.cel (i := 2) rfl rfl)⟩) ?_
              refine Wr.pure (v := Value.pointer (some ⟨lb, (t.b).toNat, none⟩)) 6 rfl (by kernel_rfl) (.inr (fun _ h => st_take [0, 0, 0, 0, 0] h)) (.inl ⟨rfl, fun _ => q_idx (m := (t.b).toNat) se_57 rfl rfl (by omega) (by omega) (by simp)⟩) ?_
              refine Wr.e 7 (by kernel_rfl) rfl (e_store_slp (i := 4) (vs := [Value.bool true]) (c' := (L.set ((t.b).toNat) true).map Value.bool) sz_4 rfl (congrArg Value.cells (rfl)) rfl rfl (by simp; omega) (splice_map (by first | omega | (simp only [List.length_set]; omega)))) (.inl (by kernel_rfl)) (fun _ _ => ?_)
              refine Wr.imp (L' := (pt b2 46 [Value.int .u8 ((kk.kind : Nat) : Int), Value.int .i64 kk.n, Value.int .i64 kk.a, Value.int .i64 kk.b]) :: (refI r ts) :: (pt b1 46 [Value.int .u8 ((t.kind : Nat) : Int), Value.int .i64 t.n, Value.int .i64 t.a, Value.int .i64 t.b]) :: (pt w 61 [Value.pointer (some ⟨r, 0, none⟩), Value.slice (some ⟨lb, 0, none⟩) m lc]) :: (slp 4 1 lb lc ((L.set ((t.b).toNat) true).map Value.bool)) :: F) (fun _ h => h) ?_
              refine Wr.rebaseS [] ((pt b2 46 [Value.int .u8 ((kk.kind : Nat) : Int), Value.int .i64 kk.n, Value.int .i64 kk.a, Value.int .i64 kk.b]) :: (refI r ts) :: (pt b1 46 [Value.int .u8 ((t.kind : Nat) : Int), Value.int .i64 t.n, Value.int .i64 t.a, Value.int .i64 t.b]) :: (pt w 61 [Value.pointer (some ⟨r, 0, none⟩), Value.slice (some ⟨lb, 0, none⟩) m lc]) :: (slp 4 1 lb lc ((L.set ((t.b).toNat) true).map Value.bool)) :: []) (by kernel_rfl) ?_
              refine Wr.done (by kernel_rfl) ?_
              refine Wx.blockEnd ?_
              refine Wx.go ?_
              refine Wc.seq ?_
              refine Wc.region ?_
              refine Wl.q (v := Value.bool false) (q_move rfl) ?_
              refine Wl.q (v := Value.bool false) (q_assign rfl) ?_
              refine Wl.done ?_
              refine Wx.go ?_
              refine Wc.ret ?_
              refine Wx.fin1 rfl (.inl rfl) (fun w hs => ?_)
              have e : gvR ts L n = ((L.set ((t.b).toNat) true), false) := by unfold gvR; rw [hat]; simp only; rw [if_neg (by omega), if_pos (by omega), hbn, if_pos hby, hLb2]; rfl
              exact ⟨(), trivial, congrArg Value.bool (by rw [e]), by rw [e]; exact (st_pull [1, 1, 0] (st_drop (st_drop (st_pull [0, 1] hs))))⟩
            ·
              refine Wr.take (v := Value.bool false) 7 rfl (by kernel_rfl) (fun _ h => st_take [0, 0, 0, 0, 0] h) (.inl ⟨rfl, q_load sc_4 rfl (.row (i := 4) rfl (bool_no (by first | omega | (simp only [List.length_set]; omega)) hLb2))⟩) ?_
              refine Wr.pure (v := Value.bool true) 8 rfl (by kernel_rfl) (.inr (fun _ h => st_take [0, 0, 0, 0, 0] h)) (.inl ⟨rfl, fun _ => q_not rfl rfl⟩) ?_
              refine Wr.pure (v := Value.bool true) 9 rfl (by kernel_rfl) (.inr (fun _ h => st_take [0, 0, 0, 0, 0] h)) (.inl ⟨rfl, fun _ => q_assign rfl⟩) ?_
              refine Wr.done (by kernel_rfl) ?_
              refine Wx.go ?_
              refine Wc.drawsS [7] ((pt b2 46 [Value.int .u8 ((kk.kind : Nat) : Int), Value.int .i64 kk.n, Value.int .i64 kk.a, Value.int .i64 kk.b]) :: (refI r ts) :: (pt b1 46 [Value.int .u8 ((t.kind : Nat) : Int), Value.int .i64 t.n, Value.int .i64 t.a, Value.int .i64 t.b]) :: (pt w 61 [Value.pointer (some ⟨r, 0, none⟩), Value.slice (some ⟨lb, 0, none⟩) m lc]) :: (slp 4 1 lb lc (L.map Value.bool)) :: []) (by kernel_rfl) ?_
              refine Wr.pure (v := Value.pointer (some ⟨w, 0, none⟩)) 0 rfl (by kernel_rfl) (.inr (fun _ h => st_take [0, 0, 0, 0, 0] h)) (.inl ⟨rfl, fun _ => q_move rfl⟩) ?_
              refine Wr.pure (v := Value.pointer (some ⟨w, 0, none⟩)) 1 rfl (by kernel_rfl) (.inr (fun _ h => st_take [0, 0, 0, 0, 0] h)) (.inl ⟨rfl, fun _ => q_nil_ptr rfl⟩) ?_
              refine Wr.pure (v := Value.pointer (some ⟨w, 1, none⟩)) 2 rfl (by kernel_rfl) (.inr (fun _ h => st_take [0, 0, 0, 0, 0] h)) (.inl ⟨rfl, fun _ => q_field (m := 1) fo_61_1 rfl rfl⟩) ?_
              refine Wr.take (v := Value.slice (some ⟨lb, 0, none⟩) m lc) 3 rfl (by kernel_rfl) (fun _ h => st_take [0, 0, 0, 0, 0] h) (.inl ⟨rfl, q_load sc_57 rfl (.cel (i := 3) rfl rfl)⟩) ?_
              refine Wr.pure (v := Value.pointer (some ⟨b1, 3, none⟩)) 4 rfl (by kernel_rfl) (.inr (fun _ h => st_take [0, 0, 0, 0, 0] h)) (.inl ⟨rfl, fun _ => q_field (m := 3) fo_46_3 rfl rfl⟩) ?_
              refine Wr.take (v := Value.int .i64 t.b) 5 rfl (by kernel_rfl) (fun _ h => st_take [0, 0, 0, 0, 0] h) (.inl ⟨rfl, q_load sc_3 rfl (.cel (i := 2) rfl rfl)⟩) ?_
              refine Wr.pure (v := Value.pointer (some ⟨lb, (t.b).toNat, none⟩)) 6 rfl (by kernel_rfl) (.inr (fun _ h => st_take [0, 0, 0, 0, 0] h)) (.inl ⟨rfl, fun _ => q_idx (m := (t.b).toNat) se_57 rfl rfl (by omega) (by omega) (by simp)⟩) ?_
              refine Wr.e 7 (by kernel_rfl) rfl (e_store_slp (i := 4) (vs := [Value.bool true]) (c' := (L.set ((t.b).toNat) true).map Value.bool) sz_4 rfl (congrArg Value.cells (rfl)) rfl rfl (by simp; omega) (splice_map (by first | omega | (simp only [List.length_set]; omega)))) (.inl (by kernel_rfl)) (fun _ _ => ?_)
              refine Wr.imp (L' := (pt b2 46 [Value.int .u8 ((kk.kind : Nat) : Int), Value.int .i64 kk.n, Value.int .i64 kk.a, Value.int .i64 kk.b]) :: (refI r ts) :: (pt b1 46 [Value.int .u8 ((t.kind : Nat) : Int), Value.int .i64 t.n, Value.int .i64 t.a, Value.int .i64 t.b]) :: (pt w 61 [Value.pointer (some ⟨r, 0, none⟩), Value.slice (some ⟨lb, 0, none⟩) m lc]) :: (slp 4 1 lb lc ((L.set ((t.b).toNat) true).map Value.bool)) :: F) (fun _ h => h) ?_
              refine Wr.rebaseS [] ((pt b2 46 [Value.int .u8 ((kk.kind : Nat) : Int), Value.int .i64 kk.n, Value.int .i64 kk.a, Value.int .i64 kk.b]) :: (refI r ts) :: (pt b1 46 [Value.int .u8 ((t.kind : Nat) : Int), Value.int .i64 t.n, Value.int .i64 t.a, Value.int .i64 t.b]) :: (pt w 61 [Value.pointer (some ⟨r, 0, none⟩), Value.slice (some ⟨lb, 0, none⟩) m lc]) :: (slp 4 1 lb lc ((L.set ((t.b).toNat) true).map Value.bool)) :: []) (by kernel_rfl) ?_
              refine Wr.done (by kernel_rfl) ?_
              refine Wx.blockEnd ?_
              refine Wx.go ?_
              refine Wc.seq ?_
              refine Wc.region ?_
              refine Wl.q (v := Value.bool true) (q_move rfl) ?_
              refine Wl.q (v := Value.bool true) (q_assign rfl) ?_
              refine Wl.done ?_
              refine Wx.go ?_
              refine Wc.ret ?_
              refine Wx.fin1 rfl (.inl rfl) (fun w hs => ?_)
              have e : gvR ts L n = ((L.set ((t.b).toNat) true), true) := by unfold gvR; rw [hat]; simp only; rw [if_neg (by omega), if_pos (by omega), hbn, if_pos hby, Bool.eq_false_iff.2 hLb2]; rfl
              exact ⟨(), trivial, congrArg Value.bool (by rw [e]), by rw [e]; exact (st_pull [1, 1, 0] (st_drop (st_drop (st_pull [0, 1] hs))))⟩
          ·
            refine Wr.take (v := Value.bool false) 11 rfl (by kernel_rfl) (fun _ h => st_take [0, 0, 0, 0, 0] h) (.inl ⟨rfl, q_load sc_4 rfl (.row (i := 4) rfl (bool_no (by first | omega | (simp only [List.length_set]; omega)) hby))⟩) ?_
            refine Wr.pure (v := Value.bool false) 12 rfl (by kernel_rfl) (.inr (fun _ h => st_take [0, 0, 0, 0, 0] h)) (.inl ⟨rfl, fun _ => q_pick (t := true) rfl rfl⟩) ?_
            refine Wr.pure (v := Value.bool false) 13 rfl (by kernel_rfl) (.inr (fun _ h => st_take [0, 0, 0, 0, 0] h)) (.inl ⟨rfl, fun _ => q_move rfl⟩) ?_
            refine Wr.pure (v := Value.pointer (some ⟨b2, 0, none⟩)) 14 rfl (by kernel_rfl) (.inr (fun _ h => st_take [0, 0, 0, 0, 0] h)) (.inl ⟨rfl, fun _ => q_field (m := 0) fo_46_0 rfl rfl⟩) ?_
            refine Wr.take (v := Value.int .u8 ((kk.kind : Nat) : Int)) 15 rfl (by kernel_rfl) (fun _ h => st_take [0, 0, 0, 0, 0] h) (.inl ⟨rfl, q_load sc_44 rfl (.cel (i := 0) rfl rfl)⟩) ?_
            refine Wr.pure (v := Value.bool false) 16 rfl (by kernel_rfl) (.inr (fun _ h => st_take [0, 0, 0, 0, 0] h)) (.inl ⟨rfl, fun _ => q_neq (r := true) rfl rfl (decide_eq_true (hk5))⟩) ?_
            refine Wr.pure (v := Value.bool false) 17 rfl (by kernel_rfl) (.inr (fun _ h => st_take [0, 0, 0, 0, 0] h)) (.inl ⟨rfl, fun _ => q_move rfl⟩) ?_
            refine Wr.pure (v := undef) 18 rfl (by kernel_rfl) (.inr (fun _ h => st_take [0, 0, 0, 0, 0] h)) (.inr ⟨rfl, rfl⟩) ?_
            refine Wr.pure (v := undef) 19 rfl (by kernel_rfl) (.inr (fun _ h => st_take [0, 0, 0, 0, 0] h)) (.inr ⟨rfl, rfl⟩) ?_
            refine Wr.pure (v := undef) 20 rfl (by kernel_rfl) (.inr (fun _ h => st_take [0, 0, 0, 0, 0] h)) (.inr ⟨rfl, rfl⟩) ?_
            refine Wr.pure (v := undef) 21 rfl (by kernel_rfl) (.inr (fun _ h => st_take [0, 0, 0, 0, 0] h)) (.inr ⟨rfl, rfl⟩) ?_
            refine Wr.pure (v := undef) 22 rfl (by kernel_rfl) (.inr (fun _ h => st_take [0, 0, 0, 0, 0] h)) (.inr ⟨rfl, rfl⟩) ?_
            refine Wr.pure (v := undef) 23 rfl (by kernel_rfl) (.inr (fun _ h => st_take [0, 0, 0, 0, 0] h)) (.inr ⟨rfl, rfl⟩) ?_
            refine Wr.pure (v := undef) 24 rfl (by kernel_rfl) (.inr (fun _ h => st_take [0, 0, 0, 0, 0] h)) (.inr ⟨rfl, rfl⟩) ?_
            refine Wr.pure (v := undef) 25 rfl (by kernel_rfl) (.inr (fun _ h => st_take [0, 0, 0, 0, 0] h)) (.inr ⟨rfl, rfl⟩) ?_
            refine Wr.pure (v := Value.bool false) 26 rfl (by kernel_rfl) (.inr (fun _ h => st_take [0, 0, 0, 0, 0] h)) (.inl ⟨rfl, fun _ => q_pick (t := false) rfl rfl⟩) ?_
            refine Wr.pure (v := Value.bool false) 27 rfl (by kernel_rfl) (.inr (fun _ h => st_take [0, 0, 0, 0, 0] h)) (.inl ⟨rfl, fun _ => q_pick (t := false) rfl rfl⟩) ?_
            refine Wr.done (by kernel_rfl) ?_
            refine Wx.go ?_
            refine Wc.no rfl ?_
            refine Wc.skip ?_
            refine Wx.blockEnd ?_
            refine Wx.go ?_
            refine Wc.seq ?_
            refine Wc.region ?_
            refine Wl.q (v := Value.bool false) (q_move rfl) ?_
            refine Wl.q (v := Value.bool false) (q_assign rfl) ?_
            refine Wl.done ?_
            refine Wx.go ?_
            refine Wc.ret ?_
            refine Wx.fin1 rfl (.inl rfl) (fun w hs => ?_)
            have e : gvR ts L n = (L, false) := by unfold gvR; rw [hat]; simp only; rw [if_neg (by omega), if_pos (by omega), hbn, if_neg hby]
            exact ⟨(), trivial, congrArg Value.bool (by rw [e]), by rw [e]; exact (st_pull [1, 1, 0] (st_drop (st_drop (st_pull [0, 1] hs))))⟩
        ·
          have hbn : byN ts t.a.toNat = t.a.toNat := by unfold byN; rw [hkk]; simp only; rw [if_neg (by omega)]
          refine Wr.pure (v := Value.bool false) 2 rfl (by kernel_rfl) (.inr (fun _ h => st_take [0, 0, 0, 0, 0] h)) (.inl ⟨rfl, fun _ => q_eql (r := false) rfl rfl (decide_eq_false hk5)⟩) ?_
          refine Wr.pure (v := Value.bool false) 3 rfl (by kernel_rfl) (.inr (fun _ h => st_take [0, 0, 0, 0, 0] h)) (.inl ⟨rfl, fun _ => q_move rfl⟩) ?_
          refine Wr.pure (v := undef) 4 rfl (by kernel_rfl) (.inr (fun _ h => st_take [0, 0, 0, 0, 0] h)) (.inr ⟨rfl, rfl⟩) ?_
          refine Wr.pure (v := undef) 5 rfl (by kernel_rfl) (.inr (fun _ h => st_take [0, 0, 0, 0, 0] h)) (.inr ⟨rfl, rfl⟩) ?_
          refine Wr.pure (v := undef) 6 rfl (by kernel_rfl) (.inr (fun _ h => st_take [0, 0, 0, 0, 0] h)) (.inr ⟨rfl, rfl⟩) ?_
          refine Wr.pure (v := undef) 7 rfl (by kernel_rfl) (.inr (fun _ h => st_take [0, 0, 0, 0, 0] h)) (.inr ⟨rfl, rfl⟩) ?_
          refine Wr.pure (v := undef) 8 rfl (by kernel_rfl) (.inr (fun _ h => st_take [0, 0, 0, 0, 0] h)) (.inr ⟨rfl, rfl⟩) ?_
          refine Wr.pure (v := undef) 9 rfl (by kernel_rfl) (.inr (fun _ h => st_take [0, 0, 0, 0, 0] h)) (.inr ⟨rfl, rfl⟩) ?_
          refine Wr.pure (v := undef) 10 rfl (by kernel_rfl) (.inr (fun _ h => st_take [0, 0, 0, 0, 0] h)) (.inr ⟨rfl, rfl⟩) ?_
          refine Wr.pure (v := undef) 11 rfl (by kernel_rfl) (.inr (fun _ h => st_take [0, 0, 0, 0, 0] h)) (.inr ⟨rfl, rfl⟩) ?_
          refine Wr.pure (v := Value.bool false) 12 rfl (by kernel_rfl) (.inr (fun _ h => st_take [0, 0, 0, 0, 0] h)) (.inl ⟨rfl, fun _ => q_pick (t := false) rfl rfl⟩) ?_
          refine Wr.pure (v := Value.bool false) 13 rfl (by kernel_rfl) (.inr (fun _ h => st_take [0, 0, 0, 0, 0] h)) (.inl ⟨rfl, fun _ => q_move rfl⟩) ?_
          refine Wr.pure (v := Value.pointer (some ⟨b2, 0, none⟩)) 14 rfl (by kernel_rfl) (.inr (fun _ h => st_take [0, 0, 0, 0, 0] h)) (.inl ⟨rfl, fun _ => q_field (m := 0) fo_46_0 rfl rfl⟩) ?_
          refine Wr.take (v := Value.int .u8 ((kk.kind : Nat) : Int)) 15 rfl (by kernel_rfl) (fun _ h => st_take [0, 0, 0, 0, 0] h) (.inl ⟨rfl, q_load sc_44 rfl (.cel (i := 0) rfl rfl)⟩) ?_
          refine Wr.pure (v := Value.bool true) 16 rfl (by kernel_rfl) (.inr (fun _ h => st_take [0, 0, 0, 0, 0] h)) (.inl ⟨rfl, fun _ => q_neq (r := false) rfl rfl (decide_eq_false (hk5))⟩) ?_
          refine Wr.pure (v := Value.bool true) 17 rfl (by kernel_rfl) (.inr (fun _ h => st_take [0, 0, 0, 0, 0] h)) (.inl ⟨rfl, fun _ => q_move rfl⟩) ?_
          refine Wr.pure (v := Value.pointer (some ⟨w, 0, none⟩)) 18 rfl (by kernel_rfl) (.inr (fun _ h => st_take [0, 0, 0, 0, 0] h)) (.inl ⟨rfl, fun _ => q_move rfl⟩) ?_
          refine Wr.pure (v := Value.pointer (some ⟨w, 0, none⟩)) 19 rfl (by kernel_rfl) (.inr (fun _ h => st_take [0, 0, 0, 0, 0] h)) (.inl ⟨rfl, fun _ => q_nil_ptr rfl⟩) ?_
          refine Wr.pure (v := Value.pointer (some ⟨w, 1, none⟩)) 20 rfl (by kernel_rfl) (.inr (fun _ h => st_take [0, 0, 0, 0, 0] h)) (.inl ⟨rfl, fun _ => q_field (m := 1) fo_61_1 rfl rfl⟩) ?_
          refine Wr.take (v := Value.slice (some ⟨lb, 0, none⟩) m lc) 21 rfl (by kernel_rfl) (fun _ h => st_take [0, 0, 0, 0, 0] h) (.inl ⟨rfl, q_load sc_57 rfl (.cel (i := 3) rfl rfl)⟩) ?_
          refine Wr.pure (v := Value.pointer (some ⟨b1, 2, none⟩)) 22 rfl (by kernel_rfl) (.inr (fun _ h => st_take [0, 0, 0, 0, 0] h)) (.inl ⟨rfl, fun _ => q_field (m := 2) fo_46_2 rfl rfl⟩) ?_
          refine Wr.take (v := Value.int .i64 t.a) 23 rfl (by kernel_rfl) (fun _ h => st_take [0, 0, 0, 0, 0] h) (.inl ⟨rfl, q_load sc_3 rfl (.cel (i := 2) rfl rfl)⟩) ?_
          refine Wr.pure (v := Value.pointer (some ⟨lb, (t.a).toNat, none⟩)) 24 rfl (by kernel_rfl) (.inr (fun _ h => st_take [0, 0, 0, 0, 0] h)) (.inl ⟨rfl, fun _ => q_idx (m := (t.a).toNat) se_57 rfl rfl (by omega) (by omega) (by simp)⟩) ?_
          by_cases hby2 : hN L ((t.a).toNat) = true
          ·
            refine Wr.take (v := Value.bool true) 25 rfl (by kernel_rfl) (fun _ h => st_take [0, 0, 0, 0, 0] h) (.inl ⟨rfl, q_load sc_4 rfl (.row (i := 4) rfl (bool_yes hby2))⟩) ?_
            refine Wr.pure (v := Value.bool true) 26 rfl (by kernel_rfl) (.inr (fun _ h => st_take [0, 0, 0, 0, 0] h)) (.inl ⟨rfl, fun _ => q_pick (t := true) rfl rfl⟩) ?_
            refine Wr.pure (v := Value.bool true) 27 rfl (by kernel_rfl) (.inr (fun _ h => st_take [0, 0, 0, 0, 0] h)) (.inl ⟨rfl, fun _ => q_pick (t := false) rfl rfl⟩) ?_
            refine Wr.done (by kernel_rfl) ?_
            refine Wx.go ?_
            refine Wc.yes rfl ?_
            refine Wc.seq ?_
            refine Wc.drawsS [] ((pt b2 46 [Value.int .u8 ((kk.kind : Nat) : Int), Value.int .i64 kk.n, Value.int .i64 kk.a, Value.int .i64 kk.b]) :: (refI r ts) :: (pt b1 46 [Value.int .u8 ((t.kind : Nat) : Int), Value.int .i64 t.n, Value.int .i64 t.a, Value.int .i64 t.b]) :: (pt w 61 [Value.pointer (some ⟨r, 0, none⟩), Value.slice (some ⟨lb, 0, none⟩) m lc]) :: (slp 4 1 lb lc (L.map Value.bool)) :: []) (by kernel_rfl) ?_
            refine Wr.pure (v := Value.pointer (some ⟨w, 0, none⟩)) 0 rfl (by kernel_rfl) (.inr (fun _ h => st_take [0, 0, 0, 0, 0] h)) (.inl ⟨rfl, fun _ => q_move rfl⟩) ?_
            refine Wr.pure (v := Value.pointer (some ⟨w, 0, none⟩)) 1 rfl (by kernel_rfl) (.inr (fun _ h => st_take [0, 0, 0, 0, 0] h)) (.inl ⟨rfl, fun _ => q_nil_ptr rfl⟩) ?_
            refine Wr.pure (v := Value.pointer (some ⟨w, 1, none⟩)) 2 rfl (by kernel_rfl) (.inr (fun _ h => st_take [0, 0, 0, 0, 0] h)) (.inl ⟨rfl, fun _ => q_field (m := 1) fo_61_1 rfl rfl⟩) ?_
            refine Wr.take (v := Value.slice (some ⟨lb, 0, none⟩) m lc) 3 rfl (by kernel_rfl) (fun _ h => st_take [0, 0, 0, 0, 0] h) (.inl ⟨rfl, q_load sc_57 rfl (.cel (i := 3) rfl rfl)⟩) ?_
            refine Wr.pure (v := Value.pointer (some ⟨b1, 3, none⟩)) 4 rfl (by kernel_rfl) (.inr (fun _ h => st_take [0, 0, 0, 0, 0] h)) (.inl ⟨rfl, fun _ => q_field (m := 3) fo_46_3 rfl rfl⟩) ?_
            refine Wr.take (v := Value.int .i64 t.b) 5 rfl (by kernel_rfl) (fun _ h => st_take [0, 0, 0, 0, 0] h) (.inl ⟨rfl, q_load sc_3 rfl (.cel (i := 2) rfl rfl)⟩) ?_
            refine Wr.pure (v := Value.pointer (some ⟨lb, (t.b).toNat, none⟩)) 6 rfl (by kernel_rfl) (.inr (fun _ h => st_take [0, 0, 0, 0, 0] h)) (.inl ⟨rfl, fun _ => q_idx (m := (t.b).toNat) se_57 rfl rfl (by omega) (by omega) (by simp)⟩) ?_
            by_cases hLb2 : hN L ((t.b).toNat) = true
            ·
              refine Wr.take (v := Value.bool true) 7 rfl (by kernel_rfl) (fun _ h => st_take [0, 0, 0, 0, 0] h) (.inl ⟨rfl, q_load sc_4 rfl (.row (i := 4) rfl (bool_yes hLb2))⟩) ?_
              refine Wr.pure (v := Value.bool false) 8 rfl (by kernel_rfl) (.inr (fun _ h => st_take [0, 0, 0, 0, 0] h)) (.inl ⟨rfl, fun _ => q_not rfl rfl⟩) ?_
              refine Wr.pure (v := Value.bool false) 9 rfl (by kernel_rfl) (.inr (fun _ h => st_take [0, 0, 0, 0, 0] h)) (.inl ⟨rfl, fun _ => q_assign rfl⟩) ?_
              refine Wr.done (by kernel_rfl) ?_
              refine Wx.go ?_
              refine Wc.drawsS [7] ((pt b2 46 [Value.int .u8 ((kk.kind : Nat) : Int), Value.int .i64 kk.n, Value.int .i64 kk.a, Value.int .i64 kk.b]) :: (refI r ts) :: (pt b1 46 [Value.int .u8 ((t.kind : Nat) : Int), Value.int .i64 t.n, Value.int .i64 t.a, Value.int .i64 t.b]) :: (pt w 61 [Value.pointer (some ⟨r, 0, none⟩), Value.slice (some ⟨lb, 0, none⟩) m lc]) :: (slp 4 1 lb lc (L.map Value.bool)) :: []) (by kernel_rfl) ?_
              refine Wr.pure (v := Value.pointer (some ⟨w, 0, none⟩)) 0 rfl (by kernel_rfl) (.inr (fun _ h => st_take [0, 0, 0, 0, 0] h)) (.inl ⟨rfl, fun _ => q_move rfl⟩) ?_
              refine Wr.pure (v := Value.pointer (some ⟨w, 0, none⟩)) 1 rfl (by kernel_rfl) (.inr (fun _ h => st_take [0, 0, 0, 0, 0] h)) (.inl ⟨rfl, fun _ => q_nil_ptr rfl⟩) ?_
              refine Wr.pure (v := Value.pointer (some ⟨w, 1, none⟩)) 2 rfl (by kernel_rfl) (.inr (fun _ h => st_take [0, 0, 0, 0, 0] h)) (.inl ⟨rfl, fun _ => q_field (m := 1) fo_61_1 rfl rfl⟩) ?_
              refine Wr.take (v := Value.slice (some ⟨lb, 0, none⟩) m lc) 3 rfl (by kernel_rfl) (fun _ h => st_take [0, 0, 0, 0, 0] h) (.inl ⟨rfl, q_load sc_57 rfl (.cel (i := 3) rfl rfl)⟩) ?_
              refine Wr.pure (v := Value.pointer (some ⟨b1, 3, none⟩)) 4 rfl (by kernel_rfl) (.inr (fun _ h => st_take [0, 0, 0, 0, 0] h)) (.inl ⟨rfl, fun _ => q_field (m := 3) fo_46_3 rfl rfl⟩) ?_
              refine Wr.take (v := Value.int .i64 t.b) 5 rfl (by kernel_rfl) (fun _ h => st_take [0, 0, 0, 0, 0] h) (.inl ⟨rfl, q_load sc_3 rfl (.cel (i := 2) rfl rfl)⟩) ?_
              refine Wr.pure (v := Value.pointer (some ⟨lb, (t.b).toNat, none⟩)) 6 rfl (by kernel_rfl) (.inr (fun _ h => st_take [0, 0, 0, 0, 0] h)) (.inl ⟨rfl, fun _ => q_idx (m := (t.b).toNat) se_57 rfl rfl (by omega) (by omega) (by simp)⟩) ?_
              refine Wr.e 7 (by kernel_rfl) rfl (e_store_slp (i := 4) (vs := [Value.bool true]) (c' := (L.set ((t.b).toNat) true).map Value.bool) sz_4 rfl (congrArg Value.cells (rfl)) rfl rfl (by simp; omega) (splice_map (by first | omega | (simp only [List.length_set]; omega)))) (.inl (by kernel_rfl)) (fun _ _ => ?_)
              refine Wr.imp (L' := (pt b2 46 [Value.int .u8 ((kk.kind : Nat) : Int), Value.int .i64 kk.n, Value.int .i64 kk.a, Value.int .i64 kk.b]) :: (refI r ts) :: (pt b1 46 [Value.int .u8 ((t.kind : Nat) : Int), Value.int .i64 t.n, Value.int .i64 t.a, Value.int .i64 t.b]) :: (pt w 61 [Value.pointer (some ⟨r, 0, none⟩), Value.slice (some ⟨lb, 0, none⟩) m lc]) :: (slp 4 1 lb lc ((L.set ((t.b).toNat) true).map Value.bool)) :: F) (fun _ h => h) ?_
              refine Wr.rebaseS [] ((pt b2 46 [Value.int .u8 ((kk.kind : Nat) : Int), Value.int .i64 kk.n, Value.int .i64 kk.a, Value.int .i64 kk.b]) :: (refI r ts) :: (pt b1 46 [Value.int .u8 ((t.kind : Nat) : Int), Value.int .i64 t.n, Value.int .i64 t.a, Value.int .i64 t.b]) :: (pt w 61 [Value.pointer (some ⟨r, 0, none⟩), Value.slice (some ⟨lb, 0, none⟩) m lc]) :: (slp 4 1 lb lc ((L.set ((t.b).toNat) true).map Value.bool)) :: []) (by kernel_rfl) ?_
              refine Wr.done (by kernel_rfl) ?_
              refine Wx.blockEnd ?_
              refine Wx.go ?_
              refine Wc.seq ?_
              refine Wc.region ?_
              refine Wl.q (v := Value.bool false) (q_move rfl) ?_
              refine Wl.q (v := Value.bool false) (q_assign rfl) ?_
              refine Wl.done ?_
              refine Wx.go ?_
              refine Wc.ret ?_
              refine Wx.fin1 rfl (.inl rfl) (fun w hs => ?_)
              have e : gvR ts L n = ((L.set ((t.b).toNat) true), false) := by unfold gvR; rw [hat]; simp only; rw [if_neg (by omega), if_pos (by omega), hbn, if_pos hby2, hLb2]; rfl
              exact ⟨(), trivial, congrArg Value.bool (by rw [e]), by rw [e]; exact (st_pull [1, 1, 0] (st_drop (st_drop (st_pull [0, 1] hs))))⟩
            ·
              refine Wr.take (v := Value.bool false) 7 rfl (by kernel_rfl) (fun _ h => st_take [0, 0, 0, 0, 0] h) (.inl ⟨rfl, q_load sc_4 rfl (.row (i := 4) rfl (bool_no (by first | omega | (simp only [List.length_set]; omega)) hLb2))⟩) ?_
              refine Wr.pure (v := Value.bool true) 8 rfl (by kernel_rfl) (.inr (fun _ h => st_take [0, 0, 0, 0, 0] h)) (.inl ⟨rfl, fun _ => q_not rfl rfl⟩) ?_
              refine Wr.pure (v := Value.bool true) 9 rfl (by kernel_rfl) (.inr (fun _ h => st_take [0, 0, 0, 0, 0] h)) (.inl ⟨rfl, fun _ => q_assign rfl⟩) ?_
              refine Wr.done (by kernel_rfl) ?_
              refine Wx.go ?_
              refine Wc.drawsS [7] ((pt b2 46 [Value.int .u8 ((kk.kind : Nat) : Int), Value.int .i64 kk.n, Value.int .i64 kk.a, Value.int .i64 kk.b]) :: (refI r ts) :: (pt b1 46 [Value.int .u8 ((t.kind : Nat) : Int), Value.int .i64 t.n, Value.int .i64 t.a, Value.int .i64 t.b]) :: (pt w 61 [Value.pointer (some ⟨r, 0, none⟩), Value.slice (some ⟨lb, 0, none⟩) m lc]) :: (slp 4 1 lb lc (L.map Value.bool)) :: []) (by kernel_rfl) ?_
              refine Wr.pure (v := Value.pointer (some ⟨w, 0, none⟩)) 0 rfl (by kernel_rfl) (.inr (fun _ h => st_take [0, 0, 0, 0, 0] h)) (.inl ⟨rfl, fun _ => q_move rfl⟩) ?_
              refine Wr.pure (v := Value.pointer (some ⟨w, 0, none⟩)) 1 rfl (by kernel_rfl) (.inr (fun _ h => st_take [0, 0, 0, 0, 0] h)) (.inl ⟨rfl, fun _ => q_nil_ptr rfl⟩) ?_
              refine Wr.pure (v := Value.pointer (some ⟨w, 1, none⟩)) 2 rfl (by kernel_rfl) (.inr (fun _ h => st_take [0, 0, 0, 0, 0] h)) (.inl ⟨rfl, fun _ => q_field (m := 1) fo_61_1 rfl rfl⟩) ?_
              refine Wr.take (v := Value.slice (some ⟨lb, 0, none⟩) m lc) 3 rfl (by kernel_rfl) (fun _ h => st_take [0, 0, 0, 0, 0] h) (.inl ⟨rfl, q_load sc_57 rfl (.cel (i := 3) rfl rfl)⟩) ?_
              refine Wr.pure (v := Value.pointer (some ⟨b1, 3, none⟩)) 4 rfl (by kernel_rfl) (.inr (fun _ h => st_take [0, 0, 0, 0, 0] h)) (.inl ⟨rfl, fun _ => q_field (m := 3) fo_46_3 rfl rfl⟩) ?_
              refine Wr.take (v := Value.int .i64 t.b) 5 rfl (by kernel_rfl) (fun _ h => st_take [0, 0, 0, 0, 0] h) (.inl ⟨rfl, q_load sc_3 rfl (.cel (i := 2) rfl rfl)⟩) ?_
              refine Wr.pure (v := Value.pointer (some ⟨lb, (t.b).toNat, none⟩)) 6 rfl (by kernel_rfl) (.inr (fun _ h => st_take [0, 0, 0, 0, 0] h)) (.inl ⟨rfl, fun _ => q_idx (m := (t.b).toNat) se_57 rfl rfl (by omega) (by omega) (by simp)⟩) ?_
              refine Wr.e 7 (by kernel_rfl) rfl (e_store_slp (i := 4) (vs := [Value.bool true]) (c' := (L.set ((t.b).toNat) true).map Value.bool) sz_4 rfl (congrArg Value.cells (rfl)) rfl rfl (by simp; omega) (splice_map (by first | omega | (simp only [List.length_set]; omega)))) (.inl (by kernel_rfl)) (fun _ _ => ?_)
              refine Wr.imp (L' := (pt b2 46 [Value.int .u8 ((kk.kind : Nat) : Int), Value.int .i64 kk.n, Value.int .i64 kk.a, Value.int .i64 kk.b]) :: (refI r ts) :: (pt b1 46 [Value.int .u8 ((t.kind : Nat) : Int), Value.int .i64 t.n, Value.int .i64 t.a, Value.int .i64 t.b]) :: (pt w 61 [Value.pointer (some ⟨r, 0, none⟩), Value.slice (some ⟨lb, 0, none⟩) m lc]) :: (slp 4 1 lb lc ((L.set ((t.b).toNat) true).map Value.bool)) :: F) (fun _ h => h) ?_
              refine Wr.rebaseS [] ((pt b2 46 [Value.int .u8 ((kk.kind : Nat) : Int), Value.int .i64 kk.n, Value.int .i64 kk.a, Value.int .i64 kk.b]) :: (refI r ts) :: (pt b1 46 [Value.int .u8 ((t.kind : Nat) : Int), Value.int .i64 t.n, Value.int .i64 t.a, Value.int .i64 t.b]) :: (pt w 61 [Value.pointer (some ⟨r, 0, none⟩), Value.slice (some ⟨lb, 0, none⟩) m lc]) :: (slp 4 1 lb lc ((L.set ((t.b).toNat) true).map Value.bool)) :: []) (by kernel_rfl) ?_
              refine Wr.done (by kernel_rfl) ?_
              refine Wx.blockEnd ?_
              refine Wx.go ?_
              refine Wc.seq ?_
              refine Wc.region ?_
              refine Wl.q (v := Value.bool true) (q_move rfl) ?_
              refine Wl.q (v := Value.bool true) (q_assign rfl) ?_
              refine Wl.done ?_
              refine Wx.go ?_
              refine Wc.ret ?_
              refine Wx.fin1 rfl (.inl rfl) (fun w hs => ?_)
              have e : gvR ts L n = ((L.set ((t.b).toNat) true), true) := by unfold gvR; rw [hat]; simp only; rw [if_neg (by omega), if_pos (by omega), hbn, if_pos hby2, Bool.eq_false_iff.2 hLb2]; rfl
              exact ⟨(), trivial, congrArg Value.bool (by rw [e]), by rw [e]; exact (st_pull [1, 1, 0] (st_drop (st_drop (st_pull [0, 1] hs))))⟩
          ·
            refine Wr.take (v := Value.bool false) 25 rfl (by kernel_rfl) (fun _ h => st_take [0, 0, 0, 0, 0] h) (.inl ⟨rfl, q_load sc_4 rfl (.row (i := 4) rfl (bool_no (by first | omega | (simp only [List.length_set]; omega)) hby2))⟩) ?_
            refine Wr.pure (v := Value.bool false) 26 rfl (by kernel_rfl) (.inr (fun _ h => st_take [0, 0, 0, 0, 0] h)) (.inl ⟨rfl, fun _ => q_pick (t := true) rfl rfl⟩) ?_
            refine Wr.pure (v := Value.bool false) 27 rfl (by kernel_rfl) (.inr (fun _ h => st_take [0, 0, 0, 0, 0] h)) (.inl ⟨rfl, fun _ => q_pick (t := false) rfl rfl⟩) ?_
            refine Wr.done (by kernel_rfl) ?_
            refine Wx.go ?_
            refine Wc.no rfl ?_
            refine Wc.skip ?_
            refine Wx.blockEnd ?_
            refine Wx.go ?_
            refine Wc.seq ?_
            refine Wc.region ?_
            refine Wl.q (v := Value.bool false) (q_move rfl) ?_
            refine Wl.q (v := Value.bool false) (q_assign rfl) ?_
            refine Wl.done ?_
            refine Wx.go ?_
            refine Wc.ret ?_
            refine Wx.fin1 rfl (.inl rfl) (fun w hs => ?_)
            have e : gvR ts L n = (L, false) := by unfold gvR; rw [hat]; simp only; rw [if_neg (by omega), if_pos (by omega), hbn, if_neg hby2]
            exact ⟨(), trivial, congrArg Value.bool (by rw [e]), by rw [e]; exact (st_pull [1, 1, 0] (st_drop (st_drop (st_pull [0, 1] hs))))⟩
      ·
        refine Wo.e 10 rfl (e_alloc (vs := [Value.int .u8 0, Value.int .i64 0, Value.int .i64 0, Value.int .i64 0]) zo_46 rfl) (.inr fun _ _ _ h => st_take [1, 1, 1, 1] h) (fun b3 _ => ?_)
        refine Wr.imp (L' := (pt b3 46 [Value.int .u8 0, Value.int .i64 0, Value.int .i64 0, Value.int .i64 0]) :: (pt b1 46 [Value.int .u8 ((t.kind : Nat) : Int), Value.int .i64 t.n, Value.int .i64 t.a, Value.int .i64 t.b]) :: (refI r ts) :: (pt w 61 [Value.pointer (some ⟨r, 0, none⟩), Value.slice (some ⟨lb, 0, none⟩) m lc]) :: (slp 4 1 lb lc (L.map Value.bool)) :: F) (fun _ h => h) ?_
        refine Wr.more (S' := (pt b3 46 [Value.int .u8 0, Value.int .i64 0, Value.int .i64 0, Value.int .i64 0]) :: (pt b1 46 [Value.int .u8 ((t.kind : Nat) : Int), Value.int .i64 t.n, Value.int .i64 t.a, Value.int .i64 t.b]) :: (refI r ts) :: (pt w 61 [Value.pointer (some ⟨r, 0, none⟩), Value.slice (some ⟨lb, 0, none⟩) m lc]) :: (slp 4 1 lb lc (L.map Value.bool)) :: []) (fun _ h => st_drop h) ?_
        refine Wr.imp (L' := (refI r ts) :: (pt b3 46 [Value.int .u8 0, Value.int .i64 0, Value.int .i64 0, Value.int .i64 0]) :: (pt b1 46 [Value.int .u8 ((t.kind : Nat) : Int), Value.int .i64 t.n, Value.int .i64 t.a, Value.int .i64 t.b]) :: (pt w 61 [Value.pointer (some ⟨r, 0, none⟩), Value.slice (some ⟨lb, 0, none⟩) m lc]) :: (slp 4 1 lb lc (L.map Value.bool)) :: F) (fun _ h => st_pull [2] h) ?_
        refine Wr.e 6 (by kernel_rfl) rfl (e_call (F := (pt b3 46 [Value.int .u8 0, Value.int .i64 0, Value.int .i64 0, Value.int .i64 0]) :: (pt b1 46 [Value.int .u8 ((t.kind : Nat) : Int), Value.int .i64 t.n, Value.int .i64 t.a, Value.int .i64 t.b]) :: (pt w 61 [Value.pointer (some ⟨r, 0, none⟩), Value.slice (some ⟨lb, 0, none⟩) m lc]) :: (slp 4 1 lb lc (L.map Value.bool)) :: F) (args := [Value.pointer (some ⟨r, 0, none⟩), Value.int .i64 t.a]) Try.call45 rfl (rget_c W0 r ts t.a hl kk (by omega) (atN_geti hkk))) (.inr fun _ _ _ h => st_take [1, 1, 0, 0, 0] h) (fun _ _ => ?_)
        refine Wr.imp (L' := (refI r ts) :: (pt b3 46 [Value.int .u8 0, Value.int .i64 0, Value.int .i64 0, Value.int .i64 0]) :: (pt b1 46 [Value.int .u8 ((t.kind : Nat) : Int), Value.int .i64 t.n, Value.int .i64 t.a, Value.int .i64 t.b]) :: (pt w 61 [Value.pointer (some ⟨r, 0, none⟩), Value.slice (some ⟨lb, 0, none⟩) m lc]) :: (slp 4 1 lb lc (L.map Value.bool)) :: F) (fun _ h => h) ?_
        refine Wr.pure (v := Value.tuple #[Value.agg #[Value.int .u8 ((kk.kind : Nat) : Int), Value.int .i64 kk.n, Value.int .i64 kk.a, Value.int .i64 kk.b], Value.bool true]) 7 rfl (by kernel_rfl) (.inr (fun _ h => st_take [1, 1, 0, 0, 0] h)) (.inl ⟨rfl, fun _ => q_move rfl⟩) ?_
        refine Wr.pure (v := Value.agg #[Value.int .u8 ((kk.kind : Nat) : Int), Value.int .i64 kk.n, Value.int .i64 kk.a, Value.int .i64 kk.b]) 8 rfl (by kernel_rfl) (.inr (fun _ h => st_take [1, 1, 0, 0, 0] h)) (.inl ⟨rfl, fun _ => q_extract (i := 0) rfl rfl⟩) ?_
        refine Wr.pure (v := Value.bool true) 9 rfl (by kernel_rfl) (.inr (fun _ h => st_take [1, 1, 0, 0, 0] h)) (.inl ⟨rfl, fun _ => q_extract (i := 1) rfl rfl⟩) ?_
        refine Wr.e 11 (by kernel_rfl) rfl (e_storeAgg (i := 1) (vs := [Value.int .u8 ((kk.kind : Nat) : Int), Value.int .i64 kk.n, Value.int .i64 kk.a, Value.int .i64 kk.b]) (c' := [Value.int .u8 ((kk.kind : Nat) : Int), Value.int .i64 kk.n, Value.int .i64 kk.a, Value.int .i64 kk.b]) sz_46 rfl rfl rfl rfl (by simp) rfl) (.inl (by kernel_rfl)) (fun _ _ => ?_)
        refine Wr.imp (L' := (refI r ts) :: (pt b3 46 [Value.int .u8 ((kk.kind : Nat) : Int), Value.int .i64 kk.n, Value.int .i64 kk.a, Value.int .i64 kk.b]) :: (pt b1 46 [Value.int .u8 ((t.kind : Nat) : Int), Value.int .i64 t.n, Value.int .i64 t.a, Value.int .i64 t.b]) :: (pt w 61 [Value.pointer (some ⟨r, 0, none⟩), Value.slice (some ⟨lb, 0, none⟩) m lc]) :: (slp 4 1 lb lc (L.map Value.bool)) :: F) (fun _ h => h) ?_
        refine Wr.rebaseS [] ((refI r ts) :: (pt b3 46 [Value.int .u8 ((kk.kind : Nat) : Int), Value.int .i64 kk.n, Value.int .i64 kk.a, Value.int .i64 kk.b]) :: (pt b1 46 [Value.int .u8 ((t.kind : Nat) : Int), Value.int .i64 t.n, Value.int .i64 t.a, Value.int .i64 t.b]) :: (pt w 61 [Value.pointer (some ⟨r, 0, none⟩), Value.slice (some ⟨lb, 0, none⟩) m lc]) :: (slp 4 1 lb lc (L.map Value.bool)) :: []) (by kernel_rfl) ?_
        refine Wr.pure (v := Value.bool true) 12 rfl (by kernel_rfl) (.inr (fun _ h => st_take [0, 0, 0, 0, 0] h)) (.inl ⟨rfl, fun _ => q_assign rfl⟩) ?_
        refine Wr.done (by kernel_rfl) ?_
        refine Wx.go ?_
        refine Wc.seq ?_
        refine Wc.drawsS [] ((refI r ts) :: (pt b3 46 [Value.int .u8 ((kk.kind : Nat) : Int), Value.int .i64 kk.n, Value.int .i64 kk.a, Value.int .i64 kk.b]) :: (pt b1 46 [Value.int .u8 ((t.kind : Nat) : Int), Value.int .i64 t.n, Value.int .i64 t.a, Value.int .i64 t.b]) :: (pt w 61 [Value.pointer (some ⟨r, 0, none⟩), Value.slice (some ⟨lb, 0, none⟩) m lc]) :: (slp 4 1 lb lc (L.map Value.bool)) :: []) (by kernel_rfl) ?_
        refine Wr.pure (v := Value.pointer (some ⟨b3, 0, none⟩)) 0 rfl (by kernel_rfl) (.inr (fun _ h => st_take [0, 0, 0, 0, 0] h)) (.inl ⟨rfl, fun _ => q_field (m := 0) fo_46_0 rfl rfl⟩) ?_
        refine Wr.take (v := Value.int .u8 ((kk.kind : Nat) : Int)) 1 rfl (by kernel_rfl) (fun _ h => st_take [0, 0, 0, 0, 0] h) (.inl ⟨rfl, q_load sc_44 rfl (.cel (i := 1) rfl rfl)⟩) ?_
        by_cases hk5 : ((kk.kind : Nat) : Int) = 5
        ·
          have hbn : byN ts t.a.toNat = kk.a.toNat := by unfold byN; rw [hkk]; simp only; rw [if_pos (by omega)]
          refine Wr.pure (v := Value.bool true) 2 rfl (by kernel_rfl) (.inr (fun _ h => st_take [0, 0, 0, 0, 0] h)) (.inl ⟨rfl, fun _ => q_eql (r := true) rfl rfl (decide_eq_true hk5)⟩) ?_
          refine Wr.pure (v := Value.bool true) 3 rfl (by kernel_rfl) (.inr (fun _ h => st_take [0, 0, 0, 0, 0] h)) (.inl ⟨rfl, fun _ => q_move rfl⟩) ?_
          refine Wr.pure (v := Value.pointer (some ⟨w, 0, none⟩)) 4 rfl (by kernel_rfl) (.inr (fun _ h => st_take [0, 0, 0, 0, 0] h)) (.inl ⟨rfl, fun _ => q_move rfl⟩) ?_
          refine Wr.pure (v := Value.pointer (some ⟨w, 0, none⟩)) 5 rfl (by kernel_rfl) (.inr (fun _ h => st_take [0, 0, 0, 0, 0] h)) (.inl ⟨rfl, fun _ => q_nil_ptr rfl⟩) ?_
          refine Wr.pure (v := Value.pointer (some ⟨w, 1, none⟩)) 6 rfl (by kernel_rfl) (.inr (fun _ h => st_take [0, 0, 0, 0, 0] h)) (.inl ⟨rfl, fun _ => q_field (m := 1) fo_61_1 rfl rfl⟩) ?_
          refine Wr.take (v := Value.slice (some ⟨lb, 0, none⟩) m lc) 7 rfl (by kernel_rfl) (fun _ h => st_take [0, 0, 0, 0, 0] h) (.inl ⟨rfl, q_load sc_57 rfl (.cel (i := 3) rfl rfl)⟩) ?_
          refine Wr.pure (v := Value.pointer (some ⟨b3, 2, none⟩)) 8 rfl (by kernel_rfl) (.inr (fun _ h => st_take [0, 0, 0, 0, 0] h)) (.inl ⟨rfl, fun _ => q_field (m := 2) fo_46_2 rfl rfl⟩) ?_
          refine Wr.take (v := Value.int .i64 kk.a) 9 rfl (by kernel_rfl) (fun _ h => st_take [0, 0, 0, 0, 0] h) (.inl ⟨rfl, q_load sc_3 rfl (.cel (i := 1) rfl rfl)⟩) ?_
          refine Wr.pure (v := Value.pointer (some ⟨lb, (kk.a).toNat, none⟩)) 10 rfl (by kernel_rfl) (.inr (fun _ h => st_take [0, 0, 0, 0, 0] h)) (.inl ⟨rfl, fun _ => q_idx (m := (kk.a).toNat) se_57 rfl rfl (by omega) (by omega) (by simp)⟩) ?_
          by_cases hby : hN L ((kk.a).toNat) = true
          ·
            refine Wr.take (v := Value.bool true) 11 rfl (by kernel_rfl) (fun _ h => st_take [0, 0, 0, 0, 0] h) (.inl ⟨rfl, q_load sc_4 rfl (.row (i := 4) rfl (bool_yes hby))⟩) ?_
            refine Wr.pure (v := Value.bool true) 12 rfl (by kernel_rfl) (.inr (fun _ h => st_take [0, 0, 0, 0, 0] h)) (.inl ⟨rfl, fun _ => q_pick (t := true) rfl rfl⟩) ?_
            refine Wr.pure (v := Value.bool true) 13 rfl (by kernel_rfl) (.inr (fun _ h => st_take [0, 0, 0, 0, 0] h)) (.inl ⟨rfl, fun _ => q_move rfl⟩) ?_
            refine Wr.pure (v := undef) 14 rfl (by kernel_rfl) (.inr (fun _ h => st_take [0, 0, 0, 0, 0] h)) (.inr ⟨rfl, rfl⟩) ?_
            refine Wr.pure (v := undef) 15 rfl (by kernel_rfl) (.inr (fun _ h => st_take [0, 0, 0, 0, 0] h)) (.inr ⟨rfl, rfl⟩) ?_
            refine Wr.pure (v := undef) 16 rfl (by kernel_rfl) (.inr (fun _ h => st_take [0, 0, 0, 0, 0] h)) (.inr ⟨rfl, rfl⟩) ?_
            refine Wr.pure (v := undef) 17 rfl (by kernel_rfl) (.inr (fun _ h => st_take [0, 0, 0, 0, 0] h)) (.inr ⟨rfl, rfl⟩) ?_
            refine Wr.pure (v := undef) 18 rfl (by kernel_rfl) (.inr (fun _ h => st_take [0, 0, 0, 0, 0] h)) (.inr ⟨rfl, rfl⟩) ?_
            refine Wr.pure (v := undef) 19 rfl (by kernel_rfl) (.inr (fun _ h => st_take [0, 0, 0, 0, 0] h)) (.inr ⟨rfl, rfl⟩) ?_
            refine Wr.pure (v := undef) 20 rfl (by kernel_rfl) (.inr (fun _ h => st_take [0, 0, 0, 0, 0] h)) (.inr ⟨rfl, rfl⟩) ?_
            refine Wr.pure (v := undef) 21 rfl (by kernel_rfl) (.inr (fun _ h => st_take [0, 0, 0, 0, 0] h)) (.inr ⟨rfl, rfl⟩) ?_
            refine Wr.pure (v := undef) 22 rfl (by kernel_rfl) (.inr (fun _ h => st_take [0, 0, 0, 0, 0] h)) (.inr ⟨rfl, rfl⟩) ?_
            refine Wr.pure (v := undef) 23 rfl (by kernel_rfl) (.inr (fun _ h => st_take [0, 0, 0, 0, 0] h)) (.inr ⟨rfl, rfl⟩) ?_
            refine Wr.pure (v := undef) 24 rfl (by kernel_rfl) (.inr (fun _ h => st_take [0, 0, 0, 0, 0] h)) (.inr ⟨rfl, rfl⟩) ?_
            refine Wr.pure (v := undef) 25 rfl (by kernel_rfl) (.inr (fun _ h => st_take [0, 0, 0, 0, 0] h)) (.inr ⟨rfl, rfl⟩) ?_
            refine Wr.pure (v := undef) 26 rfl (by kernel_rfl) (.inr (fun _ h => st_take [0, 0, 0, 0, 0] h)) (.inr ⟨rfl, rfl⟩) ?_
            refine Wr.pure (v := Value.bool true) 27 rfl (by kernel_rfl) (.inr (fun _ h => st_take [0, 0, 0, 0, 0] h)) (.inl ⟨rfl, fun _ => q_pick (t := true) rfl rfl⟩) ?_
            refine Wr.done (by kernel_rfl) ?_
            refine Wx.go ?_
            refine Wc.yes rfl ?_
            refine Wc.seq ?_
            refine Wc.drawsS [] ((refI r ts) :: (pt b3 46 [Value.int .u8 ((kk.kind : Nat) : Int), Value.int .i64 kk.n, Value.int .i64 kk.a, Value.int .i64 kk.b]) :: (pt b1 46 [Value.int .u8 ((t.kind : Nat) : Int), Value.int .i64 t.n, Value.int .i64 t.a, Value.int .i64 t.b]) :: (pt w 61 [Value.pointer (some ⟨r, 0, none⟩), Value.slice (some ⟨lb, 0, none⟩) m lc]) :: (slp 4 1 lb lc (L.map Value.bool)) :: []) (by kernel_rfl) ?_
            refine Wr.pure (v := Value.pointer (some ⟨w, 0, none⟩)) 0 rfl (by kernel_rfl) (.inr (fun _ h => st_take [0, 0, 0, 0, 0] h)) (.inl ⟨rfl, fun _ => q_move rfl⟩) ?_
            refine Wr.pure (v := Value.pointer (some ⟨w, 0, none⟩)) 1 rfl (by kernel_rfl) (.inr (fun _ h => st_take [0, 0, 0, 0, 0] h)) (.inl ⟨rfl, fun _ => q_nil_ptr rfl⟩) ?_
            refine Wr.pure (v := Value.pointer (some ⟨w, 1, none⟩)) 2 rfl (by kernel_rfl) (.inr (fun _ h => st_take [0, 0, 0, 0, 0] h)) (.inl ⟨rfl, fun _ => q_field (m := 1) fo_61_1 rfl rfl⟩) ?_
            refine Wr.take (v := Value.slice (some ⟨lb, 0, none⟩) m lc) 3 rfl (by kernel_rfl) (fun _ h => st_take [0, 0, 0, 0, 0] h) (.inl ⟨rfl, q_load sc_57 rfl (.cel (i := 3) rfl rfl)⟩) ?_
            refine Wr.pure (v := Value.pointer (some ⟨b1, 3, none⟩)) 4 rfl (by kernel_rfl) (.inr (fun _ h => st_take [0, 0, 0, 0, 0] h)) (.inl ⟨rfl, fun _ => q_field (m := 3) fo_46_3 rfl rfl⟩) ?_
            refine Wr.take (v := Value.int .i64 t.b) 5 rfl (by kernel_rfl) (fun _ h => st_take [0, 0, 0, 0, 0] h) (.inl ⟨rfl, q_load sc_3 rfl (.cel (i := 2) rfl rfl)⟩) ?_
            refine Wr.pure (v := Value.pointer (some ⟨lb, (t.b).toNat, none⟩)) 6 rfl (by kernel_rfl) (.inr (fun _ h => st_take [0, 0, 0, 0, 0] h)) (.inl ⟨rfl, fun _ => q_idx (m := (t.b).toNat) se_57 rfl rfl (by omega) (by omega) (by simp)⟩) ?_
            by_cases hLb2 : hN L ((t.b).toNat) = true
            ·
              refine Wr.take (v := Value.bool true) 7 rfl (by kernel_rfl) (fun _ h => st_take [0, 0, 0, 0, 0] h) (.inl ⟨rfl, q_load sc_4 rfl (.row (i := 4) rfl (bool_yes hLb2))⟩) ?_
              refine Wr.pure (v := Value.bool false) 8 rfl (by kernel_rfl) (.inr (fun _ h => st_take [0, 0, 0, 0, 0] h)) (.inl ⟨rfl, fun _ => q_not rfl rfl⟩) ?_
              refine Wr.pure (v := Value.bool false) 9 rfl (by kernel_rfl) (.inr (fun _ h => st_take [0, 0, 0, 0, 0] h)) (.inl ⟨rfl, fun _ => q_assign rfl⟩) ?_
              refine Wr.done (by kernel_rfl) ?_
              refine Wx.go ?_
              refine Wc.drawsS [7] ((refI r ts) :: (pt b3 46 [Value.int .u8 ((kk.kind : Nat) : Int), Value.int .i64 kk.n, Value.int .i64 kk.a, Value.int .i64 kk.b]) :: (pt b1 46 [Value.int .u8 ((t.kind : Nat) : Int), Value.int .i64 t.n, Value.int .i64 t.a, Value.int .i64 t.b]) :: (pt w 61 [Value.pointer (some ⟨r, 0, none⟩), Value.slice (some ⟨lb, 0, none⟩) m lc]) :: (slp 4 1 lb lc (L.map Value.bool)) :: []) (by kernel_rfl) ?_
              refine Wr.pure (v := Value.pointer (some ⟨w, 0, none⟩)) 0 rfl (by kernel_rfl) (.inr (fun _ h => st_take [0, 0, 0, 0, 0] h)) (.inl ⟨rfl, fun _ => q_move rfl⟩) ?_
              refine Wr.pure (v := Value.pointer (some ⟨w, 0, none⟩)) 1 rfl (by kernel_rfl) (.inr (fun _ h => st_take [0, 0, 0, 0, 0] h)) (.inl ⟨rfl, fun _ => q_nil_ptr rfl⟩) ?_
              refine Wr.pure (v := Value.pointer (some ⟨w, 1, none⟩)) 2 rfl (by kernel_rfl) (.inr (fun _ h => st_take [0, 0, 0, 0, 0] h)) (.inl ⟨rfl, fun _ => q_field (m := 1) fo_61_1 rfl rfl⟩) ?_
              refine Wr.take (v := Value.slice (some ⟨lb, 0, none⟩) m lc) 3 rfl (by kernel_rfl) (fun _ h => st_take [0, 0, 0, 0, 0] h) (.inl ⟨rfl, q_load sc_57 rfl (.cel (i := 3) rfl rfl)⟩) ?_
              refine Wr.pure (v := Value.pointer (some ⟨b1, 3, none⟩)) 4 rfl (by kernel_rfl) (.inr (fun _ h => st_take [0, 0, 0, 0, 0] h)) (.inl ⟨rfl, fun _ => q_field (m := 3) fo_46_3 rfl rfl⟩) ?_
              refine Wr.take (v := Value.int .i64 t.b) 5 rfl (by kernel_rfl) (fun _ h => st_take [0, 0, 0, 0, 0] h) (.inl ⟨rfl, q_load sc_3 rfl (.cel (i := 2) rfl rfl)⟩) ?_
              refine Wr.pure (v := Value.pointer (some ⟨lb, (t.b).toNat, none⟩)) 6 rfl (by kernel_rfl) (.inr (fun _ h => st_take [0, 0, 0, 0, 0] h)) (.inl ⟨rfl, fun _ => q_idx (m := (t.b).toNat) se_57 rfl rfl (by omega) (by omega) (by simp)⟩) ?_
              refine Wr.e 7 (by kernel_rfl) rfl (e_store_slp (i := 4) (vs := [Value.bool true]) (c' := (L.set ((t.b).toNat) true).map Value.bool) sz_4 rfl (congrArg Value.cells (rfl)) rfl rfl (by simp; omega) (splice_map (by first | omega | (simp only [List.length_set]; omega)))) (.inl (by kernel_rfl)) (fun _ _ => ?_)
              refine Wr.imp (L' := (refI r ts) :: (pt b3 46 [Value.int .u8 ((kk.kind : Nat) : Int), Value.int .i64 kk.n, Value.int .i64 kk.a, Value.int .i64 kk.b]) :: (pt b1 46 [Value.int .u8 ((t.kind : Nat) : Int), Value.int .i64 t.n, Value.int .i64 t.a, Value.int .i64 t.b]) :: (pt w 61 [Value.pointer (some ⟨r, 0, none⟩), Value.slice (some ⟨lb, 0, none⟩) m lc]) :: (slp 4 1 lb lc ((L.set ((t.b).toNat) true).map Value.bool)) :: F) (fun _ h => h) ?_
              refine Wr.rebaseS [] ((refI r ts) :: (pt b3 46 [Value.int .u8 ((kk.kind : Nat) : Int), Value.int .i64 kk.n, Value.int .i64 kk.a, Value.int .i64 kk.b]) :: (pt b1 46 [Value.int .u8 ((t.kind : Nat) : Int), Value.int .i64 t.n, Value.int .i64 t.a, Value.int .i64 t.b]) :: (pt w 61 [Value.pointer (some ⟨r, 0, none⟩), Value.slice (some ⟨lb, 0, none⟩) m lc]) :: (slp 4 1 lb lc ((L.set ((t.b).toNat) true).map Value.bool)) :: []) (by kernel_rfl) ?_
              refine Wr.done (by kernel_rfl) ?_
              refine Wx.blockEnd ?_
              refine Wx.go ?_
              refine Wc.seq ?_
              refine Wc.region ?_
              refine Wl.q (v := Value.bool false) (q_move rfl) ?_
              refine Wl.q (v := Value.bool false) (q_assign rfl) ?_
              refine Wl.done ?_
              refine Wx.go ?_
              refine Wc.ret ?_
              refine Wx.fin1 rfl (.inl rfl) (fun w hs => ?_)
              have e : gvR ts L n = ((L.set ((t.b).toNat) true), false) := by unfold gvR; rw [hat]; simp only; rw [if_neg (by omega), if_pos (by omega), hbn, if_pos hby, hLb2]; rfl
              exact ⟨(), trivial, congrArg Value.bool (by rw [e]), by rw [e]; exact (st_pull [1, 1, 0] (st_drop (st_drop (st_pull [1, 1] hs))))⟩
            ·
              refine Wr.take (v := Value.bool false) 7 rfl (by kernel_rfl) (fun _ h => st_take [0, 0, 0, 0, 0] h) (.inl ⟨rfl, q_load sc_4 rfl (.row (i := 4) rfl (bool_no (by first | omega | (simp only [List.length_set]; omega)) hLb2))⟩) ?_
              refine Wr.pure (v := Value.bool true) 8 rfl (by kernel_rfl) (.inr (fun _ h => st_take [0, 0, 0, 0, 0] h)) (.inl ⟨rfl, fun _ => q_not rfl rfl⟩) ?_
              refine Wr.pure (v := Value.bool true) 9 rfl (by kernel_rfl) (.inr (fun _ h => st_take [0, 0, 0, 0, 0] h)) (.inl ⟨rfl, fun _ => q_assign rfl⟩) ?_
              refine Wr.done (by kernel_rfl) ?_
              refine Wx.go ?_
              refine Wc.drawsS [7] ((refI r ts) :: (pt b3 46 [Value.int .u8 ((kk.kind : Nat) : Int), Value.int .i64 kk.n, Value.int .i64 kk.a, Value.int .i64 kk.b]) :: (pt b1 46 [Value.int .u8 ((t.kind : Nat) : Int), Value.int .i64 t.n, Value.int .i64 t.a, Value.int .i64 t.b]) :: (pt w 61 [Value.pointer (some ⟨r, 0, none⟩), Value.slice (some ⟨lb, 0, none⟩) m lc]) :: (slp 4 1 lb lc (L.map Value.bool)) :: []) (by kernel_rfl) ?_
              refine Wr.pure (v := Value.pointer (some ⟨w, 0, none⟩)) 0 rfl (by kernel_rfl) (.inr (fun _ h => st_take [0, 0, 0, 0, 0] h)) (.inl ⟨rfl, fun _ => q_move rfl⟩) ?_
              refine Wr.pure (v := Value.pointer (some ⟨w, 0, none⟩)) 1 rfl (by kernel_rfl) (.inr (fun _ h => st_take [0, 0, 0, 0, 0] h)) (.inl ⟨rfl, fun _ => q_nil_ptr rfl⟩) ?_
              refine Wr.pure (v := Value.pointer (some ⟨w, 1, none⟩)) 2 rfl (by kernel_rfl) (.inr (fun _ h => st_take [0, 0, 0, 0, 0] h)) (.inl ⟨rfl, fun _ => q_field (m := 1) fo_61_1 rfl rfl⟩) ?_
              refine Wr.take (v := Value.slice (some ⟨lb, 0, none⟩) m lc) 3 rfl (by kernel_rfl) (fun _ h => st_take [0, 0, 0, 0, 0] h) (.inl ⟨rfl, q_load sc_57 rfl (.cel (i := 3) rfl rfl)⟩) ?_
              refine Wr.pure (v := Value.pointer (some ⟨b1, 3, none⟩)) 4 rfl (by kernel_rfl) (.inr (fun _ h => st_take [0, 0, 0, 0, 0] h)) (.inl ⟨rfl, fun _ => q_field (m := 3) fo_46_3 rfl rfl⟩) ?_
              refine Wr.take (v := Value.int .i64 t.b) 5 rfl (by kernel_rfl) (fun _ h => st_take [0, 0, 0, 0, 0] h) (.inl ⟨rfl, q_load sc_3 rfl (.cel (i := 2) rfl rfl)⟩) ?_
              refine Wr.pure (v := Value.pointer (some ⟨lb, (t.b).toNat, none⟩)) 6 rfl (by kernel_rfl) (.inr (fun _ h => st_take [0, 0, 0, 0, 0] h)) (.inl ⟨rfl, fun _ => q_idx (m := (t.b).toNat) se_57 rfl rfl (by omega) (by omega) (by simp)⟩) ?_
              refine Wr.e 7 (by kernel_rfl) rfl (e_store_slp (i := 4) (vs := [Value.bool true]) (c' := (L.set ((t.b).toNat) true).map Value.bool) sz_4 rfl (congrArg Value.cells (rfl)) rfl rfl (by simp; omega) (splice_map (by first | omega | (simp only [List.length_set]; omega)))) (.inl (by kernel_rfl)) (fun _ _ => ?_)
              refine Wr.imp (L' := (refI r ts) :: (pt b3 46 [Value.int .u8 ((kk.kind : Nat) : Int), Value.int .i64 kk.n, Value.int .i64 kk.a, Value.int .i64 kk.b]) :: (pt b1 46 [Value.int .u8 ((t.kind : Nat) : Int), Value.int .i64 t.n, Value.int .i64 t.a, Value.int .i64 t.b]) :: (pt w 61 [Value.pointer (some ⟨r, 0, none⟩), Value.slice (some ⟨lb, 0, none⟩) m lc]) :: (slp 4 1 lb lc ((L.set ((t.b).toNat) true).map Value.bool)) :: F) (fun _ h => h) ?_
              refine Wr.rebaseS [] ((refI r ts) :: (pt b3 46 [Value.int .u8 ((kk.kind : Nat) : Int), Value.int .i64 kk.n, Value.int .i64 kk.a, Value.int .i64 kk.b]) :: (pt b1 46 [Value.int .u8 ((t.kind : Nat) : Int), Value.int .i64 t.n, Value.int .i64 t.a, Value.int .i64 t.b]) :: (pt w 61 [Value.pointer (some ⟨r, 0, none⟩), Value.slice (some ⟨lb, 0, none⟩) m lc]) :: (slp 4 1 lb lc ((L.set ((t.b).toNat) true).map Value.bool)) :: []) (by kernel_rfl) ?_
              refine Wr.done (by kernel_rfl) ?_
              refine Wx.blockEnd ?_
              refine Wx.go ?_
              refine Wc.seq ?_
              refine Wc.region ?_
              refine Wl.q (v := Value.bool true) (q_move rfl) ?_
              refine Wl.q (v := Value.bool true) (q_assign rfl) ?_
              refine Wl.done ?_
              refine Wx.go ?_
              refine Wc.ret ?_
              refine Wx.fin1 rfl (.inl rfl) (fun w hs => ?_)
              have e : gvR ts L n = ((L.set ((t.b).toNat) true), true) := by unfold gvR; rw [hat]; simp only; rw [if_neg (by omega), if_pos (by omega), hbn, if_pos hby, Bool.eq_false_iff.2 hLb2]; rfl
              exact ⟨(), trivial, congrArg Value.bool (by rw [e]), by rw [e]; exact (st_pull [1, 1, 0] (st_drop (st_drop (st_pull [1, 1] hs))))⟩
          ·
            refine Wr.take (v := Value.bool false) 11 rfl (by kernel_rfl) (fun _ h => st_take [0, 0, 0, 0, 0] h) (.inl ⟨rfl, q_load sc_4 rfl (.row (i := 4) rfl (bool_no (by first | omega | (simp only [List.length_set]; omega)) hby))⟩) ?_
            refine Wr.pure (v := Value.bool false) 12 rfl (by kernel_rfl) (.inr (fun _ h => st_take [0, 0, 0, 0, 0] h)) (.inl ⟨rfl, fun _ => q_pick (t := true) rfl rfl⟩) ?_
            refine Wr.pure (v := Value.bool false) 13 rfl (by kernel_rfl) (.inr (fun _ h => st_take [0, 0, 0, 0, 0] h)) (.inl ⟨rfl, fun _ => q_move rfl⟩) ?_
            refine Wr.pure (v := Value.pointer (some ⟨b3, 0, none⟩)) 14 rfl (by kernel_rfl) (.inr (fun _ h => st_take [0, 0, 0, 0, 0] h)) (.inl ⟨rfl, fun _ => q_field (m := 0) fo_46_0 rfl rfl⟩) ?_
            refine Wr.take (v := Value.int .u8 ((kk.kind : Nat) : Int)) 15 rfl (by kernel_rfl) (fun _ h => st_take [0, 0, 0, 0, 0] h) (.inl ⟨rfl, q_load sc_44 rfl (.cel (i := 1) rfl rfl)⟩) ?_
            refine Wr.pure (v := Value.bool false) 16 rfl (by kernel_rfl) (.inr (fun _ h => st_take [0, 0, 0, 0, 0] h)) (.inl ⟨rfl, fun _ => q_neq (r := true) rfl rfl (decide_eq_true (hk5))⟩) ?_
            refine Wr.pure (v := Value.bool false) 17 rfl (by kernel_rfl) (.inr (fun _ h => st_take [0, 0, 0, 0, 0] h)) (.inl ⟨rfl, fun _ => q_move rfl⟩) ?_
            refine Wr.pure (v := undef) 18 rfl (by kernel_rfl) (.inr (fun _ h => st_take [0, 0, 0, 0, 0] h)) (.inr ⟨rfl, rfl⟩) ?_
            refine Wr.pure (v := undef) 19 rfl (by kernel_rfl) (.inr (fun _ h => st_take [0, 0, 0, 0, 0] h)) (.inr ⟨rfl, rfl⟩) ?_
            refine Wr.pure (v := undef) 20 rfl (by kernel_rfl) (.inr (fun _ h => st_take [0, 0, 0, 0, 0] h)) (.inr ⟨rfl, rfl⟩) ?_
            refine Wr.pure (v := undef) 21 rfl (by kernel_rfl) (.inr (fun _ h => st_take [0, 0, 0, 0, 0] h)) (.inr ⟨rfl, rfl⟩) ?_
            refine Wr.pure (v := undef) 22 rfl (by kernel_rfl) (.inr (fun _ h => st_take [0, 0, 0, 0, 0] h)) (.inr ⟨rfl, rfl⟩) ?_
            refine Wr.pure (v := undef) 23 rfl (by kernel_rfl) (.inr (fun _ h => st_take [0, 0, 0, 0, 0] h)) (.inr ⟨rfl, rfl⟩) ?_
            refine Wr.pure (v := undef) 24 rfl (by kernel_rfl) (.inr (fun _ h => st_take [0, 0, 0, 0, 0] h)) (.inr ⟨rfl, rfl⟩) ?_
            refine Wr.pure (v := undef) 25 rfl (by kernel_rfl) (.inr (fun _ h => st_take [0, 0, 0, 0, 0] h)) (.inr ⟨rfl, rfl⟩) ?_
            refine Wr.pure (v := Value.bool false) 26 rfl (by kernel_rfl) (.inr (fun _ h => st_take [0, 0, 0, 0, 0] h)) (.inl ⟨rfl, fun _ => q_pick (t := false) rfl rfl⟩) ?_
            refine Wr.pure (v := Value.bool false) 27 rfl (by kernel_rfl) (.inr (fun _ h => st_take [0, 0, 0, 0, 0] h)) (.inl ⟨rfl, fun _ => q_pick (t := false) rfl rfl⟩) ?_
            refine Wr.done (by kernel_rfl) ?_
            refine Wx.go ?_
            refine Wc.no rfl ?_
            refine Wc.skip ?_
            refine Wx.blockEnd ?_
            refine Wx.go ?_
            refine Wc.seq ?_
            refine Wc.region ?_
            refine Wl.q (v := Value.bool false) (q_move rfl) ?_
            refine Wl.q (v := Value.bool false) (q_assign rfl) ?_
            refine Wl.done ?_
            refine Wx.go ?_
            refine Wc.ret ?_
            refine Wx.fin1 rfl (.inl rfl) (fun w hs => ?_)
            have e : gvR ts L n = (L, false) := by unfold gvR; rw [hat]; simp only; rw [if_neg (by omega), if_pos (by omega), hbn, if_neg hby]
            exact ⟨(), trivial, congrArg Value.bool (by rw [e]), by rw [e]; exact (st_pull [1, 1, 0] (st_drop (st_drop (st_pull [1, 1] hs))))⟩
        ·
          have hbn : byN ts t.a.toNat = t.a.toNat := by unfold byN; rw [hkk]; simp only; rw [if_neg (by omega)]
          refine Wr.pure (v := Value.bool false) 2 rfl (by kernel_rfl) (.inr (fun _ h => st_take [0, 0, 0, 0, 0] h)) (.inl ⟨rfl, fun _ => q_eql (r := false) rfl rfl (decide_eq_false hk5)⟩) ?_
          refine Wr.pure (v := Value.bool false) 3 rfl (by kernel_rfl) (.inr (fun _ h => st_take [0, 0, 0, 0, 0] h)) (.inl ⟨rfl, fun _ => q_move rfl⟩) ?_
          refine Wr.pure (v := undef) 4 rfl (by kernel_rfl) (.inr (fun _ h => st_take [0, 0, 0, 0, 0] h)) (.inr ⟨rfl, rfl⟩) ?_
          refine Wr.pure (v := undef) 5 rfl (by kernel_rfl) (.inr (fun _ h => st_take [0, 0, 0, 0, 0] h)) (.inr ⟨rfl, rfl⟩) ?_
          refine Wr.pure (v := undef) 6 rfl (by kernel_rfl) (.inr (fun _ h => st_take [0, 0, 0, 0, 0] h)) (.inr ⟨rfl, rfl⟩) ?_
          refine Wr.pure (v := undef) 7 rfl (by kernel_rfl) (.inr (fun _ h => st_take [0, 0, 0, 0, 0] h)) (.inr ⟨rfl, rfl⟩) ?_
          refine Wr.pure (v := undef) 8 rfl (by kernel_rfl) (.inr (fun _ h => st_take [0, 0, 0, 0, 0] h)) (.inr ⟨rfl, rfl⟩) ?_
          refine Wr.pure (v := undef) 9 rfl (by kernel_rfl) (.inr (fun _ h => st_take [0, 0, 0, 0, 0] h)) (.inr ⟨rfl, rfl⟩) ?_
          refine Wr.pure (v := undef) 10 rfl (by kernel_rfl) (.inr (fun _ h => st_take [0, 0, 0, 0, 0] h)) (.inr ⟨rfl, rfl⟩) ?_
          refine Wr.pure (v := undef) 11 rfl (by kernel_rfl) (.inr (fun _ h => st_take [0, 0, 0, 0, 0] h)) (.inr ⟨rfl, rfl⟩) ?_
          refine Wr.pure (v := Value.bool false) 12 rfl (by kernel_rfl) (.inr (fun _ h => st_take [0, 0, 0, 0, 0] h)) (.inl ⟨rfl, fun _ => q_pick (t := false) rfl rfl⟩) ?_
          refine Wr.pure (v := Value.bool false) 13 rfl (by kernel_rfl) (.inr (fun _ h => st_take [0, 0, 0, 0, 0] h)) (.inl ⟨rfl, fun _ => q_move rfl⟩) ?_
          refine Wr.pure (v := Value.pointer (some ⟨b3, 0, none⟩)) 14 rfl (by kernel_rfl) (.inr (fun _ h => st_take [0, 0, 0, 0, 0] h)) (.inl ⟨rfl, fun _ => q_field (m := 0) fo_46_0 rfl rfl⟩) ?_
          refine Wr.take (v := Value.int .u8 ((kk.kind : Nat) : Int)) 15 rfl (by kernel_rfl) (fun _ h => st_take [0, 0, 0, 0, 0] h) (.inl ⟨rfl, q_load sc_44 rfl (.cel (i := 1) rfl rfl)⟩) ?_
          refine Wr.pure (v := Value.bool true) 16 rfl (by kernel_rfl) (.inr (fun _ h => st_take [0, 0, 0, 0, 0] h)) (.inl ⟨rfl, fun _ => q_neq (r := false) rfl rfl (decide_eq_false (hk5))⟩) ?_
          refine Wr.pure (v := Value.bool true) 17 rfl (by kernel_rfl) (.inr (fun _ h => st_take [0, 0, 0, 0, 0] h)) (.inl ⟨rfl, fun _ => q_move rfl⟩) ?_
          refine Wr.pure (v := Value.pointer (some ⟨w, 0, none⟩)) 18 rfl (by kernel_rfl) (.inr (fun _ h => st_take [0, 0, 0, 0, 0] h)) (.inl ⟨rfl, fun _ => q_move rfl⟩) ?_
          refine Wr.pure (v := Value.pointer (some ⟨w, 0, none⟩)) 19 rfl (by kernel_rfl) (.inr (fun _ h => st_take [0, 0, 0, 0, 0] h)) (.inl ⟨rfl, fun _ => q_nil_ptr rfl⟩) ?_
          refine Wr.pure (v := Value.pointer (some ⟨w, 1, none⟩)) 20 rfl (by kernel_rfl) (.inr (fun _ h => st_take [0, 0, 0, 0, 0] h)) (.inl ⟨rfl, fun _ => q_field (m := 1) fo_61_1 rfl rfl⟩) ?_
          refine Wr.take (v := Value.slice (some ⟨lb, 0, none⟩) m lc) 21 rfl (by kernel_rfl) (fun _ h => st_take [0, 0, 0, 0, 0] h) (.inl ⟨rfl, q_load sc_57 rfl (.cel (i := 3) rfl rfl)⟩) ?_
          refine Wr.pure (v := Value.pointer (some ⟨b1, 2, none⟩)) 22 rfl (by kernel_rfl) (.inr (fun _ h => st_take [0, 0, 0, 0, 0] h)) (.inl ⟨rfl, fun _ => q_field (m := 2) fo_46_2 rfl rfl⟩) ?_
          refine Wr.take (v := Value.int .i64 t.a) 23 rfl (by kernel_rfl) (fun _ h => st_take [0, 0, 0, 0, 0] h) (.inl ⟨rfl, q_load sc_3 rfl (.cel (i := 2) rfl rfl)⟩) ?_
          refine Wr.pure (v := Value.pointer (some ⟨lb, (t.a).toNat, none⟩)) 24 rfl (by kernel_rfl) (.inr (fun _ h => st_take [0, 0, 0, 0, 0] h)) (.inl ⟨rfl, fun _ => q_idx (m := (t.a).toNat) se_57 rfl rfl (by omega) (by omega) (by simp)⟩) ?_
          by_cases hby2 : hN L ((t.a).toNat) = true
          ·
            refine Wr.take (v := Value.bool true) 25 rfl (by kernel_rfl) (fun _ h => st_take [0, 0, 0, 0, 0] h) (.inl ⟨rfl, q_load sc_4 rfl (.row (i := 4) rfl (bool_yes hby2))⟩) ?_
            refine Wr.pure (v := Value.bool true) 26 rfl (by kernel_rfl) (.inr (fun _ h => st_take [0, 0, 0, 0, 0] h)) (.inl ⟨rfl, fun _ => q_pick (t := true) rfl rfl⟩) ?_
            refine Wr.pure (v := Value.bool true) 27 rfl (by kernel_rfl) (.inr (fun _ h => st_take [0, 0, 0, 0, 0] h)) (.inl ⟨rfl, fun _ => q_pick (t := false) rfl rfl⟩) ?_
            refine Wr.done (by kernel_rfl) ?_
            refine Wx.go ?_
            refine Wc.yes rfl ?_
            refine Wc.seq ?_
            refine Wc.drawsS [] ((refI r ts) :: (pt b3 46 [Value.int .u8 ((kk.kind : Nat) : Int), Value.int .i64 kk.n, Value.int .i64 kk.a, Value.int .i64 kk.b]) :: (pt b1 46 [Value.int .u8 ((t.kind : Nat) : Int), Value.int .i64 t.n, Value.int .i64 t.a, Value.int .i64 t.b]) :: (pt w 61 [Value.pointer (some ⟨r, 0, none⟩), Value.slice (some ⟨lb, 0, none⟩) m lc]) :: (slp 4 1 lb lc (L.map Value.bool)) :: []) (by kernel_rfl) ?_
            refine Wr.pure (v := Value.pointer (some ⟨w, 0, none⟩)) 0 rfl (by kernel_rfl) (.inr (fun _ h => st_take [0, 0, 0, 0, 0] h)) (.inl ⟨rfl, fun _ => q_move rfl⟩) ?_
            refine Wr.pure (v := Value.pointer (some ⟨w, 0, none⟩)) 1 rfl (by kernel_rfl) (.inr (fun _ h => st_take [0, 0, 0, 0, 0] h)) (.inl ⟨rfl, fun _ => q_nil_ptr rfl⟩) ?_
            refine Wr.pure (v := Value.pointer (some ⟨w, 1, none⟩)) 2 rfl (by kernel_rfl) (.inr (fun _ h => st_take [0, 0, 0, 0, 0] h)) (.inl ⟨rfl, fun _ => q_field (m := 1) fo_61_1 rfl rfl⟩) ?_
            refine Wr.take (v := Value.slice (some ⟨lb, 0, none⟩) m lc) 3 rfl (by kernel_rfl) (fun _ h => st_take [0, 0, 0, 0, 0] h) (.inl ⟨rfl, q_load sc_57 rfl (.cel (i := 3) rfl rfl)⟩) ?_
            refine Wr.pure (v := Value.pointer (some ⟨b1, 3, none⟩)) 4 rfl (by kernel_rfl) (.inr (fun _ h => st_take [0, 0, 0, 0, 0] h)) (.inl ⟨rfl, fun _ => q_field (m := 3) fo_46_3 rfl rfl⟩) ?_
            refine Wr.take (v := Value.int .i64 t.b) 5 rfl (by kernel_rfl) (fun _ h => st_take [0, 0, 0, 0, 0] h) (.inl ⟨rfl, q_load sc_3 rfl (.cel (i := 2) rfl rfl)⟩) ?_
            refine Wr.pure (v := Value.pointer (some ⟨lb, (t.b).toNat, none⟩)) 6 rfl (by kernel_rfl) (.inr (fun _ h => st_take [0, 0, 0, 0, 0] h)) (.inl ⟨rfl, fun _ => q_idx (m := (t.b).toNat) se_57 rfl rfl (by omega) (by omega) (by simp)⟩) ?_
            by_cases hLb2 : hN L ((t.b).toNat) = true
            ·
              refine Wr.take (v := Value.bool true) 7 rfl (by kernel_rfl) (fun _ h => st_take [0, 0, 0, 0, 0] h) (.inl ⟨rfl, q_load sc_4 rfl (.row (i := 4) rfl (bool_yes hLb2))⟩) ?_
              refine Wr.pure (v := Value.bool false) 8 rfl (by kernel_rfl) (.inr (fun _ h => st_take [0, 0, 0, 0, 0] h)) (.inl ⟨rfl, fun _ => q_not rfl rfl⟩) ?_
              refine Wr.pure (v := Value.bool false) 9 rfl (by kernel_rfl) (.inr (fun _ h => st_take [0, 0, 0, 0, 0] h)) (.inl ⟨rfl, fun _ => q_assign rfl⟩) ?_
              refine Wr.done (by kernel_rfl) ?_
              refine Wx.go ?_
              refine Wc.drawsS [7] ((refI r ts) :: (pt b3 46 [Value.int .u8 ((kk.kind : Nat) : Int), Value.int .i64 kk.n, Value.int .i64 kk.a, Value.int .i64 kk.b]) :: (pt b1 46 [Value.int .u8 ((t.kind : Nat) : Int), Value.int .i64 t.n, Value.int .i64 t.a, Value.int .i64 t.b]) :: (pt w 61 [Value.pointer (some ⟨r, 0, none⟩), Value.slice (some ⟨lb, 0, none⟩) m lc]) :: (slp 4 1 lb lc (L.map Value.bool)) :: []) (by kernel_rfl) ?_
              refine Wr.pure (v := Value.pointer (some ⟨w, 0, none⟩)) 0 rfl (by kernel_rfl) (.inr (fun _ h => st_take [0, 0, 0, 0, 0] h)) (.inl ⟨rfl, fun _ => q_move rfl⟩) ?_
              refine Wr.pure (v := Value.pointer (some ⟨w, 0, none⟩)) 1 rfl (by kernel_rfl) (.inr (fun _ h => st_take [0, 0, 0, 0, 0] h)) (.inl ⟨rfl, fun _ => q_nil_ptr rfl⟩) ?_
              refine Wr.pure (v := Value.pointer (some ⟨w, 1, none⟩)) 2 rfl (by kernel_rfl) (.inr (fun _ h => st_take [0, 0, 0, 0, 0] h)) (.inl ⟨rfl, fun _ => q_field (m := 1) fo_61_1 rfl rfl⟩) ?_
              refine Wr.take (v := Value.slice (some ⟨lb, 0, none⟩) m lc) 3 rfl (by kernel_rfl) (fun _ h => st_take [0, 0, 0, 0, 0] h) (.inl ⟨rfl, q_load sc_57 rfl (.cel (i := 3) rfl rfl)⟩) ?_
              refine Wr.pure (v := Value.pointer (some ⟨b1, 3, none⟩)) 4 rfl (by kernel_rfl) (.inr (fun _ h => st_take [0, 0, 0, 0, 0] h)) (.inl ⟨rfl, fun _ => q_field (m := 3) fo_46_3 rfl rfl⟩) ?_
              refine Wr.take (v := Value.int .i64 t.b) 5 rfl (by kernel_rfl) (fun _ h => st_take [0, 0, 0, 0, 0] h) (.inl ⟨rfl, q_load sc_3 rfl (.cel (i := 2) rfl rfl)⟩) ?_
              refine Wr.pure (v := Value.pointer (some ⟨lb, (t.b).toNat, none⟩)) 6 rfl (by kernel_rfl) (.inr (fun _ h => st_take [0, 0, 0, 0, 0] h)) (.inl ⟨rfl, fun _ => q_idx (m := (t.b).toNat) se_57 rfl rfl (by omega) (by omega) (by simp)⟩) ?_
              refine Wr.e 7 (by kernel_rfl) rfl (e_store_slp (i := 4) (vs := [Value.bool true]) (c' := (L.set ((t.b).toNat) true).map Value.bool) sz_4 rfl (congrArg Value.cells (rfl)) rfl rfl (by simp; omega) (splice_map (by first | omega | (simp only [List.length_set]; omega)))) (.inl (by kernel_rfl)) (fun _ _ => ?_)
              refine Wr.imp (L' := (refI r ts) :: (pt b3 46 [Value.int .u8 ((kk.kind : Nat) : Int), Value.int .i64 kk.n, Value.int .i64 kk.a, Value.int .i64 kk.b]) :: (pt b1 46 [Value.int .u8 ((t.kind : Nat) : Int), Value.int .i64 t.n, Value.int .i64 t.a, Value.int .i64 t.b]) :: (pt w 61 [Value.pointer (some ⟨r, 0, none⟩), Value.slice (some ⟨lb, 0, none⟩) m lc]) :: (slp 4 1 lb lc ((L.set ((t.b).toNat) true).map Value.bool)) :: F) (fun _ h => h) ?_
              refine Wr.rebaseS [] ((refI r ts) :: (pt b3 46 [Value.int .u8 ((kk.kind : Nat) : Int), Value.int .i64 kk.n, Value.int .i64 kk.a, Value.int .i64 kk.b]) :: (pt b1 46 [Value.int .u8 ((t.kind : Nat) : Int), Value.int .i64 t.n, Value.int .i64 t.a, Value.int .i64 t.b]) :: (pt w 61 [Value.pointer (some ⟨r, 0, none⟩), Value.slice (some ⟨lb, 0, none⟩) m lc]) :: (slp 4 1 lb lc ((L.set ((t.b).toNat) true).map Value.bool)) :: []) (by kernel_rfl) ?_
              refine Wr.done (by kernel_rfl) ?_
              refine Wx.blockEnd ?_
              refine Wx.go ?_
              refine Wc.seq ?_
              refine Wc.region ?_
              refine Wl.q (v := Value.bool false) (q_move rfl) ?_
              refine Wl.q (v := Value.bool false) (q_assign rfl) ?_
              refine Wl.done ?_
              refine Wx.go ?_
              refine Wc.ret ?_
              refine Wx.fin1 rfl (.inl rfl) (fun w hs => ?_)
              have e : gvR ts L n = ((L.set ((t.b).toNat) true), false) := by unfold gvR; rw [hat]; simp only; rw [if_neg (by omega), if_pos (by omega), hbn, if_pos hby2, hLb2]; rfl
              exact ⟨(), trivial, congrArg Value.bool (by rw [e]), by rw [e]; exact (st_pull [1, 1, 0] (st_drop (st_drop (st_pull [1, 1] hs))))⟩
            ·
              refine Wr.take (v := Value.bool false) 7 rfl (by kernel_rfl) (fun _ h => st_take [0, 0, 0, 0, 0] h) (.inl ⟨rfl, q_load sc_4 rfl (.row (i := 4) rfl (bool_no (by first | omega | (simp only [List.length_set]; omega)) hLb2))⟩) ?_
              refine Wr.pure (v := Value.bool true) 8 rfl (by kernel_rfl) (.inr (fun _ h => st_take [0, 0, 0, 0, 0] h)) (.inl ⟨rfl, fun _ => q_not rfl rfl⟩) ?_
              refine Wr.pure (v := Value.bool true) 9 rfl (by kernel_rfl) (.inr (fun _ h => st_take [0, 0, 0, 0, 0] h)) (.inl ⟨rfl, fun _ => q_assign rfl⟩) ?_
              refine Wr.done (by kernel_rfl) ?_
              refine Wx.go ?_
              refine Wc.drawsS [7] ((refI r ts) :: (pt b3 46 [Value.int .u8 ((kk.kind : Nat) : Int), Value.int .i64 kk.n, Value.int .i64 kk.a, Value.int .i64 kk.b]) :: (pt b1 46 [Value.int .u8 ((t.kind : Nat) : Int), Value.int .i64 t.n, Value.int .i64 t.a, Value.int .i64 t.b]) :: (pt w 61 [Value.pointer (some ⟨r, 0, none⟩), Value.slice (some ⟨lb, 0, none⟩) m lc]) :: (slp 4 1 lb lc (L.map Value.bool)) :: []) (by kernel_rfl) ?_
              refine Wr.pure (v := Value.pointer (some ⟨w, 0, none⟩)) 0 rfl (by kernel_rfl) (.inr (fun _ h => st_take [0, 0, 0, 0, 0] h)) (.inl ⟨rfl, fun _ => q_move rfl⟩) ?_
              refine Wr.pure (v := Value.pointer (some ⟨w, 0, none⟩)) 1 rfl (by kernel_rfl) (.inr (fun _ h => st_take [0, 0, 0, 0, 0] h)) (.inl ⟨rfl, fun _ => q_nil_ptr rfl⟩) ?_
              refine Wr.pure (v := Value.pointer (some ⟨w, 1, none⟩)) 2 rfl (by kernel_rfl) (.inr (fun _ h => st_take [0, 0, 0, 0, 0] h)) (.inl ⟨rfl, fun _ => q_field (m := 1) fo_61_1 rfl rfl⟩) ?_
              refine Wr.take (v := Value.slice (some ⟨lb, 0, none⟩) m lc) 3 rfl (by kernel_rfl) (fun _ h => st_take [0, 0, 0, 0, 0] h) (.inl ⟨rfl, q_load sc_57 rfl (.cel (i := 3) rfl rfl)⟩) ?_
              refine Wr.pure (v := Value.pointer (some ⟨b1, 3, none⟩)) 4 rfl (by kernel_rfl) (.inr (fun _ h => st_take [0, 0, 0, 0, 0] h)) (.inl ⟨rfl, fun _ => q_field (m := 3) fo_46_3 rfl rfl⟩) ?_
              refine Wr.take (v := Value.int .i64 t.b) 5 rfl (by kernel_rfl) (fun _ h => st_take [0, 0, 0, 0, 0] h) (.inl ⟨rfl, q_load sc_3 rfl (.cel (i := 2) rfl rfl)⟩) ?_
              refine Wr.pure (v := Value.pointer (some ⟨lb, (t.b).toNat, none⟩)) 6 rfl (by kernel_rfl) (.inr (fun _ h => st_take [0, 0, 0, 0, 0] h)) (.inl ⟨rfl, fun _ => q_idx (m := (t.b).toNat) se_57 rfl rfl (by omega) (by omega) (by simp)⟩) ?_
              refine Wr.e 7 (by kernel_rfl) rfl (e_store_slp (i := 4) (vs := [Value.bool true]) (c' := (L.set ((t.b).toNat) true).map Value.bool) sz_4 rfl (congrArg Value.cells (rfl)) rfl rfl (by simp; omega) (splice_map (by first | omega | (simp only [List.length_set]; omega)))) (.inl (by kernel_rfl)) (fun _ _ => ?_)
              refine Wr.imp (L' := (refI r ts) :: (pt b3 46 [Value.int .u8 ((kk.kind : Nat) : Int), Value.int .i64 kk.n, Value.int .i64 kk.a, Value.int .i64 kk.b]) :: (pt b1 46 [Value.int .u8 ((t.kind : Nat) : Int), Value.int .i64 t.n, Value.int .i64 t.a, Value.int .i64 t.b]) :: (pt w 61 [Value.pointer (some ⟨r, 0, none⟩), Value.slice (some ⟨lb, 0, none⟩) m lc]) :: (slp 4 1 lb lc ((L.set ((t.b).toNat) true).map Value.bool)) :: F) (fun _ h => h) ?_
              refine Wr.rebaseS [] ((refI r ts) :: (pt b3 46 [Value.int .u8 ((kk.kind : Nat) : Int), Value.int .i64 kk.n, Value.int .i64 kk.a, Value.int .i64 kk.b]) :: (pt b1 46 [Value.int .u8 ((t.kind : Nat) : Int), Value.int .i64 t.n, Value.int .i64 t.a, Value.int .i64 t.b]) :: (pt w 61 [Value.pointer (some ⟨r, 0, none⟩), Value.slice (some ⟨lb, 0, none⟩) m lc]) :: (slp 4 1 lb lc ((L.set ((t.b).toNat) true).map Value.bool)) :: []) (by kernel_rfl) ?_
              refine Wr.done (by kernel_rfl) ?_
              refine Wx.blockEnd ?_
              refine Wx.go ?_
              refine Wc.seq ?_
              refine Wc.region ?_
              refine Wl.q (v := Value.bool true) (q_move rfl) ?_
              refine Wl.q (v := Value.bool true) (q_assign rfl) ?_
              refine Wl.done ?_
              refine Wx.go ?_
              refine Wc.ret ?_
              refine Wx.fin1 rfl (.inl rfl) (fun w hs => ?_)
              have e : gvR ts L n = ((L.set ((t.b).toNat) true), true) := by unfold gvR; rw [hat]; simp only; rw [if_neg (by omega), if_pos (by omega), hbn, if_pos hby2, Bool.eq_false_iff.2 hLb2]; rfl
              exact ⟨(), trivial, congrArg Value.bool (by rw [e]), by rw [e]; exact (st_pull [1, 1, 0] (st_drop (st_drop (st_pull [1, 1] hs))))⟩
          ·
            refine Wr.take (v := Value.bool false) 25 rfl (by kernel_rfl) (fun _ h => st_take [0, 0, 0, 0, 0] h) (.inl ⟨rfl, q_load sc_4 rfl (.row (i := 4) rfl (bool_no (by first | omega | (simp only [List.length_set]; omega)) hby2))⟩) ?_
            refine Wr.pure (v := Value.bool false) 26 rfl (by kernel_rfl) (.inr (fun _ h => st_take [0, 0, 0, 0, 0] h)) (.inl ⟨rfl, fun _ => q_pick (t := true) rfl rfl⟩) ?_
            refine Wr.pure (v := Value.bool false) 27 rfl (by kernel_rfl) (.inr (fun _ h => st_take [0, 0, 0, 0, 0] h)) (.inl ⟨rfl, fun _ => q_pick (t := false) rfl rfl⟩) ?_
            refine Wr.done (by kernel_rfl) ?_
            refine Wx.go ?_
            refine Wc.no rfl ?_
            refine Wc.skip ?_
            refine Wx.blockEnd ?_
            refine Wx.go ?_
            refine Wc.seq ?_
            refine Wc.region ?_
            refine Wl.q (v := Value.bool false) (q_move rfl) ?_
            refine Wl.q (v := Value.bool false) (q_assign rfl) ?_
            refine Wl.done ?_
            refine Wx.go ?_
            refine Wc.ret ?_
            refine Wx.fin1 rfl (.inl rfl) (fun w hs => ?_)
            have e : gvR ts L n = (L, false) := by unfold gvR; rw [hat]; simp only; rw [if_neg (by omega), if_pos (by omega), hbn, if_neg hby2]
            exact ⟨(), trivial, congrArg Value.bool (by rw [e]), by rw [e]; exact (st_pull [1, 1, 0] (st_drop (st_drop (st_pull [1, 1] hs))))⟩
    ·
      refine Wl.q (v := Value.bool false) (q_eql (r := false) rfl rfl (decide_eq_false hk6)) ?_
      refine Wl.q (v := Value.bool false) (q_assign rfl) ?_
      refine Wl.done ?_
      refine Wx.go ?_
      refine Wc.no rfl ?_
      refine Wc.skip ?_
      refine Wx.blockEnd ?_
      refine Wx.go ?_
      refine Wc.seq ?_
      refine Wc.region ?_
      refine Wl.q (v := Value.bool false) (q_move rfl) ?_
      refine Wl.q (v := Value.bool false) (q_assign rfl) ?_
      refine Wl.done ?_
      refine Wx.go ?_
      refine Wc.ret ?_
      refine Wx.fin1 rfl (.inl rfl) (fun w hs => ?_)
      have e : gvR ts L n = (L, false) := by unfold gvR; rw [hat]; simp only; rw [if_neg (by omega), if_neg (by omega)]
      exact ⟨(), trivial, congrArg Value.bool (by rw [e]), by rw [e]; exact (st_pull [1, 1, 0] (st_drop (st_pull [0] hs)))⟩

end Go.Proofs.Ytmghnmfhniohkaa
