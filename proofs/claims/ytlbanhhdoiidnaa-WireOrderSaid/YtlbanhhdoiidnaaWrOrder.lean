/- The wire: contracts of its calls. -/
import Derived.Test.YtlbanhhdoiidnaaWrE
namespace Go.Proofs.Ytlbanhhdoiidnaa
open Go Go.SL Go.Wr Go.RowKit
set_option linter.unusedVariables false

theorem order_law (W0 : World) (m n : Int) (hm1 : -9223372036854775808 ≤ m) (hm2 : m ≤ 9223372036854775807) (hn1 : -9223372036854775808 ≤ n) (hn2 : n ≤ 9223372036854775807) :
    Con Try.prog W0 3 #[Value.int .i64 m, Value.int .i64 n] [] (X := Unit) (fun _ => True) (fun _ => .bool true) (fun _ => []) := by
  refine Con.of (args := [Value.int .i64 m, Value.int .i64 n]) Try.func3 rfl Try.ntmps3 rfl (fun F => ?_)
  show Wc _ W0 _ _ _ _ _ (F)
  refine Wc.seq ?_
  refine Wc.region ?_
  refine Wl.q (v := Value.bool false) (q_assign rfl) ?_
  refine Wl.done ?_
  refine Wx.go ?_
  refine Wc.seq ?_
  refine Wc.region ?_
  refine Wl.e (e_call (F := F) (args := []) Try.call10 rfl (wnew_c W0)) (fun x _ => ?_)
  refine Wl.imp (L' := (isW x []) :: F) (fun _ h => h) ?_
  refine Wl.e (e_call (F := (isW x []) :: F) (args := []) Try.call10 rfl (wnew_c W0)) (fun y _ => ?_)
  refine Wl.imp (L' := (isW y []) :: (isW x []) :: F) (fun _ h => h) ?_
  refine Wl.q (v := Value.pointer (some ⟨x, 0, none⟩)) (q_assign rfl) ?_
  refine Wl.q (v := Value.pointer (some ⟨y, 0, none⟩)) (q_assign rfl) ?_
  refine Wl.done ?_
  refine Wx.go ?_
  refine Wc.seq ?_
  refine Wc.seq ?_
  refine Wc.region ?_
  refine Wl.q (v := Value.pointer (some ⟨x, 0, none⟩)) (q_move rfl) ?_
  refine Wl.q (v := Value.bool false) (q_eql_nil (r := false) rfl rfl Try.underlying22 rfl) ?_
  refine Wl.q (v := Value.bool false) (q_move rfl) ?_
  refine Wl.q (v := Value.pointer (some ⟨y, 0, none⟩)) (q_move rfl) ?_
  refine Wl.q (v := Value.bool false) (q_eql_nil (r := false) rfl rfl Try.underlying22 rfl) ?_
  refine Wl.q (v := Value.bool false) (q_pick (t := false) rfl rfl) ?_
  refine Wl.q (v := Value.bool false) (q_move rfl) ?_
  refine Wl.q (v := Value.pointer (some ⟨x, 0, none⟩)) (q_move rfl) ?_
  refine Wl.q (v := Value.int .i64 m) (q_move rfl) ?_
  refine Wl.imp (L' := (isW x []) :: (isW y []) :: F) (fun _ h => st_pull [1] h) ?_
  refine Wl.e (e_call (F := (isW y []) :: F) (args := [Value.pointer (some ⟨x, 0, none⟩), Value.int .i64 m]) Try.call11 rfl (Con.eqs (post' := fun _ => [isW x (enc (zz m))]) (wnumber_c W0 x [] m (by omega) (by omega) (by decide)) (fun _ => rfl) (fun _ => rfl))) (fun _ _ => ?_)
  refine Wl.imp (L' := (isW x (enc (zz m))) :: (isW y []) :: F) (fun _ h => h) ?_
  refine Wl.q (v := Value.bool false) (q_neq (r := true) rfl rfl (decide_eq_true (by decide))) ?_
  refine Wl.q (v := Value.bool false) (q_pick (t := false) rfl rfl) ?_
  refine Wl.q (v := Value.bool false) (q_move rfl) ?_
  refine Wl.q (v := Value.pointer (some ⟨y, 0, none⟩)) (q_move rfl) ?_
  refine Wl.q (v := Value.int .i64 n) (q_move rfl) ?_
  refine Wl.imp (L' := (isW y []) :: (isW x (enc (zz m))) :: F) (fun _ h => st_pull [1] h) ?_
  refine Wl.e (e_call (F := (isW x (enc (zz m))) :: F) (args := [Value.pointer (some ⟨y, 0, none⟩), Value.int .i64 n]) Try.call11 rfl (Con.eqs (post' := fun _ => [isW y (enc (zz n))]) (wnumber_c W0 y [] n (by omega) (by omega) (by decide)) (fun _ => rfl) (fun _ => rfl))) (fun _ _ => ?_)
  refine Wl.imp (L' := (isW y (enc (zz n))) :: (isW x (enc (zz m))) :: F) (fun _ h => h) ?_
  refine Wl.q (v := Value.bool false) (q_neq (r := true) rfl rfl (decide_eq_true (by decide))) ?_
  refine Wl.q (v := Value.bool false) (q_pick (t := false) rfl rfl) ?_
  refine Wl.done ?_
  refine Wx.go ?_
  refine Wc.no rfl ?_
  refine Wc.skip ?_
  refine Wx.go ?_
  refine Wc.seq ?_
  refine Wc.region ?_
  refine Wl.q (v := Value.pointer (some ⟨x, 0, none⟩)) (q_move rfl) ?_
  refine Wl.imp (L' := (isW x (enc (zz m))) :: (isW y (enc (zz n))) :: F) (fun _ h => st_pull [1] h) ?_
  refine Wl.e (e_call (F := (isW y (enc (zz n))) :: F) (args := [Value.pointer (some ⟨x, 0, none⟩)]) Try.call12 rfl (Con.eqs (val' := fun _ => .string (ba (enc (zz m)))) (wbytes_c W0 x (enc (zz m))) (fun _ => rfl) (fun _ => rfl))) (fun _ _ => ?_)
  refine Wl.imp (L' := (isW x (enc (zz m))) :: (isW y (enc (zz n))) :: F) (fun _ h => h) ?_
  refine Wl.q (v := Value.pointer (some ⟨y, 0, none⟩)) (q_move rfl) ?_
  refine Wl.imp (L' := (isW y (enc (zz n))) :: (isW x (enc (zz m))) :: F) (fun _ h => st_pull [1] h) ?_
  refine Wl.e (e_call (F := (isW x (enc (zz m))) :: F) (args := [Value.pointer (some ⟨y, 0, none⟩)]) Try.call12 rfl (Con.eqs (val' := fun _ => .string (ba (enc (zz n)))) (wbytes_c W0 y (enc (zz n))) (fun _ => rfl) (fun _ => rfl))) (fun _ _ => ?_)
  refine Wl.imp (L' := (isW y (enc (zz n))) :: (isW x (enc (zz m))) :: F) (fun _ h => h) ?_
  refine Wl.q (v := Value.string (ba (enc (zz m)))) (q_assign rfl) ?_
  refine Wl.q (v := Value.string (ba (enc (zz n)))) (q_assign rfl) ?_
  refine Wl.done ?_
  refine Wx.go ?_
  refine Wc.seq ?_
  refine Wc.region ?_
  refine Wl.q (v := Value.string (ba (enc (zz m)))) (q_move rfl) ?_
  refine Wl.q (v := Value.int .i64 (((ba (enc (zz m))).size : Nat) : Int)) (q_len_str Try.underlying9 rfl) ?_
  refine Wl.q (v := Value.string (ba (enc (zz n)))) (q_move rfl) ?_
  refine Wl.q (v := Value.int .i64 (((ba (enc (zz n))).size : Nat) : Int)) (q_len_str Try.underlying9 rfl) ?_
  refine Wl.q (v := Value.int .i64 (((min (ba (enc (zz m))).size (ba (enc (zz n))).size) : Nat) : Int)) (q_min (c := (((min (ba (enc (zz m))).size (ba (enc (zz n))).size) : Nat) : Int)) rfl rfl (by omega)) ?_
  refine Wl.q (v := Value.int .i64 (((min (ba (enc (zz m))).size (ba (enc (zz n))).size) : Nat) : Int)) (q_assign rfl) ?_
  refine Wl.done ?_
  refine Wx.go ?_
  refine Wc.seq ?_
  refine Wc.seq ?_
  refine Wc.drawsS [] ((isW y (enc (zz n))) :: (isW x (enc (zz m))) :: []) (by kernel_rfl) ?_
  refine Wr.pure (v := Value.string (ba (enc (zz m)))) 0 rfl (by kernel_rfl) (.inr (fun _ h => st_take [0, 0] h)) (.inl ⟨rfl, fun _ => q_move rfl⟩) ?_
  refine Wr.pure (v := Value.string (ba (enc (zz n)))) 1 rfl (by kernel_rfl) (.inr (fun _ h => st_take [0, 0] h)) (.inl ⟨rfl, fun _ => q_move rfl⟩) ?_
  by_cases hab : (ba (enc (zz m))) = (ba (enc (zz n)))
  ·
    refine Wr.pure (v := Value.bool true) 2 rfl (by kernel_rfl) (.inr (fun _ h => st_take [0, 0] h)) (.inl ⟨rfl, fun _ => q_eql_str (r := true) rfl rfl (text_true hab)⟩) ?_
    refine Wr.pure (v := Value.int .i64 m) 3 rfl (by kernel_rfl) (.inr (fun _ h => st_take [0, 0] h)) (.inl ⟨rfl, fun _ => q_move rfl⟩) ?_
    refine Wr.pure (v := Value.int .i64 n) 4 rfl (by kernel_rfl) (.inr (fun _ h => st_take [0, 0] h)) (.inl ⟨rfl, fun _ => q_move rfl⟩) ?_
    refine Wr.pure (v := Value.bool true) 5 rfl (by kernel_rfl) (.inr (fun _ h => st_take [0, 0] h)) (.inl ⟨rfl, fun _ => q_eql (r := true) rfl rfl (decide_eq_true (ord_eq hab))⟩) ?_
    refine Wr.pure (v := Value.bool false) 6 rfl (by kernel_rfl) (.inr (fun _ h => st_take [0, 0] h)) (.inl ⟨rfl, fun _ => q_neq_bool (r := true) rfl rfl Try.underlying4 rfl⟩) ?_
    refine Wr.pure (v := Value.bool false) 7 rfl (by kernel_rfl) (.inr (fun _ h => st_take [0, 0] h)) (.inl ⟨rfl, fun _ => q_move rfl⟩) ?_
    refine Wr.pure (v := Value.int .i64 m) 8 rfl (by kernel_rfl) (.inr (fun _ h => st_take [0, 0] h)) (.inl ⟨rfl, fun _ => q_move rfl⟩) ?_
    refine Wr.pure (v := Value.int .i64 n) 9 rfl (by kernel_rfl) (.inr (fun _ h => st_take [0, 0] h)) (.inl ⟨rfl, fun _ => q_move rfl⟩) ?_
    refine Wr.pure (v := Value.bool false) 10 rfl (by kernel_rfl) (.inr (fun _ h => st_take [0, 0] h)) (.inl ⟨rfl, fun _ => q_neq (r := true) rfl rfl (decide_eq_true (ord_eq hab))⟩) ?_
    refine Wr.pure (v := Value.bool false) 11 rfl (by kernel_rfl) (.inr (fun _ h => st_take [0, 0] h)) (.inl ⟨rfl, fun _ => q_move rfl⟩) ?_
    refine Wr.pure (v := undef) 12 rfl (by kernel_rfl) (.inr (fun _ h => st_take [0, 0] h)) (.inr ⟨rfl, rfl⟩) ?_
    refine Wr.pure (v := undef) 13 rfl (by kernel_rfl) (.inr (fun _ h => st_take [0, 0] h)) (.inr ⟨rfl, rfl⟩) ?_
    refine Wr.pure (v := undef) 14 rfl (by kernel_rfl) (.inr (fun _ h => st_take [0, 0] h)) (.inr ⟨rfl, rfl⟩) ?_
    refine Wr.pure (v := undef) 15 rfl (by kernel_rfl) (.inr (fun _ h => st_take [0, 0] h)) (.inr ⟨rfl, rfl⟩) ?_
    refine Wr.pure (v := undef) 16 rfl (by kernel_rfl) (.inr (fun _ h => st_take [0, 0] h)) (.inr ⟨rfl, rfl⟩) ?_
    refine Wr.pure (v := undef) 17 rfl (by kernel_rfl) (.inr (fun _ h => st_take [0, 0] h)) (.inr ⟨rfl, rfl⟩) ?_
    refine Wr.pure (v := undef) 18 rfl (by kernel_rfl) (.inr (fun _ h => st_take [0, 0] h)) (.inr ⟨rfl, rfl⟩) ?_
    refine Wr.pure (v := Value.bool false) 19 rfl (by kernel_rfl) (.inr (fun _ h => st_take [0, 0] h)) (.inl ⟨rfl, fun _ => q_pick (t := false) rfl rfl⟩) ?_
    refine Wr.pure (v := Value.bool false) 20 rfl (by kernel_rfl) (.inr (fun _ h => st_take [0, 0] h)) (.inl ⟨rfl, fun _ => q_pick (t := false) rfl rfl⟩) ?_
    refine Wr.pure (v := Value.bool false) 21 rfl (by kernel_rfl) (.inr (fun _ h => st_take [0, 0] h)) (.inl ⟨rfl, fun _ => q_move rfl⟩) ?_
    refine Wr.pure (v := Value.string (ba (enc (zz m)))) 22 rfl (by kernel_rfl) (.inr (fun _ h => st_take [0, 0] h)) (.inl ⟨rfl, fun _ => q_move rfl⟩) ?_
    refine Wr.take (v := Value.int .i64 (((ba (enc (zz m))).size : Nat) : Int)) 23 rfl (by kernel_rfl) (fun _ h => st_take [0, 0] h) (.inl ⟨rfl, q_len_str Try.underlying9 rfl⟩) ?_
    refine Wr.pure (v := Value.bool false) 24 rfl (by kernel_rfl) (.inr (fun _ h => st_take [0, 0] h)) (.inl ⟨rfl, fun _ => q_lss (r := false) rfl rfl (decide_eq_false (by have := ord_len hm1 hm2; omega))⟩) ?_
    refine Wr.pure (v := Value.bool false) 25 rfl (by kernel_rfl) (.inr (fun _ h => st_take [0, 0] h)) (.inl ⟨rfl, fun _ => q_pick (t := false) rfl rfl⟩) ?_
    refine Wr.pure (v := Value.bool false) 26 rfl (by kernel_rfl) (.inr (fun _ h => st_take [0, 0] h)) (.inl ⟨rfl, fun _ => q_move rfl⟩) ?_
    refine Wr.pure (v := Value.string (ba (enc (zz m)))) 27 rfl (by kernel_rfl) (.inr (fun _ h => st_take [0, 0] h)) (.inl ⟨rfl, fun _ => q_move rfl⟩) ?_
    refine Wr.take (v := Value.int .i64 (((ba (enc (zz m))).size : Nat) : Int)) 28 rfl (by kernel_rfl) (fun _ h => st_take [0, 0] h) (.inl ⟨rfl, q_len_str Try.underlying9 rfl⟩) ?_
    refine Wr.pure (v := Value.bool false) 29 rfl (by kernel_rfl) (.inr (fun _ h => st_take [0, 0] h)) (.inl ⟨rfl, fun _ => q_gtr (r := false) rfl rfl (decide_eq_false (by have := ord_len hm1 hm2; omega))⟩) ?_
    refine Wr.pure (v := Value.bool false) 30 rfl (by kernel_rfl) (.inr (fun _ h => st_take [0, 0] h)) (.inl ⟨rfl, fun _ => q_pick (t := false) rfl rfl⟩) ?_
    refine Wr.done (by kernel_rfl) ?_
    refine Wx.go ?_
    refine Wc.no rfl ?_
    refine Wc.skip ?_
    refine Wx.go ?_
    refine Wc.seq ?_
    refine Wc.region ?_
    refine Wl.q (v := Value.int .i64 m) (q_move rfl) ?_
    by_cases hm0 : m < 0
    ·
      refine Wl.q (v := Value.bool true) (q_lss (r := true) rfl rfl (decide_eq_true hm0)) ?_
      refine Wl.q (v := Value.bool true) (q_move rfl) ?_
      refine Wl.no ?_
      refine Wl.no ?_
      refine Wl.no ?_
      refine Wl.q (v := Value.bool true) (q_pick (t := true) rfl rfl) ?_
      refine Wl.q (v := Value.bool true) (q_move rfl) ?_
      refine Wl.no ?_
      refine Wl.no ?_
      refine Wl.no ?_
      refine Wl.no ?_
      refine Wl.no ?_
      refine Wl.q (v := Value.bool true) (q_pick (t := true) rfl rfl) ?_
      refine Wl.q (v := Value.bool true) (q_move rfl) ?_
      refine Wl.e (e_call (F := (isW y (enc (zz n))) :: (isW x (enc (zz m))) :: F) (args := []) Try.call13 rfl (alive_c W0)) (fun _ _ => ?_)
      refine Wl.imp (L' := (isW y (enc (zz n))) :: (isW x (enc (zz m))) :: F) (fun _ h => h) ?_
      refine Wl.q (v := Value.bool true) (q_pick (t := true) rfl rfl) ?_
      refine Wl.q (v := Value.bool true) (q_assign rfl) ?_
      refine Wl.done ?_
      refine Wx.go ?_
      refine Wc.ret ?_
      refine Wx.fin1 rfl (.inl rfl) (fun w hs => ?_)
      exact ⟨(), trivial, rfl, (st_drop (st_drop (st_pull [0, 0] hs)))⟩
    ·
      refine Wl.q (v := Value.bool false) (q_lss (r := false) rfl rfl (decide_eq_false hm0)) ?_
      refine Wl.q (v := Value.bool false) (q_move rfl) ?_
      refine Wl.q (v := Value.int .i64 n) (q_move rfl) ?_
      refine Wl.q (v := Value.int .i64 m) (q_move rfl) ?_
      by_cases hnm : n < m
      ·
        refine Wl.q (v := Value.bool true) (q_lss (r := true) rfl rfl (decide_eq_true hnm)) ?_
        refine Wl.q (v := Value.bool true) (q_pick (t := false) rfl rfl) ?_
        refine Wl.q (v := Value.bool true) (q_move rfl) ?_
        refine Wl.no ?_
        refine Wl.no ?_
        refine Wl.no ?_
        refine Wl.no ?_
        refine Wl.no ?_
        refine Wl.q (v := Value.bool true) (q_pick (t := true) rfl rfl) ?_
        refine Wl.q (v := Value.bool true) (q_move rfl) ?_
        refine Wl.e (e_call (F := (isW y (enc (zz n))) :: (isW x (enc (zz m))) :: F) (args := []) Try.call13 rfl (alive_c W0)) (fun _ _ => ?_)
        refine Wl.imp (L' := (isW y (enc (zz n))) :: (isW x (enc (zz m))) :: F) (fun _ h => h) ?_
        refine Wl.q (v := Value.bool true) (q_pick (t := true) rfl rfl) ?_
        refine Wl.q (v := Value.bool true) (q_assign rfl) ?_
        refine Wl.done ?_
        refine Wx.go ?_
        refine Wc.ret ?_
        refine Wx.fin1 rfl (.inl rfl) (fun w hs => ?_)
        exact ⟨(), trivial, rfl, (st_drop (st_drop (st_pull [0, 0] hs)))⟩
      ·
        refine Wl.q (v := Value.bool false) (q_lss (r := false) rfl rfl (decide_eq_false hnm)) ?_
        refine Wl.q (v := Value.bool false) (q_pick (t := false) rfl rfl) ?_
        refine Wl.q (v := Value.bool false) (q_move rfl) ?_
        refine Wl.q (v := Value.string (ba (enc (zz n)))) (q_move rfl) ?_
        refine Wl.q (v := Value.int .i64 (((ba (enc (zz n))).size : Nat) : Int)) (q_len_str Try.underlying9 rfl) ?_
        refine Wl.q (v := Value.string (ba (enc (zz m)))) (q_move rfl) ?_
        refine Wl.q (v := Value.int .i64 (((ba (enc (zz m))).size : Nat) : Int)) (q_len_str Try.underlying9 rfl) ?_
        refine Wl.q (v := Value.bool true) (q_geq (r := true) rfl rfl (decide_eq_true (by have := ord_mono hm0 hnm; omega))) ?_
        refine Wl.q (v := Value.bool true) (q_pick (t := false) rfl rfl) ?_
        refine Wl.q (v := Value.bool true) (q_move rfl) ?_
        refine Wl.e (e_call (F := (isW y (enc (zz n))) :: (isW x (enc (zz m))) :: F) (args := []) Try.call13 rfl (alive_c W0)) (fun _ _ => ?_)
        refine Wl.imp (L' := (isW y (enc (zz n))) :: (isW x (enc (zz m))) :: F) (fun _ h => h) ?_
        refine Wl.q (v := Value.bool true) (q_pick (t := true) rfl rfl) ?_
        refine Wl.q (v := Value.bool true) (q_assign rfl) ?_
        refine Wl.done ?_
        refine Wx.go ?_
        refine Wc.ret ?_
        refine Wx.fin1 rfl (.inl rfl) (fun w hs => ?_)
        exact ⟨(), trivial, rfl, (st_drop (st_drop (st_pull [0, 0] hs)))⟩
  ·
    refine Wr.pure (v := Value.bool false) 2 rfl (by kernel_rfl) (.inr (fun _ h => st_take [0, 0] h)) (.inl ⟨rfl, fun _ => q_eql_str (r := false) rfl rfl (text_false hab)⟩) ?_
    refine Wr.pure (v := Value.int .i64 m) 3 rfl (by kernel_rfl) (.inr (fun _ h => st_take [0, 0] h)) (.inl ⟨rfl, fun _ => q_move rfl⟩) ?_
    refine Wr.pure (v := Value.int .i64 n) 4 rfl (by kernel_rfl) (.inr (fun _ h => st_take [0, 0] h)) (.inl ⟨rfl, fun _ => q_move rfl⟩) ?_
    refine Wr.pure (v := Value.bool false) 5 rfl (by kernel_rfl) (.inr (fun _ h => st_take [0, 0] h)) (.inl ⟨rfl, fun _ => q_eql (r := false) rfl rfl (decide_eq_false (fun h => hab (by rw [h])))⟩) ?_
    refine Wr.pure (v := Value.bool false) 6 rfl (by kernel_rfl) (.inr (fun _ h => st_take [0, 0] h)) (.inl ⟨rfl, fun _ => q_neq_bool (r := true) rfl rfl Try.underlying4 rfl⟩) ?_
    refine Wr.pure (v := Value.bool false) 7 rfl (by kernel_rfl) (.inr (fun _ h => st_take [0, 0] h)) (.inl ⟨rfl, fun _ => q_move rfl⟩) ?_
    refine Wr.pure (v := Value.int .i64 m) 8 rfl (by kernel_rfl) (.inr (fun _ h => st_take [0, 0] h)) (.inl ⟨rfl, fun _ => q_move rfl⟩) ?_
    refine Wr.pure (v := Value.int .i64 n) 9 rfl (by kernel_rfl) (.inr (fun _ h => st_take [0, 0] h)) (.inl ⟨rfl, fun _ => q_move rfl⟩) ?_
    refine Wr.pure (v := Value.bool true) 10 rfl (by kernel_rfl) (.inr (fun _ h => st_take [0, 0] h)) (.inl ⟨rfl, fun _ => q_neq (r := false) rfl rfl (decide_eq_false (fun h => hab (by rw [h])))⟩) ?_
    refine Wr.pure (v := Value.bool true) 11 rfl (by kernel_rfl) (.inr (fun _ h => st_take [0, 0] h)) (.inl ⟨rfl, fun _ => q_move rfl⟩) ?_
    refine Wr.pure (v := Value.string (ba (enc (zz m)))) 12 rfl (by kernel_rfl) (.inr (fun _ h => st_take [0, 0] h)) (.inl ⟨rfl, fun _ => q_move rfl⟩) ?_
    refine Wr.pure (v := Value.int .i64 (((min (ba (enc (zz m))).size (ba (enc (zz n))).size) : Nat) : Int)) 13 rfl (by kernel_rfl) (.inr (fun _ h => st_take [0, 0] h)) (.inl ⟨rfl, fun _ => q_move rfl⟩) ?_
    refine Wr.pure (v := Value.string ((ba (enc (zz m))).extract 0 (min (ba (enc (zz m))).size (ba (enc (zz n))).size))) 14 rfl (by kernel_rfl) (.inr (fun _ h => st_take [0, 0] h)) (.inl ⟨rfl, fun _ => q_slice_str (l := 0) (h := (min (ba (enc (zz m))).size (ba (enc (zz n))).size)) Try.underlying9 rfl rfl ⟨_, rfl⟩ (by omega) (by omega) rfl⟩) ?_
    refine Wr.pure (v := Value.string (ba (enc (zz n)))) 15 rfl (by kernel_rfl) (.inr (fun _ h => st_take [0, 0] h)) (.inl ⟨rfl, fun _ => q_move rfl⟩) ?_
    refine Wr.pure (v := Value.int .i64 (((min (ba (enc (zz m))).size (ba (enc (zz n))).size) : Nat) : Int)) 16 rfl (by kernel_rfl) (.inr (fun _ h => st_take [0, 0] h)) (.inl ⟨rfl, fun _ => q_move rfl⟩) ?_
    refine Wr.pure (v := Value.string ((ba (enc (zz n))).extract 0 (min (ba (enc (zz m))).size (ba (enc (zz n))).size))) 17 rfl (by kernel_rfl) (.inr (fun _ h => st_take [0, 0] h)) (.inl ⟨rfl, fun _ => q_slice_str (l := 0) (h := (min (ba (enc (zz m))).size (ba (enc (zz n))).size)) Try.underlying9 rfl rfl ⟨_, rfl⟩ (by omega) (by omega) rfl⟩) ?_
    refine Wr.pure (v := Value.bool false) 18 rfl (by kernel_rfl) (.inr (fun _ h => st_take [0, 0] h)) (.inl ⟨rfl, fun _ => q_eql_str (r := false) rfl rfl (text_false (ord_pre (fun h => hab (by rw [h]))))⟩) ?_
    refine Wr.pure (v := Value.bool false) 19 rfl (by kernel_rfl) (.inr (fun _ h => st_take [0, 0] h)) (.inl ⟨rfl, fun _ => q_pick (t := true) rfl rfl⟩) ?_
    refine Wr.pure (v := Value.bool false) 20 rfl (by kernel_rfl) (.inr (fun _ h => st_take [0, 0] h)) (.inl ⟨rfl, fun _ => q_pick (t := false) rfl rfl⟩) ?_
    refine Wr.pure (v := Value.bool false) 21 rfl (by kernel_rfl) (.inr (fun _ h => st_take [0, 0] h)) (.inl ⟨rfl, fun _ => q_move rfl⟩) ?_
    refine Wr.pure (v := Value.string (ba (enc (zz m)))) 22 rfl (by kernel_rfl) (.inr (fun _ h => st_take [0, 0] h)) (.inl ⟨rfl, fun _ => q_move rfl⟩) ?_
    refine Wr.take (v := Value.int .i64 (((ba (enc (zz m))).size : Nat) : Int)) 23 rfl (by kernel_rfl) (fun _ h => st_take [0, 0] h) (.inl ⟨rfl, q_len_str Try.underlying9 rfl⟩) ?_
    refine Wr.pure (v := Value.bool false) 24 rfl (by kernel_rfl) (.inr (fun _ h => st_take [0, 0] h)) (.inl ⟨rfl, fun _ => q_lss (r := false) rfl rfl (decide_eq_false (by have := ord_len hm1 hm2; omega))⟩) ?_
    refine Wr.pure (v := Value.bool false) 25 rfl (by kernel_rfl) (.inr (fun _ h => st_take [0, 0] h)) (.inl ⟨rfl, fun _ => q_pick (t := false) rfl rfl⟩) ?_
    refine Wr.pure (v := Value.bool false) 26 rfl (by kernel_rfl) (.inr (fun _ h => st_take [0, 0] h)) (.inl ⟨rfl, fun _ => q_move rfl⟩) ?_
    refine Wr.pure (v := Value.string (ba (enc (zz m)))) 27 rfl (by kernel_rfl) (.inr (fun _ h => st_take [0, 0] h)) (.inl ⟨rfl, fun _ => q_move rfl⟩) ?_
    refine Wr.take (v := Value.int .i64 (((ba (enc (zz m))).size : Nat) : Int)) 28 rfl (by kernel_rfl) (fun _ h => st_take [0, 0] h) (.inl ⟨rfl, q_len_str Try.underlying9 rfl⟩) ?_
    refine Wr.pure (v := Value.bool false) 29 rfl (by kernel_rfl) (.inr (fun _ h => st_take [0, 0] h)) (.inl ⟨rfl, fun _ => q_gtr (r := false) rfl rfl (decide_eq_false (by have := ord_len hm1 hm2; omega))⟩) ?_
    refine Wr.pure (v := Value.bool false) 30 rfl (by kernel_rfl) (.inr (fun _ h => st_take [0, 0] h)) (.inl ⟨rfl, fun _ => q_pick (t := false) rfl rfl⟩) ?_
    refine Wr.done (by kernel_rfl) ?_
    refine Wx.go ?_
    refine Wc.no rfl ?_
    refine Wc.skip ?_
    refine Wx.go ?_
    refine Wc.seq ?_
    refine Wc.region ?_
    refine Wl.q (v := Value.int .i64 m) (q_move rfl) ?_
    by_cases hm0 : m < 0
    ·
      refine Wl.q (v := Value.bool true) (q_lss (r := true) rfl rfl (decide_eq_true hm0)) ?_
      refine Wl.q (v := Value.bool true) (q_move rfl) ?_
      refine Wl.no ?_
      refine Wl.no ?_
      refine Wl.no ?_
      refine Wl.q (v := Value.bool true) (q_pick (t := true) rfl rfl) ?_
      refine Wl.q (v := Value.bool true) (q_move rfl) ?_
      refine Wl.no ?_
      refine Wl.no ?_
      refine Wl.no ?_
      refine Wl.no ?_
      refine Wl.no ?_
      refine Wl.q (v := Value.bool true) (q_pick (t := true) rfl rfl) ?_
      refine Wl.q (v := Value.bool true) (q_move rfl) ?_
      refine Wl.e (e_call (F := (isW y (enc (zz n))) :: (isW x (enc (zz m))) :: F) (args := []) Try.call13 rfl (alive_c W0)) (fun _ _ => ?_)
      refine Wl.imp (L' := (isW y (enc (zz n))) :: (isW x (enc (zz m))) :: F) (fun _ h => h) ?_
      refine Wl.q (v := Value.bool true) (q_pick (t := true) rfl rfl) ?_
      refine Wl.q (v := Value.bool true) (q_assign rfl) ?_
      refine Wl.done ?_
      refine Wx.go ?_
      refine Wc.ret ?_
      refine Wx.fin1 rfl (.inl rfl) (fun w hs => ?_)
      exact ⟨(), trivial, rfl, (st_drop (st_drop (st_pull [0, 0] hs)))⟩
    ·
      refine Wl.q (v := Value.bool false) (q_lss (r := false) rfl rfl (decide_eq_false hm0)) ?_
      refine Wl.q (v := Value.bool false) (q_move rfl) ?_
      refine Wl.q (v := Value.int .i64 n) (q_move rfl) ?_
      refine Wl.q (v := Value.int .i64 m) (q_move rfl) ?_
      by_cases hnm : n < m
      ·
        refine Wl.q (v := Value.bool true) (q_lss (r := true) rfl rfl (decide_eq_true hnm)) ?_
        refine Wl.q (v := Value.bool true) (q_pick (t := false) rfl rfl) ?_
        refine Wl.q (v := Value.bool true) (q_move rfl) ?_
        refine Wl.no ?_
        refine Wl.no ?_
        refine Wl.no ?_
        refine Wl.no ?_
        refine Wl.no ?_
        refine Wl.q (v := Value.bool true) (q_pick (t := true) rfl rfl) ?_
        refine Wl.q (v := Value.bool true) (q_move rfl) ?_
        refine Wl.e (e_call (F := (isW y (enc (zz n))) :: (isW x (enc (zz m))) :: F) (args := []) Try.call13 rfl (alive_c W0)) (fun _ _ => ?_)
        refine Wl.imp (L' := (isW y (enc (zz n))) :: (isW x (enc (zz m))) :: F) (fun _ h => h) ?_
        refine Wl.q (v := Value.bool true) (q_pick (t := true) rfl rfl) ?_
        refine Wl.q (v := Value.bool true) (q_assign rfl) ?_
        refine Wl.done ?_
        refine Wx.go ?_
        refine Wc.ret ?_
        refine Wx.fin1 rfl (.inl rfl) (fun w hs => ?_)
        exact ⟨(), trivial, rfl, (st_drop (st_drop (st_pull [0, 0] hs)))⟩
      ·
        refine Wl.q (v := Value.bool false) (q_lss (r := false) rfl rfl (decide_eq_false hnm)) ?_
        refine Wl.q (v := Value.bool false) (q_pick (t := false) rfl rfl) ?_
        refine Wl.q (v := Value.bool false) (q_move rfl) ?_
        refine Wl.q (v := Value.string (ba (enc (zz n)))) (q_move rfl) ?_
        refine Wl.q (v := Value.int .i64 (((ba (enc (zz n))).size : Nat) : Int)) (q_len_str Try.underlying9 rfl) ?_
        refine Wl.q (v := Value.string (ba (enc (zz m)))) (q_move rfl) ?_
        refine Wl.q (v := Value.int .i64 (((ba (enc (zz m))).size : Nat) : Int)) (q_len_str Try.underlying9 rfl) ?_
        refine Wl.q (v := Value.bool true) (q_geq (r := true) rfl rfl (decide_eq_true (by have := ord_mono hm0 hnm; omega))) ?_
        refine Wl.q (v := Value.bool true) (q_pick (t := false) rfl rfl) ?_
        refine Wl.q (v := Value.bool true) (q_move rfl) ?_
        refine Wl.e (e_call (F := (isW y (enc (zz n))) :: (isW x (enc (zz m))) :: F) (args := []) Try.call13 rfl (alive_c W0)) (fun _ _ => ?_)
        refine Wl.imp (L' := (isW y (enc (zz n))) :: (isW x (enc (zz m))) :: F) (fun _ h => h) ?_
        refine Wl.q (v := Value.bool true) (q_pick (t := true) rfl rfl) ?_
        refine Wl.q (v := Value.bool true) (q_assign rfl) ?_
        refine Wl.done ?_
        refine Wx.go ?_
        refine Wc.ret ?_
        refine Wx.fin1 rfl (.inl rfl) (fun w hs => ?_)
        exact ⟨(), trivial, rfl, (st_drop (st_drop (st_pull [0, 0] hs)))⟩

end Go.Proofs.Ytlbanhhdoiidnaa
