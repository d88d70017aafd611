/- Contracts of the calls. -/
import Derived.Test.YtnhejdnigblnoaaJnT
namespace Go.Proofs.Ytnhejdnigblnoaa
open Go Go.SL Go.Dk Go.Jn Go.RowKit
set_option linter.unusedVariables false
set_option maxRecDepth 8000

theorem rcost_c (W0 : World) (n : Int) (hhi : n ≤ 9223372036854775807) :
    Con Try.prog W0 15 #[Value.int .i64 n] [] (X := Unit) (fun _ => True) (fun _ => .tuple #[.int .i64 (cost n).1, .int .i64 (cost n).2]) (fun _ => []) := by
  refine Con.of (args := [Value.int .i64 n]) Try.func15 rfl Try.ntmps15 rfl (fun F => ?_)
  show Wc _ W0 _ _ _ _ _ (F)
  refine Wc.seq ?_
  refine Wc.region ?_
  refine Wl.q (v := Value.int .i64 0) (q_assign rfl) ?_
  refine Wl.q (v := Value.int .i64 0) (q_assign rfl) ?_
  refine Wl.done ?_
  refine Wx.go ?_
  refine Wc.seq ?_
  refine Wc.seq ?_
  refine Wc.region ?_
  refine Wl.q (v := Value.int .i64 n) (q_move rfl) ?_
  by_cases hn : n < 0
  ·
    refine Wl.q (v := Value.bool true) (q_lss (r := true) rfl rfl (decide_eq_true hn)) ?_
    refine Wl.done ?_
    refine Wx.go ?_
    refine Wc.yes rfl ?_
    refine Wc.seq ?_
    refine Wc.region ?_
    refine Wl.q (v := Value.int .i64 0) (q_assign rfl) ?_
    refine Wl.q (v := Value.int .i64 1) (q_assign rfl) ?_
    refine Wl.done ?_
    refine Wx.go ?_
    refine Wc.ret ?_
    refine Wx.thenRet ?_
    refine Wx.fin2 rfl (.inl rfl) (fun w hs => ?_)
    exact ⟨(), trivial, (by rw [cost, if_pos hn]; rfl), hs⟩
  ·
    refine Wl.q (v := Value.bool false) (q_lss (r := false) rfl rfl (decide_eq_false hn)) ?_
    refine Wl.done ?_
    refine Wx.go ?_
    refine Wc.no rfl ?_
    refine Wc.skip ?_
    refine Wx.go ?_
    refine Wc.seq ?_
    refine Wc.region ?_
    refine Wl.q (v := Value.int .i64 n) (q_move rfl) ?_
    refine Wl.q (v := Value.int .i64 (n / 64)) (q_quo (c := (n / 64)) rfl rfl (by decide) (by rw [tdiv64 (Int.not_lt.1 hn)]; exact wrap_i64 (by omega) (by omega))) ?_
    refine Wl.q (v := Value.int .i64 (n / 64)) (q_assign rfl) ?_
    refine Wl.done ?_
    refine Wx.go ?_
    refine Wc.seq ?_
    refine Wc.seq ?_
    refine Wc.region ?_
    refine Wl.q (v := Value.int .i64 n) (q_move rfl) ?_
    refine Wl.q (v := Value.int .i64 (n % 64)) (q_rem (c := (n % 64)) rfl rfl (by decide) (tmod64 (Int.not_lt.1 hn))) ?_
    by_cases hr : (n % 64) > 0
    ·
      refine Wl.q (v := Value.bool true) (q_gtr (r := true) rfl rfl (decide_eq_true hr)) ?_
      refine Wl.done ?_
      refine Wx.go ?_
      refine Wc.yes rfl ?_
      refine Wc.region ?_
      refine Wl.q (v := Value.int .i64 (n / 64)) (q_move rfl) ?_
      refine Wl.q (v := Value.int .i64 ((n / 64) + 1)) (q_add (c := ((n / 64) + 1)) rfl rfl (wrap_i64 (by omega) (by omega))) ?_
      refine Wl.q (v := Value.int .i64 ((n / 64) + 1)) (q_assign rfl) ?_
      refine Wl.done ?_
      refine Wx.go ?_
      refine Wc.seq ?_
      refine Wc.region ?_
      refine Wl.q (v := Value.int .i64 ((n / 64) + 1)) (q_move rfl) ?_
      refine Wl.q (v := Value.int .i64 (((n / 64) + 1) + 3)) (q_add (c := (((n / 64) + 1) + 3)) rfl rfl (wrap_i64 (by omega) (by omega))) ?_
      refine Wl.q (v := Value.int .i64 (((n / 64) + 1) + 3)) (q_assign rfl) ?_
      refine Wl.q (v := Value.int .i64 0) (q_assign rfl) ?_
      refine Wl.done ?_
      refine Wx.go ?_
      refine Wc.ret ?_
      refine Wx.fin2 rfl (.inl rfl) (fun w hs => ?_)
      have e : n / 64 + 1 + 3 = (n + 63) / 64 + 3 := by omega
      exact ⟨(), trivial, (by rw [cost, if_neg hn, ← e]; rfl), hs⟩
    ·
      refine Wl.q (v := Value.bool false) (q_gtr (r := false) rfl rfl (decide_eq_false hr)) ?_
      refine Wl.done ?_
      refine Wx.go ?_
      refine Wc.no rfl ?_
      refine Wc.skip ?_
      refine Wx.go ?_
      refine Wc.seq ?_
      refine Wc.region ?_
      refine Wl.q (v := Value.int .i64 (n / 64)) (q_move rfl) ?_
      refine Wl.q (v := Value.int .i64 ((n / 64) + 3)) (q_add (c := ((n / 64) + 3)) rfl rfl (wrap_i64 (by omega) (by omega))) ?_
      refine Wl.q (v := Value.int .i64 ((n / 64) + 3)) (q_assign rfl) ?_
      refine Wl.q (v := Value.int .i64 0) (q_assign rfl) ?_
      refine Wl.done ?_
      refine Wx.go ?_
      refine Wc.ret ?_
      refine Wx.fin2 rfl (.inl rfl) (fun w hs => ?_)
      have e : n / 64 + 3 = (n + 63) / 64 + 3 := by omega
      exact ⟨(), trivial, (by rw [cost, if_neg hn, ← e]; rfl), hs⟩

theorem costs_out (W0 : World) (n : Int) (hlo : -9223372036854775808 ≤ n) (hhi : n ≤ 9223372036854775807) (ok0 : Ok (List.replicate 64 noughts) ByteArray.empty 0) (h : n < 0 ∨ n > 1984) :
    Con Try.prog W0 4 #[Value.int .i64 n] [] (X := Unit) (fun _ => True) (fun _ => .bool true) (fun _ => []) := by
  refine Con.of (args := [Value.int .i64 n]) Try.func4 rfl Try.ntmps4 rfl (fun F => ?_)
  show Wc _ W0 _ _ _ _ _ (F)
  refine Wc.seq ?_
  refine Wc.region ?_
  refine Wl.q (v := Value.bool false) (q_assign rfl) ?_
  refine Wl.done ?_
  refine Wx.go ?_
  refine Wc.seq ?_
  refine Wc.region ?_
  refine Wl.q (v := Value.int .i64 n) (q_move rfl) ?_
  refine Wl.e (e_call (F := F) (args := [Value.int .i64 n]) Try.call14 rfl (cost_c W0 n (by omega))) (fun _ _ => ?_)
  refine Wl.imp (L' := F) (fun _ h => h) ?_
  refine Wl.q (v := Value.tuple #[Value.int .i64 ((cost n).1), Value.int .i64 ((cost n).2)]) (q_move rfl) ?_
  refine Wl.q (v := Value.int .i64 ((cost n).1)) (q_extract (i := 0) rfl rfl) ?_
  refine Wl.q (v := Value.int .i64 ((cost n).2)) (q_extract (i := 1) rfl rfl) ?_
  refine Wl.q (v := Value.int .i64 ((cost n).1)) (q_assign rfl) ?_
  refine Wl.q (v := Value.int .i64 ((cost n).2)) (q_assign rfl) ?_
  refine Wl.done ?_
  refine Wx.go ?_
  refine Wc.seq ?_
  refine Wc.region ?_
  refine Wl.q (v := Value.int .i64 n) (q_move rfl) ?_
  refine Wl.e (e_call (F := F) (args := [Value.int .i64 n]) Try.call15 rfl (rcost_c W0 n (by omega))) (fun _ _ => ?_)
  refine Wl.imp (L' := F) (fun _ h => h) ?_
  refine Wl.q (v := Value.tuple #[Value.int .i64 ((cost n).1), Value.int .i64 ((cost n).2)]) (q_move rfl) ?_
  refine Wl.q (v := Value.int .i64 ((cost n).1)) (q_extract (i := 0) rfl rfl) ?_
  refine Wl.q (v := Value.int .i64 ((cost n).2)) (q_extract (i := 1) rfl rfl) ?_
  refine Wl.q (v := Value.int .i64 ((cost n).1)) (q_assign rfl) ?_
  refine Wl.q (v := Value.int .i64 ((cost n).2)) (q_assign rfl) ?_
  refine Wl.done ?_
  refine Wx.go ?_
  refine Wc.seq ?_
  refine Wc.seq ?_
  refine Wc.region ?_
  refine Wl.q (v := Value.int .i64 ((cost n).1)) (q_move rfl) ?_
  refine Wl.q (v := Value.int .i64 ((cost n).1)) (q_move rfl) ?_
  refine Wl.q (v := Value.bool false) (q_neq (r := true) rfl rfl (decide_eq_true (rfl))) ?_
  refine Wl.q (v := Value.bool false) (q_move rfl) ?_
  refine Wl.q (v := Value.int .i64 ((cost n).2)) (q_move rfl) ?_
  refine Wl.q (v := Value.int .i64 ((cost n).2)) (q_move rfl) ?_
  refine Wl.q (v := Value.bool false) (q_neq (r := true) rfl rfl (decide_eq_true (rfl))) ?_
  refine Wl.q (v := Value.bool false) (q_pick (t := false) rfl rfl) ?_
  refine Wl.done ?_
  refine Wx.go ?_
  refine Wc.no rfl ?_
  refine Wc.skip ?_
  refine Wx.go ?_
  refine Wc.seq ?_
  refine Wc.seq ?_
  refine Wc.region ?_
  refine Wl.q (v := Value.int .i64 n) (q_move rfl) ?_
  by_cases hneg : n < 0
  ·
    refine Wl.q (v := Value.bool true) (q_lss (r := true) rfl rfl (decide_eq_true hneg)) ?_
    refine Wl.q (v := Value.bool true) (q_move rfl) ?_
    refine Wl.no ?_
    refine Wl.no ?_
    refine Wl.q (v := Value.bool true) (q_pick (t := true) rfl rfl) ?_
    refine Wl.done ?_
    refine Wx.go ?_
    refine Wc.yes rfl ?_
    refine Wc.seq ?_
    refine Wc.region ?_
    refine Wl.e (e_call (F := F) (args := []) Try.call13 rfl (alive_c W0)) (fun _ _ => ?_)
    refine Wl.imp (L' := F) (fun _ h => h) ?_
    refine Wl.q (v := Value.bool true) (q_assign rfl) ?_
    refine Wl.done ?_
    refine Wx.go ?_
    refine Wc.ret ?_
    refine Wx.thenRet ?_
    refine Wx.fin1 rfl (.inl rfl) (fun w hs => ?_)
    exact ⟨(), trivial, rfl, hs⟩
  ·
    refine Wl.q (v := Value.bool false) (q_lss (r := false) rfl rfl (decide_eq_false hneg)) ?_
    refine Wl.q (v := Value.bool false) (q_move rfl) ?_
    refine Wl.q (v := Value.int .i64 n) (q_move rfl) ?_
    refine Wl.q (v := Value.bool true) (q_gtr (r := true) rfl rfl (decide_eq_true (by omega))) ?_
    refine Wl.q (v := Value.bool true) (q_pick (t := false) rfl rfl) ?_
    refine Wl.done ?_
    refine Wx.go ?_
    refine Wc.yes rfl ?_
    refine Wc.seq ?_
    refine Wc.region ?_
    refine Wl.e (e_call (F := F) (args := []) Try.call13 rfl (alive_c W0)) (fun _ _ => ?_)
    refine Wl.imp (L' := F) (fun _ h => h) ?_
    refine Wl.q (v := Value.bool true) (q_assign rfl) ?_
    refine Wl.done ?_
    refine Wx.go ?_
    refine Wc.ret ?_
    refine Wx.thenRet ?_
    refine Wx.fin1 rfl (.inl rfl) (fun w hs => ?_)
    exact ⟨(), trivial, rfl, hs⟩

theorem costs_in (W0 : World) (n : Int) (hlo : -9223372036854775808 ≤ n) (hhi : n ≤ 9223372036854775807) (ok0 : Ok (List.replicate 64 noughts) ByteArray.empty 0) (h0 : 0 ≤ n) (h1 : n ≤ 1984) (S1 : List ByteArray) (hp : (JS.mk ByteArray.empty 0 false).put (DS.new 64) (txt n 1) = (0, (⟨S1, [], false, (0 + nPieces (txt n 1) + 3), none⟩ : DS), ⟨(txt n 1), 1, false⟩)) (hc : (cost n).1 = ((0 + nPieces (txt n 1) + 3 : Nat) : Int)) :
    Con Try.prog W0 4 #[Value.int .i64 n] [] (X := Unit) (fun _ => True) (fun _ => .bool true) (fun _ => []) := by
  refine Con.of (args := [Value.int .i64 n]) Try.func4 rfl Try.ntmps4 rfl (fun F => ?_)
  have hr : (List.replicate 64 noughts).length = 64 := List.length_replicate
  show Wc _ W0 _ _ _ _ _ (F)
  refine Wc.seq ?_
  refine Wc.region ?_
  refine Wl.q (v := Value.bool false) (q_assign rfl) ?_
  refine Wl.done ?_
  refine Wx.go ?_
  refine Wc.seq ?_
  refine Wc.region ?_
  refine Wl.q (v := Value.int .i64 n) (q_move rfl) ?_
  refine Wl.e (e_call (F := F) (args := [Value.int .i64 n]) Try.call14 rfl (cost_c W0 n (by omega))) (fun _ _ => ?_)
  refine Wl.imp (L' := F) (fun _ h => h) ?_
  refine Wl.q (v := Value.tuple #[Value.int .i64 ((cost n).1), Value.int .i64 ((cost n).2)]) (q_move rfl) ?_
  refine Wl.q (v := Value.int .i64 ((cost n).1)) (q_extract (i := 0) rfl rfl) ?_
  refine Wl.q (v := Value.int .i64 ((cost n).2)) (q_extract (i := 1) rfl rfl) ?_
  refine Wl.q (v := Value.int .i64 ((cost n).1)) (q_assign rfl) ?_
  refine Wl.q (v := Value.int .i64 ((cost n).2)) (q_assign rfl) ?_
  refine Wl.done ?_
  refine Wx.go ?_
  refine Wc.seq ?_
  refine Wc.region ?_
  refine Wl.q (v := Value.int .i64 n) (q_move rfl) ?_
  refine Wl.e (e_call (F := F) (args := [Value.int .i64 n]) Try.call15 rfl (rcost_c W0 n (by omega))) (fun _ _ => ?_)
  refine Wl.imp (L' := F) (fun _ h => h) ?_
  refine Wl.q (v := Value.tuple #[Value.int .i64 ((cost n).1), Value.int .i64 ((cost n).2)]) (q_move rfl) ?_
  refine Wl.q (v := Value.int .i64 ((cost n).1)) (q_extract (i := 0) rfl rfl) ?_
  refine Wl.q (v := Value.int .i64 ((cost n).2)) (q_extract (i := 1) rfl rfl) ?_
  refine Wl.q (v := Value.int .i64 ((cost n).1)) (q_assign rfl) ?_
  refine Wl.q (v := Value.int .i64 ((cost n).2)) (q_assign rfl) ?_
  refine Wl.done ?_
  refine Wx.go ?_
  refine Wc.seq ?_
  refine Wc.seq ?_
  refine Wc.region ?_
  refine Wl.q (v := Value.int .i64 ((cost n).1)) (q_move rfl) ?_
  refine Wl.q (v := Value.int .i64 ((cost n).1)) (q_move rfl) ?_
  refine Wl.q (v := Value.bool false) (q_neq (r := true) rfl rfl (decide_eq_true (rfl))) ?_
  refine Wl.q (v := Value.bool false) (q_move rfl) ?_
  refine Wl.q (v := Value.int .i64 ((cost n).2)) (q_move rfl) ?_
  refine Wl.q (v := Value.int .i64 ((cost n).2)) (q_move rfl) ?_
  refine Wl.q (v := Value.bool false) (q_neq (r := true) rfl rfl (decide_eq_true (rfl))) ?_
  refine Wl.q (v := Value.bool false) (q_pick (t := false) rfl rfl) ?_
  refine Wl.done ?_
  refine Wx.go ?_
  refine Wc.no rfl ?_
  refine Wc.skip ?_
  refine Wx.go ?_
  refine Wc.seq ?_
  refine Wc.seq ?_
  refine Wc.region ?_
  refine Wl.q (v := Value.int .i64 n) (q_move rfl) ?_
  refine Wl.q (v := Value.bool false) (q_lss (r := false) rfl rfl (decide_eq_false (by omega))) ?_
  refine Wl.q (v := Value.bool false) (q_move rfl) ?_
  refine Wl.q (v := Value.int .i64 n) (q_move rfl) ?_
  refine Wl.q (v := Value.bool false) (q_gtr (r := false) rfl rfl (decide_eq_false (by omega))) ?_
  refine Wl.q (v := Value.bool false) (q_pick (t := false) rfl rfl) ?_
  refine Wl.done ?_
  refine Wx.go ?_
  refine Wc.no rfl ?_
  refine Wc.skip ?_
  refine Wx.go ?_
  refine Wc.seq ?_
  refine Wc.region ?_
  refine Wl.e (e_call (F := F) (args := [Value.int .i64 64]) Try.call16 rfl (new_ok W0 64 (by omega) (by omega))) (fun pp _ => ?_)
  refine Wl.imp (L' := (isDisk pp (DS.new 64)) :: F) (fun _ h => h) ?_
  refine Wl.q (v := Value.tuple #[Value.pointer (some ⟨pp, 0, none⟩), Value.int .i64 0]) (q_move rfl) ?_
  refine Wl.q (v := Value.pointer (some ⟨pp, 0, none⟩)) (q_extract (i := 0) rfl rfl) ?_
  refine Wl.q (v := Value.int .i64 0) (q_extract (i := 1) rfl rfl) ?_
  refine Wl.q (v := Value.pointer (some ⟨pp, 0, none⟩)) (q_assign rfl) ?_
  refine Wl.q (v := Value.int .i64 0) (q_assign rfl) ?_
  refine Wl.done ?_
  refine Wx.go ?_
  refine Wc.seq ?_
  refine Wc.seq ?_
  refine Wc.region ?_
  refine Wl.q (v := Value.int .i64 0) (q_move rfl) ?_
  refine Wl.q (v := Value.bool false) (q_neq (r := true) rfl rfl (decide_eq_true (by decide))) ?_
  refine Wl.done ?_
  refine Wx.go ?_
  refine Wc.no rfl ?_
  refine Wc.skip ?_
  refine Wx.go ?_
  refine Wc.seq ?_
  refine Wc.region ?_
  refine Wl.q (v := Value.pointer (some ⟨pp, 0, none⟩)) (q_move rfl) ?_
  refine Wl.e (e_call (F := F) (args := [Value.pointer (some ⟨pp, 0, none⟩)]) Try.call12 rfl (open_ok W0 pp (DS.new 64) (Ok.wf ok0) (by show 1 ≤ ((List.replicate 64 noughts)).length; omega) (by show 0 < 1099511627776; decide) (openD_up ok0))) (fun j0 _ => ?_)
  refine Wl.imp (L' := (isJ j0 pp ⟨ByteArray.empty, 0, false⟩) :: (isDisk pp (DS.new 64)) :: F) (fun _ h => h) ?_
  refine Wl.q (v := Value.tuple #[Value.pointer (some ⟨j0, 0, none⟩), Value.int .i64 0]) (q_move rfl) ?_
  refine Wl.q (v := Value.pointer (some ⟨j0, 0, none⟩)) (q_extract (i := 0) rfl rfl) ?_
  refine Wl.q (v := Value.int .i64 0) (q_extract (i := 1) rfl rfl) ?_
  refine Wl.q (v := Value.pointer (some ⟨j0, 0, none⟩)) (q_assign rfl) ?_
  refine Wl.q (v := Value.int .i64 0) (q_assign rfl) ?_
  refine Wl.done ?_
  refine Wx.go ?_
  refine Wc.seq ?_
  refine Wc.seq ?_
  refine Wc.region ?_
  refine Wl.q (v := Value.int .i64 0) (q_move rfl) ?_
  refine Wl.q (v := Value.bool false) (q_neq (r := true) rfl rfl (decide_eq_true (by decide))) ?_
  refine Wl.q (v := Value.bool false) (q_move rfl) ?_
  refine Wl.q (v := Value.pointer (some ⟨j0, 0, none⟩)) (q_move rfl) ?_
  refine Wl.q (v := Value.bool false) (q_eql_nil (r := false) rfl rfl Try.underlying22 rfl) ?_
  refine Wl.q (v := Value.bool false) (q_pick (t := false) rfl rfl) ?_
  refine Wl.done ?_
  refine Wx.go ?_
  refine Wc.no rfl ?_
  refine Wc.skip ?_
  refine Wx.go ?_
  refine Wc.seq ?_
  refine Wc.region ?_
  refine Wl.q (v := Value.pointer (some ⟨j0, 0, none⟩)) (q_move rfl) ?_
  refine Wl.q (v := Value.int .i64 n) (q_move rfl) ?_
  refine Wl.e (e_call (F := (isJ j0 pp ⟨ByteArray.empty, 0, false⟩) :: (isDisk pp (DS.new 64)) :: F) (args := [Value.int .i64 n, Value.int .u8 1]) Try.call17 rfl (text_c W0 n 1 (by first | decide | assumption | omega))) (fun _ _ => ?_)
  refine Wl.imp (L' := (isJ j0 pp ⟨ByteArray.empty, 0, false⟩) :: (isDisk pp (DS.new 64)) :: F) (fun _ h => h) ?_
  refine Wl.e (e_call (F := F) (args := [Value.pointer (some ⟨j0, 0, none⟩), Value.string (txt n 1)]) Try.call9 rfl (Con.eqs (val' := fun _ => Value.int .i64 0) (post' := fun _ => [isJ j0 pp ⟨(txt n 1), 1, false⟩, isDisk pp (⟨S1, [], false, (0 + nPieces (txt n 1) + 3), none⟩ : DS)]) (Put_c W0 j0 pp (⟨ByteArray.empty, 0, false⟩ : JS) (DS.new 64) (txt n 1) (ok0.wf) (by show 1 ≤ ((List.replicate 64 noughts)).length; omega) (by show 0 < 1000000000000; decide) (by show 0 < 4000000000000000000; omega) (by show 0 ≤ (0 : Int); omega) (by show (0 : Int) < 9223372036854775807; omega)) (fun _ => by rw [hp]) (fun _ => by rw [hp]))) (fun _ _ => ?_)
  refine Wl.imp (L' := (isJ j0 pp ⟨(txt n 1), 1, false⟩) :: (isDisk pp (⟨S1, [], false, (0 + nPieces (txt n 1) + 3), none⟩ : DS)) :: F) (fun _ h => h) ?_
  refine Wl.q (v := Value.bool true) (q_eql (r := true) rfl rfl (decide_eq_true (by decide))) ?_
  refine Wl.q (v := Value.bool true) (q_move rfl) ?_
  refine Wl.q (v := Value.pointer (some ⟨pp, 0, none⟩)) (q_move rfl) ?_
  refine Wl.imp (L' := (isDisk pp (⟨S1, [], false, (0 + nPieces (txt n 1) + 3), none⟩ : DS)) :: (isJ j0 pp ⟨(txt n 1), 1, false⟩) :: F) (fun _ h => st_pull [1] h) ?_
  refine Wl.e (e_call (F := (isJ j0 pp ⟨(txt n 1), 1, false⟩) :: F) (args := [Value.pointer (some ⟨pp, 0, none⟩)]) Try.call18 rfl (count_c W0 pp (⟨S1, [], false, (0 + nPieces (txt n 1) + 3), none⟩ : DS) )) (fun _ _ => ?_)
  refine Wl.imp (L' := (isDisk pp (⟨S1, [], false, (0 + nPieces (txt n 1) + 3), none⟩ : DS)) :: (isJ j0 pp ⟨(txt n 1), 1, false⟩) :: F) (fun _ h => h) ?_
  refine Wl.q (v := Value.int .i64 ((cost n).1)) (q_move rfl) ?_
  refine Wl.q (v := Value.bool true) (q_eql (r := true) rfl rfl (decide_eq_true (hc.symm))) ?_
  refine Wl.q (v := Value.bool true) (q_pick (t := true) rfl rfl) ?_
  refine Wl.q (v := Value.bool true) (q_move rfl) ?_
  refine Wl.q (v := Value.pointer (some ⟨pp, 0, none⟩)) (q_move rfl) ?_
  refine Wl.e (e_call (F := (isJ j0 pp ⟨(txt n 1), 1, false⟩) :: F) (args := [Value.pointer (some ⟨pp, 0, none⟩)]) Try.call19 rfl (unsynced_c W0 pp (⟨S1, [], false, (0 + nPieces (txt n 1) + 3), none⟩ : DS) )) (fun _ _ => ?_)
  refine Wl.imp (L' := (isDisk pp (⟨S1, [], false, (0 + nPieces (txt n 1) + 3), none⟩ : DS)) :: (isJ j0 pp ⟨(txt n 1), 1, false⟩) :: F) (fun _ h => h) ?_
  refine Wl.q (v := Value.bool true) (q_eql (r := true) rfl rfl (decide_eq_true (rfl))) ?_
  refine Wl.q (v := Value.bool true) (q_pick (t := true) rfl rfl) ?_
  refine Wl.q (v := Value.bool true) (q_move rfl) ?_
  refine Wl.e (e_call (F := (isDisk pp (⟨S1, [], false, (0 + nPieces (txt n 1) + 3), none⟩ : DS)) :: (isJ j0 pp ⟨(txt n 1), 1, false⟩) :: F) (args := []) Try.call13 rfl (alive_c W0)) (fun _ _ => ?_)
  refine Wl.imp (L' := (isDisk pp (⟨S1, [], false, (0 + nPieces (txt n 1) + 3), none⟩ : DS)) :: (isJ j0 pp ⟨(txt n 1), 1, false⟩) :: F) (fun _ h => h) ?_
  refine Wl.q (v := Value.bool true) (q_pick (t := true) rfl rfl) ?_
  refine Wl.q (v := Value.bool true) (q_assign rfl) ?_
  refine Wl.done ?_
  refine Wx.go ?_
  refine Wc.ret ?_
  refine Wx.fin1 rfl (.inl rfl) (fun w hs => ?_)
  exact ⟨(), trivial, rfl, (st_drop (st_drop (st_pull [0, 0] hs)))⟩

theorem costs_law (W0 : World) (n : Int) (hlo : -9223372036854775808 ≤ n) (hhi : n ≤ 9223372036854775807) : Con Try.prog W0 4 #[.int .i64 n] [] (X := Unit) (fun _ => True) (fun _ => .bool true) (fun _ => []) := by
  have ok0 := ok_new (n := 64) (by decide) (by decide)
  by_cases h : n < 0 ∨ n > 1984
  · exact costs_out W0 n hlo hhi ok0 h
  · have hs := txt_size (n := n) (b := 1) (by omega) (by omega)
    obtain ⟨S1, h1, h2, h3⟩ := put_js (s := txt n 1) ok0 (by decide) (by rw [half_64 List.length_replicate]; omega) 0
    refine costs_in W0 n hlo hhi ok0 (by omega) (by omega) S1 h3 ?_
    have e := cost_size (txt n 1)
    rw [hs] at e
    rw [e, Nat.zero_add]

end Go.Proofs.Ytnhejdnigblnoaa
