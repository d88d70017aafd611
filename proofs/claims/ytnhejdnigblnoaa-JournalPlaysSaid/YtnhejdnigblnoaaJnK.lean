/- Contracts of the calls. -/
import Derived.Test.YtnhejdnigblnoaaJnZ
import Derived.Test.YtnhejdnigblnoaaJnL
namespace Go.Proofs.Ytnhejdnigblnoaa
open Go Go.SL Go.Dk Go.Jn Go.RowKit
set_option linter.unusedVariables false
set_option maxRecDepth 8000

set_option maxHeartbeats 4000000 in
theorem alive_w (W0 : World) (S1 : List ByteArray) (K1 : Nat) (hl1 : S1.length = 6) (ok0 : Ok (List.replicate 6 noughts) ByteArray.empty 0) (ok1 : Ok S1 (⟨#[97, 98, 99]⟩ : ByteArray) 1) (hK1 : K1 ≤ 100) (hp1 : (JS.mk ByteArray.empty 0 false).put (DS.new 6) (⟨#[97, 98, 99]⟩ : ByteArray) = (0, (⟨S1, [], false, K1, none⟩ : DS), ⟨(⟨#[97, 98, 99]⟩ : ByteArray), 1, false⟩)) (hp2 : (JS.mk (⟨#[97, 98, 99]⟩ : ByteArray) 1 false).put (⟨S1, [], false, K1, none⟩ : DS) (⟨(List.replicate 129 (0 : UInt8)).toArray⟩ : ByteArray) = (5, (⟨S1, [], false, K1, none⟩ : DS), ⟨(⟨#[97, 98, 99]⟩ : ByteArray), 1, false⟩)) :
  Con Try.prog W0 13 #[] [] (X := Unit) (fun _ => True) (fun _ => .bool true) (fun _ => []) := by
 refine Con.of (args := []) Try.func13 rfl Try.ntmps13 rfl (fun F => ?_)
 have hr6 : ((List.replicate 6 noughts)).length = 6 := List.length_replicate
 have hh1 : half S1 = 2 := by rw [half, hl1]
 show Wc _ W0 _ _ _ _ _ (F)
 refine Wc.seq ?_
 refine Wc.region ?_
 refine Wl.q (v := Value.bool false) (q_assign rfl) ?_
 refine Wl.done ?_
 refine Wx.go ?_
 refine Wc.seq ?_
 refine Wc.region ?_
 refine Wl.e (e_call (F := F) (args := [Value.int .i64 6]) Try.call16 rfl (new_ok W0 6 (by omega) (by omega))) (fun pp _ => ?_)
 refine Wl.imp (L' := (isDisk pp (DS.new 6)) :: F) (fun _ h => h) ?_
 refine Wl.q (v := Value.tuple #[Value.pointer (some ⟨pp, 0, none⟩), Value.int .i64 0]) (q_move rfl) ?_
 refine Wl.q (v := Value.pointer (some ⟨pp, 0, none⟩)) (q_extract (i := 0) rfl rfl) ?_
 refine Wl.q (v := Value.int .i64 0) (q_extract (i := 1) rfl rfl) ?_
 refine Wl.q (v := Value.pointer (some ⟨pp, 0, none⟩)) (q_assign rfl) ?_
 refine Wl.q (v := Value.int .i64 0) (q_assign rfl) ?_
 refine Wl.done ?_
 refine Wx.go ?_
 refine Wc.seq ?_
 refine Wc.seq ?_
 refine Wc.region ?_
 refine Wl.q (v := Value.int .i64 0) (q_move rfl) ?_
 refine Wl.q (v := Value.bool false) (q_neq (r := true) rfl rfl (decide_eq_true (by decide))) ?_
 refine Wl.done ?_
 refine Wx.go ?_
 refine Wc.no rfl ?_
 refine Wc.skip ?_
 refine Wx.go ?_
 refine Wc.seq ?_
 refine Wc.region ?_
 refine Wl.q (v := Value.pointer (some ⟨pp, 0, none⟩)) (q_move rfl) ?_
 refine Wl.e (e_call (F := F) (args := [Value.pointer (some ⟨pp, 0, none⟩)]) Try.call12 rfl (open_ok W0 pp (DS.new 6) (Ok.wf ok0) (by show 1 ≤ ((List.replicate 6 noughts)).length; omega) (by show 0 < 1099511627776; decide) (openD_up ok0))) (fun j0 _ => ?_)
 refine Wl.imp (L' := (isJ j0 pp ⟨ByteArray.empty, 0, false⟩) :: (isDisk pp (DS.new 6)) :: F) (fun _ h => h) ?_
 refine Wl.q (v := Value.tuple #[Value.pointer (some ⟨j0, 0, none⟩), Value.int .i64 0]) (q_move rfl) ?_
 refine Wl.q (v := Value.pointer (some ⟨j0, 0, none⟩)) (q_extract (i := 0) rfl rfl) ?_
 refine Wl.q (v := Value.int .i64 0) (q_extract (i := 1) rfl rfl) ?_
 refine Wl.q (v := Value.pointer (some ⟨j0, 0, none⟩)) (q_assign rfl) ?_
 refine Wl.q (v := Value.int .i64 0) (q_assign rfl) ?_
 refine Wl.done ?_
 refine Wx.go ?_
 refine Wc.seq ?_
 refine Wc.seq ?_
 refine Wc.region ?_
 refine Wl.q (v := Value.int .i64 0) (q_move rfl) ?_
 refine Wl.q (v := Value.bool false) (q_neq (r := true) rfl rfl (decide_eq_true (by decide))) ?_
 refine Wl.q (v := Value.bool false) (q_move rfl) ?_
 refine Wl.q (v := Value.pointer (some ⟨j0, 0, none⟩)) (q_move rfl) ?_
 refine Wl.q (v := Value.bool false) (q_eql_nil (r := false) rfl rfl Try.underlying22 rfl) ?_
 refine Wl.q (v := Value.bool false) (q_pick (t := false) rfl rfl) ?_
 refine Wl.done ?_
 refine Wx.go ?_
 refine Wc.no rfl ?_
 refine Wc.skip ?_
 refine Wx.go ?_
 refine Wc.seq ?_
 refine Wc.region ?_
 refine Wl.q (v := Value.pointer (some ⟨j0, 0, none⟩)) (q_move rfl) ?_
 refine Wl.e (e_call (F := F) (args := [Value.pointer (some ⟨j0, 0, none⟩), Value.string (⟨#[97, 98, 99]⟩)]) Try.call9 rfl (Con.eqs (val' := fun _ => Value.int .i64 0) (post' := fun _ => [isJ j0 pp ⟨(⟨#[97, 98, 99]⟩ : ByteArray), 1, false⟩, isDisk pp (⟨S1, [], false, K1, none⟩ : DS)]) (Put_c W0 j0 pp (⟨ByteArray.empty, 0, false⟩ : JS) (DS.new 6) (⟨#[97, 98, 99]⟩) (ok0.wf) (by show 1 ≤ ((List.replicate 6 noughts)).length; omega) (by show 0 < 1000000000000; decide) (by show 0 < 4000000000000000000; omega) (by show 0 ≤ (0 : Int); omega) (by show (0 : Int) < 9223372036854775807; omega)) (fun _ => by rw [hp1]) (fun _ => by rw [hp1]))) (fun _ _ => ?_)
 refine Wl.imp (L' := (isJ j0 pp ⟨(⟨#[97, 98, 99]⟩ : ByteArray), 1, false⟩) :: (isDisk pp (⟨S1, [], false, K1, none⟩ : DS)) :: F) (fun _ h => h) ?_
 refine Wl.q (v := Value.int .i64 0) (q_assign rfl) ?_
 refine Wl.done ?_
 refine Wx.go ?_
 refine Wc.seq ?_
 refine Wc.region ?_
 refine Wl.q (v := Value.pointer (some ⟨pp, 0, none⟩)) (q_move rfl) ?_
 refine Wl.imp (L' := (isDisk pp (⟨S1, [], false, K1, none⟩ : DS)) :: (isJ j0 pp ⟨(⟨#[97, 98, 99]⟩ : ByteArray), 1, false⟩) :: F) (fun _ h => st_pull [1] h) ?_
 refine Wl.e (e_call (F := (isJ j0 pp ⟨(⟨#[97, 98, 99]⟩ : ByteArray), 1, false⟩) :: F) (args := [Value.pointer (some ⟨pp, 0, none⟩)]) Try.call12 rfl (open_ok W0 pp (⟨S1, [], false, K1, none⟩ : DS) (Ok.wf ok1) (by show 1 ≤ (S1).length; omega) (by show 0 < 1099511627776; decide) (openD_up ok1))) (fun j1 _ => ?_)
 refine Wl.imp (L' := (isJ j1 pp ⟨(⟨#[97, 98, 99]⟩ : ByteArray), 1, false⟩) :: (isDisk pp (⟨S1, [], false, K1, none⟩ : DS)) :: (isJ j0 pp ⟨(⟨#[97, 98, 99]⟩ : ByteArray), 1, false⟩) :: F) (fun _ h => h) ?_
 refine Wl.q (v := Value.tuple #[Value.pointer (some ⟨j1, 0, none⟩), Value.int .i64 0]) (q_move rfl) ?_
 refine Wl.q (v := Value.pointer (some ⟨j1, 0, none⟩)) (q_extract (i := 0) rfl rfl) ?_
 refine Wl.q (v := Value.int .i64 0) (q_extract (i := 1) rfl rfl) ?_
 refine Wl.q (v := Value.pointer (some ⟨j1, 0, none⟩)) (q_assign rfl) ?_
 refine Wl.q (v := Value.int .i64 0) (q_assign rfl) ?_
 refine Wl.done ?_
 refine Wx.go ?_
 refine Wc.seq ?_
 refine Wc.seq ?_
 refine Wc.region ?_
 refine Wl.q (v := Value.int .i64 0) (q_move rfl) ?_
 refine Wl.q (v := Value.bool false) (q_neq (r := true) rfl rfl (decide_eq_true (by decide))) ?_
 refine Wl.q (v := Value.bool false) (q_move rfl) ?_
 refine Wl.q (v := Value.pointer (some ⟨j1, 0, none⟩)) (q_move rfl) ?_
 refine Wl.q (v := Value.bool false) (q_eql_nil (r := false) rfl rfl Try.underlying22 rfl) ?_
 refine Wl.q (v := Value.bool false) (q_pick (t := false) rfl rfl) ?_
 refine Wl.done ?_
 refine Wx.go ?_
 refine Wc.no rfl ?_
 refine Wc.skip ?_
 refine Wx.go ?_
 refine Wc.seq ?_
 refine Wc.region ?_
 refine Wl.q (v := Value.pointer (some ⟨j1, 0, none⟩)) (q_move rfl) ?_
 refine Wl.e (e_call (F := (isJ j0 pp ⟨(⟨#[97, 98, 99]⟩ : ByteArray), 1, false⟩) :: F) (args := [Value.pointer (some ⟨j1, 0, none⟩)]) Try.call8 rfl (get_on W0 j1 pp (⟨#[97, 98, 99]⟩ : ByteArray) 1 (⟨S1, [], false, K1, none⟩ : DS) rfl)) (fun _ _ => ?_)
 refine Wl.imp (L' := (isJ j1 pp ⟨(⟨#[97, 98, 99]⟩ : ByteArray), 1, false⟩) :: (isDisk pp (⟨S1, [], false, K1, none⟩ : DS)) :: (isJ j0 pp ⟨(⟨#[97, 98, 99]⟩ : ByteArray), 1, false⟩) :: F) (fun _ h => h) ?_
 refine Wl.q (v := Value.tuple #[Value.string (⟨#[97, 98, 99]⟩ : ByteArray), Value.int .i64 0]) (q_move rfl) ?_
 refine Wl.q (v := Value.string (⟨#[97, 98, 99]⟩ : ByteArray)) (q_extract (i := 0) rfl rfl) ?_
 refine Wl.q (v := Value.int .i64 0) (q_extract (i := 1) rfl rfl) ?_
 refine Wl.q (v := Value.string (⟨#[97, 98, 99]⟩ : ByteArray)) (q_assign rfl) ?_
 refine Wl.q (v := Value.int .i64 0) (q_assign rfl) ?_
 refine Wl.done ?_
 refine Wx.go ?_
 refine Wc.seq ?_
 refine Wc.region ?_
 refine Wl.e (e_call (F := (isJ j1 pp ⟨(⟨#[97, 98, 99]⟩ : ByteArray), 1, false⟩) :: (isDisk pp (⟨S1, [], false, K1, none⟩ : DS)) :: (isJ j0 pp ⟨(⟨#[97, 98, 99]⟩ : ByteArray), 1, false⟩) :: F) (args := [Value.int .i64 65]) Try.call14 rfl (cost_c W0 65 (by omega))) (fun _ _ => ?_)
 refine Wl.imp (L' := (isJ j1 pp ⟨(⟨#[97, 98, 99]⟩ : ByteArray), 1, false⟩) :: (isDisk pp (⟨S1, [], false, K1, none⟩ : DS)) :: (isJ j0 pp ⟨(⟨#[97, 98, 99]⟩ : ByteArray), 1, false⟩) :: F) (fun _ h => h) ?_
 refine Wl.q (v := Value.tuple #[Value.int .i64 ((cost 65).1), Value.int .i64 ((cost 65).2)]) (q_move rfl) ?_
 refine Wl.q (v := Value.int .i64 ((cost 65).1)) (q_extract (i := 0) rfl rfl) ?_
 refine Wl.q (v := Value.int .i64 ((cost 65).2)) (q_extract (i := 1) rfl rfl) ?_
 refine Wl.q (v := Value.int .i64 ((cost 65).1)) (q_assign rfl) ?_
 refine Wl.q (v := Value.int .i64 ((cost 65).2)) (q_assign rfl) ?_
 refine Wl.done ?_
 refine Wx.go ?_
 refine Wc.seq ?_
 refine Wc.region ?_
 refine Wl.q (v := Value.int .i64 0) (q_move rfl) ?_
 refine Wl.q (v := Value.bool true) (q_eql (r := true) rfl rfl (decide_eq_true (by decide))) ?_
 refine Wl.q (v := Value.bool true) (q_move rfl) ?_
 refine Wl.q (v := Value.string (⟨#[97, 98, 99]⟩ : ByteArray)) (q_move rfl) ?_
 refine Wl.q (v := Value.bool true) (q_eql_str (r := true) rfl rfl (text_true (rfl))) ?_
 refine Wl.q (v := Value.bool true) (q_pick (t := true) rfl rfl) ?_
 refine Wl.q (v := Value.bool true) (q_move rfl) ?_
 refine Wl.q (v := Value.int .i64 0) (q_move rfl) ?_
 refine Wl.q (v := Value.bool true) (q_eql (r := true) rfl rfl (decide_eq_true (by decide))) ?_
 refine Wl.q (v := Value.bool true) (q_pick (t := true) rfl rfl) ?_
 refine Wl.q (v := Value.bool true) (q_move rfl) ?_
 refine Wl.q (v := Value.pointer (some ⟨j1, 0, none⟩)) (q_move rfl) ?_
 refine Wl.e (e_call (F := (isDisk pp (⟨S1, [], false, K1, none⟩ : DS)) :: (isJ j0 pp ⟨(⟨#[97, 98, 99]⟩ : ByteArray), 1, false⟩) :: F) (args := [Value.pointer (some ⟨j1, 0, none⟩)]) Try.call10 rfl (seq_in W0 j1 pp (⟨#[97, 98, 99]⟩ : ByteArray) 1 false)) (fun _ _ => ?_)
 refine Wl.imp (L' := (isJ j1 pp ⟨(⟨#[97, 98, 99]⟩ : ByteArray), 1, false⟩) :: (isDisk pp (⟨S1, [], false, K1, none⟩ : DS)) :: (isJ j0 pp ⟨(⟨#[97, 98, 99]⟩ : ByteArray), 1, false⟩) :: F) (fun _ h => h) ?_
 refine Wl.q (v := Value.bool true) (q_eql (r := true) rfl rfl (decide_eq_true (by decide))) ?_
 refine Wl.q (v := Value.bool true) (q_pick (t := true) rfl rfl) ?_
 refine Wl.q (v := Value.bool true) (q_move rfl) ?_
 refine Wl.q (v := Value.pointer (some ⟨j1, 0, none⟩)) (q_move rfl) ?_
 refine Wl.e (e_call (F := (isJ j0 pp ⟨(⟨#[97, 98, 99]⟩ : ByteArray), 1, false⟩) :: F) (args := [Value.pointer (some ⟨j1, 0, none⟩)]) Try.call11 rfl (Con.eqs (val' := fun _ => Value.int .i64 ((half S1 * 64 : Nat) : Int)) (post' := fun _ => [isJ j1 pp ⟨(⟨#[97, 98, 99]⟩ : ByteArray), 1, false⟩, isDisk pp (⟨S1, [], false, K1, none⟩ : DS)]) (room_in W0 j1 pp (⟨#[97, 98, 99]⟩ : ByteArray) 1 (⟨S1, [], false, K1, none⟩ : DS) false (by show 1 ≤ (S1).length; omega) (by show (S1).length ≤ 4096; omega)) (fun _ => rfl) (fun _ => rfl))) (fun _ _ => ?_)
 refine Wl.imp (L' := (isJ j1 pp ⟨(⟨#[97, 98, 99]⟩ : ByteArray), 1, false⟩) :: (isDisk pp (⟨S1, [], false, K1, none⟩ : DS)) :: (isJ j0 pp ⟨(⟨#[97, 98, 99]⟩ : ByteArray), 1, false⟩) :: F) (fun _ h => h) ?_
 refine Wl.q (v := Value.bool true) (q_eql (r := true) rfl rfl (decide_eq_true (by omega))) ?_
 refine Wl.q (v := Value.bool true) (q_pick (t := true) rfl rfl) ?_
 refine Wl.q (v := Value.bool true) (q_move rfl) ?_
 refine Wl.q (v := Value.int .i64 ((cost 65).1)) (q_move rfl) ?_
 refine Wl.q (v := Value.bool true) (q_eql (r := true) rfl rfl (decide_eq_true (by rfl))) ?_
 refine Wl.q (v := Value.bool true) (q_pick (t := true) rfl rfl) ?_
 refine Wl.q (v := Value.bool true) (q_move rfl) ?_
 refine Wl.q (v := Value.int .i64 ((cost 65).2)) (q_move rfl) ?_
 refine Wl.q (v := Value.bool true) (q_eql (r := true) rfl rfl (decide_eq_true (by rfl))) ?_
 refine Wl.q (v := Value.bool true) (q_pick (t := true) rfl rfl) ?_
 refine Wl.q (v := Value.bool true) (q_move rfl) ?_
 refine Wl.q (v := Value.pointer (some ⟨j0, 0, none⟩)) (q_move rfl) ?_
 refine Wl.e (e_makeSlice (len := 129) Try.underlying71 sz_5 by_5 zo_5 rfl rfl (by decide) (by decide)) (fun b1 _ => ?_)
 refine Wl.imp (L' := (pt b1 5 ((madeCells (Value.int .u8 0 : Value).cells (129 * 1)).toList)) :: (isJ j1 pp ⟨(⟨#[97, 98, 99]⟩ : ByteArray), 1, false⟩) :: (isDisk pp (⟨S1, [], false, K1, none⟩ : DS)) :: (isJ j0 pp ⟨(⟨#[97, 98, 99]⟩ : ByteArray), 1, false⟩) :: F) (fun _ h => h) ?_
 refine Wl.q (v := Value.string (⟨((List.replicate 129 (0 : UInt8))).toArray⟩)) (q_str_of (l := (List.replicate 129 (0 : UInt8))) Try.underlying71 Try.underlying5 Try.underlying9 rfl (by simp) (fun j u hj => .cel (i := 0) rfl (by rw [made_bytes, Nat.zero_add]; exact hj))) ?_
 refine Wl.imp (L' := (isJ j0 pp ⟨(⟨#[97, 98, 99]⟩ : ByteArray), 1, false⟩) :: (isDisk pp (⟨S1, [], false, K1, none⟩ : DS)) :: (pt b1 5 ((madeCells (Value.int .u8 0 : Value).cells (129 * 1)).toList)) :: (isJ j1 pp ⟨(⟨#[97, 98, 99]⟩ : ByteArray), 1, false⟩) :: F) (fun _ h => st_pull [3, 2] h) ?_
 refine Wl.e (e_call (F := (pt b1 5 ((madeCells (Value.int .u8 0 : Value).cells (129 * 1)).toList)) :: (isJ j1 pp ⟨(⟨#[97, 98, 99]⟩ : ByteArray), 1, false⟩) :: F) (args := [Value.pointer (some ⟨j0, 0, none⟩), Value.string (⟨((List.replicate 129 (0 : UInt8))).toArray⟩)]) Try.call9 rfl (Con.eqs (val' := fun _ => Value.int .i64 5) (post' := fun _ => [isJ j0 pp ⟨(⟨#[97, 98, 99]⟩ : ByteArray), 1, false⟩, isDisk pp (⟨S1, [], false, K1, none⟩ : DS)]) (Put_c W0 j0 pp (⟨(⟨#[97, 98, 99]⟩ : ByteArray), 1, false⟩ : JS) (⟨S1, [], false, K1, none⟩ : DS) (⟨((List.replicate 129 (0 : UInt8))).toArray⟩) (ok1.wf) (by show 1 ≤ (S1).length; omega) (by show 0 < 1000000000000; decide) (by show K1 < 4000000000000000000; omega) (by show 0 ≤ (1 : Int); omega) (by show (1 : Int) < 9223372036854775807; omega)) (fun _ => by rw [hp2]) (fun _ => by rw [hp2]))) (fun _ _ => ?_)
 refine Wl.imp (L' := (isJ j0 pp ⟨(⟨#[97, 98, 99]⟩ : ByteArray), 1, false⟩) :: (isDisk pp (⟨S1, [], false, K1, none⟩ : DS)) :: (pt b1 5 ((madeCells (Value.int .u8 0 : Value).cells (129 * 1)).toList)) :: (isJ j1 pp ⟨(⟨#[97, 98, 99]⟩ : ByteArray), 1, false⟩) :: F) (fun _ h => h) ?_
 refine Wl.q (v := Value.bool true) (q_eql (r := true) rfl rfl (decide_eq_true (by decide))) ?_
 refine Wl.q (v := Value.bool true) (q_pick (t := true) rfl rfl) ?_
 refine Wl.q (v := Value.bool true) (q_assign rfl) ?_
 refine Wl.done ?_
 refine Wx.go ?_
 refine Wc.ret ?_
 refine Wx.fin1 rfl (.inl rfl) (fun w hs => ?_)
 exact ⟨(), trivial, rfl, (st_drop (st_drop (st_drop (st_drop (st_pull [0, 0, 0, 0] hs)))))⟩

theorem alive_c (W0 : World) : Con Try.prog W0 13 #[] [] (X := Unit) (fun _ => True) (fun _ => .bool true) (fun _ => []) := by
 have ok0 := ok_new (n := 6) (by decide) (by decide)
 obtain ⟨S1, h1, h2, h3⟩ := put_js (s := (⟨#[97, 98, 99]⟩ : ByteArray)) ok0 (by decide) (by rw [half, List.length_replicate]; decide) 0
 rw [List.length_replicate] at h1
 exact alive_w W0 S1 _ h1 ok0 h2 (by show 0 + 1 + 3 ≤ 100; decide) h3 (put_big (by rw [half, h1]; decide +kernel))

end Go.Proofs.Ytnhejdnigblnoaa
