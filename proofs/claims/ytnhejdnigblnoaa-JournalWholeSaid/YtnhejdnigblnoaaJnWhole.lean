/- Contracts of the calls. -/
import Derived.Test.YtnhejdnigblnoaaJnT
namespace Go.Proofs.Ytnhejdnigblnoaa
open Go Go.SL Go.Dk Go.Jn Go.RowKit
set_option linter.unusedVariables false
set_option maxRecDepth 8000
theorem zo_3 : zeroOf Try.prog 3 = some (Value.int .i64 0) := by kernel_rfl
theorem whole_beyond (W0 : World) (a b : ByteArray) (hlena : a.size ≤ 9223372036854775807) (hlenb : b.size ≤ 9223372036854775807) (n bits : Int) (hb0 : beyondB [((a.size : Nat) : Int), ((b.size : Nat) : Int)] = true) :
    Con Try.prog W0 5 #[Value.string a, Value.string b, Value.int .i64 n, Value.int .i64 bits] [] (X := Unit) (fun _ => True) (fun _ => .bool true) (fun _ => []) := by
  refine Con.of (args := [Value.string a, Value.string b, Value.int .i64 n, Value.int .i64 bits]) Try.func5 rfl Try.ntmps5 rfl (fun F => ?_)
  show Wc _ W0 _ _ _ _ _ (F)
  refine Wc.seq ?_
  refine Wc.region ?_
  refine Wl.q (v := Value.bool false) (q_assign rfl) ?_
  refine Wl.done ?_
  refine Wx.go ?_
  refine Wc.seq ?_
  refine Wc.region ?_
  refine Wl.e (e_call (F := F) (args := [Value.int .i64 64]) Try.call16 rfl (new_ok W0 64 (by omega) (by omega))) (fun pp _ => ?_)
  refine Wl.imp (L' := (isDisk pp (DS.new 64)) :: F) (fun _ h => h) ?_
  refine Wl.q (v := Value.tuple #[Value.pointer (some ⟨pp, 0, none⟩), Value.int .i64 0]) (q_move rfl) ?_
  refine Wl.q (v := Value.pointer (some ⟨pp, 0, none⟩)) (q_extract (i := 0) rfl rfl) ?_
  refine Wl.q (v := Value.int .i64 0) (q_extract (i := 1) rfl rfl) ?_
  refine Wl.q (v := Value.pointer (some ⟨pp, 0, none⟩)) (q_assign rfl) ?_
  refine Wl.q (v := Value.int .i64 0) (q_assign rfl) ?_
  refine Wl.done ?_
  refine Wx.go ?_
  refine Wc.seq ?_
  refine Wc.seq ?_
  refine Wc.region ?_
  refine Wl.q (v := Value.int .i64 0) (q_move rfl) ?_
  refine Wl.q (v := Value.bool false) (q_neq (r := true) rfl rfl (decide_eq_true (by decide))) ?_
  refine Wl.q (v := Value.bool false) (q_move rfl) ?_
  refine Wl.q (v := Value.string a) (q_move rfl) ?_
  refine Wl.q (v := Value.int .i64 ((a.size : Nat) : Int)) (q_len_str Try.underlying9 rfl) ?_
  refine Wl.q (v := Value.string b) (q_move rfl) ?_
  refine Wl.q (v := Value.int .i64 ((b.size : Nat) : Int)) (q_len_str Try.underlying9 rfl) ?_
  refine Wl.e (e_buildSlice (cs := [Value.int .i64 ((a.size : Nat) : Int), Value.int .i64 ((b.size : Nat) : Int)]) se_72 zo_3 (by decide) (by decide) (by kernel_rfl)) (fun b1 _ => ?_)
  refine Wl.imp (L' := (pt b1 3 [Value.int .i64 ((a.size : Nat) : Int), Value.int .i64 ((b.size : Nat) : Int)]) :: (isDisk pp (DS.new 64)) :: F) (fun _ h => h) ?_
  refine Wl.e (e_call (F := (isDisk pp (DS.new 64)) :: F) (args := [Value.slice (some ⟨b1, 0, none⟩) 2 2]) Try.call20 rfl (Con.eqs (val' := fun _ => Value.bool true) (post' := fun _ => [pt b1 3 [Value.int .i64 ((a.size : Nat) : Int), Value.int .i64 ((b.size : Nat) : Int)]]) (beyond_c W0 b1 ([((a.size : Nat) : Int), ((b.size : Nat) : Int)] : List Int) (by simp) (by simp; omega)) (fun _ => congrArg Value.bool hb0) (fun _ => rfl))) (fun _ _ => ?_)
  refine Wl.imp (L' := (pt b1 3 [Value.int .i64 ((a.size : Nat) : Int), Value.int .i64 ((b.size : Nat) : Int)]) :: (isDisk pp (DS.new 64)) :: F) (fun _ h => h) ?_
  refine Wl.q (v := Value.bool true) (q_pick (t := false) rfl rfl) ?_
  refine Wl.q (v := Value.bool true) (q_move rfl) ?_
  refine Wl.no ?_
  refine Wl.no ?_
  refine Wl.q (v := Value.bool true) (q_pick (t := true) rfl rfl) ?_
  refine Wl.done ?_
  refine Wx.go ?_
  refine Wc.yes rfl ?_
  refine Wc.seq ?_
  refine Wc.region ?_
  refine Wl.e (e_call (F := (pt b1 3 [Value.int .i64 ((a.size : Nat) : Int), Value.int .i64 ((b.size : Nat) : Int)]) :: (isDisk pp (DS.new 64)) :: F) (args := []) Try.call13 rfl (alive_c W0)) (fun _ _ => ?_)
  refine Wl.imp (L' := (pt b1 3 [Value.int .i64 ((a.size : Nat) : Int), Value.int .i64 ((b.size : Nat) : Int)]) :: (isDisk pp (DS.new 64)) :: F) (fun _ h => h) ?_
  refine Wl.q (v := Value.bool true) (q_assign rfl) ?_
  refine Wl.done ?_
  refine Wx.go ?_
  refine Wc.ret ?_
  refine Wx.thenRet ?_
  refine Wx.fin1 rfl (.inl rfl) (fun w hs => ?_)
  exact ⟨(), trivial, rfl, (st_drop (st_drop (st_pull [0, 0] hs)))⟩

theorem whole_neg (W0 : World) (a b : ByteArray) (n bits : Int) (hn : n < 0) (hb0 : beyondB [((a.size : Nat) : Int), ((b.size : Nat) : Int)] = false) :
    Con Try.prog W0 5 #[Value.string a, Value.string b, Value.int .i64 n, Value.int .i64 bits] [] (X := Unit) (fun _ => True) (fun _ => .bool true) (fun _ => []) := by
  refine Con.of (args := [Value.string a, Value.string b, Value.int .i64 n, Value.int .i64 bits]) Try.func5 rfl Try.ntmps5 rfl (fun F => ?_)
  have hr : (List.replicate 64 noughts).length = 64 := List.length_replicate
  have hh0 : half (List.replicate 64 noughts) = 31 := half_64 hr
  have hla := (beyond_two hb0).1
  have hlb := (beyond_two hb0).2
  have hna := few a hla
  have hnb := few b hlb
  show Wc _ W0 _ _ _ _ _ (F)
  refine Wc.seq ?_
  refine Wc.region ?_
  refine Wl.q (v := Value.bool false) (q_assign rfl) ?_
  refine Wl.done ?_
  refine Wx.go ?_
  refine Wc.seq ?_
  refine Wc.region ?_
  refine Wl.e (e_call (F := F) (args := [Value.int .i64 64]) Try.call16 rfl (new_ok W0 64 (by omega) (by omega))) (fun pp _ => ?_)
  refine Wl.imp (L' := (isDisk pp (DS.new 64)) :: F) (fun _ h => h) ?_
  refine Wl.q (v := Value.tuple #[Value.pointer (some ⟨pp, 0, none⟩), Value.int .i64 0]) (q_move rfl) ?_
  refine Wl.q (v := Value.pointer (some ⟨pp, 0, none⟩)) (q_extract (i := 0) rfl rfl) ?_
  refine Wl.q (v := Value.int .i64 0) (q_extract (i := 1) rfl rfl) ?_
  refine Wl.q (v := Value.pointer (some ⟨pp, 0, none⟩)) (q_assign rfl) ?_
  refine Wl.q (v := Value.int .i64 0) (q_assign rfl) ?_
  refine Wl.done ?_
  refine Wx.go ?_
  refine Wc.seq ?_
  refine Wc.seq ?_
  refine Wc.region ?_
  refine Wl.q (v := Value.int .i64 0) (q_move rfl) ?_
  refine Wl.q (v := Value.bool false) (q_neq (r := true) rfl rfl (decide_eq_true (by decide))) ?_
  refine Wl.q (v := Value.bool false) (q_move rfl) ?_
  refine Wl.q (v := Value.string a) (q_move rfl) ?_
  refine Wl.q (v := Value.int .i64 ((a.size : Nat) : Int)) (q_len_str Try.underlying9 rfl) ?_
  refine Wl.q (v := Value.string b) (q_move rfl) ?_
  refine Wl.q (v := Value.int .i64 ((b.size : Nat) : Int)) (q_len_str Try.underlying9 rfl) ?_
  refine Wl.e (e_buildSlice (cs := [Value.int .i64 ((a.size : Nat) : Int), Value.int .i64 ((b.size : Nat) : Int)]) se_72 zo_3 (by decide) (by decide) (by kernel_rfl)) (fun b1 _ => ?_)
  refine Wl.imp (L' := (pt b1 3 [Value.int .i64 ((a.size : Nat) : Int), Value.int .i64 ((b.size : Nat) : Int)]) :: (isDisk pp (DS.new 64)) :: F) (fun _ h => h) ?_
  refine Wl.e (e_call (F := (isDisk pp (DS.new 64)) :: F) (args := [Value.slice (some ⟨b1, 0, none⟩) 2 2]) Try.call20 rfl (Con.eqs (val' := fun _ => Value.bool false) (post' := fun _ => [pt b1 3 [Value.int .i64 ((a.size : Nat) : Int), Value.int .i64 ((b.size : Nat) : Int)]]) (beyond_c W0 b1 ([((a.size : Nat) : Int), ((b.size : Nat) : Int)] : List Int) (by simp) (by simp; omega)) (fun _ => congrArg Value.bool hb0) (fun _ => rfl))) (fun _ _ => ?_)
  refine Wl.imp (L' := (pt b1 3 [Value.int .i64 ((a.size : Nat) : Int), Value.int .i64 ((b.size : Nat) : Int)]) :: (isDisk pp (DS.new 64)) :: F) (fun _ h => h) ?_
  refine Wl.q (v := Value.bool false) (q_pick (t := false) rfl rfl) ?_
  refine Wl.q (v := Value.bool false) (q_move rfl) ?_
  refine Wl.q (v := Value.int .i64 n) (q_move rfl) ?_
  refine Wl.q (v := Value.bool true) (q_lss (r := true) rfl rfl (decide_eq_true (hn))) ?_
  refine Wl.q (v := Value.bool true) (q_pick (t := false) rfl rfl) ?_
  refine Wl.done ?_
  refine Wx.go ?_
  refine Wc.yes rfl ?_
  refine Wc.seq ?_
  refine Wc.region ?_
  refine Wl.e (e_call (F := (pt b1 3 [Value.int .i64 ((a.size : Nat) : Int), Value.int .i64 ((b.size : Nat) : Int)]) :: (isDisk pp (DS.new 64)) :: F) (args := []) Try.call13 rfl (alive_c W0)) (fun _ _ => ?_)
  refine Wl.imp (L' := (pt b1 3 [Value.int .i64 ((a.size : Nat) : Int), Value.int .i64 ((b.size : Nat) : Int)]) :: (isDisk pp (DS.new 64)) :: F) (fun _ h => h) ?_
  refine Wl.q (v := Value.bool true) (q_assign rfl) ?_
  refine Wl.done ?_
  refine Wx.go ?_
  refine Wc.ret ?_
  refine Wx.thenRet ?_
  refine Wx.fin1 rfl (.inl rfl) (fun w hs => ?_)
  exact ⟨(), trivial, rfl, (st_drop (st_drop (st_pull [0, 0] hs)))⟩

theorem whole_bigA (W0 : World) (a b : ByteArray) (n : Int) (hhi : n ≤ 9223372036854775807) (bits : Int) (hn : ¬ n < 0) (hb0 : beyondB [((a.size : Nat) : Int), ((b.size : Nat) : Int)] = false) (ok0 : Ok (List.replicate 64 noughts) ByteArray.empty 0) (ha : 1984 < a.size) (hp1 : (JS.mk ByteArray.empty 0 false).put (DS.new 64) a = (5, DS.new 64, ⟨ByteArray.empty, 0, false⟩)) :
    Con Try.prog W0 5 #[Value.string a, Value.string b, Value.int .i64 n, Value.int .i64 bits] [] (X := Unit) (fun _ => True) (fun _ => .bool true) (fun _ => []) := by
  refine Con.of (args := [Value.string a, Value.string b, Value.int .i64 n, Value.int .i64 bits]) Try.func5 rfl Try.ntmps5 rfl (fun F => ?_)
  have hr : (List.replicate 64 noughts).length = 64 := List.length_replicate
  have hh0 : half (List.replicate 64 noughts) = 31 := half_64 hr
  have hla := (beyond_two hb0).1
  have hlb := (beyond_two hb0).2
  have hna := few a hla
  have hnb := few b hlb
  show Wc _ W0 _ _ _ _ _ (F)
  refine Wc.seq ?_
  refine Wc.region ?_
  refine Wl.q (v := Value.bool false) (q_assign rfl) ?_
  refine Wl.done ?_
  refine Wx.go ?_
  refine Wc.seq ?_
  refine Wc.region ?_
  refine Wl.e (e_call (F := F) (args := [Value.int .i64 64]) Try.call16 rfl (new_ok W0 64 (by omega) (by omega))) (fun pp _ => ?_)
  refine Wl.imp (L' := (isDisk pp (DS.new 64)) :: F) (fun _ h => h) ?_
  refine Wl.q (v := Value.tuple #[Value.pointer (some ⟨pp, 0, none⟩), Value.int .i64 0]) (q_move rfl) ?_
  refine Wl.q (v := Value.pointer (some ⟨pp, 0, none⟩)) (q_extract (i := 0) rfl rfl) ?_
  refine Wl.q (v := Value.int .i64 0) (q_extract (i := 1) rfl rfl) ?_
  refine Wl.q (v := Value.pointer (some ⟨pp, 0, none⟩)) (q_assign rfl) ?_
  refine Wl.q (v := Value.int .i64 0) (q_assign rfl) ?_
  refine Wl.done ?_
  refine Wx.go ?_
  refine Wc.seq ?_
  refine Wc.seq ?_
  refine Wc.region ?_
  refine Wl.q (v := Value.int .i64 0) (q_move rfl) ?_
  refine Wl.q (v := Value.bool false) (q_neq (r := true) rfl rfl (decide_eq_true (by decide))) ?_
  refine Wl.q (v := Value.bool false) (q_move rfl) ?_
  refine Wl.q (v := Value.string a) (q_move rfl) ?_
  refine Wl.q (v := Value.int .i64 ((a.size : Nat) : Int)) (q_len_str Try.underlying9 rfl) ?_
  refine Wl.q (v := Value.string b) (q_move rfl) ?_
  refine Wl.q (v := Value.int .i64 ((b.size : Nat) : Int)) (q_len_str Try.underlying9 rfl) ?_
  refine Wl.e (e_buildSlice (cs := [Value.int .i64 ((a.size : Nat) : Int), Value.int .i64 ((b.size : Nat) : Int)]) se_72 zo_3 (by decide) (by decide) (by kernel_rfl)) (fun b1 _ => ?_)
  refine Wl.imp (L' := (pt b1 3 [Value.int .i64 ((a.size : Nat) : Int), Value.int .i64 ((b.size : Nat) : Int)]) :: (isDisk pp (DS.new 64)) :: F) (fun _ h => h) ?_
  refine Wl.e (e_call (F := (isDisk pp (DS.new 64)) :: F) (args := [Value.slice (some ⟨b1, 0, none⟩) 2 2]) Try.call20 rfl (Con.eqs (val' := fun _ => Value.bool false) (post' := fun _ => [pt b1 3 [Value.int .i64 ((a.size : Nat) : Int), Value.int .i64 ((b.size : Nat) : Int)]]) (beyond_c W0 b1 ([((a.size : Nat) : Int), ((b.size : Nat) : Int)] : List Int) (by simp) (by simp; omega)) (fun _ => congrArg Value.bool hb0) (fun _ => rfl))) (fun _ _ => ?_)
  refine Wl.imp (L' := (pt b1 3 [Value.int .i64 ((a.size : Nat) : Int), Value.int .i64 ((b.size : Nat) : Int)]) :: (isDisk pp (DS.new 64)) :: F) (fun _ h => h) ?_
  refine Wl.q (v := Value.bool false) (q_pick (t := false) rfl rfl) ?_
  refine Wl.q (v := Value.bool false) (q_move rfl) ?_
  refine Wl.q (v := Value.int .i64 n) (q_move rfl) ?_
  refine Wl.q (v := Value.bool false) (q_lss (r := false) rfl rfl (decide_eq_false (hn))) ?_
  refine Wl.q (v := Value.bool false) (q_pick (t := false) rfl rfl) ?_
  refine Wl.done ?_
  refine Wx.go ?_
  refine Wc.no rfl ?_
  refine Wc.skip ?_
  refine Wx.go ?_
  refine Wc.seq ?_
  refine Wc.region ?_
  refine Wl.q (v := Value.pointer (some ⟨pp, 0, none⟩)) (q_move rfl) ?_
  refine Wl.imp (L' := (isDisk pp (DS.new 64)) :: (pt b1 3 [Value.int .i64 ((a.size : Nat) : Int), Value.int .i64 ((b.size : Nat) : Int)]) :: F) (fun _ h => st_pull [1] h) ?_
  refine Wl.e (e_call (F := (pt b1 3 [Value.int .i64 ((a.size : Nat) : Int), Value.int .i64 ((b.size : Nat) : Int)]) :: F) (args := [Value.pointer (some ⟨pp, 0, none⟩)]) Try.call12 rfl (open_ok W0 pp (DS.new 64) (Ok.wf ok0) (by show 1 ≤ ((List.replicate 64 noughts)).length; omega) (by show 0 < 1099511627776; decide) (openD_up ok0))) (fun j0 _ => ?_)
  refine Wl.imp (L' := (isJ j0 pp ⟨ByteArray.empty, 0, false⟩) :: (isDisk pp (DS.new 64)) :: (pt b1 3 [Value.int .i64 ((a.size : Nat) : Int), Value.int .i64 ((b.size : Nat) : Int)]) :: F) (fun _ h => h) ?_
  refine Wl.q (v := Value.tuple #[Value.pointer (some ⟨j0, 0, none⟩), Value.int .i64 0]) (q_move rfl) ?_
  refine Wl.q (v := Value.pointer (some ⟨j0, 0, none⟩)) (q_extract (i := 0) rfl rfl) ?_
  refine Wl.q (v := Value.int .i64 0) (q_extract (i := 1) rfl rfl) ?_
  refine Wl.q (v := Value.pointer (some ⟨j0, 0, none⟩)) (q_assign rfl) ?_
  refine Wl.q (v := Value.int .i64 0) (q_assign rfl) ?_
  refine Wl.done ?_
  refine Wx.go ?_
  refine Wc.seq ?_
  refine Wc.seq ?_
  refine Wc.region ?_
  refine Wl.q (v := Value.int .i64 0) (q_move rfl) ?_
  refine Wl.q (v := Value.bool false) (q_neq (r := true) rfl rfl (decide_eq_true (by decide))) ?_
  refine Wl.q (v := Value.bool false) (q_move rfl) ?_
  refine Wl.q (v := Value.pointer (some ⟨j0, 0, none⟩)) (q_move rfl) ?_
  refine Wl.q (v := Value.bool false) (q_eql_nil (r := false) rfl rfl Try.underlying22 rfl) ?_
  refine Wl.q (v := Value.bool false) (q_pick (t := false) rfl rfl) ?_
  refine Wl.done ?_
  refine Wx.go ?_
  refine Wc.no rfl ?_
  refine Wc.skip ?_
  refine Wx.go ?_
  refine Wc.seq ?_
  refine Wc.seq ?_
  refine Wc.region ?_
  refine Wl.q (v := Value.pointer (some ⟨j0, 0, none⟩)) (q_move rfl) ?_
  refine Wl.q (v := Value.string a) (q_move rfl) ?_
  refine Wl.e (e_call (F := (pt b1 3 [Value.int .i64 ((a.size : Nat) : Int), Value.int .i64 ((b.size : Nat) : Int)]) :: F) (args := [Value.pointer (some ⟨j0, 0, none⟩), Value.string a]) Try.call9 rfl (Con.eqs (val' := fun _ => Value.int .i64 5) (post' := fun _ => [isJ j0 pp ⟨ByteArray.empty, 0, false⟩, isDisk pp (DS.new 64)]) (Put_c W0 j0 pp (⟨ByteArray.empty, 0, false⟩ : JS) (DS.new 64) a (ok0.wf) (by show 1 ≤ ((List.replicate 64 noughts)).length; omega) (by show 0 < 1000000000000; decide) (by show 0 < 4000000000000000000; omega) (by show 0 ≤ (0 : Int); omega) (by show (0 : Int) < 9223372036854775807; omega)) (fun _ => by rw [hp1]) (fun _ => by rw [hp1]))) (fun _ _ => ?_)
  refine Wl.imp (L' := (isJ j0 pp ⟨ByteArray.empty, 0, false⟩) :: (isDisk pp (DS.new 64)) :: (pt b1 3 [Value.int .i64 ((a.size : Nat) : Int), Value.int .i64 ((b.size : Nat) : Int)]) :: F) (fun _ h => h) ?_
  refine Wl.q (v := Value.bool true) (q_neq (r := false) rfl rfl (decide_eq_false (by decide))) ?_
  refine Wl.done ?_
  refine Wx.go ?_
  refine Wc.yes rfl ?_
  refine Wc.seq ?_
  refine Wc.region ?_
  refine Wl.q (v := Value.string a) (q_move rfl) ?_
  refine Wl.q (v := Value.int .i64 ((a.size : Nat) : Int)) (q_len_str Try.underlying9 rfl) ?_
  refine Wl.q (v := Value.pointer (some ⟨j0, 0, none⟩)) (q_move rfl) ?_
  refine Wl.e (e_call (F := (pt b1 3 [Value.int .i64 ((a.size : Nat) : Int), Value.int .i64 ((b.size : Nat) : Int)]) :: F) (args := [Value.pointer (some ⟨j0, 0, none⟩)]) Try.call11 rfl (Con.eqs (val' := fun _ => Value.int .i64 ((half (List.replicate 64 noughts) * 64 : Nat) : Int)) (post' := fun _ => [isJ j0 pp ⟨ByteArray.empty, 0, false⟩, isDisk pp (DS.new 64)]) (room_in W0 j0 pp ByteArray.empty 0 (DS.new 64) false (by show 1 ≤ ((List.replicate 64 noughts)).length; omega) (by show ((List.replicate 64 noughts)).length ≤ 4096; omega)) (fun _ => rfl) (fun _ => rfl))) (fun _ _ => ?_)
  refine Wl.imp (L' := (isJ j0 pp ⟨ByteArray.empty, 0, false⟩) :: (isDisk pp (DS.new 64)) :: (pt b1 3 [Value.int .i64 ((a.size : Nat) : Int), Value.int .i64 ((b.size : Nat) : Int)]) :: F) (fun _ h => h) ?_
  refine Wl.q (v := Value.bool true) (q_gtr (r := true) rfl rfl (decide_eq_true (by rw [hh0]; omega))) ?_
  refine Wl.q (v := Value.bool true) (q_move rfl) ?_
  refine Wl.e (e_call (F := (isJ j0 pp ⟨ByteArray.empty, 0, false⟩) :: (isDisk pp (DS.new 64)) :: (pt b1 3 [Value.int .i64 ((a.size : Nat) : Int), Value.int .i64 ((b.size : Nat) : Int)]) :: F) (args := []) Try.call13 rfl (alive_c W0)) (fun _ _ => ?_)
  refine Wl.imp (L' := (isJ j0 pp ⟨ByteArray.empty, 0, false⟩) :: (isDisk pp (DS.new 64)) :: (pt b1 3 [Value.int .i64 ((a.size : Nat) : Int), Value.int .i64 ((b.size : Nat) : Int)]) :: F) (fun _ h => h) ?_
  refine Wl.q (v := Value.bool true) (q_pick (t := true) rfl rfl) ?_
  refine Wl.q (v := Value.bool true) (q_assign rfl) ?_
  refine Wl.done ?_
  refine Wx.go ?_
  refine Wc.ret ?_
  refine Wx.thenRet ?_
  refine Wx.fin1 rfl (.inl rfl) (fun w hs => ?_)
  exact ⟨(), trivial, rfl, (st_drop (st_drop (st_drop (st_pull [0, 0, 0] hs))))⟩

theorem whole_bigB (W0 : World) (a b : ByteArray) (n : Int) (hhi : n ≤ 9223372036854775807) (bits : Int) (hn : ¬ n < 0) (hb0 : beyondB [((a.size : Nat) : Int), ((b.size : Nat) : Int)] = false) (ok0 : Ok (List.replicate 64 noughts) ByteArray.empty 0) (ha : a.size ≤ 1984) (S1 : List ByteArray) (hl1 : S1.length = 64) (ok1 : Ok S1 a 1) (hp1 : (JS.mk ByteArray.empty 0 false).put (DS.new 64) a = (0, (⟨S1, [], false, (0 + nPieces a + 3), none⟩ : DS), ⟨a, 1, false⟩)) (hbb : 1984 < b.size) (hp2 : (JS.mk a 1 false).put (⟨S1, [], false, (0 + nPieces a + 3), some (n.toNat, bits)⟩ : DS) b = (5, (⟨S1, [], false, (0 + nPieces a + 3), some (n.toNat, bits)⟩ : DS), ⟨a, 1, false⟩)) :
    Con Try.prog W0 5 #[Value.string a, Value.string b, Value.int .i64 n, Value.int .i64 bits] [] (X := Unit) (fun _ => True) (fun _ => .bool true) (fun _ => []) := by
  refine Con.of (args := [Value.string a, Value.string b, Value.int .i64 n, Value.int .i64 bits]) Try.func5 rfl Try.ntmps5 rfl (fun F => ?_)
  have hr : (List.replicate 64 noughts).length = 64 := List.length_replicate
  have hh0 : half (List.replicate 64 noughts) = 31 := half_64 hr
  have hla := (beyond_two hb0).1
  have hlb := (beyond_two hb0).2
  have hna := few a hla
  have hnb := few b hlb
  have hh1 : half S1 = 31 := half_64 hl1
  have hnt : n.toNat ≤ 9223372036854775807 := by omega
  show Wc _ W0 _ _ _ _ _ (F)
  refine Wc.seq ?_
  refine Wc.region ?_
  refine Wl.q (v := Value.bool false) (q_assign rfl) ?_
  refine Wl.done ?_
  refine Wx.go ?_
  refine Wc.seq ?_
  refine Wc.region ?_
  refine Wl.e (e_call (F := F) (args := [Value.int .i64 64]) Try.call16 rfl (new_ok W0 64 (by omega) (by omega))) (fun pp _ => ?_)
  refine Wl.imp (L' := (isDisk pp (DS.new 64)) :: F) (fun _ h => h) ?_
  refine Wl.q (v := Value.tuple #[Value.pointer (some ⟨pp, 0, none⟩), Value.int .i64 0]) (q_move rfl) ?_
  refine Wl.q (v := Value.pointer (some ⟨pp, 0, none⟩)) (q_extract (i := 0) rfl rfl) ?_
  refine Wl.q (v := Value.int .i64 0) (q_extract (i := 1) rfl rfl) ?_
  refine Wl.q (v := Value.pointer (some ⟨pp, 0, none⟩)) (q_assign rfl) ?_
  refine Wl.q (v := Value.int .i64 0) (q_assign rfl) ?_
  refine Wl.done ?_
  refine Wx.go ?_
  refine Wc.seq ?_
  refine Wc.seq ?_
  refine Wc.region ?_
  refine Wl.q (v := Value.int .i64 0) (q_move rfl) ?_
  refine Wl.q (v := Value.bool false) (q_neq (r := true) rfl rfl (decide_eq_true (by decide))) ?_
  refine Wl.q (v := Value.bool false) (q_move rfl) ?_
  refine Wl.q (v := Value.string a) (q_move rfl) ?_
  refine Wl.q (v := Value.int .i64 ((a.size : Nat) : Int)) (q_len_str Try.underlying9 rfl) ?_
  refine Wl.q (v := Value.string b) (q_move rfl) ?_
  refine Wl.q (v := Value.int .i64 ((b.size : Nat) : Int)) (q_len_str Try.underlying9 rfl) ?_
  refine Wl.e (e_buildSlice (cs := [Value.int .i64 ((a.size : Nat) : Int), Value.int .i64 ((b.size : Nat) : Int)]) se_72 zo_3 (by decide) (by decide) (by kernel_rfl)) (fun b1 _ => ?_)
  refine Wl.imp (L' := (pt b1 3 [Value.int .i64 ((a.size : Nat) : Int), Value.int .i64 ((b.size : Nat) : Int)]) :: (isDisk pp (DS.new 64)) :: F) (fun _ h => h) ?_
  refine Wl.e (e_call (F := (isDisk pp (DS.new 64)) :: F) (args := [Value.slice (some ⟨b1, 0, none⟩) 2 2]) Try.call20 rfl (Con.eqs (val' := fun _ => Value.bool false) (post' := fun _ => [pt b1 3 [Value.int .i64 ((a.size : Nat) : Int), Value.int .i64 ((b.size : Nat) : Int)]]) (beyond_c W0 b1 ([((a.size : Nat) : Int), ((b.size : Nat) : Int)] : List Int) (by simp) (by simp; omega)) (fun _ => congrArg Value.bool hb0) (fun _ => rfl))) (fun _ _ => ?_)
  refine Wl.imp (L' := (pt b1 3 [Value.int .i64 ((a.size : Nat) : Int), Value.int .i64 ((b.size : Nat) : Int)]) :: (isDisk pp (DS.new 64)) :: F) (fun _ h => h) ?_
  refine Wl.q (v := Value.bool false) (q_pick (t := false) rfl rfl) ?_
  refine Wl.q (v := Value.bool false) (q_move rfl) ?_
  refine Wl.q (v := Value.int .i64 n) (q_move rfl) ?_
  refine Wl.q (v := Value.bool false) (q_lss (r := false) rfl rfl (decide_eq_false (hn))) ?_
  refine Wl.q (v := Value.bool false) (q_pick (t := false) rfl rfl) ?_
  refine Wl.done ?_
  refine Wx.go ?_
  refine Wc.no rfl ?_
  refine Wc.skip ?_
  refine Wx.go ?_
  refine Wc.seq ?_
  refine Wc.region ?_
  refine Wl.q (v := Value.pointer (some ⟨pp, 0, none⟩)) (q_move rfl) ?_
  refine Wl.imp (L' := (isDisk pp (DS.new 64)) :: (pt b1 3 [Value.int .i64 ((a.size : Nat) : Int), Value.int .i64 ((b.size : Nat) : Int)]) :: F) (fun _ h => st_pull [1] h) ?_
  refine Wl.e (e_call (F := (pt b1 3 [Value.int .i64 ((a.size : Nat) : Int), Value.int .i64 ((b.size : Nat) : Int)]) :: F) (args := [Value.pointer (some ⟨pp, 0, none⟩)]) Try.call12 rfl (open_ok W0 pp (DS.new 64) (Ok.wf ok0) (by show 1 ≤ ((List.replicate 64 noughts)).length; omega) (by show 0 < 1099511627776; decide) (openD_up ok0))) (fun j0 _ => ?_)
  refine Wl.imp (L' := (isJ j0 pp ⟨ByteArray.empty, 0, false⟩) :: (isDisk pp (DS.new 64)) :: (pt b1 3 [Value.int .i64 ((a.size : Nat) : Int), Value.int .i64 ((b.size : Nat) : Int)]) :: F) (fun _ h => h) ?_
  refine Wl.q (v := Value.tuple #[Value.pointer (some ⟨j0, 0, none⟩), Value.int .i64 0]) (q_move rfl) ?_
  refine Wl.q (v := Value.pointer (some ⟨j0, 0, none⟩)) (q_extract (i := 0) rfl rfl) ?_
  refine Wl.q (v := Value.int .i64 0) (q_extract (i := 1) rfl rfl) ?_
  refine Wl.q (v := Value.pointer (some ⟨j0, 0, none⟩)) (q_assign rfl) ?_
  refine Wl.q (v := Value.int .i64 0) (q_assign rfl) ?_
  refine Wl.done ?_
  refine Wx.go ?_
  refine Wc.seq ?_
  refine Wc.seq ?_
  refine Wc.region ?_
  refine Wl.q (v := Value.int .i64 0) (q_move rfl) ?_
  refine Wl.q (v := Value.bool false) (q_neq (r := true) rfl rfl (decide_eq_true (by decide))) ?_
  refine Wl.q (v := Value.bool false) (q_move rfl) ?_
  refine Wl.q (v := Value.pointer (some ⟨j0, 0, none⟩)) (q_move rfl) ?_
  refine Wl.q (v := Value.bool false) (q_eql_nil (r := false) rfl rfl Try.underlying22 rfl) ?_
  refine Wl.q (v := Value.bool false) (q_pick (t := false) rfl rfl) ?_
  refine Wl.done ?_
  refine Wx.go ?_
  refine Wc.no rfl ?_
  refine Wc.skip ?_
  refine Wx.go ?_
  refine Wc.seq ?_
  refine Wc.seq ?_
  refine Wc.region ?_
  refine Wl.q (v := Value.pointer (some ⟨j0, 0, none⟩)) (q_move rfl) ?_
  refine Wl.q (v := Value.string a) (q_move rfl) ?_
  refine Wl.e (e_call (F := (pt b1 3 [Value.int .i64 ((a.size : Nat) : Int), Value.int .i64 ((b.size : Nat) : Int)]) :: F) (args := [Value.pointer (some ⟨j0, 0, none⟩), Value.string a]) Try.call9 rfl (Con.eqs (val' := fun _ => Value.int .i64 0) (post' := fun _ => [isJ j0 pp ⟨a, 1, false⟩, isDisk pp (⟨S1, [], false, (0 + nPieces a + 3), none⟩ : DS)]) (Put_c W0 j0 pp (⟨ByteArray.empty, 0, false⟩ : JS) (DS.new 64) a (ok0.wf) (by show 1 ≤ ((List.replicate 64 noughts)).length; omega) (by show 0 < 1000000000000; decide) (by show 0 < 4000000000000000000; omega) (by show 0 ≤ (0 : Int); omega) (by show (0 : Int) < 9223372036854775807; omega)) (fun _ => by rw [hp1]) (fun _ => by rw [hp1]))) (fun _ _ => ?_)
  refine Wl.imp (L' := (isJ j0 pp ⟨a, 1, false⟩) :: (isDisk pp (⟨S1, [], false, (0 + nPieces a + 3), none⟩ : DS)) :: (pt b1 3 [Value.int .i64 ((a.size : Nat) : Int), Value.int .i64 ((b.size : Nat) : Int)]) :: F) (fun _ h => h) ?_
  refine Wl.q (v := Value.bool false) (q_neq (r := true) rfl rfl (decide_eq_true (by decide))) ?_
  refine Wl.done ?_
  refine Wx.go ?_
  refine Wc.no rfl ?_
  refine Wc.skip ?_
  refine Wx.go ?_
  refine Wc.seq ?_
  refine Wc.seq ?_
  refine Wc.region ?_
  refine Wl.q (v := Value.pointer (some ⟨pp, 0, none⟩)) (q_move rfl) ?_
  refine Wl.q (v := Value.int .i64 n) (q_move rfl) ?_
  refine Wl.q (v := Value.int .i64 bits) (q_move rfl) ?_
  refine Wl.imp (L' := (isDisk pp (⟨S1, [], false, (0 + nPieces a + 3), none⟩ : DS)) :: (isJ j0 pp ⟨a, 1, false⟩) :: (pt b1 3 [Value.int .i64 ((a.size : Nat) : Int), Value.int .i64 ((b.size : Nat) : Int)]) :: F) (fun _ h => st_pull [1] h) ?_
  refine Wl.e (e_call (F := (isJ j0 pp ⟨a, 1, false⟩) :: (pt b1 3 [Value.int .i64 ((a.size : Nat) : Int), Value.int .i64 ((b.size : Nat) : Int)]) :: F) (args := [Value.pointer (some ⟨pp, 0, none⟩), Value.int .i64 n, Value.int .i64 bits]) Try.call21 rfl (Con.eqs (val' := fun _ => Value.int .i64 0) (post' := fun _ => [isDisk pp (⟨S1, [], false, (0 + nPieces a + 3), some (n.toNat, bits)⟩ : DS)]) (cut_c W0 pp (⟨S1, [], false, (0 + nPieces a + 3), none⟩ : DS) n bits) (fun _ => (by rw [cut_ok hn])) (fun _ => (by rw [cut_ok hn])))) (fun _ _ => ?_)
  refine Wl.imp (L' := (isDisk pp (⟨S1, [], false, (0 + nPieces a + 3), some (n.toNat, bits)⟩ : DS)) :: (isJ j0 pp ⟨a, 1, false⟩) :: (pt b1 3 [Value.int .i64 ((a.size : Nat) : Int), Value.int .i64 ((b.size : Nat) : Int)]) :: F) (fun _ h => h) ?_
  refine Wl.q (v := Value.bool false) (q_neq (r := true) rfl rfl (decide_eq_true (by decide))) ?_
  refine Wl.done ?_
  refine Wx.go ?_
  refine Wc.no rfl ?_
  refine Wc.skip ?_
  refine Wx.go ?_
  refine Wc.seq ?_
  refine Wc.region ?_
  refine Wl.q (v := Value.pointer (some ⟨j0, 0, none⟩)) (q_move rfl) ?_
  refine Wl.q (v := Value.string b) (q_move rfl) ?_
  refine Wl.imp (L' := (isJ j0 pp ⟨a, 1, false⟩) :: (isDisk pp (⟨S1, [], false, (0 + nPieces a + 3), some (n.toNat, bits)⟩ : DS)) :: (pt b1 3 [Value.int .i64 ((a.size : Nat) : Int), Value.int .i64 ((b.size : Nat) : Int)]) :: F) (fun _ h => st_pull [1, 0] h) ?_
  refine Wl.e (e_call (F := (pt b1 3 [Value.int .i64 ((a.size : Nat) : Int), Value.int .i64 ((b.size : Nat) : Int)]) :: F) (args := [Value.pointer (some ⟨j0, 0, none⟩), Value.string b]) Try.call9 rfl (Con.eqs (val' := fun _ => Value.int .i64 5) (post' := fun _ => [isJ j0 pp ⟨a, 1, false⟩, isDisk pp (⟨S1, [], false, (0 + nPieces a + 3), some (n.toNat, bits)⟩ : DS)]) (Put_c W0 j0 pp (⟨a, 1, false⟩ : JS) (⟨S1, [], false, (0 + nPieces a + 3), some (n.toNat, bits)⟩ : DS) b (Ok.wfc ok1 hnt) (by show 1 ≤ (S1).length; omega) (by show 0 < 1000000000000; decide) (by show (0 + nPieces a + 3) < 4000000000000000000; omega) (by show 0 ≤ (1 : Int); omega) (by show (1 : Int) < 9223372036854775807; omega)) (fun _ => by rw [hp2]) (fun _ => by rw [hp2]))) (fun _ _ => ?_)
  refine Wl.imp (L' := (isJ j0 pp ⟨a, 1, false⟩) :: (isDisk pp (⟨S1, [], false, (0 + nPieces a + 3), some (n.toNat, bits)⟩ : DS)) :: (pt b1 3 [Value.int .i64 ((a.size : Nat) : Int), Value.int .i64 ((b.size : Nat) : Int)]) :: F) (fun _ h => h) ?_
  refine Wl.q (v := Value.int .i64 5) (q_assign rfl) ?_
  refine Wl.done ?_
  refine Wx.go ?_
  refine Wc.seq ?_
  refine Wc.seq ?_
  refine Wc.region ?_
  refine Wl.q (v := Value.string b) (q_move rfl) ?_
  refine Wl.q (v := Value.int .i64 ((b.size : Nat) : Int)) (q_len_str Try.underlying9 rfl) ?_
  refine Wl.q (v := Value.pointer (some ⟨j0, 0, none⟩)) (q_move rfl) ?_
  refine Wl.e (e_call (F := (pt b1 3 [Value.int .i64 ((a.size : Nat) : Int), Value.int .i64 ((b.size : Nat) : Int)]) :: F) (args := [Value.pointer (some ⟨j0, 0, none⟩)]) Try.call11 rfl (Con.eqs (val' := fun _ => Value.int .i64 ((half S1 * 64 : Nat) : Int)) (post' := fun _ => [isJ j0 pp ⟨a, 1, false⟩, isDisk pp (⟨S1, [], false, (0 + nPieces a + 3), some (n.toNat, bits)⟩ : DS)]) (room_in W0 j0 pp a 1 (⟨S1, [], false, (0 + nPieces a + 3), some (n.toNat, bits)⟩ : DS) false (by show 1 ≤ (S1).length; omega) (by show (S1).length ≤ 4096; omega)) (fun _ => rfl) (fun _ => rfl))) (fun _ _ => ?_)
  refine Wl.imp (L' := (isJ j0 pp ⟨a, 1, false⟩) :: (isDisk pp (⟨S1, [], false, (0 + nPieces a + 3), some (n.toNat, bits)⟩ : DS)) :: (pt b1 3 [Value.int .i64 ((a.size : Nat) : Int), Value.int .i64 ((b.size : Nat) : Int)]) :: F) (fun _ h => h) ?_
  refine Wl.q (v := Value.bool true) (q_gtr (r := true) rfl rfl (decide_eq_true (by rw [hh1]; omega))) ?_
  refine Wl.done ?_
  refine Wx.go ?_
  refine Wc.yes rfl ?_
  refine Wc.seq ?_
  refine Wc.region ?_
  refine Wl.q (v := Value.int .i64 5) (q_move rfl) ?_
  refine Wl.q (v := Value.bool true) (q_eql (r := true) rfl rfl (decide_eq_true (by decide))) ?_
  refine Wl.q (v := Value.bool true) (q_move rfl) ?_
  refine Wl.e (e_call (F := (isJ j0 pp ⟨a, 1, false⟩) :: (isDisk pp (⟨S1, [], false, (0 + nPieces a + 3), some (n.toNat, bits)⟩ : DS)) :: (pt b1 3 [Value.int .i64 ((a.size : Nat) : Int), Value.int .i64 ((b.size : Nat) : Int)]) :: F) (args := []) Try.call13 rfl (alive_c W0)) (fun _ _ => ?_)
  refine Wl.imp (L' := (isJ j0 pp ⟨a, 1, false⟩) :: (isDisk pp (⟨S1, [], false, (0 + nPieces a + 3), some (n.toNat, bits)⟩ : DS)) :: (pt b1 3 [Value.int .i64 ((a.size : Nat) : Int), Value.int .i64 ((b.size : Nat) : Int)]) :: F) (fun _ h => h) ?_
  refine Wl.q (v := Value.bool true) (q_pick (t := true) rfl rfl) ?_
  refine Wl.q (v := Value.bool true) (q_assign rfl) ?_
  refine Wl.done ?_
  refine Wx.go ?_
  refine Wc.ret ?_
  refine Wx.thenRet ?_
  refine Wx.fin1 rfl (.inl rfl) (fun w hs => ?_)
  exact ⟨(), trivial, rfl, (st_drop (st_drop (st_drop (st_pull [0, 0, 0] hs))))⟩

set_option maxHeartbeats 4000000 in
theorem whole_in (W0 : World) (a b : ByteArray) (n : Int) (hhi : n ≤ 9223372036854775807) (bits : Int) (hn : ¬ n < 0) (hb0 : beyondB [((a.size : Nat) : Int), ((b.size : Nat) : Int)] = false) (ok0 : Ok (List.replicate 64 noughts) ByteArray.empty 0) (ha : a.size ≤ 1984) (S1 : List ByteArray) (hl1 : S1.length = 64) (ok1 : Ok S1 a 1) (hp1 : (JS.mk ByteArray.empty 0 false).put (DS.new 64) a = (0, (⟨S1, [], false, (0 + nPieces a + 3), none⟩ : DS), ⟨a, 1, false⟩)) (hbb : b.size ≤ 1984) (S2 : List ByteArray) (k2 : Nat) (hl2 : S2.length = 64) (ok2 : Ok S2 b 2) (hc : nPieces b + 3 ≤ n.toNat) (hp2 : (JS.mk a 1 false).put (⟨S1, [], false, (0 + nPieces a + 3), some (n.toNat, bits)⟩ : DS) b = (0, (⟨S2, [], false, k2, some (n.toNat - nPieces b - 3, bits)⟩ : DS), ⟨b, 2, false⟩)) :
    Con Try.prog W0 5 #[Value.string a, Value.string b, Value.int .i64 n, Value.int .i64 bits] [] (X := Unit) (fun _ => True) (fun _ => .bool true) (fun _ => []) := by
  refine Con.of (args := [Value.string a, Value.string b, Value.int .i64 n, Value.int .i64 bits]) Try.func5 rfl Try.ntmps5 rfl (fun F => ?_)
  have hr : (List.replicate 64 noughts).length = 64 := List.length_replicate
  have hh0 : half (List.replicate 64 noughts) = 31 := half_64 hr
  have hla := (beyond_two hb0).1
  have hlb := (beyond_two hb0).2
  have hna := few a hla
  have hnb := few b hlb
  have hh1 : half S1 = 31 := half_64 hl1
  have hnt : n.toNat ≤ 9223372036854775807 := by omega
  show Wc _ W0 _ _ _ _ _ (F)
  refine Wc.seq ?_
  refine Wc.region ?_
  refine Wl.q (v := Value.bool false) (q_assign rfl) ?_
  refine Wl.done ?_
  refine Wx.go ?_
  refine Wc.seq ?_
  refine Wc.region ?_
  refine Wl.e (e_call (F := F) (args := [Value.int .i64 64]) Try.call16 rfl (new_ok W0 64 (by omega) (by omega))) (fun pp _ => ?_)
  refine Wl.imp (L' := (isDisk pp (DS.new 64)) :: F) (fun _ h => h) ?_
  refine Wl.q (v := Value.tuple #[Value.pointer (some ⟨pp, 0, none⟩), Value.int .i64 0]) (q_move rfl) ?_
  refine Wl.q (v := Value.pointer (some ⟨pp, 0, none⟩)) (q_extract (i := 0) rfl rfl) ?_
  refine Wl.q (v := Value.int .i64 0) (q_extract (i := 1) rfl rfl) ?_
  refine Wl.q (v := Value.pointer (some ⟨pp, 0, none⟩)) (q_assign rfl) ?_
  refine Wl.q (v := Value.int .i64 0) (q_assign rfl) ?_
  refine Wl.done ?_
  refine Wx.go ?_
  refine Wc.seq ?_
  refine Wc.seq ?_
  refine Wc.region ?_
  refine Wl.q (v := Value.int .i64 0) (q_move rfl) ?_
  refine Wl.q (v := Value.bool false) (q_neq (r := true) rfl rfl (decide_eq_true (by decide))) ?_
  refine Wl.q (v := Value.bool false) (q_move rfl) ?_
  refine Wl.q (v := Value.string a) (q_move rfl) ?_
  refine Wl.q (v := Value.int .i64 ((a.size : Nat) : Int)) (q_len_str Try.underlying9 rfl) ?_
  refine Wl.q (v := Value.string b) (q_move rfl) ?_
  refine Wl.q (v := Value.int .i64 ((b.size : Nat) : Int)) (q_len_str Try.underlying9 rfl) ?_
  refine Wl.e (e_buildSlice (cs := [Value.int .i64 ((a.size : Nat) : Int), Value.int .i64 ((b.size : Nat) : Int)]) se_72 zo_3 (by decide) (by decide) (by kernel_rfl)) (fun b1 _ => ?_)
  refine Wl.imp (L' := (pt b1 3 [Value.int .i64 ((a.size : Nat) : Int), Value.int .i64 ((b.size : Nat) : Int)]) :: (isDisk pp (DS.new 64)) :: F) (fun _ h => h) ?_
  refine Wl.e (e_call (F := (isDisk pp (DS.new 64)) :: F) (args := [Value.slice (some ⟨b1, 0, none⟩) 2 2]) Try.call20 rfl (Con.eqs (val' := fun _ => Value.bool false) (post' := fun _ => [pt b1 3 [Value.int .i64 ((a.size : Nat) : Int), Value.int .i64 ((b.size : Nat) : Int)]]) (beyond_c W0 b1 ([((a.size : Nat) : Int), ((b.size : Nat) : Int)] : List Int) (by simp) (by simp; omega)) (fun _ => congrArg Value.bool hb0) (fun _ => rfl))) (fun _ _ => ?_)
  refine Wl.imp (L' := (pt b1 3 [Value.int .i64 ((a.size : Nat) : Int), Value.int .i64 ((b.size : Nat) : Int)]) :: (isDisk pp (DS.new 64)) :: F) (fun _ h => h) ?_
  refine Wl.q (v := Value.bool false) (q_pick (t := false) rfl rfl) ?_
  refine Wl.q (v := Value.bool false) (q_move rfl) ?_
  refine Wl.q (v := Value.int .i64 n) (q_move rfl) ?_
  refine Wl.q (v := Value.bool false) (q_lss (r := false) rfl rfl (decide_eq_false (hn))) ?_
  refine Wl.q (v := Value.bool false) (q_pick (t := false) rfl rfl) ?_
  refine Wl.done ?_
  refine Wx.go ?_
  refine Wc.no rfl ?_
  refine Wc.skip ?_
  refine Wx.go ?_
  refine Wc.seq ?_
  refine Wc.region ?_
  refine Wl.q (v := Value.pointer (some ⟨pp, 0, none⟩)) (q_move rfl) ?_
  refine Wl.imp (L' := (isDisk pp (DS.new 64)) :: (pt b1 3 [Value.int .i64 ((a.size : Nat) : Int), Value.int .i64 ((b.size : Nat) : Int)]) :: F) (fun _ h => st_pull [1] h) ?_
  refine Wl.e (e_call (F := (pt b1 3 [Value.int .i64 ((a.size : Nat) : Int), Value.int .i64 ((b.size : Nat) : Int)]) :: F) (args := [Value.pointer (some ⟨pp, 0, none⟩)]) Try.call12 rfl (open_ok W0 pp (DS.new 64) (Ok.wf ok0) (by show 1 ≤ ((List.replicate 64 noughts)).length; omega) (by show 0 < 1099511627776; decide) (openD_up ok0))) (fun j0 _ => ?_)
  refine Wl.imp (L' := (isJ j0 pp ⟨ByteArray.empty, 0, false⟩) :: (isDisk pp (DS.new 64)) :: (pt b1 3 [Value.int .i64 ((a.size : Nat) : Int), Value.int .i64 ((b.size : Nat) : Int)]) :: F) (fun _ h => h) ?_
  refine Wl.q (v := Value.tuple #[Value.pointer (some ⟨j0, 0, none⟩), Value.int .i64 0]) (q_move rfl) ?_
  refine Wl.q (v := Value.pointer (some ⟨j0, 0, none⟩)) (q_extract (i := 0) rfl rfl) ?_
  refine Wl.q (v := Value.int .i64 0) (q_extract (i := 1) rfl rfl) ?_
  refine Wl.q (v := Value.pointer (some ⟨j0, 0, none⟩)) (q_assign rfl) ?_
  refine Wl.q (v := Value.int .i64 0) (q_assign rfl) ?_
  refine Wl.done ?_
  refine Wx.go ?_
  refine Wc.seq ?_
  refine Wc.seq ?_
  refine Wc.region ?_
  refine Wl.q (v := Value.int .i64 0) (q_move rfl) ?_
  refine Wl.q (v := Value.bool false) (q_neq (r := true) rfl rfl (decide_eq_true (by decide))) ?_
  refine Wl.q (v := Value.bool false) (q_move rfl) ?_
  refine Wl.q (v := Value.pointer (some ⟨j0, 0, none⟩)) (q_move rfl) ?_
  refine Wl.q (v := Value.bool false) (q_eql_nil (r := false) rfl rfl Try.underlying22 rfl) ?_
  refine Wl.q (v := Value.bool false) (q_pick (t := false) rfl rfl) ?_
  refine Wl.done ?_
  refine Wx.go ?_
  refine Wc.no rfl ?_
  refine Wc.skip ?_
  refine Wx.go ?_
  refine Wc.seq ?_
  refine Wc.seq ?_
  refine Wc.region ?_
  refine Wl.q (v := Value.pointer (some ⟨j0, 0, none⟩)) (q_move rfl) ?_
  refine Wl.q (v := Value.string a) (q_move rfl) ?_
  refine Wl.e (e_call (F := (pt b1 3 [Value.int .i64 ((a.size : Nat) : Int), Value.int .i64 ((b.size : Nat) : Int)]) :: F) (args := [Value.pointer (some ⟨j0, 0, none⟩), Value.string a]) Try.call9 rfl (Con.eqs (val' := fun _ => Value.int .i64 0) (post' := fun _ => [isJ j0 pp ⟨a, 1, false⟩, isDisk pp (⟨S1, [], false, (0 + nPieces a + 3), none⟩ : DS)]) (Put_c W0 j0 pp (⟨ByteArray.empty, 0, false⟩ : JS) (DS.new 64) a (ok0.wf) (by show 1 ≤ ((List.replicate 64 noughts)).length; omega) (by show 0 < 1000000000000; decide) (by show 0 < 4000000000000000000; omega) (by show 0 ≤ (0 : Int); omega) (by show (0 : Int) < 9223372036854775807; omega)) (fun _ => by rw [hp1]) (fun _ => by rw [hp1]))) (fun _ _ => ?_)
  refine Wl.imp (L' := (isJ j0 pp ⟨a, 1, false⟩) :: (isDisk pp (⟨S1, [], false, (0 + nPieces a + 3), none⟩ : DS)) :: (pt b1 3 [Value.int .i64 ((a.size : Nat) : Int), Value.int .i64 ((b.size : Nat) : Int)]) :: F) (fun _ h => h) ?_
  refine Wl.q (v := Value.bool false) (q_neq (r := true) rfl rfl (decide_eq_true (by decide))) ?_
  refine Wl.done ?_
  refine Wx.go ?_
  refine Wc.no rfl ?_
  refine Wc.skip ?_
  refine Wx.go ?_
  refine Wc.seq ?_
  refine Wc.seq ?_
  refine Wc.region ?_
  refine Wl.q (v := Value.pointer (some ⟨pp, 0, none⟩)) (q_move rfl) ?_
  refine Wl.q (v := Value.int .i64 n) (q_move rfl) ?_
  refine Wl.q (v := Value.int .i64 bits) (q_move rfl) ?_
  refine Wl.imp (L' := (isDisk pp (⟨S1, [], false, (0 + nPieces a + 3), none⟩ : DS)) :: (isJ j0 pp ⟨a, 1, false⟩) :: (pt b1 3 [Value.int .i64 ((a.size : Nat) : Int), Value.int .i64 ((b.size : Nat) : Int)]) :: F) (fun _ h => st_pull [1] h) ?_
  refine Wl.e (e_call (F := (isJ j0 pp ⟨a, 1, false⟩) :: (pt b1 3 [Value.int .i64 ((a.size : Nat) : Int), Value.int .i64 ((b.size : Nat) : Int)]) :: F) (args := [Value.pointer (some ⟨pp, 0, none⟩), Value.int .i64 n, Value.int .i64 bits]) Try.call21 rfl (Con.eqs (val' := fun _ => Value.int .i64 0) (post' := fun _ => [isDisk pp (⟨S1, [], false, (0 + nPieces a + 3), some (n.toNat, bits)⟩ : DS)]) (cut_c W0 pp (⟨S1, [], false, (0 + nPieces a + 3), none⟩ : DS) n bits) (fun _ => (by rw [cut_ok hn])) (fun _ => (by rw [cut_ok hn])))) (fun _ _ => ?_)
  refine Wl.imp (L' := (isDisk pp (⟨S1, [], false, (0 + nPieces a + 3), some (n.toNat, bits)⟩ : DS)) :: (isJ j0 pp ⟨a, 1, false⟩) :: (pt b1 3 [Value.int .i64 ((a.size : Nat) : Int), Value.int .i64 ((b.size : Nat) : Int)]) :: F) (fun _ h => h) ?_
  refine Wl.q (v := Value.bool false) (q_neq (r := true) rfl rfl (decide_eq_true (by decide))) ?_
  refine Wl.done ?_
  refine Wx.go ?_
  refine Wc.no rfl ?_
  refine Wc.skip ?_
  refine Wx.go ?_
  refine Wc.seq ?_
  refine Wc.region ?_
  refine Wl.q (v := Value.pointer (some ⟨j0, 0, none⟩)) (q_move rfl) ?_
  refine Wl.q (v := Value.string b) (q_move rfl) ?_
  refine Wl.imp (L' := (isJ j0 pp ⟨a, 1, false⟩) :: (isDisk pp (⟨S1, [], false, (0 + nPieces a + 3), some (n.toNat, bits)⟩ : DS)) :: (pt b1 3 [Value.int .i64 ((a.size : Nat) : Int), Value.int .i64 ((b.size : Nat) : Int)]) :: F) (fun _ h => st_pull [1, 0] h) ?_
  refine Wl.e (e_call (F := (pt b1 3 [Value.int .i64 ((a.size : Nat) : Int), Value.int .i64 ((b.size : Nat) : Int)]) :: F) (args := [Value.pointer (some ⟨j0, 0, none⟩), Value.string b]) Try.call9 rfl (Con.eqs (val' := fun _ => Value.int .i64 0) (post' := fun _ => [isJ j0 pp ⟨b, 2, false⟩, isDisk pp (⟨S2, [], false, k2, some (n.toNat - nPieces b - 3, bits)⟩ : DS)]) (Put_c W0 j0 pp (⟨a, 1, false⟩ : JS) (⟨S1, [], false, (0 + nPieces a + 3), some (n.toNat, bits)⟩ : DS) b (Ok.wfc ok1 hnt) (by show 1 ≤ (S1).length; omega) (by show 0 < 1000000000000; decide) (by show (0 + nPieces a + 3) < 4000000000000000000; omega) (by show 0 ≤ (1 : Int); omega) (by show (1 : Int) < 9223372036854775807; omega)) (fun _ => by rw [hp2]) (fun _ => by rw [hp2]))) (fun _ _ => ?_)
  refine Wl.imp (L' := (isJ j0 pp ⟨b, 2, false⟩) :: (isDisk pp (⟨S2, [], false, k2, some (n.toNat - nPieces b - 3, bits)⟩ : DS)) :: (pt b1 3 [Value.int .i64 ((a.size : Nat) : Int), Value.int .i64 ((b.size : Nat) : Int)]) :: F) (fun _ h => h) ?_
  refine Wl.q (v := Value.int .i64 0) (q_assign rfl) ?_
  refine Wl.done ?_
  refine Wx.go ?_
  refine Wc.seq ?_
  refine Wc.seq ?_
  refine Wc.region ?_
  refine Wl.q (v := Value.string b) (q_move rfl) ?_
  refine Wl.q (v := Value.int .i64 ((b.size : Nat) : Int)) (q_len_str Try.underlying9 rfl) ?_
  refine Wl.q (v := Value.pointer (some ⟨j0, 0, none⟩)) (q_move rfl) ?_
  refine Wl.e (e_call (F := (pt b1 3 [Value.int .i64 ((a.size : Nat) : Int), Value.int .i64 ((b.size : Nat) : Int)]) :: F) (args := [Value.pointer (some ⟨j0, 0, none⟩)]) Try.call11 rfl (Con.eqs (val' := fun _ => Value.int .i64 ((half S2 * 64 : Nat) : Int)) (post' := fun _ => [isJ j0 pp ⟨b, 2, false⟩, isDisk pp (⟨S2, [], false, k2, some (n.toNat - nPieces b - 3, bits)⟩ : DS)]) (room_in W0 j0 pp b 2 (⟨S2, [], false, k2, some (n.toNat - nPieces b - 3, bits)⟩ : DS) false (by show 1 ≤ (S2).length; omega) (by show (S2).length ≤ 4096; omega)) (fun _ => rfl) (fun _ => rfl))) (fun _ _ => ?_)
  refine Wl.imp (L' := (isJ j0 pp ⟨b, 2, false⟩) :: (isDisk pp (⟨S2, [], false, k2, some (n.toNat - nPieces b - 3, bits)⟩ : DS)) :: (pt b1 3 [Value.int .i64 ((a.size : Nat) : Int), Value.int .i64 ((b.size : Nat) : Int)]) :: F) (fun _ h => h) ?_
  refine Wl.q (v := Value.bool false) (q_gtr (r := false) rfl rfl (decide_eq_false (by rw [half_64 hl2]; omega))) ?_
  refine Wl.done ?_
  refine Wx.go ?_
  refine Wc.no rfl ?_
  refine Wc.skip ?_
  refine Wx.go ?_
  refine Wc.seq ?_
  refine Wc.region ?_
  refine Wl.q (v := Value.string b) (q_move rfl) ?_
  refine Wl.q (v := Value.int .i64 ((b.size : Nat) : Int)) (q_len_str Try.underlying9 rfl) ?_
  refine Wl.e (e_call (F := (isJ j0 pp ⟨b, 2, false⟩) :: (isDisk pp (⟨S2, [], false, k2, some (n.toNat - nPieces b - 3, bits)⟩ : DS)) :: (pt b1 3 [Value.int .i64 ((a.size : Nat) : Int), Value.int .i64 ((b.size : Nat) : Int)]) :: F) (args := [Value.int .i64 ((b.size : Nat) : Int)]) Try.call14 rfl (Con.eqs (val' := fun _ => Value.tuple #[Value.int .i64 (((nPieces b + 3) : Nat) : Int), Value.int .i64 0]) (post' := fun _ => []) (cost_c W0 ((b.size : Nat) : Int) (by omega)) (fun _ => by rw [cost_size]) (fun _ => rfl))) (fun _ _ => ?_)
  refine Wl.imp (L' := (isJ j0 pp ⟨b, 2, false⟩) :: (isDisk pp (⟨S2, [], false, k2, some (n.toNat - nPieces b - 3, bits)⟩ : DS)) :: (pt b1 3 [Value.int .i64 ((a.size : Nat) : Int), Value.int .i64 ((b.size : Nat) : Int)]) :: F) (fun _ h => h) ?_
  refine Wl.q (v := Value.tuple #[Value.int .i64 (((nPieces b + 3) : Nat) : Int), Value.int .i64 0]) (q_move rfl) ?_
  refine Wl.q (v := Value.int .i64 (((nPieces b + 3) : Nat) : Int)) (q_extract (i := 0) rfl rfl) ?_
  refine Wl.q (v := Value.int .i64 0) (q_extract (i := 1) rfl rfl) ?_
  refine Wl.q (v := Value.int .i64 (((nPieces b + 3) : Nat) : Int)) (q_assign rfl) ?_
  refine Wl.q (v := Value.int .i64 0) (q_assign rfl) ?_
  refine Wl.done ?_
  refine Wx.go ?_
  refine Wc.seq ?_
  refine Wc.seq ?_
  refine Wc.region ?_
  refine Wl.q (v := Value.int .i64 0) (q_move rfl) ?_
  refine Wl.q (v := Value.bool true) (q_eql (r := true) rfl rfl (decide_eq_true (by decide))) ?_
  refine Wl.q (v := Value.int .i64 n) (q_move rfl) ?_
  refine Wl.q (v := Value.int .i64 (((nPieces b + 3) : Nat) : Int)) (q_move rfl) ?_
  refine Wl.q (v := Value.bool true) (q_geq (r := true) rfl rfl (decide_eq_true (by omega))) ?_
  refine Wl.q (v := Value.bool false) (q_neq_bool (r := true) rfl rfl Try.underlying4 rfl) ?_
  refine Wl.q (v := Value.bool false) (q_move rfl) ?_
  refine Wl.q (v := Value.int .i64 0) (q_move rfl) ?_
  refine Wl.q (v := Value.bool false) (q_neq (r := true) rfl rfl (decide_eq_true (by decide))) ?_
  refine Wl.q (v := Value.bool false) (q_move rfl) ?_
  refine Wl.no ?_
  refine Wl.no ?_
  refine Wl.q (v := Value.bool false) (q_pick (t := false) rfl rfl) ?_
  refine Wl.q (v := Value.bool false) (q_pick (t := false) rfl rfl) ?_
  refine Wl.done ?_
  refine Wx.go ?_
  refine Wc.no rfl ?_
  refine Wc.skip ?_
  refine Wx.go ?_
  refine Wc.seq ?_
  refine Wc.seq ?_
  refine Wc.region ?_
  refine Wl.q (v := Value.int .i64 0) (q_move rfl) ?_
  refine Wl.q (v := Value.bool true) (q_eql (r := true) rfl rfl (decide_eq_true (by decide))) ?_
  refine Wl.done ?_
  refine Wx.go ?_
  refine Wc.yes rfl ?_
  refine Wc.region ?_
  refine Wl.q (v := Value.pointer (some ⟨pp, 0, none⟩)) (q_move rfl) ?_
  refine Wl.q (v := Value.int .i64 bits) (q_move rfl) ?_
  refine Wl.imp (L' := (isDisk pp (⟨S2, [], false, k2, some (n.toNat - nPieces b - 3, bits)⟩ : DS)) :: (isJ j0 pp ⟨b, 2, false⟩) :: (pt b1 3 [Value.int .i64 ((a.size : Nat) : Int), Value.int .i64 ((b.size : Nat) : Int)]) :: F) (fun _ h => st_pull [1] h) ?_
  refine Wl.e (e_call (F := (isJ j0 pp ⟨b, 2, false⟩) :: (pt b1 3 [Value.int .i64 ((a.size : Nat) : Int), Value.int .i64 ((b.size : Nat) : Int)]) :: F) (args := [Value.pointer (some ⟨pp, 0, none⟩), Value.int .i64 bits]) Try.call22 rfl (Con.eqs (val' := fun _ => Value.int .i64 0) (post' := fun _ => [isDisk pp (⟨S2, [], true, k2, none⟩ : DS)]) (crash_c W0 pp (⟨S2, [], false, k2, some (n.toNat - nPieces b - 3, bits)⟩ : DS) bits (ok2.wfc (by omega))) (fun _ => rfl) (fun _ => rfl))) (fun _ _ => ?_)
  refine Wl.imp (L' := (isDisk pp (⟨S2, [], true, k2, none⟩ : DS)) :: (isJ j0 pp ⟨b, 2, false⟩) :: (pt b1 3 [Value.int .i64 ((a.size : Nat) : Int), Value.int .i64 ((b.size : Nat) : Int)]) :: F) (fun _ h => h) ?_
  refine Wl.done ?_
  refine Wx.go ?_
  refine Wc.seq ?_
  refine Wc.seq ?_
  refine Wc.region ?_
  refine Wl.q (v := Value.pointer (some ⟨pp, 0, none⟩)) (q_move rfl) ?_
  refine Wl.e (e_call (F := (isJ j0 pp ⟨b, 2, false⟩) :: (pt b1 3 [Value.int .i64 ((a.size : Nat) : Int), Value.int .i64 ((b.size : Nat) : Int)]) :: F) (args := [Value.pointer (some ⟨pp, 0, none⟩)]) Try.call23 rfl (Con.eqs (val' := fun _ => Value.int .i64 0) (post' := fun _ => [isDisk pp (⟨S2, [], false, k2, none⟩ : DS)]) (start_c W0 pp (⟨S2, [], true, k2, none⟩ : DS) ) (fun _ => rfl) (fun _ => rfl))) (fun _ _ => ?_)
  refine Wl.imp (L' := (isDisk pp (⟨S2, [], false, k2, none⟩ : DS)) :: (isJ j0 pp ⟨b, 2, false⟩) :: (pt b1 3 [Value.int .i64 ((a.size : Nat) : Int), Value.int .i64 ((b.size : Nat) : Int)]) :: F) (fun _ h => h) ?_
  refine Wl.q (v := Value.bool false) (q_neq (r := true) rfl rfl (decide_eq_true (by decide))) ?_
  refine Wl.done ?_
  refine Wx.go ?_
  refine Wc.no rfl ?_
  refine Wc.skip ?_
  refine Wx.go ?_
  refine Wc.seq ?_
  refine Wc.region ?_
  refine Wl.q (v := Value.pointer (some ⟨pp, 0, none⟩)) (q_move rfl) ?_
  refine Wl.e (e_call (F := (isJ j0 pp ⟨b, 2, false⟩) :: (pt b1 3 [Value.int .i64 ((a.size : Nat) : Int), Value.int .i64 ((b.size : Nat) : Int)]) :: F) (args := [Value.pointer (some ⟨pp, 0, none⟩)]) Try.call12 rfl (open_ok W0 pp (⟨S2, [], false, k2, none⟩ : DS) (Ok.wf ok2) (by show 1 ≤ (S2).length; omega) (by show 0 < 1099511627776; decide) (openD_up ok2))) (fun j1 _ => ?_)
  refine Wl.imp (L' := (isJ j1 pp ⟨b, 2, false⟩) :: (isDisk pp (⟨S2, [], false, k2, none⟩ : DS)) :: (isJ j0 pp ⟨b, 2, false⟩) :: (pt b1 3 [Value.int .i64 ((a.size : Nat) : Int), Value.int .i64 ((b.size : Nat) : Int)]) :: F) (fun _ h => h) ?_
  refine Wl.q (v := Value.tuple #[Value.pointer (some ⟨j1, 0, none⟩), Value.int .i64 0]) (q_move rfl) ?_
  refine Wl.q (v := Value.pointer (some ⟨j1, 0, none⟩)) (q_extract (i := 0) rfl rfl) ?_
  refine Wl.q (v := Value.int .i64 0) (q_extract (i := 1) rfl rfl) ?_
  refine Wl.q (v := Value.pointer (some ⟨j1, 0, none⟩)) (q_assign rfl) ?_
  refine Wl.q (v := Value.int .i64 0) (q_assign rfl) ?_
  refine Wl.done ?_
  refine Wx.go ?_
  refine Wc.seq ?_
  refine Wc.region ?_
  refine Wl.q (v := Value.pointer (some ⟨pp, 0, none⟩)) (q_move rfl) ?_
  refine Wl.imp (L' := (isDisk pp (⟨S2, [], false, k2, none⟩ : DS)) :: (isJ j1 pp ⟨b, 2, false⟩) :: (isJ j0 pp ⟨b, 2, false⟩) :: (pt b1 3 [Value.int .i64 ((a.size : Nat) : Int), Value.int .i64 ((b.size : Nat) : Int)]) :: F) (fun _ h => st_pull [1] h) ?_
  refine Wl.e (e_call (F := (isJ j1 pp ⟨b, 2, false⟩) :: (isJ j0 pp ⟨b, 2, false⟩) :: (pt b1 3 [Value.int .i64 ((a.size : Nat) : Int), Value.int .i64 ((b.size : Nat) : Int)]) :: F) (args := [Value.pointer (some ⟨pp, 0, none⟩)]) Try.call12 rfl (open_ok W0 pp (⟨S2, [], false, k2, none⟩ : DS) (Ok.wf ok2) (by show 1 ≤ (S2).length; omega) (by show 0 < 1099511627776; decide) (openD_up ok2))) (fun j2 _ => ?_)
  refine Wl.imp (L' := (isJ j2 pp ⟨b, 2, false⟩) :: (isDisk pp (⟨S2, [], false, k2, none⟩ : DS)) :: (isJ j1 pp ⟨b, 2, false⟩) :: (isJ j0 pp ⟨b, 2, false⟩) :: (pt b1 3 [Value.int .i64 ((a.size : Nat) : Int), Value.int .i64 ((b.size : Nat) : Int)]) :: F) (fun _ h => h) ?_
  refine Wl.q (v := Value.tuple #[Value.pointer (some ⟨j2, 0, none⟩), Value.int .i64 0]) (q_move rfl) ?_
  refine Wl.q (v := Value.pointer (some ⟨j2, 0, none⟩)) (q_extract (i := 0) rfl rfl) ?_
  refine Wl.q (v := Value.int .i64 0) (q_extract (i := 1) rfl rfl) ?_
  refine Wl.q (v := Value.pointer (some ⟨j2, 0, none⟩)) (q_assign rfl) ?_
  refine Wl.q (v := Value.int .i64 0) (q_assign rfl) ?_
  refine Wl.done ?_
  refine Wx.go ?_
  refine Wc.seq ?_
  refine Wc.seq ?_
  refine Wc.region ?_
  refine Wl.q (v := Value.int .i64 0) (q_move rfl) ?_
  refine Wl.q (v := Value.bool false) (q_neq (r := true) rfl rfl (decide_eq_true (by decide))) ?_
  refine Wl.q (v := Value.bool false) (q_move rfl) ?_
  refine Wl.q (v := Value.int .i64 0) (q_move rfl) ?_
  refine Wl.q (v := Value.bool false) (q_neq (r := true) rfl rfl (decide_eq_true (by decide))) ?_
  refine Wl.q (v := Value.bool false) (q_pick (t := false) rfl rfl) ?_
  refine Wl.q (v := Value.bool false) (q_move rfl) ?_
  refine Wl.q (v := Value.pointer (some ⟨j1, 0, none⟩)) (q_move rfl) ?_
  refine Wl.q (v := Value.bool false) (q_eql_nil (r := false) rfl rfl Try.underlying22 rfl) ?_
  refine Wl.q (v := Value.bool false) (q_pick (t := false) rfl rfl) ?_
  refine Wl.q (v := Value.bool false) (q_move rfl) ?_
  refine Wl.q (v := Value.pointer (some ⟨j2, 0, none⟩)) (q_move rfl) ?_
  refine Wl.q (v := Value.bool false) (q_eql_nil (r := false) rfl rfl Try.underlying22 rfl) ?_
  refine Wl.q (v := Value.bool false) (q_pick (t := false) rfl rfl) ?_
  refine Wl.done ?_
  refine Wx.go ?_
  refine Wc.no rfl ?_
  refine Wc.skip ?_
  refine Wx.go ?_
  refine Wc.seq ?_
  refine Wc.region ?_
  refine Wl.q (v := Value.pointer (some ⟨j1, 0, none⟩)) (q_move rfl) ?_
  refine Wl.imp (L' := (isJ j1 pp ⟨b, 2, false⟩) :: (isDisk pp (⟨S2, [], false, k2, none⟩ : DS)) :: (isJ j2 pp ⟨b, 2, false⟩) :: (isJ j0 pp ⟨b, 2, false⟩) :: (pt b1 3 [Value.int .i64 ((a.size : Nat) : Int), Value.int .i64 ((b.size : Nat) : Int)]) :: F) (fun _ h => st_pull [2, 1] h) ?_
  refine Wl.e (e_call (F := (isJ j2 pp ⟨b, 2, false⟩) :: (isJ j0 pp ⟨b, 2, false⟩) :: (pt b1 3 [Value.int .i64 ((a.size : Nat) : Int), Value.int .i64 ((b.size : Nat) : Int)]) :: F) (args := [Value.pointer (some ⟨j1, 0, none⟩)]) Try.call8 rfl (get_on W0 j1 pp b 2 (⟨S2, [], false, k2, none⟩ : DS) rfl)) (fun _ _ => ?_)
  refine Wl.imp (L' := (isJ j1 pp ⟨b, 2, false⟩) :: (isDisk pp (⟨S2, [], false, k2, none⟩ : DS)) :: (isJ j2 pp ⟨b, 2, false⟩) :: (isJ j0 pp ⟨b, 2, false⟩) :: (pt b1 3 [Value.int .i64 ((a.size : Nat) : Int), Value.int .i64 ((b.size : Nat) : Int)]) :: F) (fun _ h => h) ?_
  refine Wl.q (v := Value.tuple #[Value.string b, Value.int .i64 0]) (q_move rfl) ?_
  refine Wl.q (v := Value.string b) (q_extract (i := 0) rfl rfl) ?_
  refine Wl.q (v := Value.int .i64 0) (q_extract (i := 1) rfl rfl) ?_
  refine Wl.q (v := Value.string b) (q_assign rfl) ?_
  refine Wl.q (v := Value.int .i64 0) (q_assign rfl) ?_
  refine Wl.done ?_
  refine Wx.go ?_
  refine Wc.seq ?_
  refine Wc.region ?_
  refine Wl.q (v := Value.pointer (some ⟨j2, 0, none⟩)) (q_move rfl) ?_
  refine Wl.imp (L' := (isJ j2 pp ⟨b, 2, false⟩) :: (isDisk pp (⟨S2, [], false, k2, none⟩ : DS)) :: (isJ j1 pp ⟨b, 2, false⟩) :: (isJ j0 pp ⟨b, 2, false⟩) :: (pt b1 3 [Value.int .i64 ((a.size : Nat) : Int), Value.int .i64 ((b.size : Nat) : Int)]) :: F) (fun _ h => st_pull [2, 1] h) ?_
  refine Wl.e (e_call (F := (isJ j1 pp ⟨b, 2, false⟩) :: (isJ j0 pp ⟨b, 2, false⟩) :: (pt b1 3 [Value.int .i64 ((a.size : Nat) : Int), Value.int .i64 ((b.size : Nat) : Int)]) :: F) (args := [Value.pointer (some ⟨j2, 0, none⟩)]) Try.call8 rfl (get_on W0 j2 pp b 2 (⟨S2, [], false, k2, none⟩ : DS) rfl)) (fun _ _ => ?_)
  refine Wl.imp (L' := (isJ j2 pp ⟨b, 2, false⟩) :: (isDisk pp (⟨S2, [], false, k2, none⟩ : DS)) :: (isJ j1 pp ⟨b, 2, false⟩) :: (isJ j0 pp ⟨b, 2, false⟩) :: (pt b1 3 [Value.int .i64 ((a.size : Nat) : Int), Value.int .i64 ((b.size : Nat) : Int)]) :: F) (fun _ h => h) ?_
  refine Wl.q (v := Value.tuple #[Value.string b, Value.int .i64 0]) (q_move rfl) ?_
  refine Wl.q (v := Value.string b) (q_extract (i := 0) rfl rfl) ?_
  refine Wl.q (v := Value.int .i64 0) (q_extract (i := 1) rfl rfl) ?_
  refine Wl.q (v := Value.string b) (q_assign rfl) ?_
  refine Wl.q (v := Value.int .i64 0) (q_assign rfl) ?_
  refine Wl.done ?_
  refine Wx.go ?_
  refine Wc.seq ?_
  refine Wc.seq ?_
  refine Wc.region ?_
  refine Wl.q (v := Value.int .i64 0) (q_move rfl) ?_
  refine Wl.q (v := Value.bool false) (q_neq (r := true) rfl rfl (decide_eq_true (by decide))) ?_
  refine Wl.q (v := Value.bool false) (q_move rfl) ?_
  refine Wl.q (v := Value.int .i64 0) (q_move rfl) ?_
  refine Wl.q (v := Value.bool false) (q_neq (r := true) rfl rfl (decide_eq_true (by decide))) ?_
  refine Wl.q (v := Value.bool false) (q_pick (t := false) rfl rfl) ?_
  refine Wl.q (v := Value.bool false) (q_move rfl) ?_
  refine Wl.q (v := Value.string b) (q_move rfl) ?_
  refine Wl.q (v := Value.string b) (q_move rfl) ?_
  refine Wl.q (v := Value.bool false) (q_neq_str (r := true) rfl rfl (text_true (rfl))) ?_
  refine Wl.q (v := Value.bool false) (q_pick (t := false) rfl rfl) ?_
  refine Wl.q (v := Value.bool false) (q_move rfl) ?_
  refine Wl.q (v := Value.pointer (some ⟨j1, 0, none⟩)) (q_move rfl) ?_
  refine Wl.imp (L' := (isJ j1 pp ⟨b, 2, false⟩) :: (isJ j2 pp ⟨b, 2, false⟩) :: (isDisk pp (⟨S2, [], false, k2, none⟩ : DS)) :: (isJ j0 pp ⟨b, 2, false⟩) :: (pt b1 3 [Value.int .i64 ((a.size : Nat) : Int), Value.int .i64 ((b.size : Nat) : Int)]) :: F) (fun _ h => st_pull [2] h) ?_
  refine Wl.e (e_call (F := (isJ j2 pp ⟨b, 2, false⟩) :: (isDisk pp (⟨S2, [], false, k2, none⟩ : DS)) :: (isJ j0 pp ⟨b, 2, false⟩) :: (pt b1 3 [Value.int .i64 ((a.size : Nat) : Int), Value.int .i64 ((b.size : Nat) : Int)]) :: F) (args := [Value.pointer (some ⟨j1, 0, none⟩)]) Try.call10 rfl (seq_in W0 j1 pp b 2 false)) (fun _ _ => ?_)
  refine Wl.imp (L' := (isJ j1 pp ⟨b, 2, false⟩) :: (isJ j2 pp ⟨b, 2, false⟩) :: (isDisk pp (⟨S2, [], false, k2, none⟩ : DS)) :: (isJ j0 pp ⟨b, 2, false⟩) :: (pt b1 3 [Value.int .i64 ((a.size : Nat) : Int), Value.int .i64 ((b.size : Nat) : Int)]) :: F) (fun _ h => h) ?_
  refine Wl.q (v := Value.pointer (some ⟨j2, 0, none⟩)) (q_move rfl) ?_
  refine Wl.imp (L' := (isJ j2 pp ⟨b, 2, false⟩) :: (isJ j1 pp ⟨b, 2, false⟩) :: (isDisk pp (⟨S2, [], false, k2, none⟩ : DS)) :: (isJ j0 pp ⟨b, 2, false⟩) :: (pt b1 3 [Value.int .i64 ((a.size : Nat) : Int), Value.int .i64 ((b.size : Nat) : Int)]) :: F) (fun _ h => st_pull [1] h) ?_
  refine Wl.e (e_call (F := (isJ j1 pp ⟨b, 2, false⟩) :: (isDisk pp (⟨S2, [], false, k2, none⟩ : DS)) :: (isJ j0 pp ⟨b, 2, false⟩) :: (pt b1 3 [Value.int .i64 ((a.size : Nat) : Int), Value.int .i64 ((b.size : Nat) : Int)]) :: F) (args := [Value.pointer (some ⟨j2, 0, none⟩)]) Try.call10 rfl (seq_in W0 j2 pp b 2 false)) (fun _ _ => ?_)
  refine Wl.imp (L' := (isJ j2 pp ⟨b, 2, false⟩) :: (isJ j1 pp ⟨b, 2, false⟩) :: (isDisk pp (⟨S2, [], false, k2, none⟩ : DS)) :: (isJ j0 pp ⟨b, 2, false⟩) :: (pt b1 3 [Value.int .i64 ((a.size : Nat) : Int), Value.int .i64 ((b.size : Nat) : Int)]) :: F) (fun _ h => h) ?_
  refine Wl.q (v := Value.bool false) (q_neq (r := true) rfl rfl (decide_eq_true (by decide))) ?_
  refine Wl.q (v := Value.bool false) (q_pick (t := false) rfl rfl) ?_
  refine Wl.done ?_
  refine Wx.go ?_
  refine Wc.no rfl ?_
  refine Wc.skip ?_
  refine Wx.go ?_
  refine Wc.seq ?_
  refine Wc.region ?_
  refine Wl.q (v := Value.string b) (q_move rfl) ?_
  refine Wl.q (v := Value.string a) (q_move rfl) ?_
  by_cases h2 : b = a
  ·
    refine Wl.q (v := Value.bool true) (q_eql_str (r := true) rfl rfl (text_true h2)) ?_
    refine Wl.q (v := Value.bool true) (q_move rfl) ?_
    refine Wl.q (v := Value.pointer (some ⟨j1, 0, none⟩)) (q_move rfl) ?_
    refine Wl.imp (L' := (isJ j1 pp ⟨b, 2, false⟩) :: (isJ j2 pp ⟨b, 2, false⟩) :: (isDisk pp (⟨S2, [], false, k2, none⟩ : DS)) :: (isJ j0 pp ⟨b, 2, false⟩) :: (pt b1 3 [Value.int .i64 ((a.size : Nat) : Int), Value.int .i64 ((b.size : Nat) : Int)]) :: F) (fun _ h => st_pull [1] h) ?_
    refine Wl.e (e_call (F := (isJ j2 pp ⟨b, 2, false⟩) :: (isDisk pp (⟨S2, [], false, k2, none⟩ : DS)) :: (isJ j0 pp ⟨b, 2, false⟩) :: (pt b1 3 [Value.int .i64 ((a.size : Nat) : Int), Value.int .i64 ((b.size : Nat) : Int)]) :: F) (args := [Value.pointer (some ⟨j1, 0, none⟩)]) Try.call10 rfl (seq_in W0 j1 pp b 2 false)) (fun _ _ => ?_)
    refine Wl.imp (L' := (isJ j1 pp ⟨b, 2, false⟩) :: (isJ j2 pp ⟨b, 2, false⟩) :: (isDisk pp (⟨S2, [], false, k2, none⟩ : DS)) :: (isJ j0 pp ⟨b, 2, false⟩) :: (pt b1 3 [Value.int .i64 ((a.size : Nat) : Int), Value.int .i64 ((b.size : Nat) : Int)]) :: F) (fun _ h => h) ?_
    refine Wl.q (v := Value.bool false) (q_eql (r := false) rfl rfl (decide_eq_false (by decide))) ?_
    refine Wl.q (v := Value.bool false) (q_pick (t := true) rfl rfl) ?_
    refine Wl.q (v := Value.bool false) (q_assign rfl) ?_
    refine Wl.done ?_
    refine Wx.go ?_
    refine Wc.seq ?_
    refine Wc.region ?_
    refine Wl.q (v := Value.string b) (q_move rfl) ?_
    refine Wl.q (v := Value.string b) (q_move rfl) ?_
    refine Wl.q (v := Value.bool true) (q_eql_str (r := true) rfl rfl (text_true (rfl))) ?_
    refine Wl.q (v := Value.bool true) (q_move rfl) ?_
    refine Wl.q (v := Value.pointer (some ⟨j1, 0, none⟩)) (q_move rfl) ?_
    refine Wl.e (e_call (F := (isJ j2 pp ⟨b, 2, false⟩) :: (isDisk pp (⟨S2, [], false, k2, none⟩ : DS)) :: (isJ j0 pp ⟨b, 2, false⟩) :: (pt b1 3 [Value.int .i64 ((a.size : Nat) : Int), Value.int .i64 ((b.size : Nat) : Int)]) :: F) (args := [Value.pointer (some ⟨j1, 0, none⟩)]) Try.call10 rfl (seq_in W0 j1 pp b 2 false)) (fun _ _ => ?_)
    refine Wl.imp (L' := (isJ j1 pp ⟨b, 2, false⟩) :: (isJ j2 pp ⟨b, 2, false⟩) :: (isDisk pp (⟨S2, [], false, k2, none⟩ : DS)) :: (isJ j0 pp ⟨b, 2, false⟩) :: (pt b1 3 [Value.int .i64 ((a.size : Nat) : Int), Value.int .i64 ((b.size : Nat) : Int)]) :: F) (fun _ h => h) ?_
    refine Wl.q (v := Value.bool true) (q_eql (r := true) rfl rfl (decide_eq_true (by decide))) ?_
    refine Wl.q (v := Value.bool true) (q_pick (t := true) rfl rfl) ?_
    refine Wl.q (v := Value.bool true) (q_assign rfl) ?_
    refine Wl.done ?_
    refine Wx.go ?_
    refine Wc.seq ?_
    refine Wc.seq ?_
    refine Wc.region ?_
    refine Wl.q (v := Value.int .i64 0) (q_move rfl) ?_
    refine Wl.q (v := Value.bool true) (q_eql (r := true) rfl rfl (decide_eq_true (by decide))) ?_
    refine Wl.done ?_
    refine Wx.go ?_
    refine Wc.yes rfl ?_
    refine Wc.seq ?_
    refine Wc.region ?_
    refine Wl.q (v := Value.bool true) (q_move rfl) ?_
    refine Wl.q (v := Value.bool true) (q_move rfl) ?_
    refine Wl.e (e_call (F := (isJ j1 pp ⟨b, 2, false⟩) :: (isJ j2 pp ⟨b, 2, false⟩) :: (isDisk pp (⟨S2, [], false, k2, none⟩ : DS)) :: (isJ j0 pp ⟨b, 2, false⟩) :: (pt b1 3 [Value.int .i64 ((a.size : Nat) : Int), Value.int .i64 ((b.size : Nat) : Int)]) :: F) (args := []) Try.call13 rfl (alive_c W0)) (fun _ _ => ?_)
    refine Wl.imp (L' := (isJ j1 pp ⟨b, 2, false⟩) :: (isJ j2 pp ⟨b, 2, false⟩) :: (isDisk pp (⟨S2, [], false, k2, none⟩ : DS)) :: (isJ j0 pp ⟨b, 2, false⟩) :: (pt b1 3 [Value.int .i64 ((a.size : Nat) : Int), Value.int .i64 ((b.size : Nat) : Int)]) :: F) (fun _ h => h) ?_
    refine Wl.q (v := Value.bool true) (q_pick (t := true) rfl rfl) ?_
    refine Wl.q (v := Value.bool true) (q_assign rfl) ?_
    refine Wl.done ?_
    refine Wx.go ?_
    refine Wc.ret ?_
    refine Wx.thenRet ?_
    refine Wx.fin1 rfl (.inl rfl) (fun w hs => ?_)
    exact ⟨(), trivial, rfl, (st_drop (st_drop (st_drop (st_drop (st_drop (st_pull [0, 0, 0, 0, 0] hs))))))⟩
  ·
    refine Wl.q (v := Value.bool false) (q_eql_str (r := false) rfl rfl (text_false h2)) ?_
    refine Wl.q (v := Value.bool false) (q_move rfl) ?_
    refine Wl.no ?_
    refine Wl.no ?_
    refine Wl.no ?_
    refine Wl.q (v := Value.bool false) (q_pick (t := false) rfl rfl) ?_
    refine Wl.q (v := Value.bool false) (q_assign rfl) ?_
    refine Wl.done ?_
    refine Wx.go ?_
    refine Wc.seq ?_
    refine Wc.region ?_
    refine Wl.q (v := Value.string b) (q_move rfl) ?_
    refine Wl.q (v := Value.string b) (q_move rfl) ?_
    refine Wl.q (v := Value.bool true) (q_eql_str (r := true) rfl rfl (text_true (rfl))) ?_
    refine Wl.q (v := Value.bool true) (q_move rfl) ?_
    refine Wl.q (v := Value.pointer (some ⟨j1, 0, none⟩)) (q_move rfl) ?_
    refine Wl.imp (L' := (isJ j1 pp ⟨b, 2, false⟩) :: (isJ j2 pp ⟨b, 2, false⟩) :: (isDisk pp (⟨S2, [], false, k2, none⟩ : DS)) :: (isJ j0 pp ⟨b, 2, false⟩) :: (pt b1 3 [Value.int .i64 ((a.size : Nat) : Int), Value.int .i64 ((b.size : Nat) : Int)]) :: F) (fun _ h => st_pull [1] h) ?_
    refine Wl.e (e_call (F := (isJ j2 pp ⟨b, 2, false⟩) :: (isDisk pp (⟨S2, [], false, k2, none⟩ : DS)) :: (isJ j0 pp ⟨b, 2, false⟩) :: (pt b1 3 [Value.int .i64 ((a.size : Nat) : Int), Value.int .i64 ((b.size : Nat) : Int)]) :: F) (args := [Value.pointer (some ⟨j1, 0, none⟩)]) Try.call10 rfl (seq_in W0 j1 pp b 2 false)) (fun _ _ => ?_)
    refine Wl.imp (L' := (isJ j1 pp ⟨b, 2, false⟩) :: (isJ j2 pp ⟨b, 2, false⟩) :: (isDisk pp (⟨S2, [], false, k2, none⟩ : DS)) :: (isJ j0 pp ⟨b, 2, false⟩) :: (pt b1 3 [Value.int .i64 ((a.size : Nat) : Int), Value.int .i64 ((b.size : Nat) : Int)]) :: F) (fun _ h => h) ?_
    refine Wl.q (v := Value.bool true) (q_eql (r := true) rfl rfl (decide_eq_true (by decide))) ?_
    refine Wl.q (v := Value.bool true) (q_pick (t := true) rfl rfl) ?_
    refine Wl.q (v := Value.bool true) (q_assign rfl) ?_
    refine Wl.done ?_
    refine Wx.go ?_
    refine Wc.seq ?_
    refine Wc.seq ?_
    refine Wc.region ?_
    refine Wl.q (v := Value.int .i64 0) (q_move rfl) ?_
    refine Wl.q (v := Value.bool true) (q_eql (r := true) rfl rfl (decide_eq_true (by decide))) ?_
    refine Wl.done ?_
    refine Wx.go ?_
    refine Wc.yes rfl ?_
    refine Wc.seq ?_
    refine Wc.region ?_
    refine Wl.q (v := Value.bool true) (q_move rfl) ?_
    refine Wl.q (v := Value.bool true) (q_move rfl) ?_
    refine Wl.e (e_call (F := (isJ j1 pp ⟨b, 2, false⟩) :: (isJ j2 pp ⟨b, 2, false⟩) :: (isDisk pp (⟨S2, [], false, k2, none⟩ : DS)) :: (isJ j0 pp ⟨b, 2, false⟩) :: (pt b1 3 [Value.int .i64 ((a.size : Nat) : Int), Value.int .i64 ((b.size : Nat) : Int)]) :: F) (args := []) Try.call13 rfl (alive_c W0)) (fun _ _ => ?_)
    refine Wl.imp (L' := (isJ j1 pp ⟨b, 2, false⟩) :: (isJ j2 pp ⟨b, 2, false⟩) :: (isDisk pp (⟨S2, [], false, k2, none⟩ : DS)) :: (isJ j0 pp ⟨b, 2, false⟩) :: (pt b1 3 [Value.int .i64 ((a.size : Nat) : Int), Value.int .i64 ((b.size : Nat) : Int)]) :: F) (fun _ h => h) ?_
    refine Wl.q (v := Value.bool true) (q_pick (t := true) rfl rfl) ?_
    refine Wl.q (v := Value.bool true) (q_assign rfl) ?_
    refine Wl.done ?_
    refine Wx.go ?_
    refine Wc.ret ?_
    refine Wx.thenRet ?_
    refine Wx.fin1 rfl (.inl rfl) (fun w hs => ?_)
    exact ⟨(), trivial, rfl, (st_drop (st_drop (st_drop (st_drop (st_drop (st_pull [0, 0, 0, 0, 0] hs))))))⟩

set_option maxHeartbeats 4000000 in
theorem whole_old (W0 : World) (a b : ByteArray) (n : Int) (hhi : n ≤ 9223372036854775807) (bits : Int) (hn : ¬ n < 0) (hb0 : beyondB [((a.size : Nat) : Int), ((b.size : Nat) : Int)] = false) (ok0 : Ok (List.replicate 64 noughts) ByteArray.empty 0) (ha : a.size ≤ 1984) (S1 : List ByteArray) (hl1 : S1.length = 64) (ok1 : Ok S1 a 1) (hp1 : (JS.mk ByteArray.empty 0 false).put (DS.new 64) a = (0, (⟨S1, [], false, (0 + nPieces a + 3), none⟩ : DS), ⟨a, 1, false⟩)) (hbb : b.size ≤ 1984) (S2 : List ByteArray) (k2 : Nat) (hl2 : S2.length = 64) (ok2 : Ok S2 a 1) (hc : n.toNat < nPieces b + 3) (hp2 : (JS.mk a 1 false).put (⟨S1, [], false, (0 + nPieces a + 3), some (n.toNat, bits)⟩ : DS) b = (6, (⟨S2, [], true, k2, none⟩ : DS), ⟨a, 1, true⟩)) :
    Con Try.prog W0 5 #[Value.string a, Value.string b, Value.int .i64 n, Value.int .i64 bits] [] (X := Unit) (fun _ => True) (fun _ => .bool true) (fun _ => []) := by
  refine Con.of (args := [Value.string a, Value.string b, Value.int .i64 n, Value.int .i64 bits]) Try.func5 rfl Try.ntmps5 rfl (fun F => ?_)
  have hr : (List.replicate 64 noughts).length = 64 := List.length_replicate
  have hh0 : half (List.replicate 64 noughts) = 31 := half_64 hr
  have hla := (beyond_two hb0).1
  have hlb := (beyond_two hb0).2
  have hna := few a hla
  have hnb := few b hlb
  have hh1 : half S1 = 31 := half_64 hl1
  have hnt : n.toNat ≤ 9223372036854775807 := by omega
  show Wc _ W0 _ _ _ _ _ (F)
  refine Wc.seq ?_
  refine Wc.region ?_
  refine Wl.q (v := Value.bool false) (q_assign rfl) ?_
  refine Wl.done ?_
  refine Wx.go ?_
  refine Wc.seq ?_
  refine Wc.region ?_
  refine Wl.e (e_call (F := F) (args := [Value.int .i64 64]) Try.call16 rfl (new_ok W0 64 (by omega) (by omega))) (fun pp _ => ?_)
  refine Wl.imp (L' := (isDisk pp (DS.new 64)) :: F) (fun _ h => h) ?_
  refine Wl.q (v := Value.tuple #[Value.pointer (some ⟨pp, 0, none⟩), Value.int .i64 0]) (q_move rfl) ?_
  refine Wl.q (v := Value.pointer (some ⟨pp, 0, none⟩)) (q_extract (i := 0) rfl rfl) ?_
  refine Wl.q (v := Value.int .i64 0) (q_extract (i := 1) rfl rfl) ?_
  refine Wl.q (v := Value.pointer (some ⟨pp, 0, none⟩)) (q_assign rfl) ?_
  refine Wl.q (v := Value.int .i64 0) (q_assign rfl) ?_
  refine Wl.done ?_
  refine Wx.go ?_
  refine Wc.seq ?_
  refine Wc.seq ?_
  refine Wc.region ?_
  refine Wl.q (v := Value.int .i64 0) (q_move rfl) ?_
  refine Wl.q (v := Value.bool false) (q_neq (r := true) rfl rfl (decide_eq_true (by decide))) ?_
  refine Wl.q (v := Value.bool false) (q_move rfl) ?_
  refine Wl.q (v := Value.string a) (q_move rfl) ?_
  refine Wl.q (v := Value.int .i64 ((a.size : Nat) : Int)) (q_len_str Try.underlying9 rfl) ?_
  refine Wl.q (v := Value.string b) (q_move rfl) ?_
  refine Wl.q (v := Value.int .i64 ((b.size : Nat) : Int)) (q_len_str Try.underlying9 rfl) ?_
  refine Wl.e (e_buildSlice (cs := [Value.int .i64 ((a.size : Nat) : Int), Value.int .i64 ((b.size : Nat) : Int)]) se_72 zo_3 (by decide) (by decide) (by kernel_rfl)) (fun b1 _ => ?_)
  refine Wl.imp (L' := (pt b1 3 [Value.int .i64 ((a.size : Nat) : Int), Value.int .i64 ((b.size : Nat) : Int)]) :: (isDisk pp (DS.new 64)) :: F) (fun _ h => h) ?_
  refine Wl.e (e_call (F := (isDisk pp (DS.new 64)) :: F) (args := [Value.slice (some ⟨b1, 0, none⟩) 2 2]) Try.call20 rfl (Con.eqs (val' := fun _ => Value.bool false) (post' := fun _ => [pt b1 3 [Value.int .i64 ((a.size : Nat) : Int), Value.int .i64 ((b.size : Nat) : Int)]]) (beyond_c W0 b1 ([((a.size : Nat) : Int), ((b.size : Nat) : Int)] : List Int) (by simp) (by simp; omega)) (fun _ => congrArg Value.bool hb0) (fun _ => rfl))) (fun _ _ => ?_)
  refine Wl.imp (L' := (pt b1 3 [Value.int .i64 ((a.size : Nat) : Int), Value.int .i64 ((b.size : Nat) : Int)]) :: (isDisk pp (DS.new 64)) :: F) (fun _ h => h) ?_
  refine Wl.q (v := Value.bool false) (q_pick (t := false) rfl rfl) ?_
  refine Wl.q (v := Value.bool false) (q_move rfl) ?_
  refine Wl.q (v := Value.int .i64 n) (q_move rfl) ?_
  refine Wl.q (v := Value.bool false) (q_lss (r := false) rfl rfl (decide_eq_false (hn))) ?_
  refine Wl.q (v := Value.bool false) (q_pick (t := false) rfl rfl) ?_
  refine Wl.done ?_
  refine Wx.go ?_
  refine Wc.no rfl ?_
  refine Wc.skip ?_
  refine Wx.go ?_
  refine Wc.seq ?_
  refine Wc.region ?_
  refine Wl.q (v := Value.pointer (some ⟨pp, 0, none⟩)) (q_move rfl) ?_
  refine Wl.imp (L' := (isDisk pp (DS.new 64)) :: (pt b1 3 [Value.int .i64 ((a.size : Nat) : Int), Value.int .i64 ((b.size : Nat) : Int)]) :: F) (fun _ h => st_pull [1] h) ?_
  refine Wl.e (e_call (F := (pt b1 3 [Value.int .i64 ((a.size : Nat) : Int), Value.int .i64 ((b.size : Nat) : Int)]) :: F) (args := [Value.pointer (some ⟨pp, 0, none⟩)]) Try.call12 rfl (open_ok W0 pp (DS.new 64) (Ok.wf ok0) (by show 1 ≤ ((List.replicate 64 noughts)).length; omega) (by show 0 < 1099511627776; decide) (openD_up ok0))) (fun j0 _ => ?_)
  refine Wl.imp (L' := (isJ j0 pp ⟨ByteArray.empty, 0, false⟩) :: (isDisk pp (DS.new 64)) :: (pt b1 3 [Value.int .i64 ((a.size : Nat) : Int), Value.int .i64 ((b.size : Nat) : Int)]) :: F) (fun _ h => h) ?_
  refine Wl.q (v := Value.tuple #[Value.pointer (some ⟨j0, 0, none⟩), Value.int .i64 0]) (q_move rfl) ?_
  refine Wl.q (v := Value.pointer (some ⟨j0, 0, none⟩)) (q_extract (i := 0) rfl rfl) ?_
  refine Wl.q (v := Value.int .i64 0) (q_extract (i := 1) rfl rfl) ?_
  refine Wl.q (v := Value.pointer (some ⟨j0, 0, none⟩)) (q_assign rfl) ?_
  refine Wl.q (v := Value.int .i64 0) (q_assign rfl) ?_
  refine Wl.done ?_
  refine Wx.go ?_
  refine Wc.seq ?_
  refine Wc.seq ?_
  refine Wc.region ?_
  refine Wl.q (v := Value.int .i64 0) (q_move rfl) ?_
  refine Wl.q (v := Value.bool false) (q_neq (r := true) rfl rfl (decide_eq_true (by decide))) ?_
  refine Wl.q (v := Value.bool false) (q_move rfl) ?_
  refine Wl.q (v := Value.pointer (some ⟨j0, 0, none⟩)) (q_move rfl) ?_
  refine Wl.q (v := Value.bool false) (q_eql_nil (r := false) rfl rfl Try.underlying22 rfl) ?_
  refine Wl.q (v := Value.bool false) (q_pick (t := false) rfl rfl) ?_
  refine Wl.done ?_
  refine Wx.go ?_
  refine Wc.no rfl ?_
  refine Wc.skip ?_
  refine Wx.go ?_
  refine Wc.seq ?_
  refine Wc.seq ?_
  refine Wc.region ?_
  refine Wl.q (v := Value.pointer (some ⟨j0, 0, none⟩)) (q_move rfl) ?_
  refine Wl.q (v := Value.string a) (q_move rfl) ?_
  refine Wl.e (e_call (F := (pt b1 3 [Value.int .i64 ((a.size : Nat) : Int), Value.int .i64 ((b.size : Nat) : Int)]) :: F) (args := [Value.pointer (some ⟨j0, 0, none⟩), Value.string a]) Try.call9 rfl (Con.eqs (val' := fun _ => Value.int .i64 0) (post' := fun _ => [isJ j0 pp ⟨a, 1, false⟩, isDisk pp (⟨S1, [], false, (0 + nPieces a + 3), none⟩ : DS)]) (Put_c W0 j0 pp (⟨ByteArray.empty, 0, false⟩ : JS) (DS.new 64) a (ok0.wf) (by show 1 ≤ ((List.replicate 64 noughts)).length; omega) (by show 0 < 1000000000000; decide) (by show 0 < 4000000000000000000; omega) (by show 0 ≤ (0 : Int); omega) (by show (0 : Int) < 9223372036854775807; omega)) (fun _ => by rw [hp1]) (fun _ => by rw [hp1]))) (fun _ _ => ?_)
  refine Wl.imp (L' := (isJ j0 pp ⟨a, 1, false⟩) :: (isDisk pp (⟨S1, [], false, (0 + nPieces a + 3), none⟩ : DS)) :: (pt b1 3 [Value.int .i64 ((a.size : Nat) : Int), Value.int .i64 ((b.size : Nat) : Int)]) :: F) (fun _ h => h) ?_
  refine Wl.q (v := Value.bool false) (q_neq (r := true) rfl rfl (decide_eq_true (by decide))) ?_
  refine Wl.done ?_
  refine Wx.go ?_
  refine Wc.no rfl ?_
  refine Wc.skip ?_
  refine Wx.go ?_
  refine Wc.seq ?_
  refine Wc.seq ?_
  refine Wc.region ?_
  refine Wl.q (v := Value.pointer (some ⟨pp, 0, none⟩)) (q_move rfl) ?_
  refine Wl.q (v := Value.int .i64 n) (q_move rfl) ?_
  refine Wl.q (v := Value.int .i64 bits) (q_move rfl) ?_
  refine Wl.imp (L' := (isDisk pp (⟨S1, [], false, (0 + nPieces a + 3), none⟩ : DS)) :: (isJ j0 pp ⟨a, 1, false⟩) :: (pt b1 3 [Value.int .i64 ((a.size : Nat) : Int), Value.int .i64 ((b.size : Nat) : Int)]) :: F) (fun _ h => st_pull [1] h) ?_
  refine Wl.e (e_call (F := (isJ j0 pp ⟨a, 1, false⟩) :: (pt b1 3 [Value.int .i64 ((a.size : Nat) : Int), Value.int .i64 ((b.size : Nat) : Int)]) :: F) (args := [Value.pointer (some ⟨pp, 0, none⟩), Value.int .i64 n, Value.int .i64 bits]) Try.call21 rfl (Con.eqs (val' := fun _ => Value.int .i64 0) (post' := fun _ => [isDisk pp (⟨S1, [], false, (0 + nPieces a + 3), some (n.toNat, bits)⟩ : DS)]) (cut_c W0 pp (⟨S1, [], false, (0 + nPieces a + 3), none⟩ : DS) n bits) (fun _ => (by rw [cut_ok hn])) (fun _ => (by rw [cut_ok hn])))) (fun _ _ => ?_)
  refine Wl.imp (L' := (isDisk pp (⟨S1, [], false, (0 + nPieces a + 3), some (n.toNat, bits)⟩ : DS)) :: (isJ j0 pp ⟨a, 1, false⟩) :: (pt b1 3 [Value.int .i64 ((a.size : Nat) : Int), Value.int .i64 ((b.size : Nat) : Int)]) :: F) (fun _ h => h) ?_
  refine Wl.q (v := Value.bool false) (q_neq (r := true) rfl rfl (decide_eq_true (by decide))) ?_
  refine Wl.done ?_
  refine Wx.go ?_
  refine Wc.no rfl ?_
  refine Wc.skip ?_
  refine Wx.go ?_
  refine Wc.seq ?_
  refine Wc.region ?_
  refine Wl.q (v := Value.pointer (some ⟨j0, 0, none⟩)) (q_move rfl) ?_
  refine Wl.q (v := Value.string b) (q_move rfl) ?_
  refine Wl.imp (L' := (isJ j0 pp ⟨a, 1, false⟩) :: (isDisk pp (⟨S1, [], false, (0 + nPieces a + 3), some (n.toNat, bits)⟩ : DS)) :: (pt b1 3 [Value.int .i64 ((a.size : Nat) : Int), Value.int .i64 ((b.size : Nat) : Int)]) :: F) (fun _ h => st_pull [1, 0] h) ?_
  refine Wl.e (e_call (F := (pt b1 3 [Value.int .i64 ((a.size : Nat) : Int), Value.int .i64 ((b.size : Nat) : Int)]) :: F) (args := [Value.pointer (some ⟨j0, 0, none⟩), Value.string b]) Try.call9 rfl (Con.eqs (val' := fun _ => Value.int .i64 6) (post' := fun _ => [isJ j0 pp ⟨a, 1, true⟩, isDisk pp (⟨S2, [], true, k2, none⟩ : DS)]) (Put_c W0 j0 pp (⟨a, 1, false⟩ : JS) (⟨S1, [], false, (0 + nPieces a + 3), some (n.toNat, bits)⟩ : DS) b (Ok.wfc ok1 hnt) (by show 1 ≤ (S1).length; omega) (by show 0 < 1000000000000; decide) (by show (0 + nPieces a + 3) < 4000000000000000000; omega) (by show 0 ≤ (1 : Int); omega) (by show (1 : Int) < 9223372036854775807; omega)) (fun _ => by rw [hp2]) (fun _ => by rw [hp2]))) (fun _ _ => ?_)
  refine Wl.imp (L' := (isJ j0 pp ⟨a, 1, true⟩) :: (isDisk pp (⟨S2, [], true, k2, none⟩ : DS)) :: (pt b1 3 [Value.int .i64 ((a.size : Nat) : Int), Value.int .i64 ((b.size : Nat) : Int)]) :: F) (fun _ h => h) ?_
  refine Wl.q (v := Value.int .i64 6) (q_assign rfl) ?_
  refine Wl.done ?_
  refine Wx.go ?_
  refine Wc.seq ?_
  refine Wc.seq ?_
  refine Wc.region ?_
  refine Wl.q (v := Value.string b) (q_move rfl) ?_
  refine Wl.q (v := Value.int .i64 ((b.size : Nat) : Int)) (q_len_str Try.underlying9 rfl) ?_
  refine Wl.q (v := Value.pointer (some ⟨j0, 0, none⟩)) (q_move rfl) ?_
  refine Wl.e (e_call (F := (pt b1 3 [Value.int .i64 ((a.size : Nat) : Int), Value.int .i64 ((b.size : Nat) : Int)]) :: F) (args := [Value.pointer (some ⟨j0, 0, none⟩)]) Try.call11 rfl (Con.eqs (val' := fun _ => Value.int .i64 ((half S2 * 64 : Nat) : Int)) (post' := fun _ => [isJ j0 pp ⟨a, 1, true⟩, isDisk pp (⟨S2, [], true, k2, none⟩ : DS)]) (room_in W0 j0 pp a 1 (⟨S2, [], true, k2, none⟩ : DS) true (by show 1 ≤ (S2).length; omega) (by show (S2).length ≤ 4096; omega)) (fun _ => rfl) (fun _ => rfl))) (fun _ _ => ?_)
  refine Wl.imp (L' := (isJ j0 pp ⟨a, 1, true⟩) :: (isDisk pp (⟨S2, [], true, k2, none⟩ : DS)) :: (pt b1 3 [Value.int .i64 ((a.size : Nat) : Int), Value.int .i64 ((b.size : Nat) : Int)]) :: F) (fun _ h => h) ?_
  refine Wl.q (v := Value.bool false) (q_gtr (r := false) rfl rfl (decide_eq_false (by rw [half_64 hl2]; omega))) ?_
  refine Wl.done ?_
  refine Wx.go ?_
  refine Wc.no rfl ?_
  refine Wc.skip ?_
  refine Wx.go ?_
  refine Wc.seq ?_
  refine Wc.region ?_
  refine Wl.q (v := Value.string b) (q_move rfl) ?_
  refine Wl.q (v := Value.int .i64 ((b.size : Nat) : Int)) (q_len_str Try.underlying9 rfl) ?_
  refine Wl.e (e_call (F := (isJ j0 pp ⟨a, 1, true⟩) :: (isDisk pp (⟨S2, [], true, k2, none⟩ : DS)) :: (pt b1 3 [Value.int .i64 ((a.size : Nat) : Int), Value.int .i64 ((b.size : Nat) : Int)]) :: F) (args := [Value.int .i64 ((b.size : Nat) : Int)]) Try.call14 rfl (Con.eqs (val' := fun _ => Value.tuple #[Value.int .i64 (((nPieces b + 3) : Nat) : Int), Value.int .i64 0]) (post' := fun _ => []) (cost_c W0 ((b.size : Nat) : Int) (by omega)) (fun _ => by rw [cost_size]) (fun _ => rfl))) (fun _ _ => ?_)
  refine Wl.imp (L' := (isJ j0 pp ⟨a, 1, true⟩) :: (isDisk pp (⟨S2, [], true, k2, none⟩ : DS)) :: (pt b1 3 [Value.int .i64 ((a.size : Nat) : Int), Value.int .i64 ((b.size : Nat) : Int)]) :: F) (fun _ h => h) ?_
  refine Wl.q (v := Value.tuple #[Value.int .i64 (((nPieces b + 3) : Nat) : Int), Value.int .i64 0]) (q_move rfl) ?_
  refine Wl.q (v := Value.int .i64 (((nPieces b + 3) : Nat) : Int)) (q_extract (i := 0) rfl rfl) ?_
  refine Wl.q (v := Value.int .i64 0) (q_extract (i := 1) rfl rfl) ?_
  refine Wl.q (v := Value.int .i64 (((nPieces b + 3) : Nat) : Int)) (q_assign rfl) ?_
  refine Wl.q (v := Value.int .i64 0) (q_assign rfl) ?_
  refine Wl.done ?_
  refine Wx.go ?_
  refine Wc.seq ?_
  refine Wc.seq ?_
  refine Wc.region ?_
  refine Wl.q (v := Value.int .i64 6) (q_move rfl) ?_
  refine Wl.q (v := Value.bool false) (q_eql (r := false) rfl rfl (decide_eq_false (by decide))) ?_
  refine Wl.q (v := Value.int .i64 n) (q_move rfl) ?_
  refine Wl.q (v := Value.int .i64 (((nPieces b + 3) : Nat) : Int)) (q_move rfl) ?_
  refine Wl.q (v := Value.bool false) (q_geq (r := false) rfl rfl (decide_eq_false (by omega))) ?_
  refine Wl.q (v := Value.bool false) (q_neq_bool (r := true) rfl rfl Try.underlying4 rfl) ?_
  refine Wl.q (v := Value.bool false) (q_move rfl) ?_
  refine Wl.q (v := Value.int .i64 6) (q_move rfl) ?_
  refine Wl.q (v := Value.bool true) (q_neq (r := false) rfl rfl (decide_eq_false (by decide))) ?_
  refine Wl.q (v := Value.bool true) (q_move rfl) ?_
  refine Wl.q (v := Value.int .i64 6) (q_move rfl) ?_
  refine Wl.q (v := Value.bool false) (q_neq (r := true) rfl rfl (decide_eq_true (by decide))) ?_
  refine Wl.q (v := Value.bool false) (q_pick (t := true) rfl rfl) ?_
  refine Wl.q (v := Value.bool false) (q_pick (t := false) rfl rfl) ?_
  refine Wl.done ?_
  refine Wx.go ?_
  refine Wc.no rfl ?_
  refine Wc.skip ?_
  refine Wx.go ?_
  refine Wc.seq ?_
  refine Wc.seq ?_
  refine Wc.region ?_
  refine Wl.q (v := Value.int .i64 6) (q_move rfl) ?_
  refine Wl.q (v := Value.bool false) (q_eql (r := false) rfl rfl (decide_eq_false (by decide))) ?_
  refine Wl.done ?_
  refine Wx.go ?_
  refine Wc.no rfl ?_
  refine Wc.skip ?_
  refine Wx.go ?_
  refine Wc.seq ?_
  refine Wc.seq ?_
  refine Wc.region ?_
  refine Wl.q (v := Value.pointer (some ⟨pp, 0, none⟩)) (q_move rfl) ?_
  refine Wl.imp (L' := (isDisk pp (⟨S2, [], true, k2, none⟩ : DS)) :: (isJ j0 pp ⟨a, 1, true⟩) :: (pt b1 3 [Value.int .i64 ((a.size : Nat) : Int), Value.int .i64 ((b.size : Nat) : Int)]) :: F) (fun _ h => st_pull [1] h) ?_
  refine Wl.e (e_call (F := (isJ j0 pp ⟨a, 1, true⟩) :: (pt b1 3 [Value.int .i64 ((a.size : Nat) : Int), Value.int .i64 ((b.size : Nat) : Int)]) :: F) (args := [Value.pointer (some ⟨pp, 0, none⟩)]) Try.call23 rfl (Con.eqs (val' := fun _ => Value.int .i64 0) (post' := fun _ => [isDisk pp (⟨S2, [], false, k2, none⟩ : DS)]) (start_c W0 pp (⟨S2, [], true, k2, none⟩ : DS) ) (fun _ => rfl) (fun _ => rfl))) (fun _ _ => ?_)
  refine Wl.imp (L' := (isDisk pp (⟨S2, [], false, k2, none⟩ : DS)) :: (isJ j0 pp ⟨a, 1, true⟩) :: (pt b1 3 [Value.int .i64 ((a.size : Nat) : Int), Value.int .i64 ((b.size : Nat) : Int)]) :: F) (fun _ h => h) ?_
  refine Wl.q (v := Value.bool false) (q_neq (r := true) rfl rfl (decide_eq_true (by decide))) ?_
  refine Wl.done ?_
  refine Wx.go ?_
  refine Wc.no rfl ?_
  refine Wc.skip ?_
  refine Wx.go ?_
  refine Wc.seq ?_
  refine Wc.region ?_
  refine Wl.q (v := Value.pointer (some ⟨pp, 0, none⟩)) (q_move rfl) ?_
  refine Wl.e (e_call (F := (isJ j0 pp ⟨a, 1, true⟩) :: (pt b1 3 [Value.int .i64 ((a.size : Nat) : Int), Value.int .i64 ((b.size : Nat) : Int)]) :: F) (args := [Value.pointer (some ⟨pp, 0, none⟩)]) Try.call12 rfl (open_ok W0 pp (⟨S2, [], false, k2, none⟩ : DS) (Ok.wf ok2) (by show 1 ≤ (S2).length; omega) (by show 0 < 1099511627776; decide) (openD_up ok2))) (fun j1 _ => ?_)
  refine Wl.imp (L' := (isJ j1 pp ⟨a, 1, false⟩) :: (isDisk pp (⟨S2, [], false, k2, none⟩ : DS)) :: (isJ j0 pp ⟨a, 1, true⟩) :: (pt b1 3 [Value.int .i64 ((a.size : Nat) : Int), Value.int .i64 ((b.size : Nat) : Int)]) :: F) (fun _ h => h) ?_
  refine Wl.q (v := Value.tuple #[Value.pointer (some ⟨j1, 0, none⟩), Value.int .i64 0]) (q_move rfl) ?_
  refine Wl.q (v := Value.pointer (some ⟨j1, 0, none⟩)) (q_extract (i := 0) rfl rfl) ?_
  refine Wl.q (v := Value.int .i64 0) (q_extract (i := 1) rfl rfl) ?_
  refine Wl.q (v := Value.pointer (some ⟨j1, 0, none⟩)) (q_assign rfl) ?_
  refine Wl.q (v := Value.int .i64 0) (q_assign rfl) ?_
  refine Wl.done ?_
  refine Wx.go ?_
  refine Wc.seq ?_
  refine Wc.region ?_
  refine Wl.q (v := Value.pointer (some ⟨pp, 0, none⟩)) (q_move rfl) ?_
  refine Wl.imp (L' := (isDisk pp (⟨S2, [], false, k2, none⟩ : DS)) :: (isJ j1 pp ⟨a, 1, false⟩) :: (isJ j0 pp ⟨a, 1, true⟩) :: (pt b1 3 [Value.int .i64 ((a.size : Nat) : Int), Value.int .i64 ((b.size : Nat) : Int)]) :: F) (fun _ h => st_pull [1] h) ?_
  refine Wl.e (e_call (F := (isJ j1 pp ⟨a, 1, false⟩) :: (isJ j0 pp ⟨a, 1, true⟩) :: (pt b1 3 [Value.int .i64 ((a.size : Nat) : Int), Value.int .i64 ((b.size : Nat) : Int)]) :: F) (args := [Value.pointer (some ⟨pp, 0, none⟩)]) Try.call12 rfl (open_ok W0 pp (⟨S2, [], false, k2, none⟩ : DS) (Ok.wf ok2) (by show 1 ≤ (S2).length; omega) (by show 0 < 1099511627776; decide) (openD_up ok2))) (fun j2 _ => ?_)
  refine Wl.imp (L' := (isJ j2 pp ⟨a, 1, false⟩) :: (isDisk pp (⟨S2, [], false, k2, none⟩ : DS)) :: (isJ j1 pp ⟨a, 1, false⟩) :: (isJ j0 pp ⟨a, 1, true⟩) :: (pt b1 3 [Value.int .i64 ((a.size : Nat) : Int), Value.int .i64 ((b.size : Nat) : Int)]) :: F) (fun _ h => h) ?_
  refine Wl.q (v := Value.tuple #[Value.pointer (some ⟨j2, 0, none⟩), Value.int .i64 0]) (q_move rfl) ?_
  refine Wl.q (v := Value.pointer (some ⟨j2, 0, none⟩)) (q_extract (i := 0) rfl rfl) ?_
  refine Wl.q (v := Value.int .i64 0) (q_extract (i := 1) rfl rfl) ?_
  refine Wl.q (v := Value.pointer (some ⟨j2, 0, none⟩)) (q_assign rfl) ?_
  refine Wl.q (v := Value.int .i64 0) (q_assign rfl) ?_
  refine Wl.done ?_
  refine Wx.go ?_
  refine Wc.seq ?_
  refine Wc.seq ?_
  refine Wc.region ?_
  refine Wl.q (v := Value.int .i64 0) (q_move rfl) ?_
  refine Wl.q (v := Value.bool false) (q_neq (r := true) rfl rfl (decide_eq_true (by decide))) ?_
  refine Wl.q (v := Value.bool false) (q_move rfl) ?_
  refine Wl.q (v := Value.int .i64 0) (q_move rfl) ?_
  refine Wl.q (v := Value.bool false) (q_neq (r := true) rfl rfl (decide_eq_true (by decide))) ?_
  refine Wl.q (v := Value.bool false) (q_pick (t := false) rfl rfl) ?_
  refine Wl.q (v := Value.bool false) (q_move rfl) ?_
  refine Wl.q (v := Value.pointer (some ⟨j1, 0, none⟩)) (q_move rfl) ?_
  refine Wl.q (v := Value.bool false) (q_eql_nil (r := false) rfl rfl Try.underlying22 rfl) ?_
  refine Wl.q (v := Value.bool false) (q_pick (t := false) rfl rfl) ?_
  refine Wl.q (v := Value.bool false) (q_move rfl) ?_
  refine Wl.q (v := Value.pointer (some ⟨j2, 0, none⟩)) (q_move rfl) ?_
  refine Wl.q (v := Value.bool false) (q_eql_nil (r := false) rfl rfl Try.underlying22 rfl) ?_
  refine Wl.q (v := Value.bool false) (q_pick (t := false) rfl rfl) ?_
  refine Wl.done ?_
  refine Wx.go ?_
  refine Wc.no rfl ?_
  refine Wc.skip ?_
  refine Wx.go ?_
  refine Wc.seq ?_
  refine Wc.region ?_
  refine Wl.q (v := Value.pointer (some ⟨j1, 0, none⟩)) (q_move rfl) ?_
  refine Wl.imp (L' := (isJ j1 pp ⟨a, 1, false⟩) :: (isDisk pp (⟨S2, [], false, k2, none⟩ : DS)) :: (isJ j2 pp ⟨a, 1, false⟩) :: (isJ j0 pp ⟨a, 1, true⟩) :: (pt b1 3 [Value.int .i64 ((a.size : Nat) : Int), Value.int .i64 ((b.size : Nat) : Int)]) :: F) (fun _ h => st_pull [2, 1] h) ?_
  refine Wl.e (e_call (F := (isJ j2 pp ⟨a, 1, false⟩) :: (isJ j0 pp ⟨a, 1, true⟩) :: (pt b1 3 [Value.int .i64 ((a.size : Nat) : Int), Value.int .i64 ((b.size : Nat) : Int)]) :: F) (args := [Value.pointer (some ⟨j1, 0, none⟩)]) Try.call8 rfl (get_on W0 j1 pp a 1 (⟨S2, [], false, k2, none⟩ : DS) rfl)) (fun _ _ => ?_)
  refine Wl.imp (L' := (isJ j1 pp ⟨a, 1, false⟩) :: (isDisk pp (⟨S2, [], false, k2, none⟩ : DS)) :: (isJ j2 pp ⟨a, 1, false⟩) :: (isJ j0 pp ⟨a, 1, true⟩) :: (pt b1 3 [Value.int .i64 ((a.size : Nat) : Int), Value.int .i64 ((b.size : Nat) : Int)]) :: F) (fun _ h => h) ?_
  refine Wl.q (v := Value.tuple #[Value.string a, Value.int .i64 0]) (q_move rfl) ?_
  refine Wl.q (v := Value.string a) (q_extract (i := 0) rfl rfl) ?_
  refine Wl.q (v := Value.int .i64 0) (q_extract (i := 1) rfl rfl) ?_
  refine Wl.q (v := Value.string a) (q_assign rfl) ?_
  refine Wl.q (v := Value.int .i64 0) (q_assign rfl) ?_
  refine Wl.done ?_
  refine Wx.go ?_
  refine Wc.seq ?_
  refine Wc.region ?_
  refine Wl.q (v := Value.pointer (some ⟨j2, 0, none⟩)) (q_move rfl) ?_
  refine Wl.imp (L' := (isJ j2 pp ⟨a, 1, false⟩) :: (isDisk pp (⟨S2, [], false, k2, none⟩ : DS)) :: (isJ j1 pp ⟨a, 1, false⟩) :: (isJ j0 pp ⟨a, 1, true⟩) :: (pt b1 3 [Value.int .i64 ((a.size : Nat) : Int), Value.int .i64 ((b.size : Nat) : Int)]) :: F) (fun _ h => st_pull [2, 1] h) ?_
  refine Wl.e (e_call (F := (isJ j1 pp ⟨a, 1, false⟩) :: (isJ j0 pp ⟨a, 1, true⟩) :: (pt b1 3 [Value.int .i64 ((a.size : Nat) : Int), Value.int .i64 ((b.size : Nat) : Int)]) :: F) (args := [Value.pointer (some ⟨j2, 0, none⟩)]) Try.call8 rfl (get_on W0 j2 pp a 1 (⟨S2, [], false, k2, none⟩ : DS) rfl)) (fun _ _ => ?_)
  refine Wl.imp (L' := (isJ j2 pp ⟨a, 1, false⟩) :: (isDisk pp (⟨S2, [], false, k2, none⟩ : DS)) :: (isJ j1 pp ⟨a, 1, false⟩) :: (isJ j0 pp ⟨a, 1, true⟩) :: (pt b1 3 [Value.int .i64 ((a.size : Nat) : Int), Value.int .i64 ((b.size : Nat) : Int)]) :: F) (fun _ h => h) ?_
  refine Wl.q (v := Value.tuple #[Value.string a, Value.int .i64 0]) (q_move rfl) ?_
  refine Wl.q (v := Value.string a) (q_extract (i := 0) rfl rfl) ?_
  refine Wl.q (v := Value.int .i64 0) (q_extract (i := 1) rfl rfl) ?_
  refine Wl.q (v := Value.string a) (q_assign rfl) ?_
  refine Wl.q (v := Value.int .i64 0) (q_assign rfl) ?_
  refine Wl.done ?_
  refine Wx.go ?_
  refine Wc.seq ?_
  refine Wc.seq ?_
  refine Wc.region ?_
  refine Wl.q (v := Value.int .i64 0) (q_move rfl) ?_
  refine Wl.q (v := Value.bool false) (q_neq (r := true) rfl rfl (decide_eq_true (by decide))) ?_
  refine Wl.q (v := Value.bool false) (q_move rfl) ?_
  refine Wl.q (v := Value.int .i64 0) (q_move rfl) ?_
  refine Wl.q (v := Value.bool false) (q_neq (r := true) rfl rfl (decide_eq_true (by decide))) ?_
  refine Wl.q (v := Value.bool false) (q_pick (t := false) rfl rfl) ?_
  refine Wl.q (v := Value.bool false) (q_move rfl) ?_
  refine Wl.q (v := Value.string a) (q_move rfl) ?_
  refine Wl.q (v := Value.string a) (q_move rfl) ?_
  refine Wl.q (v := Value.bool false) (q_neq_str (r := true) rfl rfl (text_true (rfl))) ?_
  refine Wl.q (v := Value.bool false) (q_pick (t := false) rfl rfl) ?_
  refine Wl.q (v := Value.bool false) (q_move rfl) ?_
  refine Wl.q (v := Value.pointer (some ⟨j1, 0, none⟩)) (q_move rfl) ?_
  refine Wl.imp (L' := (isJ j1 pp ⟨a, 1, false⟩) :: (isJ j2 pp ⟨a, 1, false⟩) :: (isDisk pp (⟨S2, [], false, k2, none⟩ : DS)) :: (isJ j0 pp ⟨a, 1, true⟩) :: (pt b1 3 [Value.int .i64 ((a.size : Nat) : Int), Value.int .i64 ((b.size : Nat) : Int)]) :: F) (fun _ h => st_pull [2] h) ?_
  refine Wl.e (e_call (F := (isJ j2 pp ⟨a, 1, false⟩) :: (isDisk pp (⟨S2, [], false, k2, none⟩ : DS)) :: (isJ j0 pp ⟨a, 1, true⟩) :: (pt b1 3 [Value.int .i64 ((a.size : Nat) : Int), Value.int .i64 ((b.size : Nat) : Int)]) :: F) (args := [Value.pointer (some ⟨j1, 0, none⟩)]) Try.call10 rfl (seq_in W0 j1 pp a 1 false)) (fun _ _ => ?_)
  refine Wl.imp (L' := (isJ j1 pp ⟨a, 1, false⟩) :: (isJ j2 pp ⟨a, 1, false⟩) :: (isDisk pp (⟨S2, [], false, k2, none⟩ : DS)) :: (isJ j0 pp ⟨a, 1, true⟩) :: (pt b1 3 [Value.int .i64 ((a.size : Nat) : Int), Value.int .i64 ((b.size : Nat) : Int)]) :: F) (fun _ h => h) ?_
  refine Wl.q (v := Value.pointer (some ⟨j2, 0, none⟩)) (q_move rfl) ?_
  refine Wl.imp (L' := (isJ j2 pp ⟨a, 1, false⟩) :: (isJ j1 pp ⟨a, 1, false⟩) :: (isDisk pp (⟨S2, [], false, k2, none⟩ : DS)) :: (isJ j0 pp ⟨a, 1, true⟩) :: (pt b1 3 [Value.int .i64 ((a.size : Nat) : Int), Value.int .i64 ((b.size : Nat) : Int)]) :: F) (fun _ h => st_pull [1] h) ?_
  refine Wl.e (e_call (F := (isJ j1 pp ⟨a, 1, false⟩) :: (isDisk pp (⟨S2, [], false, k2, none⟩ : DS)) :: (isJ j0 pp ⟨a, 1, true⟩) :: (pt b1 3 [Value.int .i64 ((a.size : Nat) : Int), Value.int .i64 ((b.size : Nat) : Int)]) :: F) (args := [Value.pointer (some ⟨j2, 0, none⟩)]) Try.call10 rfl (seq_in W0 j2 pp a 1 false)) (fun _ _ => ?_)
  refine Wl.imp (L' := (isJ j2 pp ⟨a, 1, false⟩) :: (isJ j1 pp ⟨a, 1, false⟩) :: (isDisk pp (⟨S2, [], false, k2, none⟩ : DS)) :: (isJ j0 pp ⟨a, 1, true⟩) :: (pt b1 3 [Value.int .i64 ((a.size : Nat) : Int), Value.int .i64 ((b.size : Nat) : Int)]) :: F) (fun _ h => h) ?_
  refine Wl.q (v := Value.bool false) (q_neq (r := true) rfl rfl (decide_eq_true (by decide))) ?_
  refine Wl.q (v := Value.bool false) (q_pick (t := false) rfl rfl) ?_
  refine Wl.done ?_
  refine Wx.go ?_
  refine Wc.no rfl ?_
  refine Wc.skip ?_
  refine Wx.go ?_
  refine Wc.seq ?_
  refine Wc.region ?_
  refine Wl.q (v := Value.string a) (q_move rfl) ?_
  refine Wl.q (v := Value.string a) (q_move rfl) ?_
  refine Wl.q (v := Value.bool true) (q_eql_str (r := true) rfl rfl (text_true (rfl))) ?_
  refine Wl.q (v := Value.bool true) (q_move rfl) ?_
  refine Wl.q (v := Value.pointer (some ⟨j1, 0, none⟩)) (q_move rfl) ?_
  refine Wl.imp (L' := (isJ j1 pp ⟨a, 1, false⟩) :: (isJ j2 pp ⟨a, 1, false⟩) :: (isDisk pp (⟨S2, [], false, k2, none⟩ : DS)) :: (isJ j0 pp ⟨a, 1, true⟩) :: (pt b1 3 [Value.int .i64 ((a.size : Nat) : Int), Value.int .i64 ((b.size : Nat) : Int)]) :: F) (fun _ h => st_pull [1] h) ?_
  refine Wl.e (e_call (F := (isJ j2 pp ⟨a, 1, false⟩) :: (isDisk pp (⟨S2, [], false, k2, none⟩ : DS)) :: (isJ j0 pp ⟨a, 1, true⟩) :: (pt b1 3 [Value.int .i64 ((a.size : Nat) : Int), Value.int .i64 ((b.size : Nat) : Int)]) :: F) (args := [Value.pointer (some ⟨j1, 0, none⟩)]) Try.call10 rfl (seq_in W0 j1 pp a 1 false)) (fun _ _ => ?_)
  refine Wl.imp (L' := (isJ j1 pp ⟨a, 1, false⟩) :: (isJ j2 pp ⟨a, 1, false⟩) :: (isDisk pp (⟨S2, [], false, k2, none⟩ : DS)) :: (isJ j0 pp ⟨a, 1, true⟩) :: (pt b1 3 [Value.int .i64 ((a.size : Nat) : Int), Value.int .i64 ((b.size : Nat) : Int)]) :: F) (fun _ h => h) ?_
  refine Wl.q (v := Value.bool true) (q_eql (r := true) rfl rfl (decide_eq_true (by decide))) ?_
  refine Wl.q (v := Value.bool true) (q_pick (t := true) rfl rfl) ?_
  refine Wl.q (v := Value.bool true) (q_assign rfl) ?_
  refine Wl.done ?_
  refine Wx.go ?_
  refine Wc.seq ?_
  refine Wc.region ?_
  refine Wl.q (v := Value.string a) (q_move rfl) ?_
  refine Wl.q (v := Value.string b) (q_move rfl) ?_
  by_cases h2 : a = b
  ·
    refine Wl.q (v := Value.bool true) (q_eql_str (r := true) rfl rfl (text_true h2)) ?_
    refine Wl.q (v := Value.bool true) (q_move rfl) ?_
    refine Wl.q (v := Value.pointer (some ⟨j1, 0, none⟩)) (q_move rfl) ?_
    refine Wl.e (e_call (F := (isJ j2 pp ⟨a, 1, false⟩) :: (isDisk pp (⟨S2, [], false, k2, none⟩ : DS)) :: (isJ j0 pp ⟨a, 1, true⟩) :: (pt b1 3 [Value.int .i64 ((a.size : Nat) : Int), Value.int .i64 ((b.size : Nat) : Int)]) :: F) (args := [Value.pointer (some ⟨j1, 0, none⟩)]) Try.call10 rfl (seq_in W0 j1 pp a 1 false)) (fun _ _ => ?_)
    refine Wl.imp (L' := (isJ j1 pp ⟨a, 1, false⟩) :: (isJ j2 pp ⟨a, 1, false⟩) :: (isDisk pp (⟨S2, [], false, k2, none⟩ : DS)) :: (isJ j0 pp ⟨a, 1, true⟩) :: (pt b1 3 [Value.int .i64 ((a.size : Nat) : Int), Value.int .i64 ((b.size : Nat) : Int)]) :: F) (fun _ h => h) ?_
    refine Wl.q (v := Value.bool false) (q_eql (r := false) rfl rfl (decide_eq_false (by decide))) ?_
    refine Wl.q (v := Value.bool false) (q_pick (t := true) rfl rfl) ?_
    refine Wl.q (v := Value.bool false) (q_assign rfl) ?_
    refine Wl.done ?_
    refine Wx.go ?_
    refine Wc.seq ?_
    refine Wc.seq ?_
    refine Wc.region ?_
    refine Wl.q (v := Value.int .i64 6) (q_move rfl) ?_
    refine Wl.q (v := Value.bool false) (q_eql (r := false) rfl rfl (decide_eq_false (by decide))) ?_
    refine Wl.done ?_
    refine Wx.go ?_
    refine Wc.no rfl ?_
    refine Wc.skip ?_
    refine Wx.go ?_
    refine Wc.seq ?_
    refine Wc.seq ?_
    refine Wc.region ?_
    refine Wl.q (v := Value.int .i64 n) (q_move rfl) ?_
    refine Wl.q (v := Value.int .i64 (((nPieces b + 3) : Nat) : Int)) (q_move rfl) ?_
    refine Wl.q (v := Value.int .i64 ((((nPieces b + 3) : Nat) : Int) - 1)) (q_sub (c := ((((nPieces b + 3) : Nat) : Int) - 1)) rfl rfl (wrap_i64 (by omega) (by omega))) ?_
    by_cases h3 : n < ((((nPieces b + 3) : Nat) : Int) - 1)
    ·
      refine Wl.q (v := Value.bool true) (q_lss (r := true) rfl rfl (decide_eq_true h3)) ?_
      refine Wl.done ?_
      refine Wx.go ?_
      refine Wc.yes rfl ?_
      refine Wc.seq ?_
      refine Wc.region ?_
      refine Wl.q (v := Value.bool true) (q_move rfl) ?_
      refine Wl.q (v := Value.bool true) (q_move rfl) ?_
      refine Wl.e (e_call (F := (isJ j1 pp ⟨a, 1, false⟩) :: (isJ j2 pp ⟨a, 1, false⟩) :: (isDisk pp (⟨S2, [], false, k2, none⟩ : DS)) :: (isJ j0 pp ⟨a, 1, true⟩) :: (pt b1 3 [Value.int .i64 ((a.size : Nat) : Int), Value.int .i64 ((b.size : Nat) : Int)]) :: F) (args := []) Try.call13 rfl (alive_c W0)) (fun _ _ => ?_)
      refine Wl.imp (L' := (isJ j1 pp ⟨a, 1, false⟩) :: (isJ j2 pp ⟨a, 1, false⟩) :: (isDisk pp (⟨S2, [], false, k2, none⟩ : DS)) :: (isJ j0 pp ⟨a, 1, true⟩) :: (pt b1 3 [Value.int .i64 ((a.size : Nat) : Int), Value.int .i64 ((b.size : Nat) : Int)]) :: F) (fun _ h => h) ?_
      refine Wl.q (v := Value.bool true) (q_pick (t := true) rfl rfl) ?_
      refine Wl.q (v := Value.bool true) (q_assign rfl) ?_
      refine Wl.done ?_
      refine Wx.go ?_
      refine Wc.ret ?_
      refine Wx.thenRet ?_
      refine Wx.fin1 rfl (.inl rfl) (fun w hs => ?_)
      exact ⟨(), trivial, rfl, (st_drop (st_drop (st_drop (st_drop (st_drop (st_pull [0, 0, 0, 0, 0] hs))))))⟩
    ·
      refine Wl.q (v := Value.bool false) (q_lss (r := false) rfl rfl (decide_eq_false h3)) ?_
      refine Wl.done ?_
      refine Wx.go ?_
      refine Wc.no rfl ?_
      refine Wc.skip ?_
      refine Wx.go ?_
      refine Wc.seq ?_
      refine Wc.region ?_
      refine Wl.q (v := Value.bool false) (q_move rfl) ?_
      refine Wl.q (v := Value.bool false) (q_move rfl) ?_
      refine Wl.q (v := Value.bool true) (q_move rfl) ?_
      refine Wl.q (v := Value.bool true) (q_pick (t := false) rfl rfl) ?_
      refine Wl.q (v := Value.bool true) (q_move rfl) ?_
      refine Wl.e (e_call (F := (isJ j1 pp ⟨a, 1, false⟩) :: (isJ j2 pp ⟨a, 1, false⟩) :: (isDisk pp (⟨S2, [], false, k2, none⟩ : DS)) :: (isJ j0 pp ⟨a, 1, true⟩) :: (pt b1 3 [Value.int .i64 ((a.size : Nat) : Int), Value.int .i64 ((b.size : Nat) : Int)]) :: F) (args := []) Try.call13 rfl (alive_c W0)) (fun _ _ => ?_)
      refine Wl.imp (L' := (isJ j1 pp ⟨a, 1, false⟩) :: (isJ j2 pp ⟨a, 1, false⟩) :: (isDisk pp (⟨S2, [], false, k2, none⟩ : DS)) :: (isJ j0 pp ⟨a, 1, true⟩) :: (pt b1 3 [Value.int .i64 ((a.size : Nat) : Int), Value.int .i64 ((b.size : Nat) : Int)]) :: F) (fun _ h => h) ?_
      refine Wl.q (v := Value.bool true) (q_pick (t := true) rfl rfl) ?_
      refine Wl.q (v := Value.bool true) (q_assign rfl) ?_
      refine Wl.done ?_
      refine Wx.go ?_
      refine Wc.ret ?_
      refine Wx.fin1 rfl (.inl rfl) (fun w hs => ?_)
      exact ⟨(), trivial, rfl, (st_drop (st_drop (st_drop (st_drop (st_drop (st_pull [0, 0, 0, 0, 0] hs))))))⟩
  ·
    refine Wl.q (v := Value.bool false) (q_eql_str (r := false) rfl rfl (text_false h2)) ?_
    refine Wl.q (v := Value.bool false) (q_move rfl) ?_
    refine Wl.no ?_
    refine Wl.no ?_
    refine Wl.no ?_
    refine Wl.q (v := Value.bool false) (q_pick (t := false) rfl rfl) ?_
    refine Wl.q (v := Value.bool false) (q_assign rfl) ?_
    refine Wl.done ?_
    refine Wx.go ?_
    refine Wc.seq ?_
    refine Wc.seq ?_
    refine Wc.region ?_
    refine Wl.q (v := Value.int .i64 6) (q_move rfl) ?_
    refine Wl.q (v := Value.bool false) (q_eql (r := false) rfl rfl (decide_eq_false (by decide))) ?_
    refine Wl.done ?_
    refine Wx.go ?_
    refine Wc.no rfl ?_
    refine Wc.skip ?_
    refine Wx.go ?_
    refine Wc.seq ?_
    refine Wc.seq ?_
    refine Wc.region ?_
    refine Wl.q (v := Value.int .i64 n) (q_move rfl) ?_
    refine Wl.q (v := Value.int .i64 (((nPieces b + 3) : Nat) : Int)) (q_move rfl) ?_
    refine Wl.q (v := Value.int .i64 ((((nPieces b + 3) : Nat) : Int) - 1)) (q_sub (c := ((((nPieces b + 3) : Nat) : Int) - 1)) rfl rfl (wrap_i64 (by omega) (by omega))) ?_
    by_cases h4 : n < ((((nPieces b + 3) : Nat) : Int) - 1)
    ·
      refine Wl.q (v := Value.bool true) (q_lss (r := true) rfl rfl (decide_eq_true h4)) ?_
      refine Wl.done ?_
      refine Wx.go ?_
      refine Wc.yes rfl ?_
      refine Wc.seq ?_
      refine Wc.region ?_
      refine Wl.q (v := Value.bool true) (q_move rfl) ?_
      refine Wl.q (v := Value.bool true) (q_move rfl) ?_
      refine Wl.e (e_call (F := (isJ j1 pp ⟨a, 1, false⟩) :: (isJ j2 pp ⟨a, 1, false⟩) :: (isDisk pp (⟨S2, [], false, k2, none⟩ : DS)) :: (isJ j0 pp ⟨a, 1, true⟩) :: (pt b1 3 [Value.int .i64 ((a.size : Nat) : Int), Value.int .i64 ((b.size : Nat) : Int)]) :: F) (args := []) Try.call13 rfl (alive_c W0)) (fun _ _ => ?_)
      refine Wl.imp (L' := (isJ j1 pp ⟨a, 1, false⟩) :: (isJ j2 pp ⟨a, 1, false⟩) :: (isDisk pp (⟨S2, [], false, k2, none⟩ : DS)) :: (isJ j0 pp ⟨a, 1, true⟩) :: (pt b1 3 [Value.int .i64 ((a.size : Nat) : Int), Value.int .i64 ((b.size : Nat) : Int)]) :: F) (fun _ h => h) ?_
      refine Wl.q (v := Value.bool true) (q_pick (t := true) rfl rfl) ?_
      refine Wl.q (v := Value.bool true) (q_assign rfl) ?_
      refine Wl.done ?_
      refine Wx.go ?_
      refine Wc.ret ?_
      refine Wx.thenRet ?_
      refine Wx.fin1 rfl (.inl rfl) (fun w hs => ?_)
      exact ⟨(), trivial, rfl, (st_drop (st_drop (st_drop (st_drop (st_drop (st_pull [0, 0, 0, 0, 0] hs))))))⟩
    ·
      refine Wl.q (v := Value.bool false) (q_lss (r := false) rfl rfl (decide_eq_false h4)) ?_
      refine Wl.done ?_
      refine Wx.go ?_
      refine Wc.no rfl ?_
      refine Wc.skip ?_
      refine Wx.go ?_
      refine Wc.seq ?_
      refine Wc.region ?_
      refine Wl.q (v := Value.bool false) (q_move rfl) ?_
      refine Wl.q (v := Value.bool false) (q_move rfl) ?_
      refine Wl.q (v := Value.bool true) (q_move rfl) ?_
      refine Wl.q (v := Value.bool true) (q_pick (t := false) rfl rfl) ?_
      refine Wl.q (v := Value.bool true) (q_move rfl) ?_
      refine Wl.e (e_call (F := (isJ j1 pp ⟨a, 1, false⟩) :: (isJ j2 pp ⟨a, 1, false⟩) :: (isDisk pp (⟨S2, [], false, k2, none⟩ : DS)) :: (isJ j0 pp ⟨a, 1, true⟩) :: (pt b1 3 [Value.int .i64 ((a.size : Nat) : Int), Value.int .i64 ((b.size : Nat) : Int)]) :: F) (args := []) Try.call13 rfl (alive_c W0)) (fun _ _ => ?_)
      refine Wl.imp (L' := (isJ j1 pp ⟨a, 1, false⟩) :: (isJ j2 pp ⟨a, 1, false⟩) :: (isDisk pp (⟨S2, [], false, k2, none⟩ : DS)) :: (isJ j0 pp ⟨a, 1, true⟩) :: (pt b1 3 [Value.int .i64 ((a.size : Nat) : Int), Value.int .i64 ((b.size : Nat) : Int)]) :: F) (fun _ h => h) ?_
      refine Wl.q (v := Value.bool true) (q_pick (t := true) rfl rfl) ?_
      refine Wl.q (v := Value.bool true) (q_assign rfl) ?_
      refine Wl.done ?_
      refine Wx.go ?_
      refine Wc.ret ?_
      refine Wx.fin1 rfl (.inl rfl) (fun w hs => ?_)
      exact ⟨(), trivial, rfl, (st_drop (st_drop (st_drop (st_drop (st_drop (st_pull [0, 0, 0, 0, 0] hs))))))⟩

set_option maxHeartbeats 4000000 in
theorem whole_new (W0 : World) (a b : ByteArray) (n : Int) (hhi : n ≤ 9223372036854775807) (bits : Int) (hn : ¬ n < 0) (hb0 : beyondB [((a.size : Nat) : Int), ((b.size : Nat) : Int)] = false) (ok0 : Ok (List.replicate 64 noughts) ByteArray.empty 0) (ha : a.size ≤ 1984) (S1 : List ByteArray) (hl1 : S1.length = 64) (ok1 : Ok S1 a 1) (hp1 : (JS.mk ByteArray.empty 0 false).put (DS.new 64) a = (0, (⟨S1, [], false, (0 + nPieces a + 3), none⟩ : DS), ⟨a, 1, false⟩)) (hbb : b.size ≤ 1984) (S2 : List ByteArray) (k2 : Nat) (hl2 : S2.length = 64) (ok2 : Ok S2 b 2) (hc : n.toNat < nPieces b + 3) (hc2 : nPieces b + 2 ≤ n.toNat) (hp2 : (JS.mk a 1 false).put (⟨S1, [], false, (0 + nPieces a + 3), some (n.toNat, bits)⟩ : DS) b = (6, (⟨S2, [], true, k2, none⟩ : DS), ⟨a, 1, true⟩)) :
    Con Try.prog W0 5 #[Value.string a, Value.string b, Value.int .i64 n, Value.int .i64 bits] [] (X := Unit) (fun _ => True) (fun _ => .bool true) (fun _ => []) := by
  refine Con.of (args := [Value.string a, Value.string b, Value.int .i64 n, Value.int .i64 bits]) Try.func5 rfl Try.ntmps5 rfl (fun F => ?_)
  have hr : (List.replicate 64 noughts).length = 64 := List.length_replicate
  have hh0 : half (List.replicate 64 noughts) = 31 := half_64 hr
  have hla := (beyond_two hb0).1
  have hlb := (beyond_two hb0).2
  have hna := few a hla
  have hnb := few b hlb
  have hh1 : half S1 = 31 := half_64 hl1
  have hnt : n.toNat ≤ 9223372036854775807 := by omega
  show Wc _ W0 _ _ _ _ _ (F)
  refine Wc.seq ?_
  refine Wc.region ?_
  refine Wl.q (v := Value.bool false) (q_assign rfl) ?_
  refine Wl.done ?_
  refine Wx.go ?_
  refine Wc.seq ?_
  refine Wc.region ?_
  refine Wl.e (e_call (F := F) (args := [Value.int .i64 64]) Try.call16 rfl (new_ok W0 64 (by omega) (by omega))) (fun pp _ => ?_)
  refine Wl.imp (L' := (isDisk pp (DS.new 64)) :: F) (fun _ h => h) ?_
  refine Wl.q (v := Value.tuple #[Value.pointer (some ⟨pp, 0, none⟩), Value.int .i64 0]) (q_move rfl) ?_
  refine Wl.q (v := Value.pointer (some ⟨pp, 0, none⟩)) (q_extract (i := 0) rfl rfl) ?_
  refine Wl.q (v := Value.int .i64 0) (q_extract (i := 1) rfl rfl) ?_
  refine Wl.q (v := Value.pointer (some ⟨pp, 0, none⟩)) (q_assign rfl) ?_
  refine Wl.q (v := Value.int .i64 0) (q_assign rfl) ?_
  refine Wl.done ?_
  refine Wx.go ?_
  refine Wc.seq ?_
  refine Wc.seq ?_
  refine Wc.region ?_
  refine Wl.q (v := Value.int .i64 0) (q_move rfl) ?_
  refine Wl.q (v := Value.bool false) (q_neq (r := true) rfl rfl (decide_eq_true (by decide))) ?_
  refine Wl.q (v := Value.bool false) (q_move rfl) ?_
  refine Wl.q (v := Value.string a) (q_move rfl) ?_
  refine Wl.q (v := Value.int .i64 ((a.size : Nat) : Int)) (q_len_str Try.underlying9 rfl) ?_
  refine Wl.q (v := Value.string b) (q_move rfl) ?_
  refine Wl.q (v := Value.int .i64 ((b.size : Nat) : Int)) (q_len_str Try.underlying9 rfl) ?_
  refine Wl.e (e_buildSlice (cs := [Value.int .i64 ((a.size : Nat) : Int), Value.int .i64 ((b.size : Nat) : Int)]) se_72 zo_3 (by decide) (by decide) (by kernel_rfl)) (fun b1 _ => ?_)
  refine Wl.imp (L' := (pt b1 3 [Value.int .i64 ((a.size : Nat) : Int), Value.int .i64 ((b.size : Nat) : Int)]) :: (isDisk pp (DS.new 64)) :: F) (fun _ h => h) ?_
  refine Wl.e (e_call (F := (isDisk pp (DS.new 64)) :: F) (args := [Value.slice (some ⟨b1, 0, none⟩) 2 2]) Try.call20 rfl (Con.eqs (val' := fun _ => Value.bool false) (post' := fun _ => [pt b1 3 [Value.int .i64 ((a.size : Nat) : Int), Value.int .i64 ((b.size : Nat) : Int)]]) (beyond_c W0 b1 ([((a.size : Nat) : Int), ((b.size : Nat) : Int)] : List Int) (by simp) (by simp; omega)) (fun _ => congrArg Value.bool hb0) (fun _ => rfl))) (fun _ _ => ?_)
  refine Wl.imp (L' := (pt b1 3 [Value.int .i64 ((a.size : Nat) : Int), Value.int .i64 ((b.size : Nat) : Int)]) :: (isDisk pp (DS.new 64)) :: F) (fun _ h => h) ?_
  refine Wl.q (v := Value.bool false) (q_pick (t := false) rfl rfl) ?_
  refine Wl.q (v := Value.bool false) (q_move rfl) ?_
  refine Wl.q (v := Value.int .i64 n) (q_move rfl) ?_
  refine Wl.q (v := Value.bool false) (q_lss (r := false) rfl rfl (decide_eq_false (hn))) ?_
  refine Wl.q (v := Value.bool false) (q_pick (t := false) rfl rfl) ?_
  refine Wl.done ?_
  refine Wx.go ?_
  refine Wc.no rfl ?_
  refine Wc.skip ?_
  refine Wx.go ?_
  refine Wc.seq ?_
  refine Wc.region ?_
  refine Wl.q (v := Value.pointer (some ⟨pp, 0, none⟩)) (q_move rfl) ?_
  refine Wl.imp (L' := (isDisk pp (DS.new 64)) :: (pt b1 3 [Value.int .i64 ((a.size : Nat) : Int), Value.int .i64 ((b.size : Nat) : Int)]) :: F) (fun _ h => st_pull [1] h) ?_
  refine Wl.e (e_call (F := (pt b1 3 [Value.int .i64 ((a.size : Nat) : Int), Value.int .i64 ((b.size : Nat) : Int)]) :: F) (args := [Value.pointer (some ⟨pp, 0, none⟩)]) Try.call12 rfl (open_ok W0 pp (DS.new 64) (Ok.wf ok0) (by show 1 ≤ ((List.replicate 64 noughts)).length; omega) (by show 0 < 1099511627776; decide) (openD_up ok0))) (fun j0 _ => ?_)
  refine Wl.imp (L' := (isJ j0 pp ⟨ByteArray.empty, 0, false⟩) :: (isDisk pp (DS.new 64)) :: (pt b1 3 [Value.int .i64 ((a.size : Nat) : Int), Value.int .i64 ((b.size : Nat) : Int)]) :: F) (fun _ h => h) ?_
  refine Wl.q (v := Value.tuple #[Value.pointer (some ⟨j0, 0, none⟩), Value.int .i64 0]) (q_move rfl) ?_
  refine Wl.q (v := Value.pointer (some ⟨j0, 0, none⟩)) (q_extract (i := 0) rfl rfl) ?_
  refine Wl.q (v := Value.int .i64 0) (q_extract (i := 1) rfl rfl) ?_
  refine Wl.q (v := Value.pointer (some ⟨j0, 0, none⟩)) (q_assign rfl) ?_
  refine Wl.q (v := Value.int .i64 0) (q_assign rfl) ?_
  refine Wl.done ?_
  refine Wx.go ?_
  refine Wc.seq ?_
  refine Wc.seq ?_
  refine Wc.region ?_
  refine Wl.q (v := Value.int .i64 0) (q_move rfl) ?_
  refine Wl.q (v := Value.bool false) (q_neq (r := true) rfl rfl (decide_eq_true (by decide))) ?_
  refine Wl.q (v := Value.bool false) (q_move rfl) ?_
  refine Wl.q (v := Value.pointer (some ⟨j0, 0, none⟩)) (q_move rfl) ?_
  refine Wl.q (v := Value.bool false) (q_eql_nil (r := false) rfl rfl Try.underlying22 rfl) ?_
  refine Wl.q (v := Value.bool false) (q_pick (t := false) rfl rfl) ?_
  refine Wl.done ?_
  refine Wx.go ?_
  refine Wc.no rfl ?_
  refine Wc.skip ?_
  refine Wx.go ?_
  refine Wc.seq ?_
  refine Wc.seq ?_
  refine Wc.region ?_
  refine Wl.q (v := Value.pointer (some ⟨j0, 0, none⟩)) (q_move rfl) ?_
  refine Wl.q (v := Value.string a) (q_move rfl) ?_
  refine Wl.e (e_call (F := (pt b1 3 [Value.int .i64 ((a.size : Nat) : Int), Value.int .i64 ((b.size : Nat) : Int)]) :: F) (args := [Value.pointer (some ⟨j0, 0, none⟩), Value.string a]) Try.call9 rfl (Con.eqs (val' := fun _ => Value.int .i64 0) (post' := fun _ => [isJ j0 pp ⟨a, 1, false⟩, isDisk pp (⟨S1, [], false, (0 + nPieces a + 3), none⟩ : DS)]) (Put_c W0 j0 pp (⟨ByteArray.empty, 0, false⟩ : JS) (DS.new 64) a (ok0.wf) (by show 1 ≤ ((List.replicate 64 noughts)).length; omega) (by show 0 < 1000000000000; decide) (by show 0 < 4000000000000000000; omega) (by show 0 ≤ (0 : Int); omega) (by show (0 : Int) < 9223372036854775807; omega)) (fun _ => by rw [hp1]) (fun _ => by rw [hp1]))) (fun _ _ => ?_)
  refine Wl.imp (L' := (isJ j0 pp ⟨a, 1, false⟩) :: (isDisk pp (⟨S1, [], false, (0 + nPieces a + 3), none⟩ : DS)) :: (pt b1 3 [Value.int .i64 ((a.size : Nat) : Int), Value.int .i64 ((b.size : Nat) : Int)]) :: F) (fun _ h => h) ?_
  refine Wl.q (v := Value.bool false) (q_neq (r := true) rfl rfl (decide_eq_true (by decide))) ?_
  refine Wl.done ?_
  refine Wx.go ?_
  refine Wc.no rfl ?_
  refine Wc.skip ?_
  refine Wx.go ?_
  refine Wc.seq ?_
  refine Wc.seq ?_
  refine Wc.region ?_
  refine Wl.q (v := Value.pointer (some ⟨pp, 0, none⟩)) (q_move rfl) ?_
  refine Wl.q (v := Value.int .i64 n) (q_move rfl) ?_
  refine Wl.q (v := Value.int .i64 bits) (q_move rfl) ?_
  refine Wl.imp (L' := (isDisk pp (⟨S1, [], false, (0 + nPieces a + 3), none⟩ : DS)) :: (isJ j0 pp ⟨a, 1, false⟩) :: (pt b1 3 [Value.int .i64 ((a.size : Nat) : Int), Value.int .i64 ((b.size : Nat) : Int)]) :: F) (fun _ h => st_pull [1] h) ?_
  refine Wl.e (e_call (F := (isJ j0 pp ⟨a, 1, false⟩) :: (pt b1 3 [Value.int .i64 ((a.size : Nat) : Int), Value.int .i64 ((b.size : Nat) : Int)]) :: F) (args := [Value.pointer (some ⟨pp, 0, none⟩), Value.int .i64 n, Value.int .i64 bits]) Try.call21 rfl (Con.eqs (val' := fun _ => Value.int .i64 0) (post' := fun _ => [isDisk pp (⟨S1, [], false, (0 + nPieces a + 3), some (n.toNat, bits)⟩ : DS)]) (cut_c W0 pp (⟨S1, [], false, (0 + nPieces a + 3), none⟩ : DS) n bits) (fun _ => (by rw [cut_ok hn])) (fun _ => (by rw [cut_ok hn])))) (fun _ _ => ?_)
  refine Wl.imp (L' := (isDisk pp (⟨S1, [], false, (0 + nPieces a + 3), some (n.toNat, bits)⟩ : DS)) :: (isJ j0 pp ⟨a, 1, false⟩) :: (pt b1 3 [Value.int .i64 ((a.size : Nat) : Int), Value.int .i64 ((b.size : Nat) : Int)]) :: F) (fun _ h => h) ?_
  refine Wl.q (v := Value.bool false) (q_neq (r := true) rfl rfl (decide_eq_true (by decide))) ?_
  refine Wl.done ?_
  refine Wx.go ?_
  refine Wc.no rfl ?_
  refine Wc.skip ?_
  refine Wx.go ?_
  refine Wc.seq ?_
  refine Wc.region ?_
  refine Wl.q (v := Value.pointer (some ⟨j0, 0, none⟩)) (q_move rfl) ?_
  refine Wl.q (v := Value.string b) (q_move rfl) ?_
  refine Wl.imp (L' := (isJ j0 pp ⟨a, 1, false⟩) :: (isDisk pp (⟨S1, [], false, (0 + nPieces a + 3), some (n.toNat, bits)⟩ : DS)) :: (pt b1 3 [Value.int .i64 ((a.size : Nat) : Int), Value.int .i64 ((b.size : Nat) : Int)]) :: F) (fun _ h => st_pull [1, 0] h) ?_
  refine Wl.e (e_call (F := (pt b1 3 [Value.int .i64 ((a.size : Nat) : Int), Value.int .i64 ((b.size : Nat) : Int)]) :: F) (args := [Value.pointer (some ⟨j0, 0, none⟩), Value.string b]) Try.call9 rfl (Con.eqs (val' := fun _ => Value.int .i64 6) (post' := fun _ => [isJ j0 pp ⟨a, 1, true⟩, isDisk pp (⟨S2, [], true, k2, none⟩ : DS)]) (Put_c W0 j0 pp (⟨a, 1, false⟩ : JS) (⟨S1, [], false, (0 + nPieces a + 3), some (n.toNat, bits)⟩ : DS) b (Ok.wfc ok1 hnt) (by show 1 ≤ (S1).length; omega) (by show 0 < 1000000000000; decide) (by show (0 + nPieces a + 3) < 4000000000000000000; omega) (by show 0 ≤ (1 : Int); omega) (by show (1 : Int) < 9223372036854775807; omega)) (fun _ => by rw [hp2]) (fun _ => by rw [hp2]))) (fun _ _ => ?_)
  refine Wl.imp (L' := (isJ j0 pp ⟨a, 1, true⟩) :: (isDisk pp (⟨S2, [], true, k2, none⟩ : DS)) :: (pt b1 3 [Value.int .i64 ((a.size : Nat) : Int), Value.int .i64 ((b.size : Nat) : Int)]) :: F) (fun _ h => h) ?_
  refine Wl.q (v := Value.int .i64 6) (q_assign rfl) ?_
  refine Wl.done ?_
  refine Wx.go ?_
  refine Wc.seq ?_
  refine Wc.seq ?_
  refine Wc.region ?_
  refine Wl.q (v := Value.string b) (q_move rfl) ?_
  refine Wl.q (v := Value.int .i64 ((b.size : Nat) : Int)) (q_len_str Try.underlying9 rfl) ?_
  refine Wl.q (v := Value.pointer (some ⟨j0, 0, none⟩)) (q_move rfl) ?_
  refine Wl.e (e_call (F := (pt b1 3 [Value.int .i64 ((a.size : Nat) : Int), Value.int .i64 ((b.size : Nat) : Int)]) :: F) (args := [Value.pointer (some ⟨j0, 0, none⟩)]) Try.call11 rfl (Con.eqs (val' := fun _ => Value.int .i64 ((half S2 * 64 : Nat) : Int)) (post' := fun _ => [isJ j0 pp ⟨a, 1, true⟩, isDisk pp (⟨S2, [], true, k2, none⟩ : DS)]) (room_in W0 j0 pp a 1 (⟨S2, [], true, k2, none⟩ : DS) true (by show 1 ≤ (S2).length; omega) (by show (S2).length ≤ 4096; omega)) (fun _ => rfl) (fun _ => rfl))) (fun _ _ => ?_)
  refine Wl.imp (L' := (isJ j0 pp ⟨a, 1, true⟩) :: (isDisk pp (⟨S2, [], true, k2, none⟩ : DS)) :: (pt b1 3 [Value.int .i64 ((a.size : Nat) : Int), Value.int .i64 ((b.size : Nat) : Int)]) :: F) (fun _ h => h) ?_
  refine Wl.q (v := Value.bool false) (q_gtr (r := false) rfl rfl (decide_eq_false (by rw [half_64 hl2]; omega))) ?_
  refine Wl.done ?_
  refine Wx.go ?_
  refine Wc.no rfl ?_
  refine Wc.skip ?_
  refine Wx.go ?_
  refine Wc.seq ?_
  refine Wc.region ?_
  refine Wl.q (v := Value.string b) (q_move rfl) ?_
  refine Wl.q (v := Value.int .i64 ((b.size : Nat) : Int)) (q_len_str Try.underlying9 rfl) ?_
  refine Wl.e (e_call (F := (isJ j0 pp ⟨a, 1, true⟩) :: (isDisk pp (⟨S2, [], true, k2, none⟩ : DS)) :: (pt b1 3 [Value.int .i64 ((a.size : Nat) : Int), Value.int .i64 ((b.size : Nat) : Int)]) :: F) (args := [Value.int .i64 ((b.size : Nat) : Int)]) Try.call14 rfl (Con.eqs (val' := fun _ => Value.tuple #[Value.int .i64 (((nPieces b + 3) : Nat) : Int), Value.int .i64 0]) (post' := fun _ => []) (cost_c W0 ((b.size : Nat) : Int) (by omega)) (fun _ => by rw [cost_size]) (fun _ => rfl))) (fun _ _ => ?_)
  refine Wl.imp (L' := (isJ j0 pp ⟨a, 1, true⟩) :: (isDisk pp (⟨S2, [], true, k2, none⟩ : DS)) :: (pt b1 3 [Value.int .i64 ((a.size : Nat) : Int), Value.int .i64 ((b.size : Nat) : Int)]) :: F) (fun _ h => h) ?_
  refine Wl.q (v := Value.tuple #[Value.int .i64 (((nPieces b + 3) : Nat) : Int), Value.int .i64 0]) (q_move rfl) ?_
  refine Wl.q (v := Value.int .i64 (((nPieces b + 3) : Nat) : Int)) (q_extract (i := 0) rfl rfl) ?_
  refine Wl.q (v := Value.int .i64 0) (q_extract (i := 1) rfl rfl) ?_
  refine Wl.q (v := Value.int .i64 (((nPieces b + 3) : Nat) : Int)) (q_assign rfl) ?_
  refine Wl.q (v := Value.int .i64 0) (q_assign rfl) ?_
  refine Wl.done ?_
  refine Wx.go ?_
  refine Wc.seq ?_
  refine Wc.seq ?_
  refine Wc.region ?_
  refine Wl.q (v := Value.int .i64 6) (q_move rfl) ?_
  refine Wl.q (v := Value.bool false) (q_eql (r := false) rfl rfl (decide_eq_false (by decide))) ?_
  refine Wl.q (v := Value.int .i64 n) (q_move rfl) ?_
  refine Wl.q (v := Value.int .i64 (((nPieces b + 3) : Nat) : Int)) (q_move rfl) ?_
  refine Wl.q (v := Value.bool false) (q_geq (r := false) rfl rfl (decide_eq_false (by omega))) ?_
  refine Wl.q (v := Value.bool false) (q_neq_bool (r := true) rfl rfl Try.underlying4 rfl) ?_
  refine Wl.q (v := Value.bool false) (q_move rfl) ?_
  refine Wl.q (v := Value.int .i64 6) (q_move rfl) ?_
  refine Wl.q (v := Value.bool true) (q_neq (r := false) rfl rfl (decide_eq_false (by decide))) ?_
  refine Wl.q (v := Value.bool true) (q_move rfl) ?_
  refine Wl.q (v := Value.int .i64 6) (q_move rfl) ?_
  refine Wl.q (v := Value.bool false) (q_neq (r := true) rfl rfl (decide_eq_true (by decide))) ?_
  refine Wl.q (v := Value.bool false) (q_pick (t := true) rfl rfl) ?_
  refine Wl.q (v := Value.bool false) (q_pick (t := false) rfl rfl) ?_
  refine Wl.done ?_
  refine Wx.go ?_
  refine Wc.no rfl ?_
  refine Wc.skip ?_
  refine Wx.go ?_
  refine Wc.seq ?_
  refine Wc.seq ?_
  refine Wc.region ?_
  refine Wl.q (v := Value.int .i64 6) (q_move rfl) ?_
  refine Wl.q (v := Value.bool false) (q_eql (r := false) rfl rfl (decide_eq_false (by decide))) ?_
  refine Wl.done ?_
  refine Wx.go ?_
  refine Wc.no rfl ?_
  refine Wc.skip ?_
  refine Wx.go ?_
  refine Wc.seq ?_
  refine Wc.seq ?_
  refine Wc.region ?_
  refine Wl.q (v := Value.pointer (some ⟨pp, 0, none⟩)) (q_move rfl) ?_
  refine Wl.imp (L' := (isDisk pp (⟨S2, [], true, k2, none⟩ : DS)) :: (isJ j0 pp ⟨a, 1, true⟩) :: (pt b1 3 [Value.int .i64 ((a.size : Nat) : Int), Value.int .i64 ((b.size : Nat) : Int)]) :: F) (fun _ h => st_pull [1] h) ?_
  refine Wl.e (e_call (F := (isJ j0 pp ⟨a, 1, true⟩) :: (pt b1 3 [Value.int .i64 ((a.size : Nat) : Int), Value.int .i64 ((b.size : Nat) : Int)]) :: F) (args := [Value.pointer (some ⟨pp, 0, none⟩)]) Try.call23 rfl (Con.eqs (val' := fun _ => Value.int .i64 0) (post' := fun _ => [isDisk pp (⟨S2, [], false, k2, none⟩ : DS)]) (start_c W0 pp (⟨S2, [], true, k2, none⟩ : DS) ) (fun _ => rfl) (fun _ => rfl))) (fun _ _ => ?_)
  refine Wl.imp (L' := (isDisk pp (⟨S2, [], false, k2, none⟩ : DS)) :: (isJ j0 pp ⟨a, 1, true⟩) :: (pt b1 3 [Value.int .i64 ((a.size : Nat) : Int), Value.int .i64 ((b.size : Nat) : Int)]) :: F) (fun _ h => h) ?_
  refine Wl.q (v := Value.bool false) (q_neq (r := true) rfl rfl (decide_eq_true (by decide))) ?_
  refine Wl.done ?_
  refine Wx.go ?_
  refine Wc.no rfl ?_
  refine Wc.skip ?_
  refine Wx.go ?_
  refine Wc.seq ?_
  refine Wc.region ?_
  refine Wl.q (v := Value.pointer (some ⟨pp, 0, none⟩)) (q_move rfl) ?_
  refine Wl.e (e_call (F := (isJ j0 pp ⟨a, 1, true⟩) :: (pt b1 3 [Value.int .i64 ((a.size : Nat) : Int), Value.int .i64 ((b.size : Nat) : Int)]) :: F) (args := [Value.pointer (some ⟨pp, 0, none⟩)]) Try.call12 rfl (open_ok W0 pp (⟨S2, [], false, k2, none⟩ : DS) (Ok.wf ok2) (by show 1 ≤ (S2).length; omega) (by show 0 < 1099511627776; decide) (openD_up ok2))) (fun j1 _ => ?_)
  refine Wl.imp (L' := (isJ j1 pp ⟨b, 2, false⟩) :: (isDisk pp (⟨S2, [], false, k2, none⟩ : DS)) :: (isJ j0 pp ⟨a, 1, true⟩) :: (pt b1 3 [Value.int .i64 ((a.size : Nat) : Int), Value.int .i64 ((b.size : Nat) : Int)]) :: F) (fun _ h => h) ?_
  refine Wl.q (v := Value.tuple #[Value.pointer (some ⟨j1, 0, none⟩), Value.int .i64 0]) (q_move rfl) ?_
  refine Wl.q (v := Value.pointer (some ⟨j1, 0, none⟩)) (q_extract (i := 0) rfl rfl) ?_
  refine Wl.q (v := Value.int .i64 0) (q_extract (i := 1) rfl rfl) ?_
  refine Wl.q (v := Value.pointer (some ⟨j1, 0, none⟩)) (q_assign rfl) ?_
  refine Wl.q (v := Value.int .i64 0) (q_assign rfl) ?_
  refine Wl.done ?_
  refine Wx.go ?_
  refine Wc.seq ?_
  refine Wc.region ?_
  refine Wl.q (v := Value.pointer (some ⟨pp, 0, none⟩)) (q_move rfl) ?_
  refine Wl.imp (L' := (isDisk pp (⟨S2, [], false, k2, none⟩ : DS)) :: (isJ j1 pp ⟨b, 2, false⟩) :: (isJ j0 pp ⟨a, 1, true⟩) :: (pt b1 3 [Value.int .i64 ((a.size : Nat) : Int), Value.int .i64 ((b.size : Nat) : Int)]) :: F) (fun _ h => st_pull [1] h) ?_
  refine Wl.e (e_call (F := (isJ j1 pp ⟨b, 2, false⟩) :: (isJ j0 pp ⟨a, 1, true⟩) :: (pt b1 3 [Value.int .i64 ((a.size : Nat) : Int), Value.int .i64 ((b.size : Nat) : Int)]) :: F) (args := [Value.pointer (some ⟨pp, 0, none⟩)]) Try.call12 rfl (open_ok W0 pp (⟨S2, [], false, k2, none⟩ : DS) (Ok.wf ok2) (by show 1 ≤ (S2).length; omega) (by show 0 < 1099511627776; decide) (openD_up ok2))) (fun j2 _ => ?_)
  refine Wl.imp (L' := (isJ j2 pp ⟨b, 2, false⟩) :: (isDisk pp (⟨S2, [], false, k2, none⟩ : DS)) :: (isJ j1 pp ⟨b, 2, false⟩) :: (isJ j0 pp ⟨a, 1, true⟩) :: (pt b1 3 [Value.int .i64 ((a.size : Nat) : Int), Value.int .i64 ((b.size : Nat) : Int)]) :: F) (fun _ h => h) ?_
  refine Wl.q (v := Value.tuple #[Value.pointer (some ⟨j2, 0, none⟩), Value.int .i64 0]) (q_move rfl) ?_
  refine Wl.q (v := Value.pointer (some ⟨j2, 0, none⟩)) (q_extract (i := 0) rfl rfl) ?_
  refine Wl.q (v := Value.int .i64 0) (q_extract (i := 1) rfl rfl) ?_
  refine Wl.q (v := Value.pointer (some ⟨j2, 0, none⟩)) (q_assign rfl) ?_
  refine Wl.q (v := Value.int .i64 0) (q_assign rfl) ?_
  refine Wl.done ?_
  refine Wx.go ?_
  refine Wc.seq ?_
  refine Wc.seq ?_
  refine Wc.region ?_
  refine Wl.q (v := Value.int .i64 0) (q_move rfl) ?_
  refine Wl.q (v := Value.bool false) (q_neq (r := true) rfl rfl (decide_eq_true (by decide))) ?_
  refine Wl.q (v := Value.bool false) (q_move rfl) ?_
  refine Wl.q (v := Value.int .i64 0) (q_move rfl) ?_
  refine Wl.q (v := Value.bool false) (q_neq (r := true) rfl rfl (decide_eq_true (by decide))) ?_
  refine Wl.q (v := Value.bool false) (q_pick (t := false) rfl rfl) ?_
  refine Wl.q (v := Value.bool false) (q_move rfl) ?_
  refine Wl.q (v := Value.pointer (some ⟨j1, 0, none⟩)) (q_move rfl) ?_
  refine Wl.q (v := Value.bool false) (q_eql_nil (r := false) rfl rfl Try.underlying22 rfl) ?_
  refine Wl.q (v := Value.bool false) (q_pick (t := false) rfl rfl) ?_
  refine Wl.q (v := Value.bool false) (q_move rfl) ?_
  refine Wl.q (v := Value.pointer (some ⟨j2, 0, none⟩)) (q_move rfl) ?_
  refine Wl.q (v := Value.bool false) (q_eql_nil (r := false) rfl rfl Try.underlying22 rfl) ?_
  refine Wl.q (v := Value.bool false) (q_pick (t := false) rfl rfl) ?_
  refine Wl.done ?_
  refine Wx.go ?_
  refine Wc.no rfl ?_
  refine Wc.skip ?_
  refine Wx.go ?_
  refine Wc.seq ?_
  refine Wc.region ?_
  refine Wl.q (v := Value.pointer (some ⟨j1, 0, none⟩)) (q_move rfl) ?_
  refine Wl.imp (L' := (isJ j1 pp ⟨b, 2, false⟩) :: (isDisk pp (⟨S2, [], false, k2, none⟩ : DS)) :: (isJ j2 pp ⟨b, 2, false⟩) :: (isJ j0 pp ⟨a, 1, true⟩) :: (pt b1 3 [Value.int .i64 ((a.size : Nat) : Int), Value.int .i64 ((b.size : Nat) : Int)]) :: F) (fun _ h => st_pull [2, 1] h) ?_
  refine Wl.e (e_call (F := (isJ j2 pp ⟨b, 2, false⟩) :: (isJ j0 pp ⟨a, 1, true⟩) :: (pt b1 3 [Value.int .i64 ((a.size : Nat) : Int), Value.int .i64 ((b.size : Nat) : Int)]) :: F) (args := [Value.pointer (some ⟨j1, 0, none⟩)]) Try.call8 rfl (get_on W0 j1 pp b 2 (⟨S2, [], false, k2, none⟩ : DS) rfl)) (fun _ _ => ?_)
  refine Wl.imp (L' := (isJ j1 pp ⟨b, 2, false⟩) :: (isDisk pp (⟨S2, [], false, k2, none⟩ : DS)) :: (isJ j2 pp ⟨b, 2, false⟩) :: (isJ j0 pp ⟨a, 1, true⟩) :: (pt b1 3 [Value.int .i64 ((a.size : Nat) : Int), Value.int .i64 ((b.size : Nat) : Int)]) :: F) (fun _ h => h) ?_
  refine Wl.q (v := Value.tuple #[Value.string b, Value.int .i64 0]) (q_move rfl) ?_
  refine Wl.q (v := Value.string b) (q_extract (i := 0) rfl rfl) ?_
  refine Wl.q (v := Value.int .i64 0) (q_extract (i := 1) rfl rfl) ?_
  refine Wl.q (v := Value.string b) (q_assign rfl) ?_
  refine Wl.q (v := Value.int .i64 0) (q_assign rfl) ?_
  refine Wl.done ?_
  refine Wx.go ?_
  refine Wc.seq ?_
  refine Wc.region ?_
  refine Wl.q (v := Value.pointer (some ⟨j2, 0, none⟩)) (q_move rfl) ?_
  refine Wl.imp (L' := (isJ j2 pp ⟨b, 2, false⟩) :: (isDisk pp (⟨S2, [], false, k2, none⟩ : DS)) :: (isJ j1 pp ⟨b, 2, false⟩) :: (isJ j0 pp ⟨a, 1, true⟩) :: (pt b1 3 [Value.int .i64 ((a.size : Nat) : Int), Value.int .i64 ((b.size : Nat) : Int)]) :: F) (fun _ h => st_pull [2, 1] h) ?_
  refine Wl.e (e_call (F := (isJ j1 pp ⟨b, 2, false⟩) :: (isJ j0 pp ⟨a, 1, true⟩) :: (pt b1 3 [Value.int .i64 ((a.size : Nat) : Int), Value.int .i64 ((b.size : Nat) : Int)]) :: F) (args := [Value.pointer (some ⟨j2, 0, none⟩)]) Try.call8 rfl (get_on W0 j2 pp b 2 (⟨S2, [], false, k2, none⟩ : DS) rfl)) (fun _ _ => ?_)
  refine Wl.imp (L' := (isJ j2 pp ⟨b, 2, false⟩) :: (isDisk pp (⟨S2, [], false, k2, none⟩ : DS)) :: (isJ j1 pp ⟨b, 2, false⟩) :: (isJ j0 pp ⟨a, 1, true⟩) :: (pt b1 3 [Value.int .i64 ((a.size : Nat) : Int), Value.int .i64 ((b.size : Nat) : Int)]) :: F) (fun _ h => h) ?_
  refine Wl.q (v := Value.tuple #[Value.string b, Value.int .i64 0]) (q_move rfl) ?_
  refine Wl.q (v := Value.string b) (q_extract (i := 0) rfl rfl) ?_
  refine Wl.q (v := Value.int .i64 0) (q_extract (i := 1) rfl rfl) ?_
  refine Wl.q (v := Value.string b) (q_assign rfl) ?_
  refine Wl.q (v := Value.int .i64 0) (q_assign rfl) ?_
  refine Wl.done ?_
  refine Wx.go ?_
  refine Wc.seq ?_
  refine Wc.seq ?_
  refine Wc.region ?_
  refine Wl.q (v := Value.int .i64 0) (q_move rfl) ?_
  refine Wl.q (v := Value.bool false) (q_neq (r := true) rfl rfl (decide_eq_true (by decide))) ?_
  refine Wl.q (v := Value.bool false) (q_move rfl) ?_
  refine Wl.q (v := Value.int .i64 0) (q_move rfl) ?_
  refine Wl.q (v := Value.bool false) (q_neq (r := true) rfl rfl (decide_eq_true (by decide))) ?_
  refine Wl.q (v := Value.bool false) (q_pick (t := false) rfl rfl) ?_
  refine Wl.q (v := Value.bool false) (q_move rfl) ?_
  refine Wl.q (v := Value.string b) (q_move rfl) ?_
  refine Wl.q (v := Value.string b) (q_move rfl) ?_
  refine Wl.q (v := Value.bool false) (q_neq_str (r := true) rfl rfl (text_true (rfl))) ?_
  refine Wl.q (v := Value.bool false) (q_pick (t := false) rfl rfl) ?_
  refine Wl.q (v := Value.bool false) (q_move rfl) ?_
  refine Wl.q (v := Value.pointer (some ⟨j1, 0, none⟩)) (q_move rfl) ?_
  refine Wl.imp (L' := (isJ j1 pp ⟨b, 2, false⟩) :: (isJ j2 pp ⟨b, 2, false⟩) :: (isDisk pp (⟨S2, [], false, k2, none⟩ : DS)) :: (isJ j0 pp ⟨a, 1, true⟩) :: (pt b1 3 [Value.int .i64 ((a.size : Nat) : Int), Value.int .i64 ((b.size : Nat) : Int)]) :: F) (fun _ h => st_pull [2] h) ?_
  refine Wl.e (e_call (F := (isJ j2 pp ⟨b, 2, false⟩) :: (isDisk pp (⟨S2, [], false, k2, none⟩ : DS)) :: (isJ j0 pp ⟨a, 1, true⟩) :: (pt b1 3 [Value.int .i64 ((a.size : Nat) : Int), Value.int .i64 ((b.size : Nat) : Int)]) :: F) (args := [Value.pointer (some ⟨j1, 0, none⟩)]) Try.call10 rfl (seq_in W0 j1 pp b 2 false)) (fun _ _ => ?_)
  refine Wl.imp (L' := (isJ j1 pp ⟨b, 2, false⟩) :: (isJ j2 pp ⟨b, 2, false⟩) :: (isDisk pp (⟨S2, [], false, k2, none⟩ : DS)) :: (isJ j0 pp ⟨a, 1, true⟩) :: (pt b1 3 [Value.int .i64 ((a.size : Nat) : Int), Value.int .i64 ((b.size : Nat) : Int)]) :: F) (fun _ h => h) ?_
  refine Wl.q (v := Value.pointer (some ⟨j2, 0, none⟩)) (q_move rfl) ?_
  refine Wl.imp (L' := (isJ j2 pp ⟨b, 2, false⟩) :: (isJ j1 pp ⟨b, 2, false⟩) :: (isDisk pp (⟨S2, [], false, k2, none⟩ : DS)) :: (isJ j0 pp ⟨a, 1, true⟩) :: (pt b1 3 [Value.int .i64 ((a.size : Nat) : Int), Value.int .i64 ((b.size : Nat) : Int)]) :: F) (fun _ h => st_pull [1] h) ?_
  refine Wl.e (e_call (F := (isJ j1 pp ⟨b, 2, false⟩) :: (isDisk pp (⟨S2, [], false, k2, none⟩ : DS)) :: (isJ j0 pp ⟨a, 1, true⟩) :: (pt b1 3 [Value.int .i64 ((a.size : Nat) : Int), Value.int .i64 ((b.size : Nat) : Int)]) :: F) (args := [Value.pointer (some ⟨j2, 0, none⟩)]) Try.call10 rfl (seq_in W0 j2 pp b 2 false)) (fun _ _ => ?_)
  refine Wl.imp (L' := (isJ j2 pp ⟨b, 2, false⟩) :: (isJ j1 pp ⟨b, 2, false⟩) :: (isDisk pp (⟨S2, [], false, k2, none⟩ : DS)) :: (isJ j0 pp ⟨a, 1, true⟩) :: (pt b1 3 [Value.int .i64 ((a.size : Nat) : Int), Value.int .i64 ((b.size : Nat) : Int)]) :: F) (fun _ h => h) ?_
  refine Wl.q (v := Value.bool false) (q_neq (r := true) rfl rfl (decide_eq_true (by decide))) ?_
  refine Wl.q (v := Value.bool false) (q_pick (t := false) rfl rfl) ?_
  refine Wl.done ?_
  refine Wx.go ?_
  refine Wc.no rfl ?_
  refine Wc.skip ?_
  refine Wx.go ?_
  refine Wc.seq ?_
  refine Wc.region ?_
  refine Wl.q (v := Value.string b) (q_move rfl) ?_
  refine Wl.q (v := Value.string a) (q_move rfl) ?_
  by_cases h2 : b = a
  ·
    refine Wl.q (v := Value.bool true) (q_eql_str (r := true) rfl rfl (text_true h2)) ?_
    refine Wl.q (v := Value.bool true) (q_move rfl) ?_
    refine Wl.q (v := Value.pointer (some ⟨j1, 0, none⟩)) (q_move rfl) ?_
    refine Wl.imp (L' := (isJ j1 pp ⟨b, 2, false⟩) :: (isJ j2 pp ⟨b, 2, false⟩) :: (isDisk pp (⟨S2, [], false, k2, none⟩ : DS)) :: (isJ j0 pp ⟨a, 1, true⟩) :: (pt b1 3 [Value.int .i64 ((a.size : Nat) : Int), Value.int .i64 ((b.size : Nat) : Int)]) :: F) (fun _ h => st_pull [1] h) ?_
    refine Wl.e (e_call (F := (isJ j2 pp ⟨b, 2, false⟩) :: (isDisk pp (⟨S2, [], false, k2, none⟩ : DS)) :: (isJ j0 pp ⟨a, 1, true⟩) :: (pt b1 3 [Value.int .i64 ((a.size : Nat) : Int), Value.int .i64 ((b.size : Nat) : Int)]) :: F) (args := [Value.pointer (some ⟨j1, 0, none⟩)]) Try.call10 rfl (seq_in W0 j1 pp b 2 false)) (fun _ _ => ?_)
    refine Wl.imp (L' := (isJ j1 pp ⟨b, 2, false⟩) :: (isJ j2 pp ⟨b, 2, false⟩) :: (isDisk pp (⟨S2, [], false, k2, none⟩ : DS)) :: (isJ j0 pp ⟨a, 1, true⟩) :: (pt b1 3 [Value.int .i64 ((a.size : Nat) : Int), Value.int .i64 ((b.size : Nat) : Int)]) :: F) (fun _ h => h) ?_
    refine Wl.q (v := Value.bool false) (q_eql (r := false) rfl rfl (decide_eq_false (by decide))) ?_
    refine Wl.q (v := Value.bool false) (q_pick (t := true) rfl rfl) ?_
    refine Wl.q (v := Value.bool false) (q_assign rfl) ?_
    refine Wl.done ?_
    refine Wx.go ?_
    refine Wc.seq ?_
    refine Wc.region ?_
    refine Wl.q (v := Value.string b) (q_move rfl) ?_
    refine Wl.q (v := Value.string b) (q_move rfl) ?_
    refine Wl.q (v := Value.bool true) (q_eql_str (r := true) rfl rfl (text_true (rfl))) ?_
    refine Wl.q (v := Value.bool true) (q_move rfl) ?_
    refine Wl.q (v := Value.pointer (some ⟨j1, 0, none⟩)) (q_move rfl) ?_
    refine Wl.e (e_call (F := (isJ j2 pp ⟨b, 2, false⟩) :: (isDisk pp (⟨S2, [], false, k2, none⟩ : DS)) :: (isJ j0 pp ⟨a, 1, true⟩) :: (pt b1 3 [Value.int .i64 ((a.size : Nat) : Int), Value.int .i64 ((b.size : Nat) : Int)]) :: F) (args := [Value.pointer (some ⟨j1, 0, none⟩)]) Try.call10 rfl (seq_in W0 j1 pp b 2 false)) (fun _ _ => ?_)
    refine Wl.imp (L' := (isJ j1 pp ⟨b, 2, false⟩) :: (isJ j2 pp ⟨b, 2, false⟩) :: (isDisk pp (⟨S2, [], false, k2, none⟩ : DS)) :: (isJ j0 pp ⟨a, 1, true⟩) :: (pt b1 3 [Value.int .i64 ((a.size : Nat) : Int), Value.int .i64 ((b.size : Nat) : Int)]) :: F) (fun _ h => h) ?_
    refine Wl.q (v := Value.bool true) (q_eql (r := true) rfl rfl (decide_eq_true (by decide))) ?_
    refine Wl.q (v := Value.bool true) (q_pick (t := true) rfl rfl) ?_
    refine Wl.q (v := Value.bool true) (q_assign rfl) ?_
    refine Wl.done ?_
    refine Wx.go ?_
    refine Wc.seq ?_
    refine Wc.seq ?_
    refine Wc.region ?_
    refine Wl.q (v := Value.int .i64 6) (q_move rfl) ?_
    refine Wl.q (v := Value.bool false) (q_eql (r := false) rfl rfl (decide_eq_false (by decide))) ?_
    refine Wl.done ?_
    refine Wx.go ?_
    refine Wc.no rfl ?_
    refine Wc.skip ?_
    refine Wx.go ?_
    refine Wc.seq ?_
    refine Wc.seq ?_
    refine Wc.region ?_
    refine Wl.q (v := Value.int .i64 n) (q_move rfl) ?_
    refine Wl.q (v := Value.int .i64 (((nPieces b + 3) : Nat) : Int)) (q_move rfl) ?_
    refine Wl.q (v := Value.int .i64 ((((nPieces b + 3) : Nat) : Int) - 1)) (q_sub (c := ((((nPieces b + 3) : Nat) : Int) - 1)) rfl rfl (wrap_i64 (by omega) (by omega))) ?_
    refine Wl.q (v := Value.bool false) (q_lss (r := false) rfl rfl (decide_eq_false (by omega))) ?_
    refine Wl.done ?_
    refine Wx.go ?_
    refine Wc.no rfl ?_
    refine Wc.skip ?_
    refine Wx.go ?_
    refine Wc.seq ?_
    refine Wc.region ?_
    refine Wl.q (v := Value.bool true) (q_move rfl) ?_
    refine Wl.q (v := Value.bool true) (q_move rfl) ?_
    refine Wl.no ?_
    refine Wl.q (v := Value.bool true) (q_pick (t := true) rfl rfl) ?_
    refine Wl.q (v := Value.bool true) (q_move rfl) ?_
    refine Wl.e (e_call (F := (isJ j1 pp ⟨b, 2, false⟩) :: (isJ j2 pp ⟨b, 2, false⟩) :: (isDisk pp (⟨S2, [], false, k2, none⟩ : DS)) :: (isJ j0 pp ⟨a, 1, true⟩) :: (pt b1 3 [Value.int .i64 ((a.size : Nat) : Int), Value.int .i64 ((b.size : Nat) : Int)]) :: F) (args := []) Try.call13 rfl (alive_c W0)) (fun _ _ => ?_)
    refine Wl.imp (L' := (isJ j1 pp ⟨b, 2, false⟩) :: (isJ j2 pp ⟨b, 2, false⟩) :: (isDisk pp (⟨S2, [], false, k2, none⟩ : DS)) :: (isJ j0 pp ⟨a, 1, true⟩) :: (pt b1 3 [Value.int .i64 ((a.size : Nat) : Int), Value.int .i64 ((b.size : Nat) : Int)]) :: F) (fun _ h => h) ?_
    refine Wl.q (v := Value.bool true) (q_pick (t := true) rfl rfl) ?_
    refine Wl.q (v := Value.bool true) (q_assign rfl) ?_
    refine Wl.done ?_
    refine Wx.go ?_
    refine Wc.ret ?_
    refine Wx.fin1 rfl (.inl rfl) (fun w hs => ?_)
    exact ⟨(), trivial, rfl, (st_drop (st_drop (st_drop (st_drop (st_drop (st_pull [0, 0, 0, 0, 0] hs))))))⟩
  ·
    refine Wl.q (v := Value.bool false) (q_eql_str (r := false) rfl rfl (text_false h2)) ?_
    refine Wl.q (v := Value.bool false) (q_move rfl) ?_
    refine Wl.no ?_
    refine Wl.no ?_
    refine Wl.no ?_
    refine Wl.q (v := Value.bool false) (q_pick (t := false) rfl rfl) ?_
    refine Wl.q (v := Value.bool false) (q_assign rfl) ?_
    refine Wl.done ?_
    refine Wx.go ?_
    refine Wc.seq ?_
    refine Wc.region ?_
    refine Wl.q (v := Value.string b) (q_move rfl) ?_
    refine Wl.q (v := Value.string b) (q_move rfl) ?_
    refine Wl.q (v := Value.bool true) (q_eql_str (r := true) rfl rfl (text_true (rfl))) ?_
    refine Wl.q (v := Value.bool true) (q_move rfl) ?_
    refine Wl.q (v := Value.pointer (some ⟨j1, 0, none⟩)) (q_move rfl) ?_
    refine Wl.imp (L' := (isJ j1 pp ⟨b, 2, false⟩) :: (isJ j2 pp ⟨b, 2, false⟩) :: (isDisk pp (⟨S2, [], false, k2, none⟩ : DS)) :: (isJ j0 pp ⟨a, 1, true⟩) :: (pt b1 3 [Value.int .i64 ((a.size : Nat) : Int), Value.int .i64 ((b.size : Nat) : Int)]) :: F) (fun _ h => st_pull [1] h) ?_
    refine Wl.e (e_call (F := (isJ j2 pp ⟨b, 2, false⟩) :: (isDisk pp (⟨S2, [], false, k2, none⟩ : DS)) :: (isJ j0 pp ⟨a, 1, true⟩) :: (pt b1 3 [Value.int .i64 ((a.size : Nat) : Int), Value.int .i64 ((b.size : Nat) : Int)]) :: F) (args := [Value.pointer (some ⟨j1, 0, none⟩)]) Try.call10 rfl (seq_in W0 j1 pp b 2 false)) (fun _ _ => ?_)
    refine Wl.imp (L' := (isJ j1 pp ⟨b, 2, false⟩) :: (isJ j2 pp ⟨b, 2, false⟩) :: (isDisk pp (⟨S2, [], false, k2, none⟩ : DS)) :: (isJ j0 pp ⟨a, 1, true⟩) :: (pt b1 3 [Value.int .i64 ((a.size : Nat) : Int), Value.int .i64 ((b.size : Nat) : Int)]) :: F) (fun _ h => h) ?_
    refine Wl.q (v := Value.bool true) (q_eql (r := true) rfl rfl (decide_eq_true (by decide))) ?_
    refine Wl.q (v := Value.bool true) (q_pick (t := true) rfl rfl) ?_
    refine Wl.q (v := Value.bool true) (q_assign rfl) ?_
    refine Wl.done ?_
    refine Wx.go ?_
    refine Wc.seq ?_
    refine Wc.seq ?_
    refine Wc.region ?_
    refine Wl.q (v := Value.int .i64 6) (q_move rfl) ?_
    refine Wl.q (v := Value.bool false) (q_eql (r := false) rfl rfl (decide_eq_false (by decide))) ?_
    refine Wl.done ?_
    refine Wx.go ?_
    refine Wc.no rfl ?_
    refine Wc.skip ?_
    refine Wx.go ?_
    refine Wc.seq ?_
    refine Wc.seq ?_
    refine Wc.region ?_
    refine Wl.q (v := Value.int .i64 n) (q_move rfl) ?_
    refine Wl.q (v := Value.int .i64 (((nPieces b + 3) : Nat) : Int)) (q_move rfl) ?_
    refine Wl.q (v := Value.int .i64 ((((nPieces b + 3) : Nat) : Int) - 1)) (q_sub (c := ((((nPieces b + 3) : Nat) : Int) - 1)) rfl rfl (wrap_i64 (by omega) (by omega))) ?_
    refine Wl.q (v := Value.bool false) (q_lss (r := false) rfl rfl (decide_eq_false (by omega))) ?_
    refine Wl.done ?_
    refine Wx.go ?_
    refine Wc.no rfl ?_
    refine Wc.skip ?_
    refine Wx.go ?_
    refine Wc.seq ?_
    refine Wc.region ?_
    refine Wl.q (v := Value.bool true) (q_move rfl) ?_
    refine Wl.q (v := Value.bool true) (q_move rfl) ?_
    refine Wl.no ?_
    refine Wl.q (v := Value.bool true) (q_pick (t := true) rfl rfl) ?_
    refine Wl.q (v := Value.bool true) (q_move rfl) ?_
    refine Wl.e (e_call (F := (isJ j1 pp ⟨b, 2, false⟩) :: (isJ j2 pp ⟨b, 2, false⟩) :: (isDisk pp (⟨S2, [], false, k2, none⟩ : DS)) :: (isJ j0 pp ⟨a, 1, true⟩) :: (pt b1 3 [Value.int .i64 ((a.size : Nat) : Int), Value.int .i64 ((b.size : Nat) : Int)]) :: F) (args := []) Try.call13 rfl (alive_c W0)) (fun _ _ => ?_)
    refine Wl.imp (L' := (isJ j1 pp ⟨b, 2, false⟩) :: (isJ j2 pp ⟨b, 2, false⟩) :: (isDisk pp (⟨S2, [], false, k2, none⟩ : DS)) :: (isJ j0 pp ⟨a, 1, true⟩) :: (pt b1 3 [Value.int .i64 ((a.size : Nat) : Int), Value.int .i64 ((b.size : Nat) : Int)]) :: F) (fun _ h => h) ?_
    refine Wl.q (v := Value.bool true) (q_pick (t := true) rfl rfl) ?_
    refine Wl.q (v := Value.bool true) (q_assign rfl) ?_
    refine Wl.done ?_
    refine Wx.go ?_
    refine Wc.ret ?_
    refine Wx.fin1 rfl (.inl rfl) (fun w hs => ?_)
    exact ⟨(), trivial, rfl, (st_drop (st_drop (st_drop (st_drop (st_drop (st_pull [0, 0, 0, 0, 0] hs))))))⟩

theorem whole_law (W0 : World) (a b : ByteArray) (hla : a.size ≤ maxLen) (hlb : b.size ≤ maxLen) (n bits : Int) (hhi : n ≤ 9223372036854775807) : Con Try.prog W0 5 #[.string a, .string b, .int .i64 n, .int .i64 bits] [] (X := Unit) (fun _ => True) (fun _ => .bool true) (fun _ => []) := by
  cases hb0 : beyondB [((a.size : Nat) : Int), ((b.size : Nat) : Int)] with
  | true => exact whole_beyond W0 a b (by simp only [maxLen] at hla; omega) (by simp only [maxLen] at hlb; omega) n bits hb0
  | false =>
    by_cases hn : n < 0
    · exact whole_neg W0 a b n bits hn hb0
    have ok0 := ok_new (n := 64) (by decide) (by decide)
    have h0 : half (List.replicate 64 noughts) = 31 := half_64 List.length_replicate
    by_cases ha : a.size ≤ 1984
    · obtain ⟨S1, h1, h2, h3⟩ := put_js (s := a) ok0 (by decide) (by rw [h0]; omega) 0
      rw [List.length_replicate] at h1
      have g1 := half_64 h1
      by_cases hbb : b.size ≤ 1984
      · obtain ⟨S2, k2, t2, q2, i1, i2, i3, i4⟩ := cut_js (s := b) h2 (by decide) (by rw [g1]; omega) (0 + nPieces a + 3) (c := n.toNat) bits (by omega)
        rw [h1] at i1
        rcases i4 with ⟨j1, rfl, rfl, j2⟩ | ⟨j1, j2, ⟨rfl, rfl⟩ | ⟨rfl, rfl⟩, j3⟩
        · exact whole_in W0 a _ n hhi bits hn hb0 ok0 ha S1 h1 h2 h3 hbb S2 k2 i1 i2 j1 j2
        · exact whole_old W0 _ b n hhi bits hn hb0 ok0 ha S1 h1 h2 h3 hbb S2 k2 i1 i2 j1 j3
        · refine whole_new W0 a _ n hhi bits hn hb0 ok0 ha S1 h1 h2 h3 hbb S2 k2 i1 i2 j1 ?_ j3
          rcases Nat.lt_or_ge n.toNat (nPieces t2 + 2) with hh | hh
          · exact absurd (j2 hh).2 (by decide)
          · exact hh
      · exact whole_bigB W0 a b n hhi bits hn hb0 ok0 ha S1 h1 h2 h3 (by omega) (put_big (by rw [g1]; omega))
    · exact whole_bigA W0 a b n hhi bits hn hb0 ok0 (by omega) (put_big (by rw [h0]; omega))

end Go.Proofs.Ytnhejdnigblnoaa
