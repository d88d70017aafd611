/- Contracts of the calls. -/
import Derived.Test.YtnhejdnigblnoaaJnT
namespace Go.Proofs.Ytnhejdnigblnoaa
open Go Go.SL Go.Dk Go.Jn Go.RowKit
set_option linter.unusedVariables false
set_option maxRecDepth 8000
theorem zo_3 : zeroOf Try.prog 3 = some (Value.int .i64 0) := by kernel_rfl
theorem goes_beyond (W0 : World) (a b c : ByteArray) (hlena : a.size ≤ 9223372036854775807) (hlenb : b.size ≤ 9223372036854775807) (hlenc : c.size ≤ 9223372036854775807) (n bits : Int) (hb0 : beyondB [((a.size : Nat) : Int), ((b.size : Nat) : Int), ((c.size : Nat) : Int)] = true) :
    Con Try.prog W0 6 #[Value.string a, Value.string b, Value.string c, Value.int .i64 n, Value.int .i64 bits] [] (X := Unit) (fun _ => True) (fun _ => .bool true) (fun _ => []) := by
  refine Con.of (args := [Value.string a, Value.string b, Value.string c, Value.int .i64 n, Value.int .i64 bits]) Try.func6 rfl Try.ntmps6 rfl (fun F => ?_)
  show Wc _ W0 _ _ _ _ _ (F)
  refine Wc.seq ?_
  refine Wc.region ?_
  refine Wl.q (v := Value.bool false) (q_assign rfl) ?_
  refine Wl.done ?_
  refine Wx.go ?_
  refine Wc.seq ?_
  refine Wc.region ?_
  refine Wl.e (e_call (F := F) (args := [Value.int .i64 64]) Try.call16 rfl (new_ok W0 64 (by omega) (by omega))) (fun pp _ => ?_)
  refine Wl.imp (L' := (isDisk pp (DS.new 64)) :: F) (fun _ h => h) ?_
  refine Wl.q (v := Value.tuple #[Value.pointer (some ⟨pp, 0, none⟩), Value.int .i64 0]) (q_move rfl) ?_
  refine Wl.q (v := Value.pointer (some ⟨pp, 0, none⟩)) (q_extract (i := 0) rfl rfl) ?_
  refine Wl.q (v := Value.int .i64 0) (q_extract (i := 1) rfl rfl) ?_
  refine Wl.q (v := Value.pointer (some ⟨pp, 0, none⟩)) (q_assign rfl) ?_
  refine Wl.q (v := Value.int .i64 0) (q_assign rfl) ?_
  refine Wl.done ?_
  refine Wx.go ?_
  refine Wc.seq ?_
  refine Wc.seq ?_
  refine Wc.region ?_
  refine Wl.q (v := Value.int .i64 0) (q_move rfl) ?_
  refine Wl.q (v := Value.bool false) (q_neq (r := true) rfl rfl (decide_eq_true (by decide))) ?_
  refine Wl.q (v := Value.bool false) (q_move rfl) ?_
  refine Wl.q (v := Value.string a) (q_move rfl) ?_
  refine Wl.q (v := Value.int .i64 ((a.size : Nat) : Int)) (q_len_str Try.underlying9 rfl) ?_
  refine Wl.q (v := Value.string b) (q_move rfl) ?_
  refine Wl.q (v := Value.int .i64 ((b.size : Nat) : Int)) (q_len_str Try.underlying9 rfl) ?_
  refine Wl.q (v := Value.string c) (q_move rfl) ?_
  refine Wl.q (v := Value.int .i64 ((c.size : Nat) : Int)) (q_len_str Try.underlying9 rfl) ?_
  refine Wl.e (e_buildSlice (cs := [Value.int .i64 ((a.size : Nat) : Int), Value.int .i64 ((b.size : Nat) : Int), Value.int .i64 ((c.size : Nat) : Int)]) se_72 zo_3 (by decide) (by decide) (by kernel_rfl)) (fun b1 _ => ?_)
  refine Wl.imp (L' := (pt b1 3 [Value.int .i64 ((a.size : Nat) : Int), Value.int .i64 ((b.size : Nat) : Int), Value.int .i64 ((c.size : Nat) : Int)]) :: (isDisk pp (DS.new 64)) :: F) (fun _ h => h) ?_
  refine Wl.e (e_call (F := (isDisk pp (DS.new 64)) :: F) (args := [Value.slice (some ⟨b1, 0, none⟩) 3 3]) Try.call20 rfl (Con.eqs (val' := fun _ => Value.bool true) (post' := fun _ => [pt b1 3 [Value.int .i64 ((a.size : Nat) : Int), Value.int .i64 ((b.size : Nat) : Int), Value.int .i64 ((c.size : Nat) : Int)]]) (beyond_c W0 b1 ([((a.size : Nat) : Int), ((b.size : Nat) : Int), ((c.size : Nat) : Int)] : List Int) (by simp) (by simp; omega)) (fun _ => congrArg Value.bool hb0) (fun _ => rfl))) (fun _ _ => ?_)
  refine Wl.imp (L' := (pt b1 3 [Value.int .i64 ((a.size : Nat) : Int), Value.int .i64 ((b.size : Nat) : Int), Value.int .i64 ((c.size : Nat) : Int)]) :: (isDisk pp (DS.new 64)) :: F) (fun _ h => h) ?_
  refine Wl.q (v := Value.bool true) (q_pick (t := false) rfl rfl) ?_
  refine Wl.q (v := Value.bool true) (q_move rfl) ?_
  refine Wl.no ?_
  refine Wl.no ?_
  refine Wl.q (v := Value.bool true) (q_pick (t := true) rfl rfl) ?_
  refine Wl.done ?_
  refine Wx.go ?_
  refine Wc.yes rfl ?_
  refine Wc.seq ?_
  refine Wc.region ?_
  refine Wl.e (e_call (F := (pt b1 3 [Value.int .i64 ((a.size : Nat) : Int), Value.int .i64 ((b.size : Nat) : Int), Value.int .i64 ((c.size : Nat) : Int)]) :: (isDisk pp (DS.new 64)) :: F) (args := []) Try.call13 rfl (alive_c W0)) (fun _ _ => ?_)
  refine Wl.imp (L' := (pt b1 3 [Value.int .i64 ((a.size : Nat) : Int), Value.int .i64 ((b.size : Nat) : Int), Value.int .i64 ((c.size : Nat) : Int)]) :: (isDisk pp (DS.new 64)) :: F) (fun _ h => h) ?_
  refine Wl.q (v := Value.bool true) (q_assign rfl) ?_
  refine Wl.done ?_
  refine Wx.go ?_
  refine Wc.ret ?_
  refine Wx.thenRet ?_
  refine Wx.fin1 rfl (.inl rfl) (fun w hs => ?_)
  exact ⟨(), trivial, rfl, (st_drop (st_drop (st_pull [0, 0] hs)))⟩

theorem goes_neg (W0 : World) (a b c : ByteArray) (n bits : Int) (hn : n < 0) (hb0 : beyondB [((a.size : Nat) : Int), ((b.size : Nat) : Int), ((c.size : Nat) : Int)] = false) :
    Con Try.prog W0 6 #[Value.string a, Value.string b, Value.string c, Value.int .i64 n, Value.int .i64 bits] [] (X := Unit) (fun _ => True) (fun _ => .bool true) (fun _ => []) := by
  refine Con.of (args := [Value.string a, Value.string b, Value.string c, Value.int .i64 n, Value.int .i64 bits]) Try.func6 rfl Try.ntmps6 rfl (fun F => ?_)
  have hr : (List.replicate 64 noughts).length = 64 := List.length_replicate
  obtain ⟨hla, hlb, hlc⟩ := beyond_three hb0
  have hna := few a hla
  have hnb := few b hlb
  have hnc := few c hlc
  show Wc _ W0 _ _ _ _ _ (F)
  refine Wc.seq ?_
  refine Wc.region ?_
  refine Wl.q (v := Value.bool false) (q_assign rfl) ?_
  refine Wl.done ?_
  refine Wx.go ?_
  refine Wc.seq ?_
  refine Wc.region ?_
  refine Wl.e (e_call (F := F) (args := [Value.int .i64 64]) Try.call16 rfl (new_ok W0 64 (by omega) (by omega))) (fun pp _ => ?_)
  refine Wl.imp (L' := (isDisk pp (DS.new 64)) :: F) (fun _ h => h) ?_
  refine Wl.q (v := Value.tuple #[Value.pointer (some ⟨pp, 0, none⟩), Value.int .i64 0]) (q_move rfl) ?_
  refine Wl.q (v := Value.pointer (some ⟨pp, 0, none⟩)) (q_extract (i := 0) rfl rfl) ?_
  refine Wl.q (v := Value.int .i64 0) (q_extract (i := 1) rfl rfl) ?_
  refine Wl.q (v := Value.pointer (some ⟨pp, 0, none⟩)) (q_assign rfl) ?_
  refine Wl.q (v := Value.int .i64 0) (q_assign rfl) ?_
  refine Wl.done ?_
  refine Wx.go ?_
  refine Wc.seq ?_
  refine Wc.seq ?_
  refine Wc.region ?_
  refine Wl.q (v := Value.int .i64 0) (q_move rfl) ?_
  refine Wl.q (v := Value.bool false) (q_neq (r := true) rfl rfl (decide_eq_true (by decide))) ?_
  refine Wl.q (v := Value.bool false) (q_move rfl) ?_
  refine Wl.q (v := Value.string a) (q_move rfl) ?_
  refine Wl.q (v := Value.int .i64 ((a.size : Nat) : Int)) (q_len_str Try.underlying9 rfl) ?_
  refine Wl.q (v := Value.string b) (q_move rfl) ?_
  refine Wl.q (v := Value.int .i64 ((b.size : Nat) : Int)) (q_len_str Try.underlying9 rfl) ?_
  refine Wl.q (v := Value.string c) (q_move rfl) ?_
  refine Wl.q (v := Value.int .i64 ((c.size : Nat) : Int)) (q_len_str Try.underlying9 rfl) ?_
  refine Wl.e (e_buildSlice (cs := [Value.int .i64 ((a.size : Nat) : Int), Value.int .i64 ((b.size : Nat) : Int), Value.int .i64 ((c.size : Nat) : Int)]) se_72 zo_3 (by decide) (by decide) (by kernel_rfl)) (fun b1 _ => ?_)
  refine Wl.imp (L' := (pt b1 3 [Value.int .i64 ((a.size : Nat) : Int), Value.int .i64 ((b.size : Nat) : Int), Value.int .i64 ((c.size : Nat) : Int)]) :: (isDisk pp (DS.new 64)) :: F) (fun _ h => h) ?_
  refine Wl.e (e_call (F := (isDisk pp (DS.new 64)) :: F) (args := [Value.slice (some ⟨b1, 0, none⟩) 3 3]) Try.call20 rfl (Con.eqs (val' := fun _ => Value.bool false) (post' := fun _ => [pt b1 3 [Value.int .i64 ((a.size : Nat) : Int), Value.int .i64 ((b.size : Nat) : Int), Value.int .i64 ((c.size : Nat) : Int)]]) (beyond_c W0 b1 ([((a.size : Nat) : Int), ((b.size : Nat) : Int), ((c.size : Nat) : Int)] : List Int) (by simp) (by simp; omega)) (fun _ => congrArg Value.bool hb0) (fun _ => rfl))) (fun _ _ => ?_)
  refine Wl.imp (L' := (pt b1 3 [Value.int .i64 ((a.size : Nat) : Int), Value.int .i64 ((b.size : Nat) : Int), Value.int .i64 ((c.size : Nat) : Int)]) :: (isDisk pp (DS.new 64)) :: F) (fun _ h => h) ?_
  refine Wl.q (v := Value.bool false) (q_pick (t := false) rfl rfl) ?_
  refine Wl.q (v := Value.bool false) (q_move rfl) ?_
  refine Wl.q (v := Value.int .i64 n) (q_move rfl) ?_
  refine Wl.q (v := Value.bool true) (q_lss (r := true) rfl rfl (decide_eq_true (hn))) ?_
  refine Wl.q (v := Value.bool true) (q_pick (t := false) rfl rfl) ?_
  refine Wl.done ?_
  refine Wx.go ?_
  refine Wc.yes rfl ?_
  refine Wc.seq ?_
  refine Wc.region ?_
  refine Wl.e (e_call (F := (pt b1 3 [Value.int .i64 ((a.size : Nat) : Int), Value.int .i64 ((b.size : Nat) : Int), Value.int .i64 ((c.size : Nat) : Int)]) :: (isDisk pp (DS.new 64)) :: F) (args := []) Try.call13 rfl (alive_c W0)) (fun _ _ => ?_)
  refine Wl.imp (L' := (pt b1 3 [Value.int .i64 ((a.size : Nat) : Int), Value.int .i64 ((b.size : Nat) : Int), Value.int .i64 ((c.size : Nat) : Int)]) :: (isDisk pp (DS.new 64)) :: F) (fun _ h => h) ?_
  refine Wl.q (v := Value.bool true) (q_assign rfl) ?_
  refine Wl.done ?_
  refine Wx.go ?_
  refine Wc.ret ?_
  refine Wx.thenRet ?_
  refine Wx.fin1 rfl (.inl rfl) (fun w hs => ?_)
  exact ⟨(), trivial, rfl, (st_drop (st_drop (st_pull [0, 0] hs)))⟩

set_option maxHeartbeats 4000000 in
theorem goes_big_true (W0 : World) (a b c : ByteArray) (n : Int) (hhi : n ≤ 9223372036854775807) (bits : Int) (hn : ¬ n < 0) (hb0 : beyondB [((a.size : Nat) : Int), ((b.size : Nat) : Int), ((c.size : Nat) : Int)] = false) (ok0 : Ok (List.replicate 64 noughts) ByteArray.empty 0) (e1 : Int) (S1 : List ByteArray) (k1 : Nat) (t1 : ByteArray) (q1 : Int) (hl1 : S1.length = 64) (ok1 : Ok S1 t1 q1) (hk1 : k1 ≤ 0 + nPieces a + 3) (hq1 : q1 ≤ 0 + 1) (hp1 : (JS.mk ByteArray.empty 0 false).put (DS.new 64) a = (e1, (⟨S1, [], false, k1, none⟩ : DS), ⟨t1, q1, false⟩)) (e2 : Int) (S2 : List ByteArray) (k2 : Nat) (t2 : ByteArray) (q2 : Int) (c2 : Option (Nat × Int)) (jt : ByteArray) (jq : Int) (jd : Bool) (hl2 : S2.length = 64) (ok2 : Ok S2 t2 q2) (hk2 : k2 ≤ k1 + nPieces b + 3) (hq2 : q2 ≤ q1 + 1) (hw2 : WF (⟨S2, [], true, k2, c2⟩ : DS)) (hp2 : (JS.mk t1 q1 false).put (⟨S1, [], false, k1, some (n.toNat, bits)⟩ : DS) b = (e2, (⟨S2, [], true, k2, c2⟩ : DS), ⟨jt, jq, jd⟩)) (hc2 : c2 = none) (hc : 1984 < c.size) (hp3 : (JS.mk t2 q2 false).put (⟨S2, [], false, k2, none⟩ : DS) c = (5, (⟨S2, [], false, k2, none⟩ : DS), ⟨t2, q2, false⟩)) :
    Con Try.prog W0 6 #[Value.string a, Value.string b, Value.string c, Value.int .i64 n, Value.int .i64 bits] [] (X := Unit) (fun _ => True) (fun _ => .bool true) (fun _ => []) := by
  refine Con.of (args := [Value.string a, Value.string b, Value.string c, Value.int .i64 n, Value.int .i64 bits]) Try.func6 rfl Try.ntmps6 rfl (fun F => ?_)
  subst hc2
  have hr : (List.replicate 64 noughts).length = 64 := List.length_replicate
  obtain ⟨hla, hlb, hlc⟩ := beyond_three hb0
  have hna := few a hla
  have hnb := few b hlb
  have hnc := few c hlc
  have hnt : n.toNat ≤ 9223372036854775807 := by omega
  have hg1 := ok1.rng
  have hg2 := ok2.rng
  have hh2 : half S2 = 31 := half_64 hl2
  show Wc _ W0 _ _ _ _ _ (F)
  refine Wc.seq ?_
  refine Wc.region ?_
  refine Wl.q (v := Value.bool false) (q_assign rfl) ?_
  refine Wl.done ?_
  refine Wx.go ?_
  refine Wc.seq ?_
  refine Wc.region ?_
  refine Wl.e (e_call (F := F) (args := [Value.int .i64 64]) Try.call16 rfl (new_ok W0 64 (by omega) (by omega))) (fun pp _ => ?_)
  refine Wl.imp (L' := (isDisk pp (DS.new 64)) :: F) (fun _ h => h) ?_
  refine Wl.q (v := Value.tuple #[Value.pointer (some ⟨pp, 0, none⟩), Value.int .i64 0]) (q_move rfl) ?_
  refine Wl.q (v := Value.pointer (some ⟨pp, 0, none⟩)) (q_extract (i := 0) rfl rfl) ?_
  refine Wl.q (v := Value.int .i64 0) (q_extract (i := 1) rfl rfl) ?_
  refine Wl.q (v := Value.pointer (some ⟨pp, 0, none⟩)) (q_assign rfl) ?_
  refine Wl.q (v := Value.int .i64 0) (q_assign rfl) ?_
  refine Wl.done ?_
  refine Wx.go ?_
  refine Wc.seq ?_
  refine Wc.seq ?_
  refine Wc.region ?_
  refine Wl.q (v := Value.int .i64 0) (q_move rfl) ?_
  refine Wl.q (v := Value.bool false) (q_neq (r := true) rfl rfl (decide_eq_true (by decide))) ?_
  refine Wl.q (v := Value.bool false) (q_move rfl) ?_
  refine Wl.q (v := Value.string a) (q_move rfl) ?_
  refine Wl.q (v := Value.int .i64 ((a.size : Nat) : Int)) (q_len_str Try.underlying9 rfl) ?_
  refine Wl.q (v := Value.string b) (q_move rfl) ?_
  refine Wl.q (v := Value.int .i64 ((b.size : Nat) : Int)) (q_len_str Try.underlying9 rfl) ?_
  refine Wl.q (v := Value.string c) (q_move rfl) ?_
  refine Wl.q (v := Value.int .i64 ((c.size : Nat) : Int)) (q_len_str Try.underlying9 rfl) ?_
  refine Wl.e (e_buildSlice (cs := [Value.int .i64 ((a.size : Nat) : Int), Value.int .i64 ((b.size : Nat) : Int), Value.int .i64 ((c.size : Nat) : Int)]) se_72 zo_3 (by decide) (by decide) (by kernel_rfl)) (fun b1 _ => ?_)
  refine Wl.imp (L' := (pt b1 3 [Value.int .i64 ((a.size : Nat) : Int), Value.int .i64 ((b.size : Nat) : Int), Value.int .i64 ((c.size : Nat) : Int)]) :: (isDisk pp (DS.new 64)) :: F) (fun _ h => h) ?_
  refine Wl.e (e_call (F := (isDisk pp (DS.new 64)) :: F) (args := [Value.slice (some ⟨b1, 0, none⟩) 3 3]) Try.call20 rfl (Con.eqs (val' := fun _ => Value.bool false) (post' := fun _ => [pt b1 3 [Value.int .i64 ((a.size : Nat) : Int), Value.int .i64 ((b.size : Nat) : Int), Value.int .i64 ((c.size : Nat) : Int)]]) (beyond_c W0 b1 ([((a.size : Nat) : Int), ((b.size : Nat) : Int), ((c.size : Nat) : Int)] : List Int) (by simp) (by simp; omega)) (fun _ => congrArg Value.bool hb0) (fun _ => rfl))) (fun _ _ => ?_)
  refine Wl.imp (L' := (pt b1 3 [Value.int .i64 ((a.size : Nat) : Int), Value.int .i64 ((b.size : Nat) : Int), Value.int .i64 ((c.size : Nat) : Int)]) :: (isDisk pp (DS.new 64)) :: F) (fun _ h => h) ?_
  refine Wl.q (v := Value.bool false) (q_pick (t := false) rfl rfl) ?_
  refine Wl.q (v := Value.bool false) (q_move rfl) ?_
  refine Wl.q (v := Value.int .i64 n) (q_move rfl) ?_
  refine Wl.q (v := Value.bool false) (q_lss (r := false) rfl rfl (decide_eq_false (hn))) ?_
  refine Wl.q (v := Value.bool false) (q_pick (t := false) rfl rfl) ?_
  refine Wl.done ?_
  refine Wx.go ?_
  refine Wc.no rfl ?_
  refine Wc.skip ?_
  refine Wx.go ?_
  refine Wc.seq ?_
  refine Wc.region ?_
  refine Wl.q (v := Value.pointer (some ⟨pp, 0, none⟩)) (q_move rfl) ?_
  refine Wl.imp (L' := (isDisk pp (DS.new 64)) :: (pt b1 3 [Value.int .i64 ((a.size : Nat) : Int), Value.int .i64 ((b.size : Nat) : Int), Value.int .i64 ((c.size : Nat) : Int)]) :: F) (fun _ h => st_pull [1] h) ?_
  refine Wl.e (e_call (F := (pt b1 3 [Value.int .i64 ((a.size : Nat) : Int), Value.int .i64 ((b.size : Nat) : Int), Value.int .i64 ((c.size : Nat) : Int)]) :: F) (args := [Value.pointer (some ⟨pp, 0, none⟩)]) Try.call12 rfl (open_ok W0 pp (DS.new 64) (Ok.wf ok0) (by show 1 ≤ ((List.replicate 64 noughts)).length; omega) (by show 0 < 1099511627776; decide) (openD_up ok0))) (fun j0 _ => ?_)
  refine Wl.imp (L' := (isJ j0 pp ⟨ByteArray.empty, 0, false⟩) :: (isDisk pp (DS.new 64)) :: (pt b1 3 [Value.int .i64 ((a.size : Nat) : Int), Value.int .i64 ((b.size : Nat) : Int), Value.int .i64 ((c.size : Nat) : Int)]) :: F) (fun _ h => h) ?_
  refine Wl.q (v := Value.tuple #[Value.pointer (some ⟨j0, 0, none⟩), Value.int .i64 0]) (q_move rfl) ?_
  refine Wl.q (v := Value.pointer (some ⟨j0, 0, none⟩)) (q_extract (i := 0) rfl rfl) ?_
  refine Wl.q (v := Value.int .i64 0) (q_extract (i := 1) rfl rfl) ?_
  refine Wl.q (v := Value.pointer (some ⟨j0, 0, none⟩)) (q_assign rfl) ?_
  refine Wl.q (v := Value.int .i64 0) (q_assign rfl) ?_
  refine Wl.done ?_
  refine Wx.go ?_
  refine Wc.seq ?_
  refine Wc.seq ?_
  refine Wc.region ?_
  refine Wl.q (v := Value.int .i64 0) (q_move rfl) ?_
  refine Wl.q (v := Value.bool false) (q_neq (r := true) rfl rfl (decide_eq_true (by decide))) ?_
  refine Wl.q (v := Value.bool false) (q_move rfl) ?_
  refine Wl.q (v := Value.pointer (some ⟨j0, 0, none⟩)) (q_move rfl) ?_
  refine Wl.q (v := Value.bool false) (q_eql_nil (r := false) rfl rfl Try.underlying22 rfl) ?_
  refine Wl.q (v := Value.bool false) (q_pick (t := false) rfl rfl) ?_
  refine Wl.done ?_
  refine Wx.go ?_
  refine Wc.no rfl ?_
  refine Wc.skip ?_
  refine Wx.go ?_
  refine Wc.seq ?_
  refine Wc.region ?_
  refine Wl.q (v := Value.pointer (some ⟨j0, 0, none⟩)) (q_move rfl) ?_
  refine Wl.q (v := Value.string a) (q_move rfl) ?_
  refine Wl.e (e_call (F := (pt b1 3 [Value.int .i64 ((a.size : Nat) : Int), Value.int .i64 ((b.size : Nat) : Int), Value.int .i64 ((c.size : Nat) : Int)]) :: F) (args := [Value.pointer (some ⟨j0, 0, none⟩), Value.string a]) Try.call9 rfl (Con.eqs (val' := fun _ => Value.int .i64 e1) (post' := fun _ => [isJ j0 pp ⟨t1, q1, false⟩, isDisk pp (⟨S1, [], false, k1, none⟩ : DS)]) (Put_c W0 j0 pp (⟨ByteArray.empty, 0, false⟩ : JS) (DS.new 64) a (ok0.wf) (by show 1 ≤ ((List.replicate 64 noughts)).length; omega) (by show 0 < 1000000000000; decide) (by show 0 < 4000000000000000000; omega) (by show 0 ≤ (0 : Int); omega) (by show (0 : Int) < 9223372036854775807; omega)) (fun _ => by rw [hp1]) (fun _ => by rw [hp1]))) (fun _ _ => ?_)
  refine Wl.imp (L' := (isJ j0 pp ⟨t1, q1, false⟩) :: (isDisk pp (⟨S1, [], false, k1, none⟩ : DS)) :: (pt b1 3 [Value.int .i64 ((a.size : Nat) : Int), Value.int .i64 ((b.size : Nat) : Int), Value.int .i64 ((c.size : Nat) : Int)]) :: F) (fun _ h => h) ?_
  refine Wl.done ?_
  refine Wx.go ?_
  refine Wc.seq ?_
  refine Wc.region ?_
  refine Wl.q (v := Value.pointer (some ⟨pp, 0, none⟩)) (q_move rfl) ?_
  refine Wl.q (v := Value.int .i64 n) (q_move rfl) ?_
  refine Wl.q (v := Value.int .i64 bits) (q_move rfl) ?_
  refine Wl.imp (L' := (isDisk pp (⟨S1, [], false, k1, none⟩ : DS)) :: (isJ j0 pp ⟨t1, q1, false⟩) :: (pt b1 3 [Value.int .i64 ((a.size : Nat) : Int), Value.int .i64 ((b.size : Nat) : Int), Value.int .i64 ((c.size : Nat) : Int)]) :: F) (fun _ h => st_pull [1] h) ?_
  refine Wl.e (e_call (F := (isJ j0 pp ⟨t1, q1, false⟩) :: (pt b1 3 [Value.int .i64 ((a.size : Nat) : Int), Value.int .i64 ((b.size : Nat) : Int), Value.int .i64 ((c.size : Nat) : Int)]) :: F) (args := [Value.pointer (some ⟨pp, 0, none⟩), Value.int .i64 n, Value.int .i64 bits]) Try.call21 rfl (Con.eqs (val' := fun _ => Value.int .i64 0) (post' := fun _ => [isDisk pp (⟨S1, [], false, k1, some (n.toNat, bits)⟩ : DS)]) (cut_c W0 pp (⟨S1, [], false, k1, none⟩ : DS) n bits) (fun _ => (by rw [cut_ok hn])) (fun _ => (by rw [cut_ok hn])))) (fun _ _ => ?_)
  refine Wl.imp (L' := (isDisk pp (⟨S1, [], false, k1, some (n.toNat, bits)⟩ : DS)) :: (isJ j0 pp ⟨t1, q1, false⟩) :: (pt b1 3 [Value.int .i64 ((a.size : Nat) : Int), Value.int .i64 ((b.size : Nat) : Int), Value.int .i64 ((c.size : Nat) : Int)]) :: F) (fun _ h => h) ?_
  refine Wl.done ?_
  refine Wx.go ?_
  refine Wc.seq ?_
  refine Wc.region ?_
  refine Wl.q (v := Value.pointer (some ⟨j0, 0, none⟩)) (q_move rfl) ?_
  refine Wl.q (v := Value.string b) (q_move rfl) ?_
  refine Wl.imp (L' := (isJ j0 pp ⟨t1, q1, false⟩) :: (isDisk pp (⟨S1, [], false, k1, some (n.toNat, bits)⟩ : DS)) :: (pt b1 3 [Value.int .i64 ((a.size : Nat) : Int), Value.int .i64 ((b.size : Nat) : Int), Value.int .i64 ((c.size : Nat) : Int)]) :: F) (fun _ h => st_pull [1, 0] h) ?_
  refine Wl.e (e_call (F := (pt b1 3 [Value.int .i64 ((a.size : Nat) : Int), Value.int .i64 ((b.size : Nat) : Int), Value.int .i64 ((c.size : Nat) : Int)]) :: F) (args := [Value.pointer (some ⟨j0, 0, none⟩), Value.string b]) Try.call9 rfl (Con.eqs (val' := fun _ => Value.int .i64 e2) (post' := fun _ => [isJ j0 pp ⟨jt, jq, jd⟩, isDisk pp (⟨S2, [], true, k2, none⟩ : DS)]) (Put_c W0 j0 pp (⟨t1, q1, false⟩ : JS) (⟨S1, [], false, k1, some (n.toNat, bits)⟩ : DS) b (Ok.wfc ok1 hnt) (by show 1 ≤ (S1).length; omega) (by show 0 < 1000000000000; decide) (by show k1 < 4000000000000000000; omega) (by show 0 ≤ (q1 : Int); omega) (by show (q1 : Int) < 9223372036854775807; omega)) (fun _ => by rw [hp2]) (fun _ => by rw [hp2]))) (fun _ _ => ?_)
  refine Wl.imp (L' := (isJ j0 pp ⟨jt, jq, jd⟩) :: (isDisk pp (⟨S2, [], true, k2, none⟩ : DS)) :: (pt b1 3 [Value.int .i64 ((a.size : Nat) : Int), Value.int .i64 ((b.size : Nat) : Int), Value.int .i64 ((c.size : Nat) : Int)]) :: F) (fun _ h => h) ?_
  refine Wl.done ?_
  refine Wx.go ?_
  refine Wc.seq ?_
  refine Wc.seq ?_
  refine Wc.region ?_
  refine Wl.q (v := Value.pointer (some ⟨pp, 0, none⟩)) (q_move rfl) ?_
  refine Wl.imp (L' := (isDisk pp (⟨S2, [], true, k2, none⟩ : DS)) :: (isJ j0 pp ⟨jt, jq, jd⟩) :: (pt b1 3 [Value.int .i64 ((a.size : Nat) : Int), Value.int .i64 ((b.size : Nat) : Int), Value.int .i64 ((c.size : Nat) : Int)]) :: F) (fun _ h => st_pull [1] h) ?_
  refine Wl.e (e_call (F := (isJ j0 pp ⟨jt, jq, jd⟩) :: (pt b1 3 [Value.int .i64 ((a.size : Nat) : Int), Value.int .i64 ((b.size : Nat) : Int), Value.int .i64 ((c.size : Nat) : Int)]) :: F) (args := [Value.pointer (some ⟨pp, 0, none⟩)]) Try.call24 rfl (Con.eqs (val' := fun _ => Value.bool false) (post' := fun _ => [isDisk pp (⟨S2, [], true, k2, none⟩ : DS)]) (up_c W0 pp (⟨S2, [], true, k2, none⟩ : DS) ) (fun _ => rfl) (fun _ => rfl))) (fun _ _ => ?_)
  refine Wl.imp (L' := (isDisk pp (⟨S2, [], true, k2, none⟩ : DS)) :: (isJ j0 pp ⟨jt, jq, jd⟩) :: (pt b1 3 [Value.int .i64 ((a.size : Nat) : Int), Value.int .i64 ((b.size : Nat) : Int), Value.int .i64 ((c.size : Nat) : Int)]) :: F) (fun _ h => h) ?_
  refine Wl.done ?_
  refine Wx.go ?_
  refine Wc.no rfl ?_
  refine Wc.skip ?_
  refine Wx.go ?_
  refine Wc.seq ?_
  refine Wc.seq ?_
  refine Wc.region ?_
  refine Wl.q (v := Value.pointer (some ⟨pp, 0, none⟩)) (q_move rfl) ?_
  refine Wl.e (e_call (F := (isJ j0 pp ⟨jt, jq, jd⟩) :: (pt b1 3 [Value.int .i64 ((a.size : Nat) : Int), Value.int .i64 ((b.size : Nat) : Int), Value.int .i64 ((c.size : Nat) : Int)]) :: F) (args := [Value.pointer (some ⟨pp, 0, none⟩)]) Try.call23 rfl (Con.eqs (val' := fun _ => Value.int .i64 0) (post' := fun _ => [isDisk pp (⟨S2, [], false, k2, none⟩ : DS)]) (start_c W0 pp (⟨S2, [], true, k2, none⟩ : DS) ) (fun _ => rfl) (fun _ => rfl))) (fun _ _ => ?_)
  refine Wl.imp (L' := (isDisk pp (⟨S2, [], false, k2, none⟩ : DS)) :: (isJ j0 pp ⟨jt, jq, jd⟩) :: (pt b1 3 [Value.int .i64 ((a.size : Nat) : Int), Value.int .i64 ((b.size : Nat) : Int), Value.int .i64 ((c.size : Nat) : Int)]) :: F) (fun _ h => h) ?_
  refine Wl.q (v := Value.bool false) (q_neq (r := true) rfl rfl (decide_eq_true (by decide))) ?_
  refine Wl.done ?_
  refine Wx.go ?_
  refine Wc.no rfl ?_
  refine Wc.skip ?_
  refine Wx.go ?_
  refine Wc.seq ?_
  refine Wc.region ?_
  refine Wl.q (v := Value.pointer (some ⟨pp, 0, none⟩)) (q_move rfl) ?_
  refine Wl.e (e_call (F := (isJ j0 pp ⟨jt, jq, jd⟩) :: (pt b1 3 [Value.int .i64 ((a.size : Nat) : Int), Value.int .i64 ((b.size : Nat) : Int), Value.int .i64 ((c.size : Nat) : Int)]) :: F) (args := [Value.pointer (some ⟨pp, 0, none⟩)]) Try.call12 rfl (open_ok W0 pp (⟨S2, [], false, k2, none⟩ : DS) (Ok.wf ok2) (by show 1 ≤ (S2).length; omega) (by show 0 < 1099511627776; decide) (openD_up ok2))) (fun j1 _ => ?_)
  refine Wl.imp (L' := (isJ j1 pp ⟨t2, q2, false⟩) :: (isDisk pp (⟨S2, [], false, k2, none⟩ : DS)) :: (isJ j0 pp ⟨jt, jq, jd⟩) :: (pt b1 3 [Value.int .i64 ((a.size : Nat) : Int), Value.int .i64 ((b.size : Nat) : Int), Value.int .i64 ((c.size : Nat) : Int)]) :: F) (fun _ h => h) ?_
  refine Wl.q (v := Value.tuple #[Value.pointer (some ⟨j1, 0, none⟩), Value.int .i64 0]) (q_move rfl) ?_
  refine Wl.q (v := Value.pointer (some ⟨j1, 0, none⟩)) (q_extract (i := 0) rfl rfl) ?_
  refine Wl.q (v := Value.int .i64 0) (q_extract (i := 1) rfl rfl) ?_
  refine Wl.q (v := Value.pointer (some ⟨j1, 0, none⟩)) (q_assign rfl) ?_
  refine Wl.q (v := Value.int .i64 0) (q_assign rfl) ?_
  refine Wl.done ?_
  refine Wx.go ?_
  refine Wc.seq ?_
  refine Wc.seq ?_
  refine Wc.region ?_
  refine Wl.q (v := Value.int .i64 0) (q_move rfl) ?_
  refine Wl.q (v := Value.bool false) (q_neq (r := true) rfl rfl (decide_eq_true (by decide))) ?_
  refine Wl.q (v := Value.bool false) (q_move rfl) ?_
  refine Wl.q (v := Value.pointer (some ⟨j1, 0, none⟩)) (q_move rfl) ?_
  refine Wl.q (v := Value.bool false) (q_eql_nil (r := false) rfl rfl Try.underlying22 rfl) ?_
  refine Wl.q (v := Value.bool false) (q_pick (t := false) rfl rfl) ?_
  refine Wl.done ?_
  refine Wx.go ?_
  refine Wc.no rfl ?_
  refine Wc.skip ?_
  refine Wx.go ?_
  refine Wc.seq ?_
  refine Wc.region ?_
  refine Wl.q (v := Value.pointer (some ⟨j1, 0, none⟩)) (q_move rfl) ?_
  refine Wl.e (e_call (F := (isDisk pp (⟨S2, [], false, k2, none⟩ : DS)) :: (isJ j0 pp ⟨jt, jq, jd⟩) :: (pt b1 3 [Value.int .i64 ((a.size : Nat) : Int), Value.int .i64 ((b.size : Nat) : Int), Value.int .i64 ((c.size : Nat) : Int)]) :: F) (args := [Value.pointer (some ⟨j1, 0, none⟩)]) Try.call10 rfl (seq_in W0 j1 pp t2 q2 false)) (fun _ _ => ?_)
  refine Wl.imp (L' := (isJ j1 pp ⟨t2, q2, false⟩) :: (isDisk pp (⟨S2, [], false, k2, none⟩ : DS)) :: (isJ j0 pp ⟨jt, jq, jd⟩) :: (pt b1 3 [Value.int .i64 ((a.size : Nat) : Int), Value.int .i64 ((b.size : Nat) : Int), Value.int .i64 ((c.size : Nat) : Int)]) :: F) (fun _ h => h) ?_
  refine Wl.q (v := Value.int .i64 q2) (q_assign rfl) ?_
  refine Wl.done ?_
  refine Wx.go ?_
  refine Wc.seq ?_
  refine Wc.seq ?_
  refine Wc.region ?_
  refine Wl.q (v := Value.pointer (some ⟨j1, 0, none⟩)) (q_move rfl) ?_
  refine Wl.q (v := Value.string c) (q_move rfl) ?_
  refine Wl.e (e_call (F := (isJ j0 pp ⟨jt, jq, jd⟩) :: (pt b1 3 [Value.int .i64 ((a.size : Nat) : Int), Value.int .i64 ((b.size : Nat) : Int), Value.int .i64 ((c.size : Nat) : Int)]) :: F) (args := [Value.pointer (some ⟨j1, 0, none⟩), Value.string c]) Try.call9 rfl (Con.eqs (val' := fun _ => Value.int .i64 5) (post' := fun _ => [isJ j1 pp ⟨t2, q2, false⟩, isDisk pp (⟨S2, [], false, k2, none⟩ : DS)]) (Put_c W0 j1 pp (⟨t2, q2, false⟩ : JS) (⟨S2, [], false, k2, none⟩ : DS) c (ok2.wf) (by show 1 ≤ (S2).length; omega) (by show 0 < 1000000000000; decide) (by show k2 < 4000000000000000000; omega) (by show 0 ≤ (q2 : Int); omega) (by show (q2 : Int) < 9223372036854775807; omega)) (fun _ => by rw [hp3]) (fun _ => by rw [hp3]))) (fun _ _ => ?_)
  refine Wl.imp (L' := (isJ j1 pp ⟨t2, q2, false⟩) :: (isDisk pp (⟨S2, [], false, k2, none⟩ : DS)) :: (isJ j0 pp ⟨jt, jq, jd⟩) :: (pt b1 3 [Value.int .i64 ((a.size : Nat) : Int), Value.int .i64 ((b.size : Nat) : Int), Value.int .i64 ((c.size : Nat) : Int)]) :: F) (fun _ h => h) ?_
  refine Wl.q (v := Value.bool true) (q_neq (r := false) rfl rfl (decide_eq_false (by decide))) ?_
  refine Wl.done ?_
  refine Wx.go ?_
  refine Wc.yes rfl ?_
  refine Wc.seq ?_
  refine Wc.region ?_
  refine Wl.q (v := Value.string c) (q_move rfl) ?_
  refine Wl.q (v := Value.int .i64 ((c.size : Nat) : Int)) (q_len_str Try.underlying9 rfl) ?_
  refine Wl.q (v := Value.pointer (some ⟨j1, 0, none⟩)) (q_move rfl) ?_
  refine Wl.e (e_call (F := (isJ j0 pp ⟨jt, jq, jd⟩) :: (pt b1 3 [Value.int .i64 ((a.size : Nat) : Int), Value.int .i64 ((b.size : Nat) : Int), Value.int .i64 ((c.size : Nat) : Int)]) :: F) (args := [Value.pointer (some ⟨j1, 0, none⟩)]) Try.call11 rfl (Con.eqs (val' := fun _ => Value.int .i64 ((half S2 * 64 : Nat) : Int)) (post' := fun _ => [isJ j1 pp ⟨t2, q2, false⟩, isDisk pp (⟨S2, [], false, k2, none⟩ : DS)]) (room_in W0 j1 pp t2 q2 (⟨S2, [], false, k2, none⟩ : DS) false (by show 1 ≤ (S2).length; omega) (by show (S2).length ≤ 4096; omega)) (fun _ => rfl) (fun _ => rfl))) (fun _ _ => ?_)
  refine Wl.imp (L' := (isJ j1 pp ⟨t2, q2, false⟩) :: (isDisk pp (⟨S2, [], false, k2, none⟩ : DS)) :: (isJ j0 pp ⟨jt, jq, jd⟩) :: (pt b1 3 [Value.int .i64 ((a.size : Nat) : Int), Value.int .i64 ((b.size : Nat) : Int), Value.int .i64 ((c.size : Nat) : Int)]) :: F) (fun _ h => h) ?_
  refine Wl.q (v := Value.bool true) (q_gtr (r := true) rfl rfl (decide_eq_true (by rw [hh2]; omega))) ?_
  refine Wl.q (v := Value.bool true) (q_move rfl) ?_
  refine Wl.e (e_call (F := (isJ j1 pp ⟨t2, q2, false⟩) :: (isDisk pp (⟨S2, [], false, k2, none⟩ : DS)) :: (isJ j0 pp ⟨jt, jq, jd⟩) :: (pt b1 3 [Value.int .i64 ((a.size : Nat) : Int), Value.int .i64 ((b.size : Nat) : Int), Value.int .i64 ((c.size : Nat) : Int)]) :: F) (args := []) Try.call13 rfl (alive_c W0)) (fun _ _ => ?_)
  refine Wl.imp (L' := (isJ j1 pp ⟨t2, q2, false⟩) :: (isDisk pp (⟨S2, [], false, k2, none⟩ : DS)) :: (isJ j0 pp ⟨jt, jq, jd⟩) :: (pt b1 3 [Value.int .i64 ((a.size : Nat) : Int), Value.int .i64 ((b.size : Nat) : Int), Value.int .i64 ((c.size : Nat) : Int)]) :: F) (fun _ h => h) ?_
  refine Wl.q (v := Value.bool true) (q_pick (t := true) rfl rfl) ?_
  refine Wl.q (v := Value.bool true) (q_assign rfl) ?_
  refine Wl.done ?_
  refine Wx.go ?_
  refine Wc.ret ?_
  refine Wx.thenRet ?_
  refine Wx.fin1 rfl (.inl rfl) (fun w hs => ?_)
  exact ⟨(), trivial, rfl, (st_drop (st_drop (st_drop (st_drop (st_pull [0, 0, 0, 0] hs)))))⟩

set_option maxHeartbeats 4000000 in
theorem goes_in_true (W0 : World) (a b c : ByteArray) (n : Int) (hhi : n ≤ 9223372036854775807) (bits : Int) (hn : ¬ n < 0) (hb0 : beyondB [((a.size : Nat) : Int), ((b.size : Nat) : Int), ((c.size : Nat) : Int)] = false) (ok0 : Ok (List.replicate 64 noughts) ByteArray.empty 0) (e1 : Int) (S1 : List ByteArray) (k1 : Nat) (t1 : ByteArray) (q1 : Int) (hl1 : S1.length = 64) (ok1 : Ok S1 t1 q1) (hk1 : k1 ≤ 0 + nPieces a + 3) (hq1 : q1 ≤ 0 + 1) (hp1 : (JS.mk ByteArray.empty 0 false).put (DS.new 64) a = (e1, (⟨S1, [], false, k1, none⟩ : DS), ⟨t1, q1, false⟩)) (e2 : Int) (S2 : List ByteArray) (k2 : Nat) (t2 : ByteArray) (q2 : Int) (c2 : Option (Nat × Int)) (jt : ByteArray) (jq : Int) (jd : Bool) (hl2 : S2.length = 64) (ok2 : Ok S2 t2 q2) (hk2 : k2 ≤ k1 + nPieces b + 3) (hq2 : q2 ≤ q1 + 1) (hw2 : WF (⟨S2, [], true, k2, c2⟩ : DS)) (hp2 : (JS.mk t1 q1 false).put (⟨S1, [], false, k1, some (n.toNat, bits)⟩ : DS) b = (e2, (⟨S2, [], true, k2, c2⟩ : DS), ⟨jt, jq, jd⟩)) (hc2 : c2 = none) (S3 : List ByteArray) (k3 : Nat) (hl3 : S3.length = S2.length) (ok3 : Ok S3 c (q2 + 1)) (hp3 : (JS.mk t2 q2 false).put (⟨S2, [], false, k2, none⟩ : DS) c = (0, (⟨S3, [], false, k3, none⟩ : DS), ⟨c, q2 + 1, false⟩)) :
    Con Try.prog W0 6 #[Value.string a, Value.string b, Value.string c, Value.int .i64 n, Value.int .i64 bits] [] (X := Unit) (fun _ => True) (fun _ => .bool true) (fun _ => []) := by
  refine Con.of (args := [Value.string a, Value.string b, Value.string c, Value.int .i64 n, Value.int .i64 bits]) Try.func6 rfl Try.ntmps6 rfl (fun F => ?_)
  subst hc2
  have hr : (List.replicate 64 noughts).length = 64 := List.length_replicate
  obtain ⟨hla, hlb, hlc⟩ := beyond_three hb0
  have hna := few a hla
  have hnb := few b hlb
  have hnc := few c hlc
  have hnt : n.toNat ≤ 9223372036854775807 := by omega
  have hg1 := ok1.rng
  have hg2 := ok2.rng
  have hh2 : half S2 = 31 := half_64 hl2
  show Wc _ W0 _ _ _ _ _ (F)
  refine Wc.seq ?_
  refine Wc.region ?_
  refine Wl.q (v := Value.bool false) (q_assign rfl) ?_
  refine Wl.done ?_
  refine Wx.go ?_
  refine Wc.seq ?_
  refine Wc.region ?_
  refine Wl.e (e_call (F := F) (args := [Value.int .i64 64]) Try.call16 rfl (new_ok W0 64 (by omega) (by omega))) (fun pp _ => ?_)
  refine Wl.imp (L' := (isDisk pp (DS.new 64)) :: F) (fun _ h => h) ?_
  refine Wl.q (v := Value.tuple #[Value.pointer (some ⟨pp, 0, none⟩), Value.int .i64 0]) (q_move rfl) ?_
  refine Wl.q (v := Value.pointer (some ⟨pp, 0, none⟩)) (q_extract (i := 0) rfl rfl) ?_
  refine Wl.q (v := Value.int .i64 0) (q_extract (i := 1) rfl rfl) ?_
  refine Wl.q (v := Value.pointer (some ⟨pp, 0, none⟩)) (q_assign rfl) ?_
  refine Wl.q (v := Value.int .i64 0) (q_assign rfl) ?_
  refine Wl.done ?_
  refine Wx.go ?_
  refine Wc.seq ?_
  refine Wc.seq ?_
  refine Wc.region ?_
  refine Wl.q (v := Value.int .i64 0) (q_move rfl) ?_
  refine Wl.q (v := Value.bool false) (q_neq (r := true) rfl rfl (decide_eq_true (by decide))) ?_
  refine Wl.q (v := Value.bool false) (q_move rfl) ?_
  refine Wl.q (v := Value.string a) (q_move rfl) ?_
  refine Wl.q (v := Value.int .i64 ((a.size : Nat) : Int)) (q_len_str Try.underlying9 rfl) ?_
  refine Wl.q (v := Value.string b) (q_move rfl) ?_
  refine Wl.q (v := Value.int .i64 ((b.size : Nat) : Int)) (q_len_str Try.underlying9 rfl) ?_
  refine Wl.q (v := Value.string c) (q_move rfl) ?_
  refine Wl.q (v := Value.int .i64 ((c.size : Nat) : Int)) (q_len_str Try.underlying9 rfl) ?_
  refine Wl.e (e_buildSlice (cs := [Value.int .i64 ((a.size : Nat) : Int), Value.int .i64 ((b.size : Nat) : Int), Value.int .i64 ((c.size : Nat) : Int)]) se_72 zo_3 (by decide) (by decide) (by kernel_rfl)) (fun b1 _ => ?_)
  refine Wl.imp (L' := (pt b1 3 [Value.int .i64 ((a.size : Nat) : Int), Value.int .i64 ((b.size : Nat) : Int), Value.int .i64 ((c.size : Nat) : Int)]) :: (isDisk pp (DS.new 64)) :: F) (fun _ h => h) ?_
  refine Wl.e (e_call (F := (isDisk pp (DS.new 64)) :: F) (args := [Value.slice (some ⟨b1, 0, none⟩) 3 3]) Try.call20 rfl (Con.eqs (val' := fun _ => Value.bool false) (post' := fun _ => [pt b1 3 [Value.int .i64 ((a.size : Nat) : Int), Value.int .i64 ((b.size : Nat) : Int), Value.int .i64 ((c.size : Nat) : Int)]]) (beyond_c W0 b1 ([((a.size : Nat) : Int), ((b.size : Nat) : Int), ((c.size : Nat) : Int)] : List Int) (by simp) (by simp; omega)) (fun _ => congrArg Value.bool hb0) (fun _ => rfl))) (fun _ _ => ?_)
  refine Wl.imp (L' := (pt b1 3 [Value.int .i64 ((a.size : Nat) : Int), Value.int .i64 ((b.size : Nat) : Int), Value.int .i64 ((c.size : Nat) : Int)]) :: (isDisk pp (DS.new 64)) :: F) (fun _ h => h) ?_
  refine Wl.q (v := Value.bool false) (q_pick (t := false) rfl rfl) ?_
  refine Wl.q (v := Value.bool false) (q_move rfl) ?_
  refine Wl.q (v := Value.int .i64 n) (q_move rfl) ?_
  refine Wl.q (v := Value.bool false) (q_lss (r := false) rfl rfl (decide_eq_false (hn))) ?_
  refine Wl.q (v := Value.bool false) (q_pick (t := false) rfl rfl) ?_
  refine Wl.done ?_
  refine Wx.go ?_
  refine Wc.no rfl ?_
  refine Wc.skip ?_
  refine Wx.go ?_
  refine Wc.seq ?_
  refine Wc.region ?_
  refine Wl.q (v := Value.pointer (some ⟨pp, 0, none⟩)) (q_move rfl) ?_
  refine Wl.imp (L' := (isDisk pp (DS.new 64)) :: (pt b1 3 [Value.int .i64 ((a.size : Nat) : Int), Value.int .i64 ((b.size : Nat) : Int), Value.int .i64 ((c.size : Nat) : Int)]) :: F) (fun _ h => st_pull [1] h) ?_
  refine Wl.e (e_call (F := (pt b1 3 [Value.int .i64 ((a.size : Nat) : Int), Value.int .i64 ((b.size : Nat) : Int), Value.int .i64 ((c.size : Nat) : Int)]) :: F) (args := [Value.pointer (some ⟨pp, 0, none⟩)]) Try.call12 rfl (open_ok W0 pp (DS.new 64) (Ok.wf ok0) (by show 1 ≤ ((List.replicate 64 noughts)).length; omega) (by show 0 < 1099511627776; decide) (openD_up ok0))) (fun j0 _ => ?_)
  refine Wl.imp (L' := (isJ j0 pp ⟨ByteArray.empty, 0, false⟩) :: (isDisk pp (DS.new 64)) :: (pt b1 3 [Value.int .i64 ((a.size : Nat) : Int), Value.int .i64 ((b.size : Nat) : Int), Value.int .i64 ((c.size : Nat) : Int)]) :: F) (fun _ h => h) ?_
  refine Wl.q (v := Value.tuple #[Value.pointer (some ⟨j0, 0, none⟩), Value.int .i64 0]) (q_move rfl) ?_
  refine Wl.q (v := Value.pointer (some ⟨j0, 0, none⟩)) (q_extract (i := 0) rfl rfl) ?_
  refine Wl.q (v := Value.int .i64 0) (q_extract (i := 1) rfl rfl) ?_
  refine Wl.q (v := Value.pointer (some ⟨j0, 0, none⟩)) (q_assign rfl) ?_
  refine Wl.q (v := Value.int .i64 0) (q_assign rfl) ?_
  refine Wl.done ?_
  refine Wx.go ?_
  refine Wc.seq ?_
  refine Wc.seq ?_
  refine Wc.region ?_
  refine Wl.q (v := Value.int .i64 0) (q_move rfl) ?_
  refine Wl.q (v := Value.bool false) (q_neq (r := true) rfl rfl (decide_eq_true (by decide))) ?_
  refine Wl.q (v := Value.bool false) (q_move rfl) ?_
  refine Wl.q (v := Value.pointer (some ⟨j0, 0, none⟩)) (q_move rfl) ?_
  refine Wl.q (v := Value.bool false) (q_eql_nil (r := false) rfl rfl Try.underlying22 rfl) ?_
  refine Wl.q (v := Value.bool false) (q_pick (t := false) rfl rfl) ?_
  refine Wl.done ?_
  refine Wx.go ?_
  refine Wc.no rfl ?_
  refine Wc.skip ?_
  refine Wx.go ?_
  refine Wc.seq ?_
  refine Wc.region ?_
  refine Wl.q (v := Value.pointer (some ⟨j0, 0, none⟩)) (q_move rfl) ?_
  refine Wl.q (v := Value.string a) (q_move rfl) ?_
  refine Wl.e (e_call (F := (pt b1 3 [Value.int .i64 ((a.size : Nat) : Int), Value.int .i64 ((b.size : Nat) : Int), Value.int .i64 ((c.size : Nat) : Int)]) :: F) (args := [Value.pointer (some ⟨j0, 0, none⟩), Value.string a]) Try.call9 rfl (Con.eqs (val' := fun _ => Value.int .i64 e1) (post' := fun _ => [isJ j0 pp ⟨t1, q1, false⟩, isDisk pp (⟨S1, [], false, k1, none⟩ : DS)]) (Put_c W0 j0 pp (⟨ByteArray.empty, 0, false⟩ : JS) (DS.new 64) a (ok0.wf) (by show 1 ≤ ((List.replicate 64 noughts)).length; omega) (by show 0 < 1000000000000; decide) (by show 0 < 4000000000000000000; omega) (by show 0 ≤ (0 : Int); omega) (by show (0 : Int) < 9223372036854775807; omega)) (fun _ => by rw [hp1]) (fun _ => by rw [hp1]))) (fun _ _ => ?_)
  refine Wl.imp (L' := (isJ j0 pp ⟨t1, q1, false⟩) :: (isDisk pp (⟨S1, [], false, k1, none⟩ : DS)) :: (pt b1 3 [Value.int .i64 ((a.size : Nat) : Int), Value.int .i64 ((b.size : Nat) : Int), Value.int .i64 ((c.size : Nat) : Int)]) :: F) (fun _ h => h) ?_
  refine Wl.done ?_
  refine Wx.go ?_
  refine Wc.seq ?_
  refine Wc.region ?_
  refine Wl.q (v := Value.pointer (some ⟨pp, 0, none⟩)) (q_move rfl) ?_
  refine Wl.q (v := Value.int .i64 n) (q_move rfl) ?_
  refine Wl.q (v := Value.int .i64 bits) (q_move rfl) ?_
  refine Wl.imp (L' := (isDisk pp (⟨S1, [], false, k1, none⟩ : DS)) :: (isJ j0 pp ⟨t1, q1, false⟩) :: (pt b1 3 [Value.int .i64 ((a.size : Nat) : Int), Value.int .i64 ((b.size : Nat) : Int), Value.int .i64 ((c.size : Nat) : Int)]) :: F) (fun _ h => st_pull [1] h) ?_
  refine Wl.e (e_call (F := (isJ j0 pp ⟨t1, q1, false⟩) :: (pt b1 3 [Value.int .i64 ((a.size : Nat) : Int), Value.int .i64 ((b.size : Nat) : Int), Value.int .i64 ((c.size : Nat) : Int)]) :: F) (args := [Value.pointer (some ⟨pp, 0, none⟩), Value.int .i64 n, Value.int .i64 bits]) Try.call21 rfl (Con.eqs (val' := fun _ => Value.int .i64 0) (post' := fun _ => [isDisk pp (⟨S1, [], false, k1, some (n.toNat, bits)⟩ : DS)]) (cut_c W0 pp (⟨S1, [], false, k1, none⟩ : DS) n bits) (fun _ => (by rw [cut_ok hn])) (fun _ => (by rw [cut_ok hn])))) (fun _ _ => ?_)
  refine Wl.imp (L' := (isDisk pp (⟨S1, [], false, k1, some (n.toNat, bits)⟩ : DS)) :: (isJ j0 pp ⟨t1, q1, false⟩) :: (pt b1 3 [Value.int .i64 ((a.size : Nat) : Int), Value.int .i64 ((b.size : Nat) : Int), Value.int .i64 ((c.size : Nat) : Int)]) :: F) (fun _ h => h) ?_
  refine Wl.done ?_
  refine Wx.go ?_
  refine Wc.seq ?_
  refine Wc.region ?_
  refine Wl.q (v := Value.pointer (some ⟨j0, 0, none⟩)) (q_move rfl) ?_
  refine Wl.q (v := Value.string b) (q_move rfl) ?_
  refine Wl.imp (L' := (isJ j0 pp ⟨t1, q1, false⟩) :: (isDisk pp (⟨S1, [], false, k1, some (n.toNat, bits)⟩ : DS)) :: (pt b1 3 [Value.int .i64 ((a.size : Nat) : Int), Value.int .i64 ((b.size : Nat) : Int), Value.int .i64 ((c.size : Nat) : Int)]) :: F) (fun _ h => st_pull [1, 0] h) ?_
  refine Wl.e (e_call (F := (pt b1 3 [Value.int .i64 ((a.size : Nat) : Int), Value.int .i64 ((b.size : Nat) : Int), Value.int .i64 ((c.size : Nat) : Int)]) :: F) (args := [Value.pointer (some ⟨j0, 0, none⟩), Value.string b]) Try.call9 rfl (Con.eqs (val' := fun _ => Value.int .i64 e2) (post' := fun _ => [isJ j0 pp ⟨jt, jq, jd⟩, isDisk pp (⟨S2, [], true, k2, none⟩ : DS)]) (Put_c W0 j0 pp (⟨t1, q1, false⟩ : JS) (⟨S1, [], false, k1, some (n.toNat, bits)⟩ : DS) b (Ok.wfc ok1 hnt) (by show 1 ≤ (S1).length; omega) (by show 0 < 1000000000000; decide) (by show k1 < 4000000000000000000; omega) (by show 0 ≤ (q1 : Int); omega) (by show (q1 : Int) < 9223372036854775807; omega)) (fun _ => by rw [hp2]) (fun _ => by rw [hp2]))) (fun _ _ => ?_)
  refine Wl.imp (L' := (isJ j0 pp ⟨jt, jq, jd⟩) :: (isDisk pp (⟨S2, [], true, k2, none⟩ : DS)) :: (pt b1 3 [Value.int .i64 ((a.size : Nat) : Int), Value.int .i64 ((b.size : Nat) : Int), Value.int .i64 ((c.size : Nat) : Int)]) :: F) (fun _ h => h) ?_
  refine Wl.done ?_
  refine Wx.go ?_
  refine Wc.seq ?_
  refine Wc.seq ?_
  refine Wc.region ?_
  refine Wl.q (v := Value.pointer (some ⟨pp, 0, none⟩)) (q_move rfl) ?_
  refine Wl.imp (L' := (isDisk pp (⟨S2, [], true, k2, none⟩ : DS)) :: (isJ j0 pp ⟨jt, jq, jd⟩) :: (pt b1 3 [Value.int .i64 ((a.size : Nat) : Int), Value.int .i64 ((b.size : Nat) : Int), Value.int .i64 ((c.size : Nat) : Int)]) :: F) (fun _ h => st_pull [1] h) ?_
  refine Wl.e (e_call (F := (isJ j0 pp ⟨jt, jq, jd⟩) :: (pt b1 3 [Value.int .i64 ((a.size : Nat) : Int), Value.int .i64 ((b.size : Nat) : Int), Value.int .i64 ((c.size : Nat) : Int)]) :: F) (args := [Value.pointer (some ⟨pp, 0, none⟩)]) Try.call24 rfl (Con.eqs (val' := fun _ => Value.bool false) (post' := fun _ => [isDisk pp (⟨S2, [], true, k2, none⟩ : DS)]) (up_c W0 pp (⟨S2, [], true, k2, none⟩ : DS) ) (fun _ => rfl) (fun _ => rfl))) (fun _ _ => ?_)
  refine Wl.imp (L' := (isDisk pp (⟨S2, [], true, k2, none⟩ : DS)) :: (isJ j0 pp ⟨jt, jq, jd⟩) :: (pt b1 3 [Value.int .i64 ((a.size : Nat) : Int), Value.int .i64 ((b.size : Nat) : Int), Value.int .i64 ((c.size : Nat) : Int)]) :: F) (fun _ h => h) ?_
  refine Wl.done ?_
  refine Wx.go ?_
  refine Wc.no rfl ?_
  refine Wc.skip ?_
  refine Wx.go ?_
  refine Wc.seq ?_
  refine Wc.seq ?_
  refine Wc.region ?_
  refine Wl.q (v := Value.pointer (some ⟨pp, 0, none⟩)) (q_move rfl) ?_
  refine Wl.e (e_call (F := (isJ j0 pp ⟨jt, jq, jd⟩) :: (pt b1 3 [Value.int .i64 ((a.size : Nat) : Int), Value.int .i64 ((b.size : Nat) : Int), Value.int .i64 ((c.size : Nat) : Int)]) :: F) (args := [Value.pointer (some ⟨pp, 0, none⟩)]) Try.call23 rfl (Con.eqs (val' := fun _ => Value.int .i64 0) (post' := fun _ => [isDisk pp (⟨S2, [], false, k2, none⟩ : DS)]) (start_c W0 pp (⟨S2, [], true, k2, none⟩ : DS) ) (fun _ => rfl) (fun _ => rfl))) (fun _ _ => ?_)
  refine Wl.imp (L' := (isDisk pp (⟨S2, [], false, k2, none⟩ : DS)) :: (isJ j0 pp ⟨jt, jq, jd⟩) :: (pt b1 3 [Value.int .i64 ((a.size : Nat) : Int), Value.int .i64 ((b.size : Nat) : Int), Value.int .i64 ((c.size : Nat) : Int)]) :: F) (fun _ h => h) ?_
  refine Wl.q (v := Value.bool false) (q_neq (r := true) rfl rfl (decide_eq_true (by decide))) ?_
  refine Wl.done ?_
  refine Wx.go ?_
  refine Wc.no rfl ?_
  refine Wc.skip ?_
  refine Wx.go ?_
  refine Wc.seq ?_
  refine Wc.region ?_
  refine Wl.q (v := Value.pointer (some ⟨pp, 0, none⟩)) (q_move rfl) ?_
  refine Wl.e (e_call (F := (isJ j0 pp ⟨jt, jq, jd⟩) :: (pt b1 3 [Value.int .i64 ((a.size : Nat) : Int), Value.int .i64 ((b.size : Nat) : Int), Value.int .i64 ((c.size : Nat) : Int)]) :: F) (args := [Value.pointer (some ⟨pp, 0, none⟩)]) Try.call12 rfl (open_ok W0 pp (⟨S2, [], false, k2, none⟩ : DS) (Ok.wf ok2) (by show 1 ≤ (S2).length; omega) (by show 0 < 1099511627776; decide) (openD_up ok2))) (fun j1 _ => ?_)
  refine Wl.imp (L' := (isJ j1 pp ⟨t2, q2, false⟩) :: (isDisk pp (⟨S2, [], false, k2, none⟩ : DS)) :: (isJ j0 pp ⟨jt, jq, jd⟩) :: (pt b1 3 [Value.int .i64 ((a.size : Nat) : Int), Value.int .i64 ((b.size : Nat) : Int), Value.int .i64 ((c.size : Nat) : Int)]) :: F) (fun _ h => h) ?_
  refine Wl.q (v := Value.tuple #[Value.pointer (some ⟨j1, 0, none⟩), Value.int .i64 0]) (q_move rfl) ?_
  refine Wl.q (v := Value.pointer (some ⟨j1, 0, none⟩)) (q_extract (i := 0) rfl rfl) ?_
  refine Wl.q (v := Value.int .i64 0) (q_extract (i := 1) rfl rfl) ?_
  refine Wl.q (v := Value.pointer (some ⟨j1, 0, none⟩)) (q_assign rfl) ?_
  refine Wl.q (v := Value.int .i64 0) (q_assign rfl) ?_
  refine Wl.done ?_
  refine Wx.go ?_
  refine Wc.seq ?_
  refine Wc.seq ?_
  refine Wc.region ?_
  refine Wl.q (v := Value.int .i64 0) (q_move rfl) ?_
  refine Wl.q (v := Value.bool false) (q_neq (r := true) rfl rfl (decide_eq_true (by decide))) ?_
  refine Wl.q (v := Value.bool false) (q_move rfl) ?_
  refine Wl.q (v := Value.pointer (some ⟨j1, 0, none⟩)) (q_move rfl) ?_
  refine Wl.q (v := Value.bool false) (q_eql_nil (r := false) rfl rfl Try.underlying22 rfl) ?_
  refine Wl.q (v := Value.bool false) (q_pick (t := false) rfl rfl) ?_
  refine Wl.done ?_
  refine Wx.go ?_
  refine Wc.no rfl ?_
  refine Wc.skip ?_
  refine Wx.go ?_
  refine Wc.seq ?_
  refine Wc.region ?_
  refine Wl.q (v := Value.pointer (some ⟨j1, 0, none⟩)) (q_move rfl) ?_
  refine Wl.e (e_call (F := (isDisk pp (⟨S2, [], false, k2, none⟩ : DS)) :: (isJ j0 pp ⟨jt, jq, jd⟩) :: (pt b1 3 [Value.int .i64 ((a.size : Nat) : Int), Value.int .i64 ((b.size : Nat) : Int), Value.int .i64 ((c.size : Nat) : Int)]) :: F) (args := [Value.pointer (some ⟨j1, 0, none⟩)]) Try.call10 rfl (seq_in W0 j1 pp t2 q2 false)) (fun _ _ => ?_)
  refine Wl.imp (L' := (isJ j1 pp ⟨t2, q2, false⟩) :: (isDisk pp (⟨S2, [], false, k2, none⟩ : DS)) :: (isJ j0 pp ⟨jt, jq, jd⟩) :: (pt b1 3 [Value.int .i64 ((a.size : Nat) : Int), Value.int .i64 ((b.size : Nat) : Int), Value.int .i64 ((c.size : Nat) : Int)]) :: F) (fun _ h => h) ?_
  refine Wl.q (v := Value.int .i64 q2) (q_assign rfl) ?_
  refine Wl.done ?_
  refine Wx.go ?_
  refine Wc.seq ?_
  refine Wc.seq ?_
  refine Wc.region ?_
  refine Wl.q (v := Value.pointer (some ⟨j1, 0, none⟩)) (q_move rfl) ?_
  refine Wl.q (v := Value.string c) (q_move rfl) ?_
  refine Wl.e (e_call (F := (isJ j0 pp ⟨jt, jq, jd⟩) :: (pt b1 3 [Value.int .i64 ((a.size : Nat) : Int), Value.int .i64 ((b.size : Nat) : Int), Value.int .i64 ((c.size : Nat) : Int)]) :: F) (args := [Value.pointer (some ⟨j1, 0, none⟩), Value.string c]) Try.call9 rfl (Con.eqs (val' := fun _ => Value.int .i64 0) (post' := fun _ => [isJ j1 pp ⟨c, (q2 + 1), false⟩, isDisk pp (⟨S3, [], false, k3, none⟩ : DS)]) (Put_c W0 j1 pp (⟨t2, q2, false⟩ : JS) (⟨S2, [], false, k2, none⟩ : DS) c (ok2.wf) (by show 1 ≤ (S2).length; omega) (by show 0 < 1000000000000; decide) (by show k2 < 4000000000000000000; omega) (by show 0 ≤ (q2 : Int); omega) (by show (q2 : Int) < 9223372036854775807; omega)) (fun _ => by rw [hp3]) (fun _ => by rw [hp3]))) (fun _ _ => ?_)
  refine Wl.imp (L' := (isJ j1 pp ⟨c, (q2 + 1), false⟩) :: (isDisk pp (⟨S3, [], false, k3, none⟩ : DS)) :: (isJ j0 pp ⟨jt, jq, jd⟩) :: (pt b1 3 [Value.int .i64 ((a.size : Nat) : Int), Value.int .i64 ((b.size : Nat) : Int), Value.int .i64 ((c.size : Nat) : Int)]) :: F) (fun _ h => h) ?_
  refine Wl.q (v := Value.bool false) (q_neq (r := true) rfl rfl (decide_eq_true (by decide))) ?_
  refine Wl.done ?_
  refine Wx.go ?_
  refine Wc.no rfl ?_
  refine Wc.skip ?_
  refine Wx.go ?_
  refine Wc.seq ?_
  refine Wc.region ?_
  refine Wl.q (v := Value.pointer (some ⟨j1, 0, none⟩)) (q_move rfl) ?_
  refine Wl.e (e_call (F := (isJ j0 pp ⟨jt, jq, jd⟩) :: (pt b1 3 [Value.int .i64 ((a.size : Nat) : Int), Value.int .i64 ((b.size : Nat) : Int), Value.int .i64 ((c.size : Nat) : Int)]) :: F) (args := [Value.pointer (some ⟨j1, 0, none⟩)]) Try.call8 rfl (get_on W0 j1 pp c (q2 + 1) (⟨S3, [], false, k3, none⟩ : DS) rfl)) (fun _ _ => ?_)
  refine Wl.imp (L' := (isJ j1 pp ⟨c, (q2 + 1), false⟩) :: (isDisk pp (⟨S3, [], false, k3, none⟩ : DS)) :: (isJ j0 pp ⟨jt, jq, jd⟩) :: (pt b1 3 [Value.int .i64 ((a.size : Nat) : Int), Value.int .i64 ((b.size : Nat) : Int), Value.int .i64 ((c.size : Nat) : Int)]) :: F) (fun _ h => h) ?_
  refine Wl.q (v := Value.tuple #[Value.string c, Value.int .i64 0]) (q_move rfl) ?_
  refine Wl.q (v := Value.string c) (q_extract (i := 0) rfl rfl) ?_
  refine Wl.q (v := Value.int .i64 0) (q_extract (i := 1) rfl rfl) ?_
  refine Wl.q (v := Value.string c) (q_assign rfl) ?_
  refine Wl.q (v := Value.int .i64 0) (q_assign rfl) ?_
  refine Wl.done ?_
  refine Wx.go ?_
  refine Wc.seq ?_
  refine Wc.region ?_
  refine Wl.q (v := Value.pointer (some ⟨pp, 0, none⟩)) (q_move rfl) ?_
  refine Wl.imp (L' := (isDisk pp (⟨S3, [], false, k3, none⟩ : DS)) :: (isJ j1 pp ⟨c, (q2 + 1), false⟩) :: (isJ j0 pp ⟨jt, jq, jd⟩) :: (pt b1 3 [Value.int .i64 ((a.size : Nat) : Int), Value.int .i64 ((b.size : Nat) : Int), Value.int .i64 ((c.size : Nat) : Int)]) :: F) (fun _ h => st_pull [1] h) ?_
  refine Wl.e (e_call (F := (isJ j1 pp ⟨c, (q2 + 1), false⟩) :: (isJ j0 pp ⟨jt, jq, jd⟩) :: (pt b1 3 [Value.int .i64 ((a.size : Nat) : Int), Value.int .i64 ((b.size : Nat) : Int), Value.int .i64 ((c.size : Nat) : Int)]) :: F) (args := [Value.pointer (some ⟨pp, 0, none⟩)]) Try.call12 rfl (open_ok W0 pp (⟨S3, [], false, k3, none⟩ : DS) (Ok.wf ok3) (by show 1 ≤ (S3).length; omega) (by show 0 < 1099511627776; decide) (openD_up ok3))) (fun j2 _ => ?_)
  refine Wl.imp (L' := (isJ j2 pp ⟨c, (q2 + 1), false⟩) :: (isDisk pp (⟨S3, [], false, k3, none⟩ : DS)) :: (isJ j1 pp ⟨c, (q2 + 1), false⟩) :: (isJ j0 pp ⟨jt, jq, jd⟩) :: (pt b1 3 [Value.int .i64 ((a.size : Nat) : Int), Value.int .i64 ((b.size : Nat) : Int), Value.int .i64 ((c.size : Nat) : Int)]) :: F) (fun _ h => h) ?_
  refine Wl.q (v := Value.tuple #[Value.pointer (some ⟨j2, 0, none⟩), Value.int .i64 0]) (q_move rfl) ?_
  refine Wl.q (v := Value.pointer (some ⟨j2, 0, none⟩)) (q_extract (i := 0) rfl rfl) ?_
  refine Wl.q (v := Value.int .i64 0) (q_extract (i := 1) rfl rfl) ?_
  refine Wl.q (v := Value.pointer (some ⟨j2, 0, none⟩)) (q_assign rfl) ?_
  refine Wl.q (v := Value.int .i64 0) (q_assign rfl) ?_
  refine Wl.done ?_
  refine Wx.go ?_
  refine Wc.seq ?_
  refine Wc.seq ?_
  refine Wc.region ?_
  refine Wl.q (v := Value.int .i64 0) (q_move rfl) ?_
  refine Wl.q (v := Value.bool false) (q_neq (r := true) rfl rfl (decide_eq_true (by decide))) ?_
  refine Wl.q (v := Value.bool false) (q_move rfl) ?_
  refine Wl.q (v := Value.pointer (some ⟨j2, 0, none⟩)) (q_move rfl) ?_
  refine Wl.q (v := Value.bool false) (q_eql_nil (r := false) rfl rfl Try.underlying22 rfl) ?_
  refine Wl.q (v := Value.bool false) (q_pick (t := false) rfl rfl) ?_
  refine Wl.done ?_
  refine Wx.go ?_
  refine Wc.no rfl ?_
  refine Wc.skip ?_
  refine Wx.go ?_
  refine Wc.seq ?_
  refine Wc.region ?_
  refine Wl.q (v := Value.pointer (some ⟨j2, 0, none⟩)) (q_move rfl) ?_
  refine Wl.e (e_call (F := (isJ j1 pp ⟨c, (q2 + 1), false⟩) :: (isJ j0 pp ⟨jt, jq, jd⟩) :: (pt b1 3 [Value.int .i64 ((a.size : Nat) : Int), Value.int .i64 ((b.size : Nat) : Int), Value.int .i64 ((c.size : Nat) : Int)]) :: F) (args := [Value.pointer (some ⟨j2, 0, none⟩)]) Try.call8 rfl (get_on W0 j2 pp c (q2 + 1) (⟨S3, [], false, k3, none⟩ : DS) rfl)) (fun _ _ => ?_)
  refine Wl.imp (L' := (isJ j2 pp ⟨c, (q2 + 1), false⟩) :: (isDisk pp (⟨S3, [], false, k3, none⟩ : DS)) :: (isJ j1 pp ⟨c, (q2 + 1), false⟩) :: (isJ j0 pp ⟨jt, jq, jd⟩) :: (pt b1 3 [Value.int .i64 ((a.size : Nat) : Int), Value.int .i64 ((b.size : Nat) : Int), Value.int .i64 ((c.size : Nat) : Int)]) :: F) (fun _ h => h) ?_
  refine Wl.q (v := Value.tuple #[Value.string c, Value.int .i64 0]) (q_move rfl) ?_
  refine Wl.q (v := Value.string c) (q_extract (i := 0) rfl rfl) ?_
  refine Wl.q (v := Value.int .i64 0) (q_extract (i := 1) rfl rfl) ?_
  refine Wl.q (v := Value.string c) (q_assign rfl) ?_
  refine Wl.q (v := Value.int .i64 0) (q_assign rfl) ?_
  refine Wl.done ?_
  refine Wx.go ?_
  refine Wc.seq ?_
  refine Wc.region ?_
  refine Wl.q (v := Value.int .i64 0) (q_move rfl) ?_
  refine Wl.q (v := Value.bool true) (q_eql (r := true) rfl rfl (decide_eq_true (by decide))) ?_
  refine Wl.q (v := Value.bool true) (q_move rfl) ?_
  refine Wl.q (v := Value.int .i64 0) (q_move rfl) ?_
  refine Wl.q (v := Value.bool true) (q_eql (r := true) rfl rfl (decide_eq_true (by decide))) ?_
  refine Wl.q (v := Value.bool true) (q_pick (t := true) rfl rfl) ?_
  refine Wl.q (v := Value.bool true) (q_move rfl) ?_
  refine Wl.q (v := Value.string c) (q_move rfl) ?_
  refine Wl.q (v := Value.string c) (q_move rfl) ?_
  refine Wl.q (v := Value.bool true) (q_eql_str (r := true) rfl rfl (text_true (rfl))) ?_
  refine Wl.q (v := Value.bool true) (q_pick (t := true) rfl rfl) ?_
  refine Wl.q (v := Value.bool true) (q_move rfl) ?_
  refine Wl.q (v := Value.string c) (q_move rfl) ?_
  refine Wl.q (v := Value.string c) (q_move rfl) ?_
  refine Wl.q (v := Value.bool true) (q_eql_str (r := true) rfl rfl (text_true (rfl))) ?_
  refine Wl.q (v := Value.bool true) (q_pick (t := true) rfl rfl) ?_
  refine Wl.q (v := Value.bool true) (q_move rfl) ?_
  refine Wl.q (v := Value.pointer (some ⟨j2, 0, none⟩)) (q_move rfl) ?_
  refine Wl.e (e_call (F := (isDisk pp (⟨S3, [], false, k3, none⟩ : DS)) :: (isJ j1 pp ⟨c, (q2 + 1), false⟩) :: (isJ j0 pp ⟨jt, jq, jd⟩) :: (pt b1 3 [Value.int .i64 ((a.size : Nat) : Int), Value.int .i64 ((b.size : Nat) : Int), Value.int .i64 ((c.size : Nat) : Int)]) :: F) (args := [Value.pointer (some ⟨j2, 0, none⟩)]) Try.call10 rfl (seq_in W0 j2 pp c (q2 + 1) false)) (fun _ _ => ?_)
  refine Wl.imp (L' := (isJ j2 pp ⟨c, (q2 + 1), false⟩) :: (isDisk pp (⟨S3, [], false, k3, none⟩ : DS)) :: (isJ j1 pp ⟨c, (q2 + 1), false⟩) :: (isJ j0 pp ⟨jt, jq, jd⟩) :: (pt b1 3 [Value.int .i64 ((a.size : Nat) : Int), Value.int .i64 ((b.size : Nat) : Int), Value.int .i64 ((c.size : Nat) : Int)]) :: F) (fun _ h => h) ?_
  refine Wl.q (v := Value.int .i64 q2) (q_move rfl) ?_
  refine Wl.q (v := Value.int .i64 (q2 + 1)) (q_add (c := (q2 + 1)) rfl rfl (wrap_i64 (by omega) (by omega))) ?_
  refine Wl.q (v := Value.bool true) (q_eql (r := true) rfl rfl (decide_eq_true (rfl))) ?_
  refine Wl.q (v := Value.bool true) (q_pick (t := true) rfl rfl) ?_
  refine Wl.q (v := Value.bool true) (q_move rfl) ?_
  refine Wl.e (e_call (F := (isJ j2 pp ⟨c, (q2 + 1), false⟩) :: (isDisk pp (⟨S3, [], false, k3, none⟩ : DS)) :: (isJ j1 pp ⟨c, (q2 + 1), false⟩) :: (isJ j0 pp ⟨jt, jq, jd⟩) :: (pt b1 3 [Value.int .i64 ((a.size : Nat) : Int), Value.int .i64 ((b.size : Nat) : Int), Value.int .i64 ((c.size : Nat) : Int)]) :: F) (args := []) Try.call13 rfl (alive_c W0)) (fun _ _ => ?_)
  refine Wl.imp (L' := (isJ j2 pp ⟨c, (q2 + 1), false⟩) :: (isDisk pp (⟨S3, [], false, k3, none⟩ : DS)) :: (isJ j1 pp ⟨c, (q2 + 1), false⟩) :: (isJ j0 pp ⟨jt, jq, jd⟩) :: (pt b1 3 [Value.int .i64 ((a.size : Nat) : Int), Value.int .i64 ((b.size : Nat) : Int), Value.int .i64 ((c.size : Nat) : Int)]) :: F) (fun _ h => h) ?_
  refine Wl.q (v := Value.bool true) (q_pick (t := true) rfl rfl) ?_
  refine Wl.q (v := Value.bool true) (q_assign rfl) ?_
  refine Wl.done ?_
  refine Wx.go ?_
  refine Wc.ret ?_
  refine Wx.fin1 rfl (.inl rfl) (fun w hs => ?_)
  exact ⟨(), trivial, rfl, (st_drop (st_drop (st_drop (st_drop (st_drop (st_pull [0, 0, 0, 0, 0] hs))))))⟩

set_option maxHeartbeats 4000000 in
theorem goes_big_false (W0 : World) (a b c : ByteArray) (n : Int) (hhi : n ≤ 9223372036854775807) (bits : Int) (hn : ¬ n < 0) (hb0 : beyondB [((a.size : Nat) : Int), ((b.size : Nat) : Int), ((c.size : Nat) : Int)] = false) (ok0 : Ok (List.replicate 64 noughts) ByteArray.empty 0) (e1 : Int) (S1 : List ByteArray) (k1 : Nat) (t1 : ByteArray) (q1 : Int) (hl1 : S1.length = 64) (ok1 : Ok S1 t1 q1) (hk1 : k1 ≤ 0 + nPieces a + 3) (hq1 : q1 ≤ 0 + 1) (hp1 : (JS.mk ByteArray.empty 0 false).put (DS.new 64) a = (e1, (⟨S1, [], false, k1, none⟩ : DS), ⟨t1, q1, false⟩)) (e2 : Int) (S2 : List ByteArray) (k2 : Nat) (t2 : ByteArray) (q2 : Int) (c2 : Option (Nat × Int)) (jt : ByteArray) (jq : Int) (jd : Bool) (hl2 : S2.length = 64) (ok2 : Ok S2 t2 q2) (hk2 : k2 ≤ k1 + nPieces b + 3) (hq2 : q2 ≤ q1 + 1) (hw2 : WF (⟨S2, [], false, k2, c2⟩ : DS)) (hp2 : (JS.mk t1 q1 false).put (⟨S1, [], false, k1, some (n.toNat, bits)⟩ : DS) b = (e2, (⟨S2, [], false, k2, c2⟩ : DS), ⟨jt, jq, jd⟩)) (hc : 1984 < c.size) (hp3 : (JS.mk t2 q2 false).put (⟨S2, [], false, k2, none⟩ : DS) c = (5, (⟨S2, [], false, k2, none⟩ : DS), ⟨t2, q2, false⟩)) :
    Con Try.prog W0 6 #[Value.string a, Value.string b, Value.string c, Value.int .i64 n, Value.int .i64 bits] [] (X := Unit) (fun _ => True) (fun _ => .bool true) (fun _ => []) := by
  refine Con.of (args := [Value.string a, Value.string b, Value.string c, Value.int .i64 n, Value.int .i64 bits]) Try.func6 rfl Try.ntmps6 rfl (fun F => ?_)
  have hr : (List.replicate 64 noughts).length = 64 := List.length_replicate
  obtain ⟨hla, hlb, hlc⟩ := beyond_three hb0
  have hna := few a hla
  have hnb := few b hlb
  have hnc := few c hlc
  have hnt : n.toNat ≤ 9223372036854775807 := by omega
  have hg1 := ok1.rng
  have hg2 := ok2.rng
  have hh2 : half S2 = 31 := half_64 hl2
  show Wc _ W0 _ _ _ _ _ (F)
  refine Wc.seq ?_
  refine Wc.region ?_
  refine Wl.q (v := Value.bool false) (q_assign rfl) ?_
  refine Wl.done ?_
  refine Wx.go ?_
  refine Wc.seq ?_
  refine Wc.region ?_
  refine Wl.e (e_call (F := F) (args := [Value.int .i64 64]) Try.call16 rfl (new_ok W0 64 (by omega) (by omega))) (fun pp _ => ?_)
  refine Wl.imp (L' := (isDisk pp (DS.new 64)) :: F) (fun _ h => h) ?_
  refine Wl.q (v := Value.tuple #[Value.pointer (some ⟨pp, 0, none⟩), Value.int .i64 0]) (q_move rfl) ?_
  refine Wl.q (v := Value.pointer (some ⟨pp, 0, none⟩)) (q_extract (i := 0) rfl rfl) ?_
  refine Wl.q (v := Value.int .i64 0) (q_extract (i := 1) rfl rfl) ?_
  refine Wl.q (v := Value.pointer (some ⟨pp, 0, none⟩)) (q_assign rfl) ?_
  refine Wl.q (v := Value.int .i64 0) (q_assign rfl) ?_
  refine Wl.done ?_
  refine Wx.go ?_
  refine Wc.seq ?_
  refine Wc.seq ?_
  refine Wc.region ?_
  refine Wl.q (v := Value.int .i64 0) (q_move rfl) ?_
  refine Wl.q (v := Value.bool false) (q_neq (r := true) rfl rfl (decide_eq_true (by decide))) ?_
  refine Wl.q (v := Value.bool false) (q_move rfl) ?_
  refine Wl.q (v := Value.string a) (q_move rfl) ?_
  refine Wl.q (v := Value.int .i64 ((a.size : Nat) : Int)) (q_len_str Try.underlying9 rfl) ?_
  refine Wl.q (v := Value.string b) (q_move rfl) ?_
  refine Wl.q (v := Value.int .i64 ((b.size : Nat) : Int)) (q_len_str Try.underlying9 rfl) ?_
  refine Wl.q (v := Value.string c) (q_move rfl) ?_
  refine Wl.q (v := Value.int .i64 ((c.size : Nat) : Int)) (q_len_str Try.underlying9 rfl) ?_
  refine Wl.e (e_buildSlice (cs := [Value.int .i64 ((a.size : Nat) : Int), Value.int .i64 ((b.size : Nat) : Int), Value.int .i64 ((c.size : Nat) : Int)]) se_72 zo_3 (by decide) (by decide) (by kernel_rfl)) (fun b1 _ => ?_)
  refine Wl.imp (L' := (pt b1 3 [Value.int .i64 ((a.size : Nat) : Int), Value.int .i64 ((b.size : Nat) : Int), Value.int .i64 ((c.size : Nat) : Int)]) :: (isDisk pp (DS.new 64)) :: F) (fun _ h => h) ?_
  refine Wl.e (e_call (F := (isDisk pp (DS.new 64)) :: F) (args := [Value.slice (some ⟨b1, 0, none⟩) 3 3]) Try.call20 rfl (Con.eqs (val' := fun _ => Value.bool false) (post' := fun _ => [pt b1 3 [Value.int .i64 ((a.size : Nat) : Int), Value.int .i64 ((b.size : Nat) : Int), Value.int .i64 ((c.size : Nat) : Int)]]) (beyond_c W0 b1 ([((a.size : Nat) : Int), ((b.size : Nat) : Int), ((c.size : Nat) : Int)] : List Int) (by simp) (by simp; omega)) (fun _ => congrArg Value.bool hb0) (fun _ => rfl))) (fun _ _ => ?_)
  refine Wl.imp (L' := (pt b1 3 [Value.int .i64 ((a.size : Nat) : Int), Value.int .i64 ((b.size : Nat) : Int), Value.int .i64 ((c.size : Nat) : Int)]) :: (isDisk pp (DS.new 64)) :: F) (fun _ h => h) ?_
  refine Wl.q (v := Value.bool false) (q_pick (t := false) rfl rfl) ?_
  refine Wl.q (v := Value.bool false) (q_move rfl) ?_
  refine Wl.q (v := Value.int .i64 n) (q_move rfl) ?_
  refine Wl.q (v := Value.bool false) (q_lss (r := false) rfl rfl (decide_eq_false (hn))) ?_
  refine Wl.q (v := Value.bool false) (q_pick (t := false) rfl rfl) ?_
  refine Wl.done ?_
  refine Wx.go ?_
  refine Wc.no rfl ?_
  refine Wc.skip ?_
  refine Wx.go ?_
  refine Wc.seq ?_
  refine Wc.region ?_
  refine Wl.q (v := Value.pointer (some ⟨pp, 0, none⟩)) (q_move rfl) ?_
  refine Wl.imp (L' := (isDisk pp (DS.new 64)) :: (pt b1 3 [Value.int .i64 ((a.size : Nat) : Int), Value.int .i64 ((b.size : Nat) : Int), Value.int .i64 ((c.size : Nat) : Int)]) :: F) (fun _ h => st_pull [1] h) ?_
  refine Wl.e (e_call (F := (pt b1 3 [Value.int .i64 ((a.size : Nat) : Int), Value.int .i64 ((b.size : Nat) : Int), Value.int .i64 ((c.size : Nat) : Int)]) :: F) (args := [Value.pointer (some ⟨pp, 0, none⟩)]) Try.call12 rfl (open_ok W0 pp (DS.new 64) (Ok.wf ok0) (by show 1 ≤ ((List.replicate 64 noughts)).length; omega) (by show 0 < 1099511627776; decide) (openD_up ok0))) (fun j0 _ => ?_)
  refine Wl.imp (L' := (isJ j0 pp ⟨ByteArray.empty, 0, false⟩) :: (isDisk pp (DS.new 64)) :: (pt b1 3 [Value.int .i64 ((a.size : Nat) : Int), Value.int .i64 ((b.size : Nat) : Int), Value.int .i64 ((c.size : Nat) : Int)]) :: F) (fun _ h => h) ?_
  refine Wl.q (v := Value.tuple #[Value.pointer (some ⟨j0, 0, none⟩), Value.int .i64 0]) (q_move rfl) ?_
  refine Wl.q (v := Value.pointer (some ⟨j0, 0, none⟩)) (q_extract (i := 0) rfl rfl) ?_
  refine Wl.q (v := Value.int .i64 0) (q_extract (i := 1) rfl rfl) ?_
  refine Wl.q (v := Value.pointer (some ⟨j0, 0, none⟩)) (q_assign rfl) ?_
  refine Wl.q (v := Value.int .i64 0) (q_assign rfl) ?_
  refine Wl.done ?_
  refine Wx.go ?_
  refine Wc.seq ?_
  refine Wc.seq ?_
  refine Wc.region ?_
  refine Wl.q (v := Value.int .i64 0) (q_move rfl) ?_
  refine Wl.q (v := Value.bool false) (q_neq (r := true) rfl rfl (decide_eq_true (by decide))) ?_
  refine Wl.q (v := Value.bool false) (q_move rfl) ?_
  refine Wl.q (v := Value.pointer (some ⟨j0, 0, none⟩)) (q_move rfl) ?_
  refine Wl.q (v := Value.bool false) (q_eql_nil (r := false) rfl rfl Try.underlying22 rfl) ?_
  refine Wl.q (v := Value.bool false) (q_pick (t := false) rfl rfl) ?_
  refine Wl.done ?_
  refine Wx.go ?_
  refine Wc.no rfl ?_
  refine Wc.skip ?_
  refine Wx.go ?_
  refine Wc.seq ?_
  refine Wc.region ?_
  refine Wl.q (v := Value.pointer (some ⟨j0, 0, none⟩)) (q_move rfl) ?_
  refine Wl.q (v := Value.string a) (q_move rfl) ?_
  refine Wl.e (e_call (F := (pt b1 3 [Value.int .i64 ((a.size : Nat) : Int), Value.int .i64 ((b.size : Nat) : Int), Value.int .i64 ((c.size : Nat) : Int)]) :: F) (args := [Value.pointer (some ⟨j0, 0, none⟩), Value.string a]) Try.call9 rfl (Con.eqs (val' := fun _ => Value.int .i64 e1) (post' := fun _ => [isJ j0 pp ⟨t1, q1, false⟩, isDisk pp (⟨S1, [], false, k1, none⟩ : DS)]) (Put_c W0 j0 pp (⟨ByteArray.empty, 0, false⟩ : JS) (DS.new 64) a (ok0.wf) (by show 1 ≤ ((List.replicate 64 noughts)).length; omega) (by show 0 < 1000000000000; decide) (by show 0 < 4000000000000000000; omega) (by show 0 ≤ (0 : Int); omega) (by show (0 : Int) < 9223372036854775807; omega)) (fun _ => by rw [hp1]) (fun _ => by rw [hp1]))) (fun _ _ => ?_)
  refine Wl.imp (L' := (isJ j0 pp ⟨t1, q1, false⟩) :: (isDisk pp (⟨S1, [], false, k1, none⟩ : DS)) :: (pt b1 3 [Value.int .i64 ((a.size : Nat) : Int), Value.int .i64 ((b.size : Nat) : Int), Value.int .i64 ((c.size : Nat) : Int)]) :: F) (fun _ h => h) ?_
  refine Wl.done ?_
  refine Wx.go ?_
  refine Wc.seq ?_
  refine Wc.region ?_
  refine Wl.q (v := Value.pointer (some ⟨pp, 0, none⟩)) (q_move rfl) ?_
  refine Wl.q (v := Value.int .i64 n) (q_move rfl) ?_
  refine Wl.q (v := Value.int .i64 bits) (q_move rfl) ?_
  refine Wl.imp (L' := (isDisk pp (⟨S1, [], false, k1, none⟩ : DS)) :: (isJ j0 pp ⟨t1, q1, false⟩) :: (pt b1 3 [Value.int .i64 ((a.size : Nat) : Int), Value.int .i64 ((b.size : Nat) : Int), Value.int .i64 ((c.size : Nat) : Int)]) :: F) (fun _ h => st_pull [1] h) ?_
  refine Wl.e (e_call (F := (isJ j0 pp ⟨t1, q1, false⟩) :: (pt b1 3 [Value.int .i64 ((a.size : Nat) : Int), Value.int .i64 ((b.size : Nat) : Int), Value.int .i64 ((c.size : Nat) : Int)]) :: F) (args := [Value.pointer (some ⟨pp, 0, none⟩), Value.int .i64 n, Value.int .i64 bits]) Try.call21 rfl (Con.eqs (val' := fun _ => Value.int .i64 0) (post' := fun _ => [isDisk pp (⟨S1, [], false, k1, some (n.toNat, bits)⟩ : DS)]) (cut_c W0 pp (⟨S1, [], false, k1, none⟩ : DS) n bits) (fun _ => (by rw [cut_ok hn])) (fun _ => (by rw [cut_ok hn])))) (fun _ _ => ?_)
  refine Wl.imp (L' := (isDisk pp (⟨S1, [], false, k1, some (n.toNat, bits)⟩ : DS)) :: (isJ j0 pp ⟨t1, q1, false⟩) :: (pt b1 3 [Value.int .i64 ((a.size : Nat) : Int), Value.int .i64 ((b.size : Nat) : Int), Value.int .i64 ((c.size : Nat) : Int)]) :: F) (fun _ h => h) ?_
  refine Wl.done ?_
  refine Wx.go ?_
  refine Wc.seq ?_
  refine Wc.region ?_
  refine Wl.q (v := Value.pointer (some ⟨j0, 0, none⟩)) (q_move rfl) ?_
  refine Wl.q (v := Value.string b) (q_move rfl) ?_
  refine Wl.imp (L' := (isJ j0 pp ⟨t1, q1, false⟩) :: (isDisk pp (⟨S1, [], false, k1, some (n.toNat, bits)⟩ : DS)) :: (pt b1 3 [Value.int .i64 ((a.size : Nat) : Int), Value.int .i64 ((b.size : Nat) : Int), Value.int .i64 ((c.size : Nat) : Int)]) :: F) (fun _ h => st_pull [1, 0] h) ?_
  refine Wl.e (e_call (F := (pt b1 3 [Value.int .i64 ((a.size : Nat) : Int), Value.int .i64 ((b.size : Nat) : Int), Value.int .i64 ((c.size : Nat) : Int)]) :: F) (args := [Value.pointer (some ⟨j0, 0, none⟩), Value.string b]) Try.call9 rfl (Con.eqs (val' := fun _ => Value.int .i64 e2) (post' := fun _ => [isJ j0 pp ⟨jt, jq, jd⟩, isDisk pp (⟨S2, [], false, k2, c2⟩ : DS)]) (Put_c W0 j0 pp (⟨t1, q1, false⟩ : JS) (⟨S1, [], false, k1, some (n.toNat, bits)⟩ : DS) b (Ok.wfc ok1 hnt) (by show 1 ≤ (S1).length; omega) (by show 0 < 1000000000000; decide) (by show k1 < 4000000000000000000; omega) (by show 0 ≤ (q1 : Int); omega) (by show (q1 : Int) < 9223372036854775807; omega)) (fun _ => by rw [hp2]) (fun _ => by rw [hp2]))) (fun _ _ => ?_)
  refine Wl.imp (L' := (isJ j0 pp ⟨jt, jq, jd⟩) :: (isDisk pp (⟨S2, [], false, k2, c2⟩ : DS)) :: (pt b1 3 [Value.int .i64 ((a.size : Nat) : Int), Value.int .i64 ((b.size : Nat) : Int), Value.int .i64 ((c.size : Nat) : Int)]) :: F) (fun _ h => h) ?_
  refine Wl.done ?_
  refine Wx.go ?_
  refine Wc.seq ?_
  refine Wc.seq ?_
  refine Wc.region ?_
  refine Wl.q (v := Value.pointer (some ⟨pp, 0, none⟩)) (q_move rfl) ?_
  refine Wl.imp (L' := (isDisk pp (⟨S2, [], false, k2, c2⟩ : DS)) :: (isJ j0 pp ⟨jt, jq, jd⟩) :: (pt b1 3 [Value.int .i64 ((a.size : Nat) : Int), Value.int .i64 ((b.size : Nat) : Int), Value.int .i64 ((c.size : Nat) : Int)]) :: F) (fun _ h => st_pull [1] h) ?_
  refine Wl.e (e_call (F := (isJ j0 pp ⟨jt, jq, jd⟩) :: (pt b1 3 [Value.int .i64 ((a.size : Nat) : Int), Value.int .i64 ((b.size : Nat) : Int), Value.int .i64 ((c.size : Nat) : Int)]) :: F) (args := [Value.pointer (some ⟨pp, 0, none⟩)]) Try.call24 rfl (Con.eqs (val' := fun _ => Value.bool true) (post' := fun _ => [isDisk pp (⟨S2, [], false, k2, c2⟩ : DS)]) (up_c W0 pp (⟨S2, [], false, k2, c2⟩ : DS) ) (fun _ => rfl) (fun _ => rfl))) (fun _ _ => ?_)
  refine Wl.imp (L' := (isDisk pp (⟨S2, [], false, k2, c2⟩ : DS)) :: (isJ j0 pp ⟨jt, jq, jd⟩) :: (pt b1 3 [Value.int .i64 ((a.size : Nat) : Int), Value.int .i64 ((b.size : Nat) : Int), Value.int .i64 ((c.size : Nat) : Int)]) :: F) (fun _ h => h) ?_
  refine Wl.done ?_
  refine Wx.go ?_
  refine Wc.yes rfl ?_
  refine Wc.region ?_
  refine Wl.q (v := Value.pointer (some ⟨pp, 0, none⟩)) (q_move rfl) ?_
  refine Wl.q (v := Value.int .i64 bits) (q_move rfl) ?_
  refine Wl.e (e_call (F := (isJ j0 pp ⟨jt, jq, jd⟩) :: (pt b1 3 [Value.int .i64 ((a.size : Nat) : Int), Value.int .i64 ((b.size : Nat) : Int), Value.int .i64 ((c.size : Nat) : Int)]) :: F) (args := [Value.pointer (some ⟨pp, 0, none⟩), Value.int .i64 bits]) Try.call22 rfl (Con.eqs (val' := fun _ => Value.int .i64 0) (post' := fun _ => [isDisk pp (⟨S2, [], true, k2, none⟩ : DS)]) (crash_c W0 pp (⟨S2, [], false, k2, c2⟩ : DS) bits hw2) (fun _ => rfl) (fun _ => rfl))) (fun _ _ => ?_)
  refine Wl.imp (L' := (isDisk pp (⟨S2, [], true, k2, none⟩ : DS)) :: (isJ j0 pp ⟨jt, jq, jd⟩) :: (pt b1 3 [Value.int .i64 ((a.size : Nat) : Int), Value.int .i64 ((b.size : Nat) : Int), Value.int .i64 ((c.size : Nat) : Int)]) :: F) (fun _ h => h) ?_
  refine Wl.done ?_
  refine Wx.go ?_
  refine Wc.seq ?_
  refine Wc.seq ?_
  refine Wc.region ?_
  refine Wl.q (v := Value.pointer (some ⟨pp, 0, none⟩)) (q_move rfl) ?_
  refine Wl.e (e_call (F := (isJ j0 pp ⟨jt, jq, jd⟩) :: (pt b1 3 [Value.int .i64 ((a.size : Nat) : Int), Value.int .i64 ((b.size : Nat) : Int), Value.int .i64 ((c.size : Nat) : Int)]) :: F) (args := [Value.pointer (some ⟨pp, 0, none⟩)]) Try.call23 rfl (Con.eqs (val' := fun _ => Value.int .i64 0) (post' := fun _ => [isDisk pp (⟨S2, [], false, k2, none⟩ : DS)]) (start_c W0 pp (⟨S2, [], true, k2, none⟩ : DS) ) (fun _ => rfl) (fun _ => rfl))) (fun _ _ => ?_)
  refine Wl.imp (L' := (isDisk pp (⟨S2, [], false, k2, none⟩ : DS)) :: (isJ j0 pp ⟨jt, jq, jd⟩) :: (pt b1 3 [Value.int .i64 ((a.size : Nat) : Int), Value.int .i64 ((b.size : Nat) : Int), Value.int .i64 ((c.size : Nat) : Int)]) :: F) (fun _ h => h) ?_
  refine Wl.q (v := Value.bool false) (q_neq (r := true) rfl rfl (decide_eq_true (by decide))) ?_
  refine Wl.done ?_
  refine Wx.go ?_
  refine Wc.no rfl ?_
  refine Wc.skip ?_
  refine Wx.go ?_
  refine Wc.seq ?_
  refine Wc.region ?_
  refine Wl.q (v := Value.pointer (some ⟨pp, 0, none⟩)) (q_move rfl) ?_
  refine Wl.e (e_call (F := (isJ j0 pp ⟨jt, jq, jd⟩) :: (pt b1 3 [Value.int .i64 ((a.size : Nat) : Int), Value.int .i64 ((b.size : Nat) : Int), Value.int .i64 ((c.size : Nat) : Int)]) :: F) (args := [Value.pointer (some ⟨pp, 0, none⟩)]) Try.call12 rfl (open_ok W0 pp (⟨S2, [], false, k2, none⟩ : DS) (Ok.wf ok2) (by show 1 ≤ (S2).length; omega) (by show 0 < 1099511627776; decide) (openD_up ok2))) (fun j1 _ => ?_)
  refine Wl.imp (L' := (isJ j1 pp ⟨t2, q2, false⟩) :: (isDisk pp (⟨S2, [], false, k2, none⟩ : DS)) :: (isJ j0 pp ⟨jt, jq, jd⟩) :: (pt b1 3 [Value.int .i64 ((a.size : Nat) : Int), Value.int .i64 ((b.size : Nat) : Int), Value.int .i64 ((c.size : Nat) : Int)]) :: F) (fun _ h => h) ?_
  refine Wl.q (v := Value.tuple #[Value.pointer (some ⟨j1, 0, none⟩), Value.int .i64 0]) (q_move rfl) ?_
  refine Wl.q (v := Value.pointer (some ⟨j1, 0, none⟩)) (q_extract (i := 0) rfl rfl) ?_
  refine Wl.q (v := Value.int .i64 0) (q_extract (i := 1) rfl rfl) ?_
  refine Wl.q (v := Value.pointer (some ⟨j1, 0, none⟩)) (q_assign rfl) ?_
  refine Wl.q (v := Value.int .i64 0) (q_assign rfl) ?_
  refine Wl.done ?_
  refine Wx.go ?_
  refine Wc.seq ?_
  refine Wc.seq ?_
  refine Wc.region ?_
  refine Wl.q (v := Value.int .i64 0) (q_move rfl) ?_
  refine Wl.q (v := Value.bool false) (q_neq (r := true) rfl rfl (decide_eq_true (by decide))) ?_
  refine Wl.q (v := Value.bool false) (q_move rfl) ?_
  refine Wl.q (v := Value.pointer (some ⟨j1, 0, none⟩)) (q_move rfl) ?_
  refine Wl.q (v := Value.bool false) (q_eql_nil (r := false) rfl rfl Try.underlying22 rfl) ?_
  refine Wl.q (v := Value.bool false) (q_pick (t := false) rfl rfl) ?_
  refine Wl.done ?_
  refine Wx.go ?_
  refine Wc.no rfl ?_
  refine Wc.skip ?_
  refine Wx.go ?_
  refine Wc.seq ?_
  refine Wc.region ?_
  refine Wl.q (v := Value.pointer (some ⟨j1, 0, none⟩)) (q_move rfl) ?_
  refine Wl.e (e_call (F := (isDisk pp (⟨S2, [], false, k2, none⟩ : DS)) :: (isJ j0 pp ⟨jt, jq, jd⟩) :: (pt b1 3 [Value.int .i64 ((a.size : Nat) : Int), Value.int .i64 ((b.size : Nat) : Int), Value.int .i64 ((c.size : Nat) : Int)]) :: F) (args := [Value.pointer (some ⟨j1, 0, none⟩)]) Try.call10 rfl (seq_in W0 j1 pp t2 q2 false)) (fun _ _ => ?_)
  refine Wl.imp (L' := (isJ j1 pp ⟨t2, q2, false⟩) :: (isDisk pp (⟨S2, [], false, k2, none⟩ : DS)) :: (isJ j0 pp ⟨jt, jq, jd⟩) :: (pt b1 3 [Value.int .i64 ((a.size : Nat) : Int), Value.int .i64 ((b.size : Nat) : Int), Value.int .i64 ((c.size : Nat) : Int)]) :: F) (fun _ h => h) ?_
  refine Wl.q (v := Value.int .i64 q2) (q_assign rfl) ?_
  refine Wl.done ?_
  refine Wx.go ?_
  refine Wc.seq ?_
  refine Wc.seq ?_
  refine Wc.region ?_
  refine Wl.q (v := Value.pointer (some ⟨j1, 0, none⟩)) (q_move rfl) ?_
  refine Wl.q (v := Value.string c) (q_move rfl) ?_
  refine Wl.e (e_call (F := (isJ j0 pp ⟨jt, jq, jd⟩) :: (pt b1 3 [Value.int .i64 ((a.size : Nat) : Int), Value.int .i64 ((b.size : Nat) : Int), Value.int .i64 ((c.size : Nat) : Int)]) :: F) (args := [Value.pointer (some ⟨j1, 0, none⟩), Value.string c]) Try.call9 rfl (Con.eqs (val' := fun _ => Value.int .i64 5) (post' := fun _ => [isJ j1 pp ⟨t2, q2, false⟩, isDisk pp (⟨S2, [], false, k2, none⟩ : DS)]) (Put_c W0 j1 pp (⟨t2, q2, false⟩ : JS) (⟨S2, [], false, k2, none⟩ : DS) c (ok2.wf) (by show 1 ≤ (S2).length; omega) (by show 0 < 1000000000000; decide) (by show k2 < 4000000000000000000; omega) (by show 0 ≤ (q2 : Int); omega) (by show (q2 : Int) < 9223372036854775807; omega)) (fun _ => by rw [hp3]) (fun _ => by rw [hp3]))) (fun _ _ => ?_)
  refine Wl.imp (L' := (isJ j1 pp ⟨t2, q2, false⟩) :: (isDisk pp (⟨S2, [], false, k2, none⟩ : DS)) :: (isJ j0 pp ⟨jt, jq, jd⟩) :: (pt b1 3 [Value.int .i64 ((a.size : Nat) : Int), Value.int .i64 ((b.size : Nat) : Int), Value.int .i64 ((c.size : Nat) : Int)]) :: F) (fun _ h => h) ?_
  refine Wl.q (v := Value.bool true) (q_neq (r := false) rfl rfl (decide_eq_false (by decide))) ?_
  refine Wl.done ?_
  refine Wx.go ?_
  refine Wc.yes rfl ?_
  refine Wc.seq ?_
  refine Wc.region ?_
  refine Wl.q (v := Value.string c) (q_move rfl) ?_
  refine Wl.q (v := Value.int .i64 ((c.size : Nat) : Int)) (q_len_str Try.underlying9 rfl) ?_
  refine Wl.q (v := Value.pointer (some ⟨j1, 0, none⟩)) (q_move rfl) ?_
  refine Wl.e (e_call (F := (isJ j0 pp ⟨jt, jq, jd⟩) :: (pt b1 3 [Value.int .i64 ((a.size : Nat) : Int), Value.int .i64 ((b.size : Nat) : Int), Value.int .i64 ((c.size : Nat) : Int)]) :: F) (args := [Value.pointer (some ⟨j1, 0, none⟩)]) Try.call11 rfl (Con.eqs (val' := fun _ => Value.int .i64 ((half S2 * 64 : Nat) : Int)) (post' := fun _ => [isJ j1 pp ⟨t2, q2, false⟩, isDisk pp (⟨S2, [], false, k2, none⟩ : DS)]) (room_in W0 j1 pp t2 q2 (⟨S2, [], false, k2, none⟩ : DS) false (by show 1 ≤ (S2).length; omega) (by show (S2).length ≤ 4096; omega)) (fun _ => rfl) (fun _ => rfl))) (fun _ _ => ?_)
  refine Wl.imp (L' := (isJ j1 pp ⟨t2, q2, false⟩) :: (isDisk pp (⟨S2, [], false, k2, none⟩ : DS)) :: (isJ j0 pp ⟨jt, jq, jd⟩) :: (pt b1 3 [Value.int .i64 ((a.size : Nat) : Int), Value.int .i64 ((b.size : Nat) : Int), Value.int .i64 ((c.size : Nat) : Int)]) :: F) (fun _ h => h) ?_
  refine Wl.q (v := Value.bool true) (q_gtr (r := true) rfl rfl (decide_eq_true (by rw [hh2]; omega))) ?_
  refine Wl.q (v := Value.bool true) (q_move rfl) ?_
  refine Wl.e (e_call (F := (isJ j1 pp ⟨t2, q2, false⟩) :: (isDisk pp (⟨S2, [], false, k2, none⟩ : DS)) :: (isJ j0 pp ⟨jt, jq, jd⟩) :: (pt b1 3 [Value.int .i64 ((a.size : Nat) : Int), Value.int .i64 ((b.size : Nat) : Int), Value.int .i64 ((c.size : Nat) : Int)]) :: F) (args := []) Try.call13 rfl (alive_c W0)) (fun _ _ => ?_)
  refine Wl.imp (L' := (isJ j1 pp ⟨t2, q2, false⟩) :: (isDisk pp (⟨S2, [], false, k2, none⟩ : DS)) :: (isJ j0 pp ⟨jt, jq, jd⟩) :: (pt b1 3 [Value.int .i64 ((a.size : Nat) : Int), Value.int .i64 ((b.size : Nat) : Int), Value.int .i64 ((c.size : Nat) : Int)]) :: F) (fun _ h => h) ?_
  refine Wl.q (v := Value.bool true) (q_pick (t := true) rfl rfl) ?_
  refine Wl.q (v := Value.bool true) (q_assign rfl) ?_
  refine Wl.done ?_
  refine Wx.go ?_
  refine Wc.ret ?_
  refine Wx.thenRet ?_
  refine Wx.fin1 rfl (.inl rfl) (fun w hs => ?_)
  exact ⟨(), trivial, rfl, (st_drop (st_drop (st_drop (st_drop (st_pull [0, 0, 0, 0] hs)))))⟩

set_option maxHeartbeats 4000000 in
theorem goes_in_false (W0 : World) (a b c : ByteArray) (n : Int) (hhi : n ≤ 9223372036854775807) (bits : Int) (hn : ¬ n < 0) (hb0 : beyondB [((a.size : Nat) : Int), ((b.size : Nat) : Int), ((c.size : Nat) : Int)] = false) (ok0 : Ok (List.replicate 64 noughts) ByteArray.empty 0) (e1 : Int) (S1 : List ByteArray) (k1 : Nat) (t1 : ByteArray) (q1 : Int) (hl1 : S1.length = 64) (ok1 : Ok S1 t1 q1) (hk1 : k1 ≤ 0 + nPieces a + 3) (hq1 : q1 ≤ 0 + 1) (hp1 : (JS.mk ByteArray.empty 0 false).put (DS.new 64) a = (e1, (⟨S1, [], false, k1, none⟩ : DS), ⟨t1, q1, false⟩)) (e2 : Int) (S2 : List ByteArray) (k2 : Nat) (t2 : ByteArray) (q2 : Int) (c2 : Option (Nat × Int)) (jt : ByteArray) (jq : Int) (jd : Bool) (hl2 : S2.length = 64) (ok2 : Ok S2 t2 q2) (hk2 : k2 ≤ k1 + nPieces b + 3) (hq2 : q2 ≤ q1 + 1) (hw2 : WF (⟨S2, [], false, k2, c2⟩ : DS)) (hp2 : (JS.mk t1 q1 false).put (⟨S1, [], false, k1, some (n.toNat, bits)⟩ : DS) b = (e2, (⟨S2, [], false, k2, c2⟩ : DS), ⟨jt, jq, jd⟩)) (S3 : List ByteArray) (k3 : Nat) (hl3 : S3.length = S2.length) (ok3 : Ok S3 c (q2 + 1)) (hp3 : (JS.mk t2 q2 false).put (⟨S2, [], false, k2, none⟩ : DS) c = (0, (⟨S3, [], false, k3, none⟩ : DS), ⟨c, q2 + 1, false⟩)) :
    Con Try.prog W0 6 #[Value.string a, Value.string b, Value.string c, Value.int .i64 n, Value.int .i64 bits] [] (X := Unit) (fun _ => True) (fun _ => .bool true) (fun _ => []) := by
  refine Con.of (args := [Value.string a, Value.string b, Value.string c, Value.int .i64 n, Value.int .i64 bits]) Try.func6 rfl Try.ntmps6 rfl (fun F => ?_)
  have hr : (List.replicate 64 noughts).length = 64 := List.length_replicate
  obtain ⟨hla, hlb, hlc⟩ := beyond_three hb0
  have hna := few a hla
  have hnb := few b hlb
  have hnc := few c hlc
  have hnt : n.toNat ≤ 9223372036854775807 := by omega
  have hg1 := ok1.rng
  have hg2 := ok2.rng
  have hh2 : half S2 = 31 := half_64 hl2
  show Wc _ W0 _ _ _ _ _ (F)
  refine Wc.seq ?_
  refine Wc.region ?_
  refine Wl.q (v := Value.bool false) (q_assign rfl) ?_
  refine Wl.done ?_
  refine Wx.go ?_
  refine Wc.seq ?_
  refine Wc.region ?_
  refine Wl.e (e_call (F := F) (args := [Value.int .i64 64]) Try.call16 rfl (new_ok W0 64 (by omega) (by omega))) (fun pp _ => ?_)
  refine Wl.imp (L' := (isDisk pp (DS.new 64)) :: F) (fun _ h => h) ?_
  refine Wl.q (v := Value.tuple #[Value.pointer (some ⟨pp, 0, none⟩), Value.int .i64 0]) (q_move rfl) ?_
  refine Wl.q (v := Value.pointer (some ⟨pp, 0, none⟩)) (q_extract (i := 0) rfl rfl) ?_
  refine Wl.q (v := Value.int .i64 0) (q_extract (i := 1) rfl rfl) ?_
  refine Wl.q (v := Value.pointer (some ⟨pp, 0, none⟩)) (q_assign rfl) ?_
  refine Wl.q (v := Value.int .i64 0) (q_assign rfl) ?_
  refine Wl.done ?_
  refine Wx.go ?_
  refine Wc.seq ?_
  refine Wc.seq ?_
  refine Wc.region ?_
  refine Wl.q (v := Value.int .i64 0) (q_move rfl) ?_
  refine Wl.q (v := Value.bool false) (q_neq (r := true) rfl rfl (decide_eq_true (by decide))) ?_
  refine Wl.q (v := Value.bool false) (q_move rfl) ?_
  refine Wl.q (v := Value.string a) (q_move rfl) ?_
  refine Wl.q (v := Value.int .i64 ((a.size : Nat) : Int)) (q_len_str Try.underlying9 rfl) ?_
  refine Wl.q (v := Value.string b) (q_move rfl) ?_
  refine Wl.q (v := Value.int .i64 ((b.size : Nat) : Int)) (q_len_str Try.underlying9 rfl) ?_
  refine Wl.q (v := Value.string c) (q_move rfl) ?_
  refine Wl.q (v := Value.int .i64 ((c.size : Nat) : Int)) (q_len_str Try.underlying9 rfl) ?_
  refine Wl.e (e_buildSlice (cs := [Value.int .i64 ((a.size : Nat) : Int), Value.int .i64 ((b.size : Nat) : Int), Value.int .i64 ((c.size : Nat) : Int)]) se_72 zo_3 (by decide) (by decide) (by kernel_rfl)) (fun b1 _ => ?_)
  refine Wl.imp (L' := (pt b1 3 [Value.int .i64 ((a.size : Nat) : Int), Value.int .i64 ((b.size : Nat) : Int), Value.int .i64 ((c.size : Nat) : Int)]) :: (isDisk pp (DS.new 64)) :: F) (fun _ h => h) ?_
  refine Wl.e (e_call (F := (isDisk pp (DS.new 64)) :: F) (args := [Value.slice (some ⟨b1, 0, none⟩) 3 3]) Try.call20 rfl (Con.eqs (val' := fun _ => Value.bool false) (post' := fun _ => [pt b1 3 [Value.int .i64 ((a.size : Nat) : Int), Value.int .i64 ((b.size : Nat) : Int), Value.int .i64 ((c.size : Nat) : Int)]]) (beyond_c W0 b1 ([((a.size : Nat) : Int), ((b.size : Nat) : Int), ((c.size : Nat) : Int)] : List Int) (by simp) (by simp; omega)) (fun _ => congrArg Value.bool hb0) (fun _ => rfl))) (fun _ _ => ?_)
  refine Wl.imp (L' := (pt b1 3 [Value.int .i64 ((a.size : Nat) : Int), Value.int .i64 ((b.size : Nat) : Int), Value.int .i64 ((c.size : Nat) : Int)]) :: (isDisk pp (DS.new 64)) :: F) (fun _ h => h) ?_
  refine Wl.q (v := Value.bool false) (q_pick (t := false) rfl rfl) ?_
  refine Wl.q (v := Value.bool false) (q_move rfl) ?_
  refine Wl.q (v := Value.int .i64 n) (q_move rfl) ?_
  refine Wl.q (v := Value.bool false) (q_lss (r := false) rfl rfl (decide_eq_false (hn))) ?_
  refine Wl.q (v := Value.bool false) (q_pick (t := false) rfl rfl) ?_
  refine Wl.done ?_
  refine Wx.go ?_
  refine Wc.no rfl ?_
  refine Wc.skip ?_
  refine Wx.go ?_
  refine Wc.seq ?_
  refine Wc.region ?_
  refine Wl.q (v := Value.pointer (some ⟨pp, 0, none⟩)) (q_move rfl) ?_
  refine Wl.imp (L' := (isDisk pp (DS.new 64)) :: (pt b1 3 [Value.int .i64 ((a.size : Nat) : Int), Value.int .i64 ((b.size : Nat) : Int), Value.int .i64 ((c.size : Nat) : Int)]) :: F) (fun _ h => st_pull [1] h) ?_
  refine Wl.e (e_call (F := (pt b1 3 [Value.int .i64 ((a.size : Nat) : Int), Value.int .i64 ((b.size : Nat) : Int), Value.int .i64 ((c.size : Nat) : Int)]) :: F) (args := [Value.pointer (some ⟨pp, 0, none⟩)]) Try.call12 rfl (open_ok W0 pp (DS.new 64) (Ok.wf ok0) (by show 1 ≤ ((List.replicate 64 noughts)).length; omega) (by show 0 < 1099511627776; decide) (openD_up ok0))) (fun j0 _ => ?_)
  refine Wl.imp (L' := (isJ j0 pp ⟨ByteArray.empty, 0, false⟩) :: (isDisk pp (DS.new 64)) :: (pt b1 3 [Value.int .i64 ((a.size : Nat) : Int), Value.int .i64 ((b.size : Nat) : Int), Value.int .i64 ((c.size : Nat) : Int)]) :: F) (fun _ h => h) ?_
  refine Wl.q (v := Value.tuple #[Value.pointer (some ⟨j0, 0, none⟩), Value.int .i64 0]) (q_move rfl) ?_
  refine Wl.q (v := Value.pointer (some ⟨j0, 0, none⟩)) (q_extract (i := 0) rfl rfl) ?_
  refine Wl.q (v := Value.int .i64 0) (q_extract (i := 1) rfl rfl) ?_
  refine Wl.q (v := Value.pointer (some ⟨j0, 0, none⟩)) (q_assign rfl) ?_
  refine Wl.q (v := Value.int .i64 0) (q_assign rfl) ?_
  refine Wl.done ?_
  refine Wx.go ?_
  refine Wc.seq ?_
  refine Wc.seq ?_
  refine Wc.region ?_
  refine Wl.q (v := Value.int .i64 0) (q_move rfl) ?_
  refine Wl.q (v := Value.bool false) (q_neq (r := true) rfl rfl (decide_eq_true (by decide))) ?_
  refine Wl.q (v := Value.bool false) (q_move rfl) ?_
  refine Wl.q (v := Value.pointer (some ⟨j0, 0, none⟩)) (q_move rfl) ?_
  refine Wl.q (v := Value.bool false) (q_eql_nil (r := false) rfl rfl Try.underlying22 rfl) ?_
  refine Wl.q (v := Value.bool false) (q_pick (t := false) rfl rfl) ?_
  refine Wl.done ?_
  refine Wx.go ?_
  refine Wc.no rfl ?_
  refine Wc.skip ?_
  refine Wx.go ?_
  refine Wc.seq ?_
  refine Wc.region ?_
  refine Wl.q (v := Value.pointer (some ⟨j0, 0, none⟩)) (q_move rfl) ?_
  refine Wl.q (v := Value.string a) (q_move rfl) ?_
  refine Wl.e (e_call (F := (pt b1 3 [Value.int .i64 ((a.size : Nat) : Int), Value.int .i64 ((b.size : Nat) : Int), Value.int .i64 ((c.size : Nat) : Int)]) :: F) (args := [Value.pointer (some ⟨j0, 0, none⟩), Value.string a]) Try.call9 rfl (Con.eqs (val' := fun _ => Value.int .i64 e1) (post' := fun _ => [isJ j0 pp ⟨t1, q1, false⟩, isDisk pp (⟨S1, [], false, k1, none⟩ : DS)]) (Put_c W0 j0 pp (⟨ByteArray.empty, 0, false⟩ : JS) (DS.new 64) a (ok0.wf) (by show 1 ≤ ((List.replicate 64 noughts)).length; omega) (by show 0 < 1000000000000; decide) (by show 0 < 4000000000000000000; omega) (by show 0 ≤ (0 : Int); omega) (by show (0 : Int) < 9223372036854775807; omega)) (fun _ => by rw [hp1]) (fun _ => by rw [hp1]))) (fun _ _ => ?_)
  refine Wl.imp (L' := (isJ j0 pp ⟨t1, q1, false⟩) :: (isDisk pp (⟨S1, [], false, k1, none⟩ : DS)) :: (pt b1 3 [Value.int .i64 ((a.size : Nat) : Int), Value.int .i64 ((b.size : Nat) : Int), Value.int .i64 ((c.size : Nat) : Int)]) :: F) (fun _ h => h) ?_
  refine Wl.done ?_
  refine Wx.go ?_
  refine Wc.seq ?_
  refine Wc.region ?_
  refine Wl.q (v := Value.pointer (some ⟨pp, 0, none⟩)) (q_move rfl) ?_
  refine Wl.q (v := Value.int .i64 n) (q_move rfl) ?_
  refine Wl.q (v := Value.int .i64 bits) (q_move rfl) ?_
  refine Wl.imp (L' := (isDisk pp (⟨S1, [], false, k1, none⟩ : DS)) :: (isJ j0 pp ⟨t1, q1, false⟩) :: (pt b1 3 [Value.int .i64 ((a.size : Nat) : Int), Value.int .i64 ((b.size : Nat) : Int), Value.int .i64 ((c.size : Nat) : Int)]) :: F) (fun _ h => st_pull [1] h) ?_
  refine Wl.e (e_call (F := (isJ j0 pp ⟨t1, q1, false⟩) :: (pt b1 3 [Value.int .i64 ((a.size : Nat) : Int), Value.int .i64 ((b.size : Nat) : Int), Value.int .i64 ((c.size : Nat) : Int)]) :: F) (args := [Value.pointer (some ⟨pp, 0, none⟩), Value.int .i64 n, Value.int .i64 bits]) Try.call21 rfl (Con.eqs (val' := fun _ => Value.int .i64 0) (post' := fun _ => [isDisk pp (⟨S1, [], false, k1, some (n.toNat, bits)⟩ : DS)]) (cut_c W0 pp (⟨S1, [], false, k1, none⟩ : DS) n bits) (fun _ => (by rw [cut_ok hn])) (fun _ => (by rw [cut_ok hn])))) (fun _ _ => ?_)
  refine Wl.imp (L' := (isDisk pp (⟨S1, [], false, k1, some (n.toNat, bits)⟩ : DS)) :: (isJ j0 pp ⟨t1, q1, false⟩) :: (pt b1 3 [Value.int .i64 ((a.size : Nat) : Int), Value.int .i64 ((b.size : Nat) : Int), Value.int .i64 ((c.size : Nat) : Int)]) :: F) (fun _ h => h) ?_
  refine Wl.done ?_
  refine Wx.go ?_
  refine Wc.seq ?_
  refine Wc.region ?_
  refine Wl.q (v := Value.pointer (some ⟨j0, 0, none⟩)) (q_move rfl) ?_
  refine Wl.q (v := Value.string b) (q_move rfl) ?_
  refine Wl.imp (L' := (isJ j0 pp ⟨t1, q1, false⟩) :: (isDisk pp (⟨S1, [], false, k1, some (n.toNat, bits)⟩ : DS)) :: (pt b1 3 [Value.int .i64 ((a.size : Nat) : Int), Value.int .i64 ((b.size : Nat) : Int), Value.int .i64 ((c.size : Nat) : Int)]) :: F) (fun _ h => st_pull [1, 0] h) ?_
  refine Wl.e (e_call (F := (pt b1 3 [Value.int .i64 ((a.size : Nat) : Int), Value.int .i64 ((b.size : Nat) : Int), Value.int .i64 ((c.size : Nat) : Int)]) :: F) (args := [Value.pointer (some ⟨j0, 0, none⟩), Value.string b]) Try.call9 rfl (Con.eqs (val' := fun _ => Value.int .i64 e2) (post' := fun _ => [isJ j0 pp ⟨jt, jq, jd⟩, isDisk pp (⟨S2, [], false, k2, c2⟩ : DS)]) (Put_c W0 j0 pp (⟨t1, q1, false⟩ : JS) (⟨S1, [], false, k1, some (n.toNat, bits)⟩ : DS) b (Ok.wfc ok1 hnt) (by show 1 ≤ (S1).length; omega) (by show 0 < 1000000000000; decide) (by show k1 < 4000000000000000000; omega) (by show 0 ≤ (q1 : Int); omega) (by show (q1 : Int) < 9223372036854775807; omega)) (fun _ => by rw [hp2]) (fun _ => by rw [hp2]))) (fun _ _ => ?_)
  refine Wl.imp (L' := (isJ j0 pp ⟨jt, jq, jd⟩) :: (isDisk pp (⟨S2, [], false, k2, c2⟩ : DS)) :: (pt b1 3 [Value.int .i64 ((a.size : Nat) : Int), Value.int .i64 ((b.size : Nat) : Int), Value.int .i64 ((c.size : Nat) : Int)]) :: F) (fun _ h => h) ?_
  refine Wl.done ?_
  refine Wx.go ?_
  refine Wc.seq ?_
  refine Wc.seq ?_
  refine Wc.region ?_
  refine Wl.q (v := Value.pointer (some ⟨pp, 0, none⟩)) (q_move rfl) ?_
  refine Wl.imp (L' := (isDisk pp (⟨S2, [], false, k2, c2⟩ : DS)) :: (isJ j0 pp ⟨jt, jq, jd⟩) :: (pt b1 3 [Value.int .i64 ((a.size : Nat) : Int), Value.int .i64 ((b.size : Nat) : Int), Value.int .i64 ((c.size : Nat) : Int)]) :: F) (fun _ h => st_pull [1] h) ?_
  refine Wl.e (e_call (F := (isJ j0 pp ⟨jt, jq, jd⟩) :: (pt b1 3 [Value.int .i64 ((a.size : Nat) : Int), Value.int .i64 ((b.size : Nat) : Int), Value.int .i64 ((c.size : Nat) : Int)]) :: F) (args := [Value.pointer (some ⟨pp, 0, none⟩)]) Try.call24 rfl (Con.eqs (val' := fun _ => Value.bool true) (post' := fun _ => [isDisk pp (⟨S2, [], false, k2, c2⟩ : DS)]) (up_c W0 pp (⟨S2, [], false, k2, c2⟩ : DS) ) (fun _ => rfl) (fun _ => rfl))) (fun _ _ => ?_)
  refine Wl.imp (L' := (isDisk pp (⟨S2, [], false, k2, c2⟩ : DS)) :: (isJ j0 pp ⟨jt, jq, jd⟩) :: (pt b1 3 [Value.int .i64 ((a.size : Nat) : Int), Value.int .i64 ((b.size : Nat) : Int), Value.int .i64 ((c.size : Nat) : Int)]) :: F) (fun _ h => h) ?_
  refine Wl.done ?_
  refine Wx.go ?_
  refine Wc.yes rfl ?_
  refine Wc.region ?_
  refine Wl.q (v := Value.pointer (some ⟨pp, 0, none⟩)) (q_move rfl) ?_
  refine Wl.q (v := Value.int .i64 bits) (q_move rfl) ?_
  refine Wl.e (e_call (F := (isJ j0 pp ⟨jt, jq, jd⟩) :: (pt b1 3 [Value.int .i64 ((a.size : Nat) : Int), Value.int .i64 ((b.size : Nat) : Int), Value.int .i64 ((c.size : Nat) : Int)]) :: F) (args := [Value.pointer (some ⟨pp, 0, none⟩), Value.int .i64 bits]) Try.call22 rfl (Con.eqs (val' := fun _ => Value.int .i64 0) (post' := fun _ => [isDisk pp (⟨S2, [], true, k2, none⟩ : DS)]) (crash_c W0 pp (⟨S2, [], false, k2, c2⟩ : DS) bits hw2) (fun _ => rfl) (fun _ => rfl))) (fun _ _ => ?_)
  refine Wl.imp (L' := (isDisk pp (⟨S2, [], true, k2, none⟩ : DS)) :: (isJ j0 pp ⟨jt, jq, jd⟩) :: (pt b1 3 [Value.int .i64 ((a.size : Nat) : Int), Value.int .i64 ((b.size : Nat) : Int), Value.int .i64 ((c.size : Nat) : Int)]) :: F) (fun _ h => h) ?_
  refine Wl.done ?_
  refine Wx.go ?_
  refine Wc.seq ?_
  refine Wc.seq ?_
  refine Wc.region ?_
  refine Wl.q (v := Value.pointer (some ⟨pp, 0, none⟩)) (q_move rfl) ?_
  refine Wl.e (e_call (F := (isJ j0 pp ⟨jt, jq, jd⟩) :: (pt b1 3 [Value.int .i64 ((a.size : Nat) : Int), Value.int .i64 ((b.size : Nat) : Int), Value.int .i64 ((c.size : Nat) : Int)]) :: F) (args := [Value.pointer (some ⟨pp, 0, none⟩)]) Try.call23 rfl (Con.eqs (val' := fun _ => Value.int .i64 0) (post' := fun _ => [isDisk pp (⟨S2, [], false, k2, none⟩ : DS)]) (start_c W0 pp (⟨S2, [], true, k2, none⟩ : DS) ) (fun _ => rfl) (fun _ => rfl))) (fun _ _ => ?_)
  refine Wl.imp (L' := (isDisk pp (⟨S2, [], false, k2, none⟩ : DS)) :: (isJ j0 pp ⟨jt, jq, jd⟩) :: (pt b1 3 [Value.int .i64 ((a.size : Nat) : Int), Value.int .i64 ((b.size : Nat) : Int), Value.int .i64 ((c.size : Nat) : Int)]) :: F) (fun _ h => h) ?_
  refine Wl.q (v := Value.bool false) (q_neq (r := true) rfl rfl (decide_eq_true (by decide))) ?_
  refine Wl.done ?_
  refine Wx.go ?_
  refine Wc.no rfl ?_
  refine Wc.skip ?_
  refine Wx.go ?_
  refine Wc.seq ?_
  refine Wc.region ?_
  refine Wl.q (v := Value.pointer (some ⟨pp, 0, none⟩)) (q_move rfl) ?_
  refine Wl.e (e_call (F := (isJ j0 pp ⟨jt, jq, jd⟩) :: (pt b1 3 [Value.int .i64 ((a.size : Nat) : Int), Value.int .i64 ((b.size : Nat) : Int), Value.int .i64 ((c.size : Nat) : Int)]) :: F) (args := [Value.pointer (some ⟨pp, 0, none⟩)]) Try.call12 rfl (open_ok W0 pp (⟨S2, [], false, k2, none⟩ : DS) (Ok.wf ok2) (by show 1 ≤ (S2).length; omega) (by show 0 < 1099511627776; decide) (openD_up ok2))) (fun j1 _ => ?_)
  refine Wl.imp (L' := (isJ j1 pp ⟨t2, q2, false⟩) :: (isDisk pp (⟨S2, [], false, k2, none⟩ : DS)) :: (isJ j0 pp ⟨jt, jq, jd⟩) :: (pt b1 3 [Value.int .i64 ((a.size : Nat) : Int), Value.int .i64 ((b.size : Nat) : Int), Value.int .i64 ((c.size : Nat) : Int)]) :: F) (fun _ h => h) ?_
  refine Wl.q (v := Value.tuple #[Value.pointer (some ⟨j1, 0, none⟩), Value.int .i64 0]) (q_move rfl) ?_
  refine Wl.q (v := Value.pointer (some ⟨j1, 0, none⟩)) (q_extract (i := 0) rfl rfl) ?_
  refine Wl.q (v := Value.int .i64 0) (q_extract (i := 1) rfl rfl) ?_
  refine Wl.q (v := Value.pointer (some ⟨j1, 0, none⟩)) (q_assign rfl) ?_
  refine Wl.q (v := Value.int .i64 0) (q_assign rfl) ?_
  refine Wl.done ?_
  refine Wx.go ?_
  refine Wc.seq ?_
  refine Wc.seq ?_
  refine Wc.region ?_
  refine Wl.q (v := Value.int .i64 0) (q_move rfl) ?_
  refine Wl.q (v := Value.bool false) (q_neq (r := true) rfl rfl (decide_eq_true (by decide))) ?_
  refine Wl.q (v := Value.bool false) (q_move rfl) ?_
  refine Wl.q (v := Value.pointer (some ⟨j1, 0, none⟩)) (q_move rfl) ?_
  refine Wl.q (v := Value.bool false) (q_eql_nil (r := false) rfl rfl Try.underlying22 rfl) ?_
  refine Wl.q (v := Value.bool false) (q_pick (t := false) rfl rfl) ?_
  refine Wl.done ?_
  refine Wx.go ?_
  refine Wc.no rfl ?_
  refine Wc.skip ?_
  refine Wx.go ?_
  refine Wc.seq ?_
  refine Wc.region ?_
  refine Wl.q (v := Value.pointer (some ⟨j1, 0, none⟩)) (q_move rfl) ?_
  refine Wl.e (e_call (F := (isDisk pp (⟨S2, [], false, k2, none⟩ : DS)) :: (isJ j0 pp ⟨jt, jq, jd⟩) :: (pt b1 3 [Value.int .i64 ((a.size : Nat) : Int), Value.int .i64 ((b.size : Nat) : Int), Value.int .i64 ((c.size : Nat) : Int)]) :: F) (args := [Value.pointer (some ⟨j1, 0, none⟩)]) Try.call10 rfl (seq_in W0 j1 pp t2 q2 false)) (fun _ _ => ?_)
  refine Wl.imp (L' := (isJ j1 pp ⟨t2, q2, false⟩) :: (isDisk pp (⟨S2, [], false, k2, none⟩ : DS)) :: (isJ j0 pp ⟨jt, jq, jd⟩) :: (pt b1 3 [Value.int .i64 ((a.size : Nat) : Int), Value.int .i64 ((b.size : Nat) : Int), Value.int .i64 ((c.size : Nat) : Int)]) :: F) (fun _ h => h) ?_
  refine Wl.q (v := Value.int .i64 q2) (q_assign rfl) ?_
  refine Wl.done ?_
  refine Wx.go ?_
  refine Wc.seq ?_
  refine Wc.seq ?_
  refine Wc.region ?_
  refine Wl.q (v := Value.pointer (some ⟨j1, 0, none⟩)) (q_move rfl) ?_
  refine Wl.q (v := Value.string c) (q_move rfl) ?_
  refine Wl.e (e_call (F := (isJ j0 pp ⟨jt, jq, jd⟩) :: (pt b1 3 [Value.int .i64 ((a.size : Nat) : Int), Value.int .i64 ((b.size : Nat) : Int), Value.int .i64 ((c.size : Nat) : Int)]) :: F) (args := [Value.pointer (some ⟨j1, 0, none⟩), Value.string c]) Try.call9 rfl (Con.eqs (val' := fun _ => Value.int .i64 0) (post' := fun _ => [isJ j1 pp ⟨c, (q2 + 1), false⟩, isDisk pp (⟨S3, [], false, k3, none⟩ : DS)]) (Put_c W0 j1 pp (⟨t2, q2, false⟩ : JS) (⟨S2, [], false, k2, none⟩ : DS) c (ok2.wf) (by show 1 ≤ (S2).length; omega) (by show 0 < 1000000000000; decide) (by show k2 < 4000000000000000000; omega) (by show 0 ≤ (q2 : Int); omega) (by show (q2 : Int) < 9223372036854775807; omega)) (fun _ => by rw [hp3]) (fun _ => by rw [hp3]))) (fun _ _ => ?_)
  refine Wl.imp (L' := (isJ j1 pp ⟨c, (q2 + 1), false⟩) :: (isDisk pp (⟨S3, [], false, k3, none⟩ : DS)) :: (isJ j0 pp ⟨jt, jq, jd⟩) :: (pt b1 3 [Value.int .i64 ((a.size : Nat) : Int), Value.int .i64 ((b.size : Nat) : Int), Value.int .i64 ((c.size : Nat) : Int)]) :: F) (fun _ h => h) ?_
  refine Wl.q (v := Value.bool false) (q_neq (r := true) rfl rfl (decide_eq_true (by decide))) ?_
  refine Wl.done ?_
  refine Wx.go ?_
  refine Wc.no rfl ?_
  refine Wc.skip ?_
  refine Wx.go ?_
  refine Wc.seq ?_
  refine Wc.region ?_
  refine Wl.q (v := Value.pointer (some ⟨j1, 0, none⟩)) (q_move rfl) ?_
  refine Wl.e (e_call (F := (isJ j0 pp ⟨jt, jq, jd⟩) :: (pt b1 3 [Value.int .i64 ((a.size : Nat) : Int), Value.int .i64 ((b.size : Nat) : Int), Value.int .i64 ((c.size : Nat) : Int)]) :: F) (args := [Value.pointer (some ⟨j1, 0, none⟩)]) Try.call8 rfl (get_on W0 j1 pp c (q2 + 1) (⟨S3, [], false, k3, none⟩ : DS) rfl)) (fun _ _ => ?_)
  refine Wl.imp (L' := (isJ j1 pp ⟨c, (q2 + 1), false⟩) :: (isDisk pp (⟨S3, [], false, k3, none⟩ : DS)) :: (isJ j0 pp ⟨jt, jq, jd⟩) :: (pt b1 3 [Value.int .i64 ((a.size : Nat) : Int), Value.int .i64 ((b.size : Nat) : Int), Value.int .i64 ((c.size : Nat) : Int)]) :: F) (fun _ h => h) ?_
  refine Wl.q (v := Value.tuple #[Value.string c, Value.int .i64 0]) (q_move rfl) ?_
  refine Wl.q (v := Value.string c) (q_extract (i := 0) rfl rfl) ?_
  refine Wl.q (v := Value.int .i64 0) (q_extract (i := 1) rfl rfl) ?_
  refine Wl.q (v := Value.string c) (q_assign rfl) ?_
  refine Wl.q (v := Value.int .i64 0) (q_assign rfl) ?_
  refine Wl.done ?_
  refine Wx.go ?_
  refine Wc.seq ?_
  refine Wc.region ?_
  refine Wl.q (v := Value.pointer (some ⟨pp, 0, none⟩)) (q_move rfl) ?_
  refine Wl.imp (L' := (isDisk pp (⟨S3, [], false, k3, none⟩ : DS)) :: (isJ j1 pp ⟨c, (q2 + 1), false⟩) :: (isJ j0 pp ⟨jt, jq, jd⟩) :: (pt b1 3 [Value.int .i64 ((a.size : Nat) : Int), Value.int .i64 ((b.size : Nat) : Int), Value.int .i64 ((c.size : Nat) : Int)]) :: F) (fun _ h => st_pull [1] h) ?_
  refine Wl.e (e_call (F := (isJ j1 pp ⟨c, (q2 + 1), false⟩) :: (isJ j0 pp ⟨jt, jq, jd⟩) :: (pt b1 3 [Value.int .i64 ((a.size : Nat) : Int), Value.int .i64 ((b.size : Nat) : Int), Value.int .i64 ((c.size : Nat) : Int)]) :: F) (args := [Value.pointer (some ⟨pp, 0, none⟩)]) Try.call12 rfl (open_ok W0 pp (⟨S3, [], false, k3, none⟩ : DS) (Ok.wf ok3) (by show 1 ≤ (S3).length; omega) (by show 0 < 1099511627776; decide) (openD_up ok3))) (fun j2 _ => ?_)
  refine Wl.imp (L' := (isJ j2 pp ⟨c, (q2 + 1), false⟩) :: (isDisk pp (⟨S3, [], false, k3, none⟩ : DS)) :: (isJ j1 pp ⟨c, (q2 + 1), false⟩) :: (isJ j0 pp ⟨jt, jq, jd⟩) :: (pt b1 3 [Value.int .i64 ((a.size : Nat) : Int), Value.int .i64 ((b.size : Nat) : Int), Value.int .i64 ((c.size : Nat) : Int)]) :: F) (fun _ h => h) ?_
  refine Wl.q (v := Value.tuple #[Value.pointer (some ⟨j2, 0, none⟩), Value.int .i64 0]) (q_move rfl) ?_
  refine Wl.q (v := Value.pointer (some ⟨j2, 0, none⟩)) (q_extract (i := 0) rfl rfl) ?_
  refine Wl.q (v := Value.int .i64 0) (q_extract (i := 1) rfl rfl) ?_
  refine Wl.q (v := Value.pointer (some ⟨j2, 0, none⟩)) (q_assign rfl) ?_
  refine Wl.q (v := Value.int .i64 0) (q_assign rfl) ?_
  refine Wl.done ?_
  refine Wx.go ?_
  refine Wc.seq ?_
  refine Wc.seq ?_
  refine Wc.region ?_
  refine Wl.q (v := Value.int .i64 0) (q_move rfl) ?_
  refine Wl.q (v := Value.bool false) (q_neq (r := true) rfl rfl (decide_eq_true (by decide))) ?_
  refine Wl.q (v := Value.bool false) (q_move rfl) ?_
  refine Wl.q (v := Value.pointer (some ⟨j2, 0, none⟩)) (q_move rfl) ?_
  refine Wl.q (v := Value.bool false) (q_eql_nil (r := false) rfl rfl Try.underlying22 rfl) ?_
  refine Wl.q (v := Value.bool false) (q_pick (t := false) rfl rfl) ?_
  refine Wl.done ?_
  refine Wx.go ?_
  refine Wc.no rfl ?_
  refine Wc.skip ?_
  refine Wx.go ?_
  refine Wc.seq ?_
  refine Wc.region ?_
  refine Wl.q (v := Value.pointer (some ⟨j2, 0, none⟩)) (q_move rfl) ?_
  refine Wl.e (e_call (F := (isJ j1 pp ⟨c, (q2 + 1), false⟩) :: (isJ j0 pp ⟨jt, jq, jd⟩) :: (pt b1 3 [Value.int .i64 ((a.size : Nat) : Int), Value.int .i64 ((b.size : Nat) : Int), Value.int .i64 ((c.size : Nat) : Int)]) :: F) (args := [Value.pointer (some ⟨j2, 0, none⟩)]) Try.call8 rfl (get_on W0 j2 pp c (q2 + 1) (⟨S3, [], false, k3, none⟩ : DS) rfl)) (fun _ _ => ?_)
  refine Wl.imp (L' := (isJ j2 pp ⟨c, (q2 + 1), false⟩) :: (isDisk pp (⟨S3, [], false, k3, none⟩ : DS)) :: (isJ j1 pp ⟨c, (q2 + 1), false⟩) :: (isJ j0 pp ⟨jt, jq, jd⟩) :: (pt b1 3 [Value.int .i64 ((a.size : Nat) : Int), Value.int .i64 ((b.size : Nat) : Int), Value.int .i64 ((c.size : Nat) : Int)]) :: F) (fun _ h => h) ?_
  refine Wl.q (v := Value.tuple #[Value.string c, Value.int .i64 0]) (q_move rfl) ?_
  refine Wl.q (v := Value.string c) (q_extract (i := 0) rfl rfl) ?_
  refine Wl.q (v := Value.int .i64 0) (q_extract (i := 1) rfl rfl) ?_
  refine Wl.q (v := Value.string c) (q_assign rfl) ?_
  refine Wl.q (v := Value.int .i64 0) (q_assign rfl) ?_
  refine Wl.done ?_
  refine Wx.go ?_
  refine Wc.seq ?_
  refine Wc.region ?_
  refine Wl.q (v := Value.int .i64 0) (q_move rfl) ?_
  refine Wl.q (v := Value.bool true) (q_eql (r := true) rfl rfl (decide_eq_true (by decide))) ?_
  refine Wl.q (v := Value.bool true) (q_move rfl) ?_
  refine Wl.q (v := Value.int .i64 0) (q_move rfl) ?_
  refine Wl.q (v := Value.bool true) (q_eql (r := true) rfl rfl (decide_eq_true (by decide))) ?_
  refine Wl.q (v := Value.bool true) (q_pick (t := true) rfl rfl) ?_
  refine Wl.q (v := Value.bool true) (q_move rfl) ?_
  refine Wl.q (v := Value.string c) (q_move rfl) ?_
  refine Wl.q (v := Value.string c) (q_move rfl) ?_
  refine Wl.q (v := Value.bool true) (q_eql_str (r := true) rfl rfl (text_true (rfl))) ?_
  refine Wl.q (v := Value.bool true) (q_pick (t := true) rfl rfl) ?_
  refine Wl.q (v := Value.bool true) (q_move rfl) ?_
  refine Wl.q (v := Value.string c) (q_move rfl) ?_
  refine Wl.q (v := Value.string c) (q_move rfl) ?_
  refine Wl.q (v := Value.bool true) (q_eql_str (r := true) rfl rfl (text_true (rfl))) ?_
  refine Wl.q (v := Value.bool true) (q_pick (t := true) rfl rfl) ?_
  refine Wl.q (v := Value.bool true) (q_move rfl) ?_
  refine Wl.q (v := Value.pointer (some ⟨j2, 0, none⟩)) (q_move rfl) ?_
  refine Wl.e (e_call (F := (isDisk pp (⟨S3, [], false, k3, none⟩ : DS)) :: (isJ j1 pp ⟨c, (q2 + 1), false⟩) :: (isJ j0 pp ⟨jt, jq, jd⟩) :: (pt b1 3 [Value.int .i64 ((a.size : Nat) : Int), Value.int .i64 ((b.size : Nat) : Int), Value.int .i64 ((c.size : Nat) : Int)]) :: F) (args := [Value.pointer (some ⟨j2, 0, none⟩)]) Try.call10 rfl (seq_in W0 j2 pp c (q2 + 1) false)) (fun _ _ => ?_)
  refine Wl.imp (L' := (isJ j2 pp ⟨c, (q2 + 1), false⟩) :: (isDisk pp (⟨S3, [], false, k3, none⟩ : DS)) :: (isJ j1 pp ⟨c, (q2 + 1), false⟩) :: (isJ j0 pp ⟨jt, jq, jd⟩) :: (pt b1 3 [Value.int .i64 ((a.size : Nat) : Int), Value.int .i64 ((b.size : Nat) : Int), Value.int .i64 ((c.size : Nat) : Int)]) :: F) (fun _ h => h) ?_
  refine Wl.q (v := Value.int .i64 q2) (q_move rfl) ?_
  refine Wl.q (v := Value.int .i64 (q2 + 1)) (q_add (c := (q2 + 1)) rfl rfl (wrap_i64 (by omega) (by omega))) ?_
  refine Wl.q (v := Value.bool true) (q_eql (r := true) rfl rfl (decide_eq_true (rfl))) ?_
  refine Wl.q (v := Value.bool true) (q_pick (t := true) rfl rfl) ?_
  refine Wl.q (v := Value.bool true) (q_move rfl) ?_
  refine Wl.e (e_call (F := (isJ j2 pp ⟨c, (q2 + 1), false⟩) :: (isDisk pp (⟨S3, [], false, k3, none⟩ : DS)) :: (isJ j1 pp ⟨c, (q2 + 1), false⟩) :: (isJ j0 pp ⟨jt, jq, jd⟩) :: (pt b1 3 [Value.int .i64 ((a.size : Nat) : Int), Value.int .i64 ((b.size : Nat) : Int), Value.int .i64 ((c.size : Nat) : Int)]) :: F) (args := []) Try.call13 rfl (alive_c W0)) (fun _ _ => ?_)
  refine Wl.imp (L' := (isJ j2 pp ⟨c, (q2 + 1), false⟩) :: (isDisk pp (⟨S3, [], false, k3, none⟩ : DS)) :: (isJ j1 pp ⟨c, (q2 + 1), false⟩) :: (isJ j0 pp ⟨jt, jq, jd⟩) :: (pt b1 3 [Value.int .i64 ((a.size : Nat) : Int), Value.int .i64 ((b.size : Nat) : Int), Value.int .i64 ((c.size : Nat) : Int)]) :: F) (fun _ h => h) ?_
  refine Wl.q (v := Value.bool true) (q_pick (t := true) rfl rfl) ?_
  refine Wl.q (v := Value.bool true) (q_assign rfl) ?_
  refine Wl.done ?_
  refine Wx.go ?_
  refine Wc.ret ?_
  refine Wx.fin1 rfl (.inl rfl) (fun w hs => ?_)
  exact ⟨(), trivial, rfl, (st_drop (st_drop (st_drop (st_drop (st_drop (st_pull [0, 0, 0, 0, 0] hs))))))⟩

theorem goes_law (W0 : World) (a b c : ByteArray) (hla : a.size ≤ maxLen) (hlb : b.size ≤ maxLen) (hlc : c.size ≤ maxLen) (n bits : Int) (hhi : n ≤ 9223372036854775807) : Con Try.prog W0 6 #[.string a, .string b, .string c, .int .i64 n, .int .i64 bits] [] (X := Unit) (fun _ => True) (fun _ => .bool true) (fun _ => []) := by
  cases hb0 : beyondB [((a.size : Nat) : Int), ((b.size : Nat) : Int), ((c.size : Nat) : Int)] with
  | true => exact goes_beyond W0 a b c (by simp only [maxLen] at hla; omega) (by simp only [maxLen] at hlb; omega) (by simp only [maxLen] at hlc; omega) n bits hb0
  | false =>
    by_cases hn : n < 0
    · exact goes_neg W0 a b c n bits hn hb0
    have ok0 := ok_new (n := 64) (by decide) (by decide)
    obtain ⟨e1, S1, k1, t1, q1, h1, h2, h3, h4, h5⟩ := put_any ok0 (by decide) a 0
    rw [List.length_replicate] at h1
    obtain ⟨e2, S2, k2, t2, q2, dn, c2, ⟨jt, jq, jd⟩, i1, i2, i3, i4, i5, i6, i7⟩ := cut_any h2 (by omega) b k1 (c := n.toNat) bits (by omega)
    rw [h1] at i1
    have g2 := half_64 i1
    have r2 := i2.rng
    by_cases hc : c.size ≤ 1984
    · obtain ⟨S3, l1, l2, l3⟩ := put_js (s := c) i2 (by omega) (by rw [g2]; omega) k2
      cases dn
      · exact goes_in_false W0 a b c n hhi bits hn hb0 ok0 e1 S1 k1 t1 q1 h1 h2 h3 h4 h5 e2 S2 k2 t2 q2 c2 jt jq jd i1 i2 i3 i4 i5 i7 S3 _ l1 l2 l3
      · exact goes_in_true W0 a b c n hhi bits hn hb0 ok0 e1 S1 k1 t1 q1 h1 h2 h3 h4 h5 e2 S2 k2 t2 q2 c2 jt jq jd i1 i2 i3 i4 i5 i7 (i6 rfl) S3 _ l1 l2 l3
    · have hp := put_big (t := t2) (q := q2) (k := k2) (c := none) (S := S2) (s := c) (by rw [g2]; omega)
      cases dn
      · exact goes_big_false W0 a b c n hhi bits hn hb0 ok0 e1 S1 k1 t1 q1 h1 h2 h3 h4 h5 e2 S2 k2 t2 q2 c2 jt jq jd i1 i2 i3 i4 i5 i7 (by omega) hp
      · exact goes_big_true W0 a b c n hhi bits hn hb0 ok0 e1 S1 k1 t1 q1 h1 h2 h3 h4 h5 e2 S2 k2 t2 q2 c2 jt jq jd i1 i2 i3 i4 i5 i7 (i6 rfl) (by omega) hp

end Go.Proofs.Ytnhejdnigblnoaa
