/- Contracts of the calls. -/
import Derived.Test.YtnhejdnigblnoaaJnI
namespace Go.Proofs.Ytnhejdnigblnoaa
open Go Go.SL Go.Dk Go.Jn Go.RowKit
set_option linter.unusedVariables false
set_option maxRecDepth 8000
theorem zo_3 : zeroOf Try.prog 3 = some (Value.int .i64 0) := by kernel_rfl
theorem zo_58 : zeroOf Try.prog 58 = some (Value.agg #[Value.pointer none, Value.pointer none, Value.pointer none, Value.pointer none]) := by kernel_rfl
theorem zo_61 : zeroOf Try.prog 61 = some (Value.agg #[Value.int .i64 0, Value.int .i64 0, Value.int .u8 0, Value.int .i64 0]) := by kernel_rfl
theorem se_51 : sliceElem Try.prog 51 = some (61, 4) := by kernel_rfl
theorem ag_61 : aggSize Try.prog 61 = some 4 := by kernel_rfl
theorem do_o (W0 : World) (pp q wp : Nat) (d : DS) (o : OpJ) (hob : o.b < 256) (hw : WF d) (hn1 : 1 ≤ d.secs.length) (hsn : d.since.length < 1000000000000) (hct : d.count < 4000000000000000000) (oj : Option JS) (hj : ∀ js, oj = some js → 0 ≤ js.seq ∧ js.seq < 9223372036854775807 ∧ 4 ≤ d.secs.length) :
  Con Try.prog W0 26 #[Value.pointer (some ⟨wp, 0, none⟩), Value.agg #[Value.int .i64 o.kind, Value.int .i64 o.n, Value.int .u8 ((o.b : Nat) : Int), Value.int .i64 o.bits]] [wJ pp q wp oj, isDisk pp d, isRef q d] (X := Nat × Nat × Value × Int × Int) (fun (_, _, _, lv, bv) => refR lv bv (opJ d oj o).1.cut) (fun _ => .bool true) (fun (bd, cd, sv, lv, bv) => [wJ pp q wp (opJ d oj o).2, isDisk pp (opJ d oj o).1, pt q 63 [Value.slice (some ⟨bd, 0, none⟩) ((opJ d oj o).1.secs.length) cd, sv, Value.bool ((opJ d oj o).1.down), Value.int .i64 lv, Value.int .i64 bv, Value.int .i64 (((opJ d oj o).1.count : Nat) : Int)], slp 9 1 bd cd ((opJ d oj o).1.secs.map Value.string), sl 86 2 sv ((opJ d oj o).1.since.length) (flat (opJ d oj o).1.since)]) := fun w F hs => (do_c W0 pp q wp d o hob hw hn1 hsn hct oj hj w F hs).mono fun e w' he => by
 cases e with
 | panicked c => exact he.elim
 | outgrown => exact he.elim
 | returned v =>
  obtain ⟨_, _, rfl, hs⟩ := he
  have hs := st_pull [2] hs
  obtain ⟨bd, hs⟩ := st_ex.1 hs
  obtain ⟨cd, hs⟩ := st_ex.1 hs
  obtain ⟨sv, hs⟩ := st_ex.1 hs
  obtain ⟨lv, hs⟩ := st_ex.1 hs
  obtain ⟨bv, hs⟩ := st_ex.1 hs
  obtain ⟨hr, hs⟩ := st_pr.1 (st_grp.1 hs)
  exact ⟨(bd, cd, sv, lv, bv), hr, rfl, st_pull [3, 3] hs⟩

theorem plays_beyond (W0 : World) (n : Int) (vl : Value) (l : List OpJ) (hl : Rd W0 vl l.length (l.flatMap opJC)) (hlb : ∀ o ∈ l, o.b < 256 ∧ o.n ≤ 9223372036854775807) (hb0 : beyondB [(l.length : Int)] = true) (hlen : l.length ≤ 9223372036854775807) :
  Con Try.prog W0 7 #[Value.int .i64 n, vl] [] (X := Unit) (fun _ => True) (fun _ => .bool true) (fun _ => []) := by
 refine Con.of (args := [Value.int .i64 n, vl]) Try.func7 rfl Try.ntmps7 rfl (fun F => ?_)
 show Wc _ W0 _ _ _ _ _ (F)
 refine Wc.seq ?_
 refine Wc.region ?_
 refine Wl.q (v := Value.bool false) (q_assign rfl) ?_
 refine Wl.done ?_
 refine Wx.go ?_
 refine Wc.seq ?_
 refine Wc.seq ?_
 refine Wc.region ?_
 refine Wl.q (v := vl) (q_move rfl) ?_
 refine Wl.q (v := Value.int .i64 ((l.length : Nat) : Int)) (q_len_is Try.underlying51 rfl hl.shape) ?_
 refine Wl.e (e_buildSlice (cs := [Value.int .i64 ((l.length : Nat) : Int)]) se_72 zo_3 (by decide) (by decide) (by kernel_rfl)) (fun b1 _ => ?_)
 refine Wl.imp (L' := (pt b1 3 [Value.int .i64 ((l.length : Nat) : Int)]) :: F) (fun _ h => h) ?_
 refine Wl.e (e_call (F := F) (args := [Value.slice (some ⟨b1, 0, none⟩) 1 1]) Try.call20 rfl (Con.eqs (val' := fun _ => Value.bool true) (post' := fun _ => [pt b1 3 [Value.int .i64 ((l.length : Nat) : Int)]]) (beyond_c W0 b1 ([((l.length : Nat) : Int)] : List Int) (by simp) (by simp; omega)) (fun _ => congrArg Value.bool hb0) (fun _ => rfl))) (fun _ _ => ?_)
 refine Wl.imp (L' := (pt b1 3 [Value.int .i64 ((l.length : Nat) : Int)]) :: F) (fun _ h => h) ?_
 refine Wl.q (v := Value.bool true) (q_move rfl) ?_
 refine Wl.no ?_
 refine Wl.no ?_
 refine Wl.no ?_
 refine Wl.q (v := Value.bool true) (q_pick (t := true) rfl rfl) ?_
 refine Wl.done ?_
 refine Wx.go ?_
 refine Wc.yes rfl ?_
 refine Wc.seq ?_
 refine Wc.region ?_
 refine Wl.q (v := Value.bool true) (q_assign rfl) ?_
 refine Wl.done ?_
 refine Wx.go ?_
 refine Wc.ret ?_
 refine Wx.thenRet ?_
 refine Wx.fin1 rfl (.inl rfl) (fun w hs => ?_)
 exact ⟨(), trivial, rfl, (st_drop (st_pull [0] hs))⟩

theorem plays_long (W0 : World) (n : Int) (vl : Value) (l : List OpJ) (hl : Rd W0 vl l.length (l.flatMap opJC)) (hlb : ∀ o ∈ l, o.b < 256 ∧ o.n ≤ 9223372036854775807) (hb0 : beyondB [(l.length : Int)] = false) (hbig : 500 < l.length) :
  Con Try.prog W0 7 #[Value.int .i64 n, vl] [] (X := Unit) (fun _ => True) (fun _ => .bool true) (fun _ => []) := by
 refine Con.of (args := [Value.int .i64 n, vl]) Try.func7 rfl Try.ntmps7 rfl (fun F => ?_)
 have hlen := beyond_one hb0
 show Wc _ W0 _ _ _ _ _ (F)
 refine Wc.seq ?_
 refine Wc.region ?_
 refine Wl.q (v := Value.bool false) (q_assign rfl) ?_
 refine Wl.done ?_
 refine Wx.go ?_
 refine Wc.seq ?_
 refine Wc.seq ?_
 refine Wc.region ?_
 refine Wl.q (v := vl) (q_move rfl) ?_
 refine Wl.q (v := Value.int .i64 ((l.length : Nat) : Int)) (q_len_is Try.underlying51 rfl hl.shape) ?_
 refine Wl.e (e_buildSlice (cs := [Value.int .i64 ((l.length : Nat) : Int)]) se_72 zo_3 (by decide) (by decide) (by kernel_rfl)) (fun b1 _ => ?_)
 refine Wl.imp (L' := (pt b1 3 [Value.int .i64 ((l.length : Nat) : Int)]) :: F) (fun _ h => h) ?_
 refine Wl.e (e_call (F := F) (args := [Value.slice (some ⟨b1, 0, none⟩) 1 1]) Try.call20 rfl (Con.eqs (val' := fun _ => Value.bool false) (post' := fun _ => [pt b1 3 [Value.int .i64 ((l.length : Nat) : Int)]]) (beyond_c W0 b1 ([((l.length : Nat) : Int)] : List Int) (by simp) (by simp; omega)) (fun _ => congrArg Value.bool hb0) (fun _ => rfl))) (fun _ _ => ?_)
 refine Wl.imp (L' := (pt b1 3 [Value.int .i64 ((l.length : Nat) : Int)]) :: F) (fun _ h => h) ?_
 refine Wl.q (v := Value.bool false) (q_move rfl) ?_
 refine Wl.q (v := vl) (q_move rfl) ?_
 refine Wl.q (v := Value.int .i64 ((l.length : Nat) : Int)) (q_len_is Try.underlying51 rfl hl.shape) ?_
 refine Wl.q (v := Value.bool true) (q_gtr (r := true) rfl rfl (decide_eq_true (by omega))) ?_
 refine Wl.q (v := Value.bool true) (q_pick (t := false) rfl rfl) ?_
 refine Wl.done ?_
 refine Wx.go ?_
 refine Wc.yes rfl ?_
 refine Wc.seq ?_
 refine Wc.region ?_
 refine Wl.q (v := Value.bool true) (q_assign rfl) ?_
 refine Wl.done ?_
 refine Wx.go ?_
 refine Wc.ret ?_
 refine Wx.thenRet ?_
 refine Wx.fin1 rfl (.inl rfl) (fun w hs => ?_)
 exact ⟨(), trivial, rfl, (st_drop (st_pull [0] hs))⟩

theorem plays_low (W0 : World) (n : Int) (hn : n < 1) (vl : Value) (l : List OpJ) (hl : Rd W0 vl l.length (l.flatMap opJC)) (hlb : ∀ o ∈ l, o.b < 256 ∧ o.n ≤ 9223372036854775807) (hb0 : beyondB [(l.length : Int)] = false) (h5 : l.length ≤ 500) :
  Con Try.prog W0 7 #[Value.int .i64 n, vl] [] (X := Unit) (fun _ => True) (fun _ => .bool true) (fun _ => []) := by
 refine Con.of (args := [Value.int .i64 n, vl]) Try.func7 rfl Try.ntmps7 rfl (fun F => ?_)
 have hlen := beyond_one hb0
 show Wc _ W0 _ _ _ _ _ (F)
 refine Wc.seq ?_
 refine Wc.region ?_
 refine Wl.q (v := Value.bool false) (q_assign rfl) ?_
 refine Wl.done ?_
 refine Wx.go ?_
 refine Wc.seq ?_
 refine Wc.seq ?_
 refine Wc.region ?_
 refine Wl.q (v := vl) (q_move rfl) ?_
 refine Wl.q (v := Value.int .i64 ((l.length : Nat) : Int)) (q_len_is Try.underlying51 rfl hl.shape) ?_
 refine Wl.e (e_buildSlice (cs := [Value.int .i64 ((l.length : Nat) : Int)]) se_72 zo_3 (by decide) (by decide) (by kernel_rfl)) (fun b1 _ => ?_)
 refine Wl.imp (L' := (pt b1 3 [Value.int .i64 ((l.length : Nat) : Int)]) :: F) (fun _ h => h) ?_
 refine Wl.e (e_call (F := F) (args := [Value.slice (some ⟨b1, 0, none⟩) 1 1]) Try.call20 rfl (Con.eqs (val' := fun _ => Value.bool false) (post' := fun _ => [pt b1 3 [Value.int .i64 ((l.length : Nat) : Int)]]) (beyond_c W0 b1 ([((l.length : Nat) : Int)] : List Int) (by simp) (by simp; omega)) (fun _ => congrArg Value.bool hb0) (fun _ => rfl))) (fun _ _ => ?_)
 refine Wl.imp (L' := (pt b1 3 [Value.int .i64 ((l.length : Nat) : Int)]) :: F) (fun _ h => h) ?_
 refine Wl.q (v := Value.bool false) (q_move rfl) ?_
 refine Wl.q (v := vl) (q_move rfl) ?_
 refine Wl.q (v := Value.int .i64 ((l.length : Nat) : Int)) (q_len_is Try.underlying51 rfl hl.shape) ?_
 refine Wl.q (v := Value.bool false) (q_gtr (r := false) rfl rfl (decide_eq_false (by omega))) ?_
 refine Wl.q (v := Value.bool false) (q_pick (t := false) rfl rfl) ?_
 refine Wl.done ?_
 refine Wx.go ?_
 refine Wc.no rfl ?_
 refine Wc.skip ?_
 refine Wx.go ?_
 refine Wc.seq ?_
 refine Wc.region ?_
 refine Wl.q (v := Value.int .i64 n) (q_move rfl) ?_
 refine Wl.e (e_call (F := (pt b1 3 [Value.int .i64 ((l.length : Nat) : Int)]) :: F) (args := [Value.int .i64 n]) Try.call16 rfl (new_low W0 n (by omega))) (fun _ _ => ?_)
 refine Wl.imp (L' := (pt b1 3 [Value.int .i64 ((l.length : Nat) : Int)]) :: F) (fun _ h => h) ?_
 refine Wl.q (v := Value.tuple #[Value.pointer none, Value.int .i64 1]) (q_move rfl) ?_
 refine Wl.q (v := Value.pointer none) (q_extract (i := 0) rfl rfl) ?_
 refine Wl.q (v := Value.int .i64 1) (q_extract (i := 1) rfl rfl) ?_
 refine Wl.q (v := Value.pointer none) (q_assign rfl) ?_
 refine Wl.q (v := Value.int .i64 1) (q_assign rfl) ?_
 refine Wl.done ?_
 refine Wx.go ?_
 refine Wc.seq ?_
 refine Wc.region ?_
 refine Wl.q (v := Value.int .i64 n) (q_move rfl) ?_
 refine Wl.e (e_call (F := (pt b1 3 [Value.int .i64 ((l.length : Nat) : Int)]) :: F) (args := [Value.int .i64 n]) Try.call25 rfl (rnew_low W0 n (by omega))) (fun _ _ => ?_)
 refine Wl.imp (L' := (pt b1 3 [Value.int .i64 ((l.length : Nat) : Int)]) :: F) (fun _ h => h) ?_
 refine Wl.q (v := Value.tuple #[Value.pointer none, Value.int .i64 1]) (q_move rfl) ?_
 refine Wl.q (v := Value.pointer none) (q_extract (i := 0) rfl rfl) ?_
 refine Wl.q (v := Value.int .i64 1) (q_extract (i := 1) rfl rfl) ?_
 refine Wl.q (v := Value.pointer none) (q_assign rfl) ?_
 refine Wl.q (v := Value.int .i64 1) (q_assign rfl) ?_
 refine Wl.done ?_
 refine Wx.go ?_
 refine Wc.seq ?_
 refine Wc.seq ?_
 refine Wc.region ?_
 refine Wl.q (v := Value.int .i64 1) (q_move rfl) ?_
 refine Wl.q (v := Value.int .i64 1) (q_move rfl) ?_
 refine Wl.q (v := Value.bool false) (q_neq (r := true) rfl rfl (decide_eq_true (by decide))) ?_
 refine Wl.done ?_
 refine Wx.go ?_
 refine Wc.no rfl ?_
 refine Wc.skip ?_
 refine Wx.go ?_
 refine Wc.seq ?_
 refine Wc.seq ?_
 refine Wc.region ?_
 refine Wl.q (v := Value.int .i64 1) (q_move rfl) ?_
 refine Wl.q (v := Value.bool true) (q_neq (r := false) rfl rfl (decide_eq_false (by decide))) ?_
 refine Wl.done ?_
 refine Wx.go ?_
 refine Wc.yes rfl ?_
 refine Wc.seq ?_
 refine Wc.region ?_
 refine Wl.e (e_call (F := (pt b1 3 [Value.int .i64 ((l.length : Nat) : Int)]) :: F) (args := []) Try.call13 rfl (alive_c W0)) (fun _ _ => ?_)
 refine Wl.imp (L' := (pt b1 3 [Value.int .i64 ((l.length : Nat) : Int)]) :: F) (fun _ h => h) ?_
 refine Wl.q (v := Value.bool true) (q_assign rfl) ?_
 refine Wl.done ?_
 refine Wx.go ?_
 refine Wc.ret ?_
 refine Wx.thenRet ?_
 refine Wx.fin1 rfl (.inl rfl) (fun w hs => ?_)
 exact ⟨(), trivial, rfl, (st_drop (st_pull [0] hs))⟩

theorem plays_high (W0 : World) (n : Int) (hn : n > 4096) (vl : Value) (l : List OpJ) (hl : Rd W0 vl l.length (l.flatMap opJC)) (hlb : ∀ o ∈ l, o.b < 256 ∧ o.n ≤ 9223372036854775807) (hb0 : beyondB [(l.length : Int)] = false) (h5 : l.length ≤ 500) :
  Con Try.prog W0 7 #[Value.int .i64 n, vl] [] (X := Unit) (fun _ => True) (fun _ => .bool true) (fun _ => []) := by
 refine Con.of (args := [Value.int .i64 n, vl]) Try.func7 rfl Try.ntmps7 rfl (fun F => ?_)
 have hlen := beyond_one hb0
 show Wc _ W0 _ _ _ _ _ (F)
 refine Wc.seq ?_
 refine Wc.region ?_
 refine Wl.q (v := Value.bool false) (q_assign rfl) ?_
 refine Wl.done ?_
 refine Wx.go ?_
 refine Wc.seq ?_
 refine Wc.seq ?_
 refine Wc.region ?_
 refine Wl.q (v := vl) (q_move rfl) ?_
 refine Wl.q (v := Value.int .i64 ((l.length : Nat) : Int)) (q_len_is Try.underlying51 rfl hl.shape) ?_
 refine Wl.e (e_buildSlice (cs := [Value.int .i64 ((l.length : Nat) : Int)]) se_72 zo_3 (by decide) (by decide) (by kernel_rfl)) (fun b1 _ => ?_)
 refine Wl.imp (L' := (pt b1 3 [Value.int .i64 ((l.length : Nat) : Int)]) :: F) (fun _ h => h) ?_
 refine Wl.e (e_call (F := F) (args := [Value.slice (some ⟨b1, 0, none⟩) 1 1]) Try.call20 rfl (Con.eqs (val' := fun _ => Value.bool false) (post' := fun _ => [pt b1 3 [Value.int .i64 ((l.length : Nat) : Int)]]) (beyond_c W0 b1 ([((l.length : Nat) : Int)] : List Int) (by simp) (by simp; omega)) (fun _ => congrArg Value.bool hb0) (fun _ => rfl))) (fun _ _ => ?_)
 refine Wl.imp (L' := (pt b1 3 [Value.int .i64 ((l.length : Nat) : Int)]) :: F) (fun _ h => h) ?_
 refine Wl.q (v := Value.bool false) (q_move rfl) ?_
 refine Wl.q (v := vl) (q_move rfl) ?_
 refine Wl.q (v := Value.int .i64 ((l.length : Nat) : Int)) (q_len_is Try.underlying51 rfl hl.shape) ?_
 refine Wl.q (v := Value.bool false) (q_gtr (r := false) rfl rfl (decide_eq_false (by omega))) ?_
 refine Wl.q (v := Value.bool false) (q_pick (t := false) rfl rfl) ?_
 refine Wl.done ?_
 refine Wx.go ?_
 refine Wc.no rfl ?_
 refine Wc.skip ?_
 refine Wx.go ?_
 refine Wc.seq ?_
 refine Wc.region ?_
 refine Wl.q (v := Value.int .i64 n) (q_move rfl) ?_
 refine Wl.e (e_call (F := (pt b1 3 [Value.int .i64 ((l.length : Nat) : Int)]) :: F) (args := [Value.int .i64 n]) Try.call16 rfl (new_high W0 n (by omega))) (fun _ _ => ?_)
 refine Wl.imp (L' := (pt b1 3 [Value.int .i64 ((l.length : Nat) : Int)]) :: F) (fun _ h => h) ?_
 refine Wl.q (v := Value.tuple #[Value.pointer none, Value.int .i64 3]) (q_move rfl) ?_
 refine Wl.q (v := Value.pointer none) (q_extract (i := 0) rfl rfl) ?_
 refine Wl.q (v := Value.int .i64 3) (q_extract (i := 1) rfl rfl) ?_
 refine Wl.q (v := Value.pointer none) (q_assign rfl) ?_
 refine Wl.q (v := Value.int .i64 3) (q_assign rfl) ?_
 refine Wl.done ?_
 refine Wx.go ?_
 refine Wc.seq ?_
 refine Wc.region ?_
 refine Wl.q (v := Value.int .i64 n) (q_move rfl) ?_
 refine Wl.e (e_call (F := (pt b1 3 [Value.int .i64 ((l.length : Nat) : Int)]) :: F) (args := [Value.int .i64 n]) Try.call25 rfl (rnew_high W0 n (by omega))) (fun _ _ => ?_)
 refine Wl.imp (L' := (pt b1 3 [Value.int .i64 ((l.length : Nat) : Int)]) :: F) (fun _ h => h) ?_
 refine Wl.q (v := Value.tuple #[Value.pointer none, Value.int .i64 3]) (q_move rfl) ?_
 refine Wl.q (v := Value.pointer none) (q_extract (i := 0) rfl rfl) ?_
 refine Wl.q (v := Value.int .i64 3) (q_extract (i := 1) rfl rfl) ?_
 refine Wl.q (v := Value.pointer none) (q_assign rfl) ?_
 refine Wl.q (v := Value.int .i64 3) (q_assign rfl) ?_
 refine Wl.done ?_
 refine Wx.go ?_
 refine Wc.seq ?_
 refine Wc.seq ?_
 refine Wc.region ?_
 refine Wl.q (v := Value.int .i64 3) (q_move rfl) ?_
 refine Wl.q (v := Value.int .i64 3) (q_move rfl) ?_
 refine Wl.q (v := Value.bool false) (q_neq (r := true) rfl rfl (decide_eq_true (by decide))) ?_
 refine Wl.done ?_
 refine Wx.go ?_
 refine Wc.no rfl ?_
 refine Wc.skip ?_
 refine Wx.go ?_
 refine Wc.seq ?_
 refine Wc.seq ?_
 refine Wc.region ?_
 refine Wl.q (v := Value.int .i64 3) (q_move rfl) ?_
 refine Wl.q (v := Value.bool true) (q_neq (r := false) rfl rfl (decide_eq_false (by decide))) ?_
 refine Wl.done ?_
 refine Wx.go ?_
 refine Wc.yes rfl ?_
 refine Wc.seq ?_
 refine Wc.region ?_
 refine Wl.e (e_call (F := (pt b1 3 [Value.int .i64 ((l.length : Nat) : Int)]) :: F) (args := []) Try.call13 rfl (alive_c W0)) (fun _ _ => ?_)
 refine Wl.imp (L' := (pt b1 3 [Value.int .i64 ((l.length : Nat) : Int)]) :: F) (fun _ h => h) ?_
 refine Wl.q (v := Value.bool true) (q_assign rfl) ?_
 refine Wl.done ?_
 refine Wx.go ?_
 refine Wc.ret ?_
 refine Wx.thenRet ?_
 refine Wx.fin1 rfl (.inl rfl) (fun w hs => ?_)
 exact ⟨(), trivial, rfl, (st_drop (st_pull [0] hs))⟩

set_option maxRecDepth 8000 in
set_option maxHeartbeats 4000000 in
theorem plays_in (W0 : World) (n : Nat) (hn1 : 1 ≤ n) (hn2 : n ≤ 4096) (vl : Value) (l : List OpJ) (hl : Rd W0 vl l.length (l.flatMap opJC)) (hlb : ∀ o ∈ l, o.b < 256 ∧ o.n ≤ 9223372036854775807) (hb0 : beyondB [(l.length : Int)] = false) (h5 : l.length ≤ 500) :
    Con Try.prog W0 7 #[Value.int .i64 ((n : Nat) : Int), vl] [] (X := Unit) (fun _ => True) (fun _ => .bool true) (fun _ => []) := by
  refine Con.of (args := [Value.int .i64 ((n : Nat) : Int), vl]) Try.func7 rfl Try.ntmps7 rfl (fun F => ?_)
  have hlen := beyond_one hb0
  have hI0 := PlayI.new hn2
  show Wc _ W0 _ _ _ _ _ (F)
  refine Wc.seq ?_
  refine Wc.region ?_
  refine Wl.q (v := Value.bool false) (q_assign rfl) ?_
  refine Wl.done ?_
  refine Wx.go ?_
  refine Wc.seq ?_
  refine Wc.seq ?_
  refine Wc.region ?_
  refine Wl.q (v := vl) (q_move rfl) ?_
  refine Wl.q (v := Value.int .i64 ((l.length : Nat) : Int)) (q_len_is Try.underlying51 rfl hl.shape) ?_
  refine Wl.e (e_buildSlice (cs := [Value.int .i64 ((l.length : Nat) : Int)]) se_72 zo_3 (by decide) (by decide) (by kernel_rfl)) (fun b1 _ => ?_)
  refine Wl.imp (L' := (pt b1 3 [Value.int .i64 ((l.length : Nat) : Int)]) :: F) (fun _ h => h) ?_
  refine Wl.e (e_call (F := F) (args := [Value.slice (some ⟨b1, 0, none⟩) 1 1]) Try.call20 rfl (Con.eqs (val' := fun _ => Value.bool false) (post' := fun _ => [pt b1 3 [Value.int .i64 ((l.length : Nat) : Int)]]) (beyond_c W0 b1 ([((l.length : Nat) : Int)] : List Int) (by simp) (by simp; omega)) (fun _ => congrArg Value.bool hb0) (fun _ => rfl))) (fun _ _ => ?_)
  refine Wl.imp (L' := (pt b1 3 [Value.int .i64 ((l.length : Nat) : Int)]) :: F) (fun _ h => h) ?_
  refine Wl.q (v := Value.bool false) (q_move rfl) ?_
  refine Wl.q (v := vl) (q_move rfl) ?_
  refine Wl.q (v := Value.int .i64 ((l.length : Nat) : Int)) (q_len_is Try.underlying51 rfl hl.shape) ?_
  refine Wl.q (v := Value.bool false) (q_gtr (r := false) rfl rfl (decide_eq_false (by omega))) ?_
  refine Wl.q (v := Value.bool false) (q_pick (t := false) rfl rfl) ?_
  refine Wl.done ?_
  refine Wx.go ?_
  refine Wc.no rfl ?_
  refine Wc.skip ?_
  refine Wx.go ?_
  refine Wc.seq ?_
  refine Wc.region ?_
  refine Wl.q (v := Value.int .i64 ((n : Nat) : Int)) (q_move rfl) ?_
  refine Wl.e (e_call (F := (pt b1 3 [Value.int .i64 ((l.length : Nat) : Int)]) :: F) (args := [Value.int .i64 ((n : Nat) : Int)]) Try.call16 rfl (new_ok W0 n (by omega) (by omega))) (fun pp _ => ?_)
  refine Wl.imp (L' := (isDisk pp (DS.new n)) :: (pt b1 3 [Value.int .i64 ((l.length : Nat) : Int)]) :: F) (fun _ h => h) ?_
  refine Wl.q (v := Value.tuple #[Value.pointer (some ⟨pp, 0, none⟩), Value.int .i64 0]) (q_move rfl) ?_
  refine Wl.q (v := Value.pointer (some ⟨pp, 0, none⟩)) (q_extract (i := 0) rfl rfl) ?_
  refine Wl.q (v := Value.int .i64 0) (q_extract (i := 1) rfl rfl) ?_
  refine Wl.q (v := Value.pointer (some ⟨pp, 0, none⟩)) (q_assign rfl) ?_
  refine Wl.q (v := Value.int .i64 0) (q_assign rfl) ?_
  refine Wl.done ?_
  refine Wx.go ?_
  refine Wc.seq ?_
  refine Wc.region ?_
  refine Wl.q (v := Value.int .i64 ((n : Nat) : Int)) (q_move rfl) ?_
  refine Wl.e (e_call (F := (isDisk pp (DS.new n)) :: (pt b1 3 [Value.int .i64 ((l.length : Nat) : Int)]) :: F) (args := [Value.int .i64 ((n : Nat) : Int)]) Try.call25 rfl (rnew_ok W0 n (by omega) (by omega))) (fun q _ => ?_)
  refine Wl.imp (L' := (isRef q (DS.new n)) :: (isDisk pp (DS.new n)) :: (pt b1 3 [Value.int .i64 ((l.length : Nat) : Int)]) :: F) (fun _ h => h) ?_
  refine Wl.q (v := Value.tuple #[Value.pointer (some ⟨q, 0, none⟩), Value.int .i64 0]) (q_move rfl) ?_
  refine Wl.q (v := Value.pointer (some ⟨q, 0, none⟩)) (q_extract (i := 0) rfl rfl) ?_
  refine Wl.q (v := Value.int .i64 0) (q_extract (i := 1) rfl rfl) ?_
  refine Wl.q (v := Value.pointer (some ⟨q, 0, none⟩)) (q_assign rfl) ?_
  refine Wl.q (v := Value.int .i64 0) (q_assign rfl) ?_
  refine Wl.done ?_
  refine Wx.go ?_
  refine Wc.seq ?_
  refine Wc.seq ?_
  refine Wc.region ?_
  refine Wl.q (v := Value.int .i64 0) (q_move rfl) ?_
  refine Wl.q (v := Value.int .i64 0) (q_move rfl) ?_
  refine Wl.q (v := Value.bool false) (q_neq (r := true) rfl rfl (decide_eq_true (by decide))) ?_
  refine Wl.done ?_
  refine Wx.go ?_
  refine Wc.no rfl ?_
  refine Wc.skip ?_
  refine Wx.go ?_
  refine Wc.seq ?_
  refine Wc.seq ?_
  refine Wc.region ?_
  refine Wl.q (v := Value.int .i64 0) (q_move rfl) ?_
  refine Wl.q (v := Value.bool false) (q_neq (r := true) rfl rfl (decide_eq_true (by decide))) ?_
  refine Wl.done ?_
  refine Wx.go ?_
  refine Wc.no rfl ?_
  refine Wc.skip ?_
  refine Wx.go ?_
  refine Wc.seq ?_
  refine Wc.region ?_
  refine Wl.q (v := Value.pointer (some ⟨pp, 0, none⟩)) (q_move rfl) ?_
  refine Wl.q (v := Value.pointer (some ⟨q, 0, none⟩)) (q_move rfl) ?_
  refine Wl.q (v := Value.agg #[Value.pointer (some ⟨pp, 0, none⟩), Value.pointer none, Value.pointer (some ⟨q, 0, none⟩), Value.pointer none]) (q_build (pl := [(0, 1), (1, 1), (2, 1), (3, 1)]) Try.underlying58 zo_58 (by kernel_rfl) (by kernel_rfl)) ?_
  refine Wl.e (e_box (x := .tmp 43) (vs := [Value.pointer (some ⟨pp, 0, none⟩), Value.pointer none, Value.pointer (some ⟨q, 0, none⟩), Value.pointer none]) rfl) (fun wp _ => ?_)
  refine Wl.imp (L' := (pt wp 58 [Value.pointer (some ⟨pp, 0, none⟩), Value.pointer none, Value.pointer (some ⟨q, 0, none⟩), Value.pointer none]) :: (isRef q (DS.new n)) :: (isDisk pp (DS.new n)) :: (pt b1 3 [Value.int .i64 ((l.length : Nat) : Int)]) :: F) (fun _ h => h) ?_
  refine Wl.q (v := Value.pointer (some ⟨wp, 0, none⟩)) (q_assign rfl) ?_
  refine Wl.done ?_
  refine Wx.go ?_
  refine Wc.seq ?_
  refine Wc.seq ?_
  refine Wc.region ?_
  refine Wl.imp (L' := (wJ pp q wp none) :: (isDisk pp (DS.new n)) :: (isRef q (DS.new n)) :: F) (fun w hs => (st_pull [0, 1, 0] (st_drop (st_pull [3] hs)))) ?_
  refine Wl.q (v := Value.pointer (some ⟨wp, 0, none⟩)) (q_move rfl) ?_
  refine Wl.q (v := Value.agg #[Value.int .i64 1, Value.int .i64 0, Value.int .u8 0, Value.int .i64 0]) (q_build (pl := [(0, 1), (1, 1), (2, 1), (3, 1)]) Try.underlying61 zo_61 (by kernel_rfl) (by kernel_rfl)) ?_
  refine Wl.e (e_call (F := F) (args := [Value.pointer (some ⟨wp, 0, none⟩), Value.agg #[Value.int .i64 1, Value.int .i64 0, Value.int .u8 0, Value.int .i64 0]]) Try.call26 rfl (do_c W0 pp q wp (DS.new n) ⟨1, 0, 0, 0⟩ (by show 0 < 256; decide) hI0.wf (by show 1 ≤ (DS.new n).secs.length; rw [hI0.len]; omega) (by show 0 < 1000000000000; decide) (by show 0 < 4000000000000000000; decide) none (fun _ h => by cases h))) (fun _ _ => ?_)
  refine Wl.imp (L' := (wJ pp q wp ((opJ (DS.new n) none ⟨1, 0, 0, 0⟩).2)) :: (isDisk pp ((opJ (DS.new n) none ⟨1, 0, 0, 0⟩).1)) :: (isRef q ((opJ (DS.new n) none ⟨1, 0, 0, 0⟩).1)) :: F) (fun _ h => h) ?_
  refine Wl.q (v := Value.bool false) (q_not rfl rfl) ?_
  refine Wl.done ?_
  refine Wx.go ?_
  refine Wc.no rfl ?_
  refine Wc.skip ?_
  refine Wx.go ?_
  refine Wc.seq ?_
  refine Wc.seq ?_
  refine Wc.region ?_
  refine Wl.q (v := Value.int .i64 0) (q_assign rfl) ?_
  refine Wl.done ?_
  refine Wx.go ?_
  refine Wc.block ?_
  refine Wc.loop (X := Nat × DS × Option JS) (fun (k, d, oj) E => E 10 = Value.int .i64 ((k : Nat) : Int) ∧ E 0 = Value.int .i64 ((n : Nat) : Int) ∧ E 1 = vl ∧ E 5 = Value.pointer (some ⟨pp, 0, none⟩) ∧ E 7 = Value.pointer (some ⟨q, 0, none⟩) ∧ E 9 = Value.pointer (some ⟨wp, 0, none⟩) ∧ k ≤ l.length ∧ PlayI n (k + 1) d oj) (fun (k, d, oj) => (wJ pp q wp oj) :: (isDisk pp d) :: (isRef q d) :: F) (fun (k, d, oj) => l.length - k) (0, (opJ (DS.new n) none ⟨1, 0, 0, 0⟩).1, (opJ (DS.new n) none ⟨1, 0, 0, 0⟩).2) ?_ ?_ ?_
  · exact ⟨rfl, rfl, rfl, rfl, rfl, rfl, (Nat.zero_le _), (hI0.step (by omega) (by show 0 < 256; decide) (by show (0 : Int) ≤ 9223372036854775807; decide))⟩
  · exact fun w hs => hs
  · rintro ⟨k, d, oj⟩ E3 ⟨hE10_1, hE0_1, hE1_1, hE5_1, hE7_1, hE9_1, hp0, hI⟩
    dsimp only at *
    refine Wc.seq ?_
    refine Wc.seq ?_
    refine Wc.region ?_
    refine Wl.q (v := Value.int .i64 ((k : Nat) : Int)) (q_move hE10_1) ?_
    refine Wl.q (v := vl) (q_move hE1_1) ?_
    refine Wl.q (v := Value.int .i64 ((l.length : Nat) : Int)) (q_len_is Try.underlying51 rfl hl.shape) ?_
    by_cases hlt : ((k : Nat) : Int) < ((l.length : Nat) : Int)
    ·
      obtain ⟨o, hget⟩ : ∃ o, l[k]? = some o := ⟨l[k]'(by omega), by simp [List.getElem?_eq_getElem (show k < l.length by omega)]⟩
      obtain ⟨hob, hoa⟩ := hlb o (List.mem_of_getElem? hget)
      refine Wl.q (v := Value.bool true) (q_lss (r := true) rfl rfl (decide_eq_true hlt)) ?_
      refine Wl.done ?_
      refine Wx.go ?_
      refine Wc.yes rfl ?_
      refine Wc.skip ?_
      refine Wx.go ?_
      refine Wc.seq ?_
      refine Wc.block ?_
      refine Wc.seq ?_
      refine Wc.drawsS [5] ((wJ pp q wp oj) :: (isDisk pp d) :: (isRef q d) :: []) (by kernel_rfl) ?_
      refine Wr.pure (v := Value.pointer (some ⟨wp, 0, none⟩)) 0 rfl (by kernel_rfl) (.inr (fun _ h => st_take [0, 0, 0] h)) (.inl ⟨rfl, fun _ => q_move hE9_1⟩) ?_
      refine Wr.pure (v := vl) 1 rfl (by kernel_rfl) (.inr (fun _ h => st_take [0, 0, 0] h)) (.inl ⟨rfl, fun _ => q_move hE1_1⟩) ?_
      refine Wr.pure (v := Value.int .i64 ((k : Nat) : Int)) 2 rfl (by kernel_rfl) (.inr (fun _ h => st_take [0, 0, 0] h)) (.inl ⟨rfl, fun _ => q_move hE10_1⟩) ?_
      refine Wr.pure (v := Value.pointer (some ⟨(rb vl), ro vl + k * 4, none⟩)) 3 rfl (by kernel_rfl) (.inr (fun _ h => st_take [0, 0, 0] h)) (.inl ⟨rfl, fun _ => q_idx_is (m := ro vl + k * 4) se_51 rfl (hl.some_ (by omega)) rfl (by omega) (by omega) rfl⟩) ?_
      refine Wr.take (v := Value.agg #[Value.int .i64 o.kind, Value.int .i64 o.n, Value.int .u8 ((o.b : Nat) : Int), Value.int .i64 o.bits]) 4 rfl (by kernel_rfl) (fun _ h => st_take [0, 0, 0] h) (.inl ⟨rfl, q_loadAgg (vs := [Value.int .i64 o.kind, Value.int .i64 o.n, Value.int .u8 ((o.b : Nat) : Int), Value.int .i64 o.bits]) ag_61 rfl (fun j u hj => .old (rdJ hl hget j hj))⟩) ?_
      refine Wr.e 5 (by kernel_rfl) rfl (e_call (F := F) (args := [Value.pointer (some ⟨wp, 0, none⟩), Value.agg #[Value.int .i64 o.kind, Value.int .i64 o.n, Value.int .u8 ((o.b : Nat) : Int), Value.int .i64 o.bits]]) Try.call26 rfl (do_o W0 pp q wp d o hob hI.wf (by rw [hI.len]; omega) (by have := hI.since; omega) (by have := hI.count; omega) oj (hI.put (by omega)))) (.inl (by kernel_rfl)) (fun ⟨bd, cd, sv, lv, bv⟩ hrf => ?_)
      refine Wr.imp (L' := (wJ pp q wp ((opJ d oj o).2)) :: (isDisk pp ((opJ d oj o).1)) :: (pt q 63 [Value.slice (some ⟨bd, 0, none⟩) ((opJ d oj o).1.secs.length) cd, sv, Value.bool ((opJ d oj o).1.down), Value.int .i64 lv, Value.int .i64 bv, Value.int .i64 (((opJ d oj o).1.count : Nat) : Int)]) :: (slp 9 1 bd cd ((opJ d oj o).1.secs.map Value.string)) :: (sl 86 2 sv ((opJ d oj o).1.since.length) (flat (opJ d oj o).1.since)) :: F) (fun _ h => h) ?_
      refine Wr.rebaseS [] ((wJ pp q wp ((opJ d oj o).2)) :: (isDisk pp ((opJ d oj o).1)) :: (pt q 63 [Value.slice (some ⟨bd, 0, none⟩) ((opJ d oj o).1.secs.length) cd, sv, Value.bool ((opJ d oj o).1.down), Value.int .i64 lv, Value.int .i64 bv, Value.int .i64 (((opJ d oj o).1.count : Nat) : Int)]) :: (slp 9 1 bd cd ((opJ d oj o).1.secs.map Value.string)) :: (sl 86 2 sv ((opJ d oj o).1.since.length) (flat (opJ d oj o).1.since)) :: []) (by kernel_rfl) ?_
      refine Wr.pure (v := Value.bool false) 6 rfl (by kernel_rfl) (.inr (fun _ h => st_take [0, 0, 0, 0, 0] h)) (.inl ⟨rfl, fun _ => q_not rfl rfl⟩) ?_
      refine Wr.pure (v := Value.bool false) 7 rfl (by kernel_rfl) (.inr (fun _ h => st_take [0, 0, 0, 0, 0] h)) (.inl ⟨rfl, fun _ => q_move rfl⟩) ?_
      refine Wr.pure (v := Value.pointer (some ⟨pp, 0, none⟩)) 8 rfl (by kernel_rfl) (.inr (fun _ h => st_take [0, 0, 0, 0, 0] h)) (.inl ⟨rfl, fun _ => q_move hE5_1⟩) ?_
      refine Wr.pure (v := Value.pointer (some ⟨q, 0, none⟩)) 10 rfl (by kernel_rfl) (.inr (fun _ h => st_take [0, 0, 0, 0, 0] h)) (.inl ⟨rfl, fun _ => q_move hE7_1⟩) ?_
      refine Wr.pure (v := Value.pointer (some ⟨q, 0, none⟩)) 11 rfl (by kernel_rfl) (.inr (fun _ h => st_take [0, 0, 0, 0, 0] h)) (.inl ⟨rfl, fun _ => q_nil_ptr rfl⟩) ?_
      refine Wr.pure (v := Value.pointer (some ⟨q, 5, none⟩)) 12 rfl (by kernel_rfl) (.inr (fun _ h => st_take [0, 0, 0, 0, 0] h)) (.inl ⟨rfl, fun _ => q_field (m := 5) fo_63_5 rfl rfl⟩) ?_
      refine Wr.take (v := Value.int .i64 (((opJ d oj o).1.count : Nat) : Int)) 13 rfl (by kernel_rfl) (fun _ h => st_take [0, 0, 0, 0, 0] h) (.inl ⟨rfl, q_load sc_3 rfl (.cel (i := 2) rfl rfl)⟩) ?_
      refine Wr.imp (L' := (isDisk pp ((opJ d oj o).1)) :: (wJ pp q wp ((opJ d oj o).2)) :: (pt q 63 [Value.slice (some ⟨bd, 0, none⟩) ((opJ d oj o).1.secs.length) cd, sv, Value.bool ((opJ d oj o).1.down), Value.int .i64 lv, Value.int .i64 bv, Value.int .i64 (((opJ d oj o).1.count : Nat) : Int)]) :: (slp 9 1 bd cd ((opJ d oj o).1.secs.map Value.string)) :: (sl 86 2 sv ((opJ d oj o).1.since.length) (flat (opJ d oj o).1.since)) :: F) (fun _ h => st_pull [1] h) ?_
      refine Wr.e 9 (by kernel_rfl) rfl (e_call (F := (wJ pp q wp ((opJ d oj o).2)) :: (pt q 63 [Value.slice (some ⟨bd, 0, none⟩) ((opJ d oj o).1.secs.length) cd, sv, Value.bool ((opJ d oj o).1.down), Value.int .i64 lv, Value.int .i64 bv, Value.int .i64 (((opJ d oj o).1.count : Nat) : Int)]) :: (slp 9 1 bd cd ((opJ d oj o).1.secs.map Value.string)) :: (sl 86 2 sv ((opJ d oj o).1.since.length) (flat (opJ d oj o).1.since)) :: F) (args := [Value.pointer (some ⟨pp, 0, none⟩)]) Try.call18 rfl (count_c W0 pp ((opJ d oj o).1) )) (.inr fun _ _ _ h => st_take [1, 0, 0, 0, 0] h) (fun _ _ => ?_)
      refine Wr.imp (L' := (isDisk pp ((opJ d oj o).1)) :: (wJ pp q wp ((opJ d oj o).2)) :: (pt q 63 [Value.slice (some ⟨bd, 0, none⟩) ((opJ d oj o).1.secs.length) cd, sv, Value.bool ((opJ d oj o).1.down), Value.int .i64 lv, Value.int .i64 bv, Value.int .i64 (((opJ d oj o).1.count : Nat) : Int)]) :: (slp 9 1 bd cd ((opJ d oj o).1.secs.map Value.string)) :: (sl 86 2 sv ((opJ d oj o).1.since.length) (flat (opJ d oj o).1.since)) :: F) (fun _ h => h) ?_
      refine Wr.pure (v := Value.bool false) 14 rfl (by kernel_rfl) (.inr (fun _ h => st_take [1, 0, 0, 0, 0] h)) (.inl ⟨rfl, fun _ => q_neq (r := true) rfl rfl (decide_eq_true (rfl))⟩) ?_
      refine Wr.pure (v := Value.bool false) 15 rfl (by kernel_rfl) (.inr (fun _ h => st_take [1, 0, 0, 0, 0] h)) (.inl ⟨rfl, fun _ => q_pick (t := false) rfl rfl⟩) ?_
      refine Wr.done (by kernel_rfl) ?_
      refine Wx.go ?_
      refine Wc.no rfl ?_
      refine Wc.skip ?_
      refine Wx.blockEnd ?_
      refine Wx.go ?_
      refine Wc.region ?_
      refine Wl.q (v := Value.int .i64 ((k : Nat) : Int)) (q_move hE10_1) ?_
      refine Wl.q (v := Value.int .i64 ((k + 1 : Nat) : Int)) (q_add (c := ((k + 1 : Nat) : Int)) rfl rfl (by rw [wrap_i64] <;> omega)) ?_
      refine Wl.q (v := Value.int .i64 ((k + 1 : Nat) : Int)) (q_assign rfl) ?_
      refine Wl.done ?_
      refine Wx.at (k + 1, (opJ d oj o).1, (opJ d oj o).2) ⟨(by simp only; omega), rfl, hE0_1, hE1_1, hE5_1, hE7_1, hE9_1, (by omega), (hI.step (by omega) hob hoa)⟩ (fun w hs => st_pull [2, 1] (isRef_mk (d := (opJ d oj o).1) hrf rfl (st_pull [2, 2, 2, 0, 0] (hs))))
    ·
      have hsince : d.since.length < 1099511627776 := by have := hI.since; omega
      refine Wl.q (v := Value.bool false) (q_lss (r := false) rfl rfl (decide_eq_false hlt)) ?_
      refine Wl.done ?_
      refine Wx.go ?_
      refine Wc.no rfl ?_
      refine Wc.exit ?_
      refine Wx.thenExit ?_
      refine Wx.thenExit ?_
      refine Wx.out ?_
      refine Wx.go ?_
      refine Wc.seq ?_
      refine Wc.seq ?_
      refine Wc.region ?_
      refine Wl.q (v := Value.int .i64 0) (q_assign rfl) ?_
      refine Wl.done ?_
      refine Wx.go ?_
      refine Wc.block ?_
      refine Wc.loop (X := Nat) (fun i E => E 11 = Value.int .i64 ((i : Nat) : Int) ∧ E 0 = Value.int .i64 ((n : Nat) : Int) ∧ E 5 = Value.pointer (some ⟨pp, 0, none⟩) ∧ E 7 = Value.pointer (some ⟨q, 0, none⟩) ∧ i ≤ n) (fun i => (wJ pp q wp oj) :: (isDisk pp d) :: (isRef q d) :: F) (fun i => n - i) 0 ?_ ?_ ?_
      · exact ⟨rfl, hE0_1, hE5_1, hE7_1, (Nat.zero_le _)⟩
      · exact fun w hs => hs
      · rintro i E5 ⟨hE11_3, hE0_3, hE5_3, hE7_3, hi2⟩
        refine Wc.seq ?_
        refine Wc.seq ?_
        refine Wc.region ?_
        refine Wl.q (v := Value.int .i64 ((i : Nat) : Int)) (q_move hE11_3) ?_
        refine Wl.q (v := Value.int .i64 ((n : Nat) : Int)) (q_move hE0_3) ?_
        by_cases hilt : ((i : Nat) : Int) < ((n : Nat) : Int)
        ·
          refine Wl.q (v := Value.bool true) (q_lss (r := true) rfl rfl (decide_eq_true hilt)) ?_
          refine Wl.done ?_
          refine Wx.go ?_
          refine Wc.yes rfl ?_
          refine Wc.skip ?_
          refine Wx.go ?_
          refine Wc.seq ?_
          refine Wc.block ?_
          refine Wc.seq ?_
          refine Wc.region ?_
          refine Wl.q (v := Value.pointer (some ⟨pp, 0, none⟩)) (q_move hE5_3) ?_
          refine Wl.q (v := Value.int .i64 ((i : Nat) : Int)) (q_move hE11_3) ?_
          refine Wl.imp (L' := (isDisk pp d) :: (wJ pp q wp oj) :: (isRef q d) :: F) (fun _ h => st_pull [1] h) ?_
          refine Wl.e (e_call (F := (wJ pp q wp oj) :: (isRef q d) :: F) (args := [Value.pointer (some ⟨pp, 0, none⟩), Value.int .i64 ((i : Nat) : Int)]) Try.call27 rfl (read_c W0 pp d ((i : Nat) : Int) hsince)) (fun _ _ => ?_)
          refine Wl.imp (L' := (isDisk pp d) :: (wJ pp q wp oj) :: (isRef q d) :: F) (fun _ h => h) ?_
          refine Wl.q (v := Value.tuple #[Value.string ((d.read ((i : Nat) : Int)).1), Value.int .i64 ((d.read ((i : Nat) : Int)).2)]) (q_move rfl) ?_
          refine Wl.q (v := Value.string ((d.read ((i : Nat) : Int)).1)) (q_extract (i := 0) rfl rfl) ?_
          refine Wl.q (v := Value.int .i64 ((d.read ((i : Nat) : Int)).2)) (q_extract (i := 1) rfl rfl) ?_
          refine Wl.q (v := Value.string ((d.read ((i : Nat) : Int)).1)) (q_assign rfl) ?_
          refine Wl.q (v := Value.int .i64 ((d.read ((i : Nat) : Int)).2)) (q_assign rfl) ?_
          refine Wl.done ?_
          refine Wx.go ?_
          refine Wc.seq ?_
          refine Wc.region ?_
          refine Wl.q (v := Value.pointer (some ⟨q, 0, none⟩)) (q_move hE7_3) ?_
          refine Wl.q (v := Value.int .i64 ((i : Nat) : Int)) (q_move hE11_3) ?_
          refine Wl.imp (L' := (isRef q d) :: (isDisk pp d) :: (wJ pp q wp oj) :: F) (fun _ h => st_pull [2] h) ?_
          refine Wl.e (e_call (F := (isDisk pp d) :: (wJ pp q wp oj) :: F) (args := [Value.pointer (some ⟨q, 0, none⟩), Value.int .i64 ((i : Nat) : Int)]) Try.call28 rfl (rread_c W0 q d ((i : Nat) : Int) hsince)) (fun _ _ => ?_)
          refine Wl.imp (L' := (isRef q d) :: (isDisk pp d) :: (wJ pp q wp oj) :: F) (fun _ h => h) ?_
          refine Wl.q (v := Value.tuple #[Value.string ((d.read ((i : Nat) : Int)).1), Value.int .i64 ((d.read ((i : Nat) : Int)).2)]) (q_move rfl) ?_
          refine Wl.q (v := Value.string ((d.read ((i : Nat) : Int)).1)) (q_extract (i := 0) rfl rfl) ?_
          refine Wl.q (v := Value.int .i64 ((d.read ((i : Nat) : Int)).2)) (q_extract (i := 1) rfl rfl) ?_
          refine Wl.q (v := Value.string ((d.read ((i : Nat) : Int)).1)) (q_assign rfl) ?_
          refine Wl.q (v := Value.int .i64 ((d.read ((i : Nat) : Int)).2)) (q_assign rfl) ?_
          refine Wl.done ?_
          refine Wx.go ?_
          refine Wc.seq ?_
          refine Wc.region ?_
          refine Wl.q (v := Value.string ((d.read ((i : Nat) : Int)).1)) (q_move rfl) ?_
          refine Wl.q (v := Value.string ((d.read ((i : Nat) : Int)).1)) (q_move rfl) ?_
          refine Wl.q (v := Value.bool false) (q_neq_str (r := true) rfl rfl (text_true (rfl))) ?_
          refine Wl.q (v := Value.bool false) (q_move rfl) ?_
          refine Wl.q (v := Value.int .i64 ((d.read ((i : Nat) : Int)).2)) (q_move rfl) ?_
          refine Wl.q (v := Value.int .i64 ((d.read ((i : Nat) : Int)).2)) (q_move rfl) ?_
          refine Wl.q (v := Value.bool false) (q_neq (r := true) rfl rfl (decide_eq_true (rfl))) ?_
          refine Wl.q (v := Value.bool false) (q_pick (t := false) rfl rfl) ?_
          refine Wl.done ?_
          refine Wx.go ?_
          refine Wc.no rfl ?_
          refine Wc.skip ?_
          refine Wx.blockEnd ?_
          refine Wx.go ?_
          refine Wc.region ?_
          refine Wl.q (v := Value.int .i64 ((i : Nat) : Int)) (q_move hE11_3) ?_
          refine Wl.q (v := Value.int .i64 ((i + 1 : Nat) : Int)) (q_add (c := ((i + 1 : Nat) : Int)) rfl rfl (by rw [wrap_i64] <;> omega)) ?_
          refine Wl.q (v := Value.int .i64 ((i + 1 : Nat) : Int)) (q_assign rfl) ?_
          refine Wl.done ?_
          refine Wx.at (i + 1) ⟨(by omega), rfl, hE0_3, hE5_3, hE7_3, (by omega)⟩ (fun w hs => (st_pull [2, 1, 0] (hs)))
        ·
          refine Wl.q (v := Value.bool false) (q_lss (r := false) rfl rfl (decide_eq_false hilt)) ?_
          refine Wl.done ?_
          refine Wx.go ?_
          refine Wc.no rfl ?_
          refine Wc.exit ?_
          refine Wx.thenExit ?_
          refine Wx.thenExit ?_
          refine Wx.out ?_
          refine Wx.go ?_
          refine Wc.seq ?_
          refine Wc.region ?_
          refine Wl.e (e_call (F := (wJ pp q wp oj) :: (isDisk pp d) :: (isRef q d) :: F) (args := []) Try.call13 rfl (alive_c W0)) (fun _ _ => ?_)
          refine Wl.imp (L' := (wJ pp q wp oj) :: (isDisk pp d) :: (isRef q d) :: F) (fun _ h => h) ?_
          refine Wl.q (v := Value.bool true) (q_assign rfl) ?_
          refine Wl.done ?_
          refine Wx.go ?_
          refine Wc.ret ?_
          refine Wx.fin1 rfl (.inl rfl) (fun w hs => ?_)
          exact ⟨(), trivial, rfl, (st_drop (st_drop (st_drop (st_pull [0, 0, 0] hs))))⟩

theorem plays_law (W0 : World) (n : Int) (vl : Value) (l : List OpJ) (hl : Rd W0 vl l.length (l.flatMap opJC)) (hlb : ∀ o ∈ l, o.b < 256 ∧ o.n ≤ 9223372036854775807) (hlen : l.length ≤ maxLen) : Con Try.prog W0 7 #[.int .i64 n, vl] [] (X := Unit) (fun _ => True) (fun _ => .bool true) (fun _ => []) := by
  cases hb0 : beyondB [(l.length : Int)] with
  | true => exact plays_beyond W0 n vl l hl hlb hb0 (by simp only [maxLen] at hlen; omega)
  | false =>
    by_cases h5 : l.length ≤ 500
    · by_cases h1 : n < 1
      · exact plays_low W0 n h1 vl l hl hlb hb0 h5
      by_cases h2 : n > 4096
      · exact plays_high W0 n h2 vl l hl hlb hb0 h5
      obtain ⟨m, rfl⟩ := Int.eq_ofNat_of_zero_le (show 0 ≤ n by omega)
      exact plays_in W0 m (by omega) (by omega) vl l hl hlb hb0 h5
    · exact plays_long W0 n vl l hl hlb hb0 (by omega)

end Go.Proofs.Ytnhejdnigblnoaa
