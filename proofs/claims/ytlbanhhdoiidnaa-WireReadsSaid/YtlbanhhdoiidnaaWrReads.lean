/- The wire: contracts of its calls. -/
import Derived.Test.YtlbanhhdoiidnaaWrI
namespace Go.Proofs.Ytlbanhhdoiidnaa
open Go Go.SL Go.Wr Go.RowKit
open Go.Dk (beyondF beyondB beyond_step beyond_le beyond_one beyond_two)
set_option linter.unusedVariables false

theorem reads_law (W0 : World) (s : ByteArray) (hsz : s.size ≤ 9223372036854775807) (vl : Value) (l : List Int) (hl : Rd W0 vl l.length (l.flatMap int1)) (hlm : l.length ≤ 9223372036854775807) :
    Con Try.prog W0 4 #[Value.string s, vl] [] (X := Unit) (fun _ => True) (fun _ => .bool true) (fun _ => []) := by
  refine Con.of (args := [Value.string s, vl]) Try.func4 rfl Try.ntmps4 rfl (fun F => ?_)
  show Wc _ W0 _ _ _ _ _ (F)
  refine Wc.seq ?_
  refine Wc.region ?_
  refine Wl.q (v := Value.bool false) (q_assign rfl) ?_
  refine Wl.done ?_
  refine Wx.go ?_
  refine Wc.seq ?_
  refine Wc.seq ?_
  refine Wc.region ?_
  refine Wl.q (v := vl) (q_move rfl) ?_
  refine Wl.q (v := Value.int .i64 ((l.length : Nat) : Int)) (q_len_is Try.underlying29 rfl hl.shape) ?_
  refine Wl.e (e_buildSlice (cs := [Value.int .i64 ((l.length : Nat) : Int)]) se_29 zo_3 (by decide) (by decide) (by kernel_rfl)) (fun b1 _ => ?_)
  refine Wl.imp (L' := (pt b1 3 [Value.int .i64 ((l.length : Nat) : Int)]) :: F) (fun _ h => h) ?_
  refine Wl.e (e_call (F := F) (args := [Value.slice (some ⟨b1, 0, none⟩) 1 1]) Try.call14 rfl (beyond_c W0 b1 ([((l.length : Nat) : Int)] : List Int) (by simp) (by simp; omega))) (fun _ _ => ?_)
  refine Wl.imp (L' := (pt b1 3 [Value.int .i64 ((l.length : Nat) : Int)]) :: F) (fun _ h => h) ?_
  refine Wl.done ?_
  refine Wx.go ?_
  refine Wc.both (b := beyondB ([((l.length : Nat) : Int)] : List Int)) rfl (fun hb2 => ?_) (fun hb2 => ?_)
  ·
    refine Wc.seq ?_
    refine Wc.region ?_
    refine Wl.q (v := Value.bool true) (q_assign rfl) ?_
    refine Wl.done ?_
    refine Wx.go ?_
    refine Wc.ret ?_
    refine Wx.thenRet ?_
    refine Wx.fin1 rfl (.inl rfl) (fun w hs => ?_)
    exact ⟨(), trivial, rfl, (st_drop (st_pull [0] hs))⟩
  ·
    have hf : l.length ≤ 262144 := Go.Dk.beyond_one hb2
    refine Wc.skip ?_
    refine Wx.go ?_
    refine Wc.seq ?_
    refine Wc.region ?_
    refine Wl.q (v := Value.string s) (q_move rfl) ?_
    refine Wl.e (e_call (F := (pt b1 3 [Value.int .i64 ((l.length : Nat) : Int)]) :: F) (args := [Value.string s]) Try.call15 rfl (rnew_c W0 s)) (fun r _ => ?_)
    refine Wl.imp (L' := (pt r 59 [Value.bool true, Value.string s, Value.int .i64 0]) :: (pt b1 3 [Value.int .i64 ((l.length : Nat) : Int)]) :: F) (fun _ h => h) ?_
    refine Wl.q (v := Value.pointer (some ⟨r, 0, none⟩)) (q_assign rfl) ?_
    refine Wl.done ?_
    refine Wx.go ?_
    refine Wc.seq ?_
    refine Wc.seq ?_
    refine Wc.region ?_
    refine Wl.q (v := Value.pointer (some ⟨r, 0, none⟩)) (q_move rfl) ?_
    refine Wl.q (v := Value.bool false) (q_eql_nil (r := false) rfl rfl Try.underlying31 rfl) ?_
    refine Wl.done ?_
    refine Wx.go ?_
    refine Wc.no rfl ?_
    refine Wc.skip ?_
    refine Wx.go ?_
    refine Wc.seq ?_
    refine Wc.region ?_
    refine Wl.q (v := Value.int .i64 0) (q_assign rfl) ?_
    refine Wl.done ?_
    refine Wx.go ?_
    refine Wc.seq ?_
    refine Wc.seq ?_
    refine Wc.region ?_
    refine Wl.q (v := Value.int .i64 0) (q_assign rfl) ?_
    refine Wl.done ?_
    refine Wx.go ?_
    refine Wc.block ?_
    refine Wc.loop (X := Nat × Nat) (fun (k, a) E => E 7 = Value.int .i64 ((k : Nat) : Int) ∧ E 6 = Value.int .i64 ((a : Nat) : Int) ∧ E 0 = Value.string s ∧ E 1 = vl ∧ E 5 = Value.pointer (some ⟨r, 0, none⟩) ∧ k ≤ l.length ∧ a ≤ s.size) (fun (k, a) => (pt r 59 [Value.bool true, Value.string s, Value.int .i64 ((a : Nat) : Int)]) :: F) (fun (k, a) => l.length - k) (0, 0) ?_ ?_ ?_
    · exact ⟨rfl, rfl, rfl, rfl, rfl, (by omega), (by omega)⟩
    · exact fun w hs => (st_drop (st_pull [1] hs))
    · rintro ⟨k, a⟩ E4 ⟨hE7_2, hE6_2, hE0_2, hE1_2, hE5_2, hp0, ha⟩
      dsimp only at *
      refine Wc.seq ?_
      refine Wc.seq ?_
      refine Wc.region ?_
      refine Wl.q (v := Value.int .i64 ((k : Nat) : Int)) (q_move hE7_2) ?_
      refine Wl.q (v := vl) (q_move hE1_2) ?_
      refine Wl.q (v := Value.int .i64 ((l.length : Nat) : Int)) (q_len_is Try.underlying29 rfl hl.shape) ?_
      by_cases hlt : ((k : Nat) : Int) < ((l.length : Nat) : Int)
      ·
        obtain ⟨o, hget⟩ : ∃ o, l[k]? = some o := ⟨l[k]'(by omega), by simp [List.getElem?_eq_getElem (show k < l.length by omega)]⟩
        refine Wl.q (v := Value.bool true) (q_lss (r := true) rfl rfl (decide_eq_true hlt)) ?_
        refine Wl.done ?_
        refine Wx.go ?_
        refine Wc.yes rfl ?_
        refine Wc.skip ?_
        refine Wx.go ?_
        refine Wc.seq ?_
        refine Wc.block ?_
        refine Wc.seq ?_
        refine Wc.region ?_
        refine Wl.q (v := Value.pointer (some ⟨r, 0, none⟩)) (q_move hE5_2) ?_
        refine Wl.q (v := Value.string s) (q_move hE0_2) ?_
        refine Wl.q (v := vl) (q_move hE1_2) ?_
        refine Wl.q (v := Value.int .i64 ((k : Nat) : Int)) (q_move hE7_2) ?_
        refine Wl.q (v := Value.pointer (some ⟨(rb vl), ro vl + k, none⟩)) (q_idx_is (m := ro vl + k) se_29 rfl (hl.some_ (by omega)) rfl (by omega) (by omega) (by simp)) ?_
        refine Wl.q (v := Value.int .i64 o) (q_load sc_3 rfl (.old (rd1 hl hget))) ?_
        refine Wl.q (v := Value.int .i64 ((a : Nat) : Int)) (q_move hE6_2) ?_
        refine Wl.e (e_call (F := F) (args := [Value.pointer (some ⟨r, 0, none⟩), Value.string s, Value.int .i64 o, Value.int .i64 ((a : Nat) : Int)]) Try.call16 rfl (reads_c W0 r s o a ha hsz)) (fun _ _ => ?_)
        refine Wl.imp (L' := (pt r 59 [Value.bool true, Value.string s, Value.int .i64 (((readN s o a) : Nat) : Int)]) :: F) (fun _ h => h) ?_
        refine Wl.q (v := Value.tuple #[Value.int .i64 (((readN s o a) : Nat) : Int), Value.bool true]) (q_move rfl) ?_
        refine Wl.q (v := Value.int .i64 (((readN s o a) : Nat) : Int)) (q_extract (i := 0) rfl rfl) ?_
        refine Wl.q (v := Value.bool true) (q_extract (i := 1) rfl rfl) ?_
        refine Wl.q (v := Value.int .i64 (((readN s o a) : Nat) : Int)) (q_assign rfl) ?_
        refine Wl.q (v := Value.bool true) (q_assign rfl) ?_
        refine Wl.done ?_
        refine Wx.go ?_
        refine Wc.seq ?_
        refine Wc.seq ?_
        refine Wc.region ?_
        refine Wl.q (v := Value.bool true) (q_move rfl) ?_
        refine Wl.q (v := Value.bool false) (q_not rfl rfl) ?_
        refine Wl.done ?_
        refine Wx.go ?_
        refine Wc.no rfl ?_
        refine Wc.skip ?_
        refine Wx.go ?_
        refine Wc.seq ?_
        refine Wc.region ?_
        refine Wl.q (v := Value.int .i64 (((readN s o a) : Nat) : Int)) (q_move rfl) ?_
        refine Wl.q (v := Value.int .i64 (((readN s o a) : Nat) : Int)) (q_assign rfl) ?_
        refine Wl.done ?_
        refine Wx.go ?_
        refine Wc.seq ?_
        refine Wc.region ?_
        refine Wl.q (v := Value.pointer (some ⟨r, 0, none⟩)) (q_move hE5_2) ?_
        refine Wl.e (e_call (F := F) (args := [Value.pointer (some ⟨r, 0, none⟩)]) Try.call17 rfl (at_c W0 r s (readN s o a))) (fun _ _ => ?_)
        refine Wl.imp (L' := (pt r 59 [Value.bool true, Value.string s, Value.int .i64 (((readN s o a) : Nat) : Int)]) :: F) (fun _ h => h) ?_
        refine Wl.q (v := Value.int .i64 (((readN s o a) : Nat) : Int)) (q_move rfl) ?_
        refine Wl.q (v := Value.bool false) (q_neq (r := true) rfl rfl (decide_eq_true (rfl))) ?_
        refine Wl.q (v := Value.bool false) (q_move rfl) ?_
        refine Wl.q (v := Value.pointer (some ⟨r, 0, none⟩)) (q_move hE5_2) ?_
        refine Wl.e (e_call (F := F) (args := [Value.pointer (some ⟨r, 0, none⟩)]) Try.call18 rfl (end_c W0 r s (readN s o a))) (fun _ _ => ?_)
        refine Wl.imp (L' := (pt r 59 [Value.bool true, Value.string s, Value.int .i64 (((readN s o a) : Nat) : Int)]) :: F) (fun _ h => h) ?_
        refine Wl.q (v := Value.bool (decide ((if (readN s o a) = s.size then 0 else 4) = 0))) (q_eql rfl rfl rfl) ?_
        refine Wl.q (v := Value.int .i64 (((readN s o a) : Nat) : Int)) (q_move rfl) ?_
        refine Wl.q (v := Value.string s) (q_move hE0_2) ?_
        refine Wl.q (v := Value.int .i64 ((s.size : Nat) : Int)) (q_len_str Try.underlying9 rfl) ?_
        refine Wl.q (v := Value.bool (decide ((((readN s o a) : Nat) : Int) = ((s.size : Nat) : Int)))) (q_eql rfl rfl rfl) ?_
        refine Wl.q (v := Value.bool false) (q_neq_bool (r := true) rfl rfl Try.underlying4 (beq_iff_eq.2 (end_same))) ?_
        refine Wl.q (v := Value.bool false) (q_pick (t := false) rfl rfl) ?_
        refine Wl.done ?_
        refine Wx.go ?_
        refine Wc.no rfl ?_
        refine Wc.skip ?_
        refine Wx.blockEnd ?_
        refine Wx.go ?_
        refine Wc.region ?_
        refine Wl.q (v := Value.int .i64 ((k : Nat) : Int)) (q_move hE7_2) ?_
        refine Wl.q (v := Value.int .i64 ((k + 1 : Nat) : Int)) (q_add (c := ((k + 1 : Nat) : Int)) rfl rfl (by rw [wrap_i64] <;> omega)) ?_
        refine Wl.q (v := Value.int .i64 ((k + 1 : Nat) : Int)) (q_assign rfl) ?_
        refine Wl.done ?_
        refine Wx.at (k + 1, readN s o a) ⟨(by simp only; omega), rfl, rfl, hE0_2, hE1_2, hE5_2, (by simp only; omega), (readN_le o ha)⟩ (fun w hs => hs)
      ·
        refine Wl.q (v := Value.bool false) (q_lss (r := false) rfl rfl (decide_eq_false hlt)) ?_
        refine Wl.done ?_
        refine Wx.go ?_
        refine Wc.no rfl ?_
        refine Wc.exit ?_
        refine Wx.thenExit ?_
        refine Wx.thenExit ?_
        refine Wx.out ?_
        refine Wx.go ?_
        refine Wc.seq ?_
        refine Wc.region ?_
        refine Wl.q (v := Value.pointer (some ⟨r, 0, none⟩)) (q_move hE5_2) ?_
        refine Wl.e (e_call (F := F) (args := [Value.pointer (some ⟨r, 0, none⟩)]) Try.call17 rfl (at_c W0 r s a)) (fun _ _ => ?_)
        refine Wl.imp (L' := (pt r 59 [Value.bool true, Value.string s, Value.int .i64 ((a : Nat) : Int)]) :: F) (fun _ h => h) ?_
        refine Wl.q (v := Value.int .i64 ((a : Nat) : Int)) (q_move hE6_2) ?_
        refine Wl.q (v := Value.bool true) (q_eql (r := true) rfl rfl (decide_eq_true (rfl))) ?_
        refine Wl.q (v := Value.bool true) (q_move rfl) ?_
        refine Wl.e (e_call (F := (pt r 59 [Value.bool true, Value.string s, Value.int .i64 ((a : Nat) : Int)]) :: F) (args := []) Try.call13 rfl (alive_c W0)) (fun _ _ => ?_)
        refine Wl.imp (L' := (pt r 59 [Value.bool true, Value.string s, Value.int .i64 ((a : Nat) : Int)]) :: F) (fun _ h => h) ?_
        refine Wl.q (v := Value.bool true) (q_pick (t := true) rfl rfl) ?_
        refine Wl.q (v := Value.bool true) (q_assign rfl) ?_
        refine Wl.done ?_
        refine Wx.go ?_
        refine Wc.ret ?_
        refine Wx.fin1 rfl (.inl rfl) (fun w hs => ?_)
        exact ⟨(), trivial, rfl, (st_drop (st_pull [0] hs))⟩

end Go.Proofs.Ytlbanhhdoiidnaa
