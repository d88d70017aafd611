import Derived.Test.YtkndmgfahghcjaaGreatJnY
import Derived.Test.YtkndmgfahghcjaaGreatJnX
/- Contracts of the calls. -/
namespace Go.Proofs.YtkndmgfahghcjaaGreat
open Go Go.SL Go.Dk Go.Jn Go.RowKit
set_option linter.unusedVariables false
set_option maxRecDepth 8000

theorem Put_on (W0 : World) (j dp : Nat) (t : ByteArray) (q : Int) (d : DS) (s : ByteArray) (hw : WF d) (hn1 : 1 ≤ d.secs.length) (hsn : d.since.length < 1000000000000) (hct : d.count < 4000000000000000000) (hq0 : 0 ≤ q) (hq : q < 9223372036854775807) (hd : d.down = false) :
  Con Tryz.prog W0 55 #[Value.pointer (some ⟨j, 0, none⟩), Value.string s] [pt j 117 [Value.pointer (some ⟨dp, 0, none⟩), Value.string t, Value.int .i64 q, Value.bool false], isDisk dp d] (X := Unit) (fun _ => True) (fun _ => .int .i64 ((JS.mk t q false).put d s).1) (fun _ => [isJ j dp ((JS.mk t q false).put d s).2.2, isDisk dp ((JS.mk t q false).put d s).2.1]) := by
 refine Con.of (args := [Value.pointer (some ⟨j, 0, none⟩), Value.string s]) Tryz.func55 rfl Tryz.ntmps55 rfl (fun F => ?_)
 have hm := hw.l.len
 have hh : half d.secs ≤ 2047 := by unfold half; omega
 show Wc _ W0 _ _ _ _ _ ((pt j 117 [Value.pointer (some ⟨dp, 0, none⟩), Value.string t, Value.int .i64 q, Value.bool false]) :: (isDisk dp d) :: F)
 refine Wc.seq (Wc.region (Wl.q (v := Value.int .i64 0) (q_assign rfl) (Wl.done (Wx.go (Wc.seq (Wc.seq (Wc.region (Wl.q (v := Value.pointer (some ⟨j, 0, none⟩)) (q_move rfl) (Wl.e (e_call (F := F) (args := [Value.pointer (some ⟨j, 0, none⟩)]) Tryz.call79 rfl (jstate_on W0 j dp t q d hd)) (fun _ _ => Wl.imp (L' := (pt j 117 [Value.pointer (some ⟨dp, 0, none⟩), Value.string t, Value.int .i64 q, Value.bool false]) :: (isDisk dp d) :: F) (fun _ h => h) (Wl.q (v := Value.int .i64 0) (q_assign rfl) ?_)))))))))))
 refine Wl.done (Wx.go (Wc.seq (Wc.region (Wl.q (v := Value.int .i64 0) (q_move rfl) (Wl.q (v := Value.bool false) (q_neq (r := true) rfl rfl (decide_eq_true (by decide))) (Wl.done (Wx.go (Wc.no rfl (Wc.skip (Wx.go (Wc.seq ?_)))))))))))
 refine Wc.seq (Wc.region (Wl.q (v := Value.string s) (q_move rfl) (Wl.q (v := Value.int .i64 ((s.size : Nat) : Int)) (q_len_str Tryz.underlying9 rfl) (Wl.q (v := Value.pointer (some ⟨j, 0, none⟩)) (q_move rfl) (Wl.e (e_call (F := F) (args := [Value.pointer (some ⟨j, 0, none⟩)]) Tryz.call84 rfl (room_in W0 j dp (⟨t, q, false⟩ : JS).text (⟨t, q, false⟩ : JS).seq d (⟨t, q, false⟩ : JS).dead hn1 hm)) (fun _ _ => Wl.imp (L' := (pt j 117 [Value.pointer (some ⟨dp, 0, none⟩), Value.string t, Value.int .i64 q, Value.bool false]) :: (isDisk dp d) :: F) (fun _ h => h) ?_))))))
 by_cases hbig : ((s.size : Nat) : Int) > ((half d.secs * 64 : Nat) : Int)
 ·
  refine Wl.q (v := Value.bool true) (q_gtr (r := true) rfl rfl (decide_eq_true hbig)) (Wl.done (Wx.go (Wc.yes rfl (Wc.seq (Wc.region (Wl.q (v := Value.int .i64 5) (q_assign rfl) (Wl.done (Wx.go (Wc.ret (Wx.thenRet (Wx.fin1 rfl (.inl rfl) (fun w hs => ?_))))))))))))
  have e : ((JS.mk t q false).put d s) = (5, d, ⟨t, q, false⟩) := by rw [JS.put, if_neg (by simp [hd]), if_pos (by omega)]
  exact ⟨(), trivial, (by first | (rw [e]; done) | (rw [e]; rfl)), by rw [e]; exact hs⟩
 ·
  refine Wl.q (v := Value.bool false) (q_gtr (r := false) rfl rfl (decide_eq_false hbig)) (Wl.done (Wx.go (Wc.no rfl (Wc.skip (Wx.go (Wc.seq (Wc.region (Wl.q (v := Value.pointer (some ⟨j, 0, none⟩)) (q_move rfl) (Wl.q (v := Value.string s) (q_move rfl) (Wl.e (e_call (F := F) (args := [Value.pointer (some ⟨j, 0, none⟩), Value.string s]) Tryz.call85 rfl (put_in W0 j dp t q d s hw hn1 hsn hct hq0 hq (by omega))) (fun _ _ => Wl.imp (L' := (pt j 117 [Value.pointer (some ⟨dp, 0, none⟩), Value.string t, Value.int .i64 q, Value.bool false]) :: (isDisk dp ((putD d q s).2)) :: F) (fun _ h => h) ?_)))))))))))
  refine Wl.q (v := Value.int .i64 ((putD d q s).1)) (q_assign rfl) (Wl.done (Wx.go (Wc.seq (Wc.seq (Wc.region (Wl.q (v := Value.int .i64 ((putD d q s).1)) (q_move rfl) ?_))))))
  by_cases hp : (putD d q s).1 = 0
  ·
   refine Wl.q (v := Value.bool false) (q_neq (r := true) rfl rfl (decide_eq_true hp)) (Wl.done (Wx.go (Wc.no rfl (Wc.skip (Wx.go (Wc.seq (Wc.region (Wl.q (v := Value.pointer (some ⟨j, 0, none⟩)) (q_move rfl) (Wl.q (v := Value.string s) (q_move rfl) (Wl.q (v := Value.pointer (some ⟨j, 0, none⟩)) (q_nil_ptr rfl) (Wl.q (v := Value.pointer (some ⟨j, 1, none⟩)) (q_field (m := 1) fo_117_1 rfl rfl) ?_)))))))))))
   refine Wl.e (e_store (i := 0) (v := Value.string s) sz_9 rfl rfl (fun _ _ => rfl) rfl (by simp)) (fun _ _ => Wl.imp (L' := (pt j 117 [Value.pointer (some ⟨dp, 0, none⟩), Value.string s, Value.int .i64 q, Value.bool false]) :: (isDisk dp ((putD d q s).2)) :: F) (fun _ h => h) (Wl.done (Wx.go (Wc.seq (Wc.region (Wl.q (v := Value.pointer (some ⟨j, 0, none⟩)) (q_move rfl) (Wl.q (v := Value.pointer (some ⟨j, 0, none⟩)) (q_nil_ptr rfl) (Wl.q (v := Value.pointer (some ⟨j, 2, none⟩)) (q_field (m := 2) fo_117_2 rfl rfl) (Wl.q (v := Value.int .i64 q) (q_load sc_3 rfl (.cel (i := 0) rfl rfl)) (Wl.q (v := Value.int .i64 (q + 1)) (q_add (c := (q + 1)) rfl rfl (wrap_i64 (by omega) (by omega))) (Wl.q (v := Value.pointer (some ⟨j, 0, none⟩)) (q_nil_ptr rfl) ?_)))))))))))
   refine Wl.q (v := Value.pointer (some ⟨j, 2, none⟩)) (q_field (m := 2) fo_117_2 rfl rfl) (Wl.e (e_store (i := 0) (v := Value.int .i64 (q + 1)) sz_3 rfl rfl (fun _ _ => rfl) rfl (by simp)) (fun _ _ => Wl.imp (L' := (pt j 117 [Value.pointer (some ⟨dp, 0, none⟩), Value.string s, Value.int .i64 (q + 1), Value.bool false]) :: (isDisk dp ((putD d q s).2)) :: F) (fun _ h => h) (Wl.done (Wx.go (Wc.seq (Wc.region (Wl.q (v := Value.int .i64 0) (q_assign rfl) (Wl.done (Wx.go (Wc.ret (Wx.fin1 rfl (.inl rfl) (fun w hs => ?_))))))))))))
   have e : ((JS.mk t q false).put d s) = (0, (putD d q s).2, ⟨s, q + 1, false⟩) := by rw [JS.put, if_neg (by simp [hd]), if_neg (by omega), if_pos hp]
   exact ⟨(), trivial, (by first | (rw [e]; done) | (rw [e]; rfl)), by rw [e]; exact hs⟩
  ·
   refine Wl.q (v := Value.bool true) (q_neq (r := false) rfl rfl (decide_eq_false hp)) (Wl.done (Wx.go (Wc.yes rfl (Wc.seq (Wc.region (Wl.q (v := Value.pointer (some ⟨j, 0, none⟩)) (q_move rfl) (Wl.q (v := Value.pointer (some ⟨j, 0, none⟩)) (q_nil_ptr rfl) (Wl.q (v := Value.pointer (some ⟨j, 3, none⟩)) (q_field (m := 3) fo_117_3 rfl rfl) (Wl.e (e_store (i := 0) (v := Value.bool true) sz_4 rfl rfl (fun _ _ => rfl) rfl (by simp)) (fun _ _ => Wl.imp (L' := (pt j 117 [Value.pointer (some ⟨dp, 0, none⟩), Value.string t, Value.int .i64 q, Value.bool true]) :: (isDisk dp ((putD d q s).2)) :: F) (fun _ h => h) (Wl.done ?_)))))))))))
   refine Wx.go (Wc.seq (Wc.region (Wl.q (v := Value.int .i64 ((putD d q s).1)) (q_move rfl) (Wl.q (v := Value.int .i64 ((putD d q s).1)) (q_assign rfl) (Wl.done (Wx.go (Wc.ret (Wx.thenRet (Wx.fin1 rfl (.inl rfl) (fun w hs => ?_))))))))))
   have e : ((JS.mk t q false).put d s) = ((putD d q s).1, (putD d q s).2, ⟨t, q, true⟩) := by rw [JS.put, if_neg (by simp [hd]), if_neg (by omega), if_neg hp]
   exact ⟨(), trivial, (by first | (rw [e]; done) | (rw [e]; rfl)), by rw [e]; exact hs⟩

theorem Put_off (W0 : World) (j dp : Nat) (t : ByteArray) (q : Int) (d : DS) (s : ByteArray) (dead : Bool) (h : dead = true ∨ d.down = true) :
  Con Tryz.prog W0 55 #[Value.pointer (some ⟨j, 0, none⟩), Value.string s] [pt j 117 [Value.pointer (some ⟨dp, 0, none⟩), Value.string t, Value.int .i64 q, Value.bool dead], isDisk dp d] (X := Unit) (fun _ => True) (fun _ => .int .i64 6) (fun _ => [pt j 117 [Value.pointer (some ⟨dp, 0, none⟩), Value.string t, Value.int .i64 q, Value.bool dead], isDisk dp d]) := by
 refine Con.of (args := [Value.pointer (some ⟨j, 0, none⟩), Value.string s]) Tryz.func55 rfl Tryz.ntmps55 rfl (fun F => ?_)
 show Wc _ W0 _ _ _ _ _ ((pt j 117 [Value.pointer (some ⟨dp, 0, none⟩), Value.string t, Value.int .i64 q, Value.bool dead]) :: (isDisk dp d) :: F)
 refine Wc.seq (Wc.region (Wl.q (v := Value.int .i64 0) (q_assign rfl) (Wl.done (Wx.go (Wc.seq (Wc.seq (Wc.region (Wl.q (v := Value.pointer (some ⟨j, 0, none⟩)) (q_move rfl) (Wl.e (e_call (F := F) (args := [Value.pointer (some ⟨j, 0, none⟩)]) Tryz.call79 rfl (jstate_off W0 j dp t q d dead h)) (fun _ _ => Wl.imp (L' := (pt j 117 [Value.pointer (some ⟨dp, 0, none⟩), Value.string t, Value.int .i64 q, Value.bool dead]) :: (isDisk dp d) :: F) (fun _ h => h) (Wl.q (v := Value.int .i64 6) (q_assign rfl) ?_)))))))))))
 refine Wl.done (Wx.go (Wc.seq (Wc.region (Wl.q (v := Value.int .i64 6) (q_move rfl) (Wl.q (v := Value.bool true) (q_neq (r := false) rfl rfl (decide_eq_false (by decide))) (Wl.done (Wx.go (Wc.yes rfl (Wc.seq (Wc.region (Wl.q (v := Value.int .i64 6) (q_move rfl) ?_)))))))))))
 refine Wl.q (v := Value.int .i64 6) (q_assign rfl) (Wl.done (Wx.go (Wc.ret (Wx.thenRet (Wx.fin1 rfl (.inl rfl) (fun w hs => ?_))))))
 exact ⟨(), trivial, rfl, hs⟩

theorem Put_c (W0 : World) (j dp : Nat) (js : JS) (d : DS) (s : ByteArray) (hw : WF d) (hn1 : 1 ≤ d.secs.length) (hsn : d.since.length < 1000000000000) (hct : d.count < 4000000000000000000) (hq0 : 0 ≤ js.seq) (hq : js.seq < 9223372036854775807) : Con Tryz.prog W0 55 #[.pointer (some ⟨j, 0, none⟩), .string s] [isJ j dp js, isDisk dp d] (X := Unit) (fun _ => True) (fun _ => .int .i64 (js.put d s).1) (fun _ => [isJ j dp (js.put d s).2.2, isDisk dp (js.put d s).2.1]) := by
  obtain ⟨t, q, dead⟩ := js
  by_cases h : dead = true ∨ d.down = true
  · have e : (JS.mk t q dead).put d s = (6, d, ⟨t, q, dead⟩) := if_pos h
    rw [e]
    exact Put_off W0 j dp t q d s dead h
  · obtain rfl : dead = false := by cases dead; rfl; exact absurd (.inl rfl) h
    exact Put_on W0 j dp t q d s hw hn1 hsn hct hq0 hq (by cases hx : d.down; rfl; exact absurd (.inr hx) h)

end Go.Proofs.YtkndmgfahghcjaaGreat

/- The laws' plain part: calls on journals whose state is known. -/
namespace Go.Jn
open Go Go.SL Go.Dk
set_option linter.unusedVariables false
section
variable {S : List ByteArray} {t s : ByteArray} {q : Int} {dn : Bool} {k : Nat}
theorem Ok.wf (h : Ok S t q) : WF ⟨S, [], dn, k, none⟩ := ⟨h.wfl, fun _ _ h => by cases h⟩
theorem Ok.rng (h : Ok S t q) : 0 ≤ q ∧ q ≤ 9223372036854775807 ∧ 4 ≤ S.length := opens_rng h.opens
theorem put_js (h : Ok S t q) (hq : q < 9223372036854775807) (hs : s.size ≤ half S * 64) (k : Nat) :
  ∃ S', S'.length = S.length ∧ Ok S' s (q + 1) ∧ (JS.mk t q false).put ⟨S, [], false, k, none⟩ s = (0, ⟨S', [], false, k + nPieces s + 3, none⟩, ⟨s, q + 1, false⟩) := by
 obtain ⟨S', h1, h2, h3⟩ := put_ends h hq hs k
 refine ⟨S', h1, h2, ?_⟩
 rw [JS.put, if_neg (by simp), if_neg (by show ¬ half S * 64 < s.size; omega), h3, if_pos rfl]
theorem put_big {c : Option (Nat × Int)} (hs : half S * 64 < s.size) : (JS.mk t q false).put ⟨S, [], false, k, c⟩ s = (5, ⟨S, [], false, k, c⟩, ⟨t, q, false⟩) := by
 rw [JS.put, if_neg (by simp), if_pos hs]
end
/-! ### Texts -/
end Go.Jn

