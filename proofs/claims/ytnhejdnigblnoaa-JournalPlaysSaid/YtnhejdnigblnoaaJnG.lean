/- Contracts of the calls. -/
import Derived.Test.YtnhejdnigblnoaaJnF
namespace Go.Proofs.Ytnhejdnigblnoaa
open Go Go.SL Go.Dk Go.Jn Go.RowKit
set_option linter.unusedVariables false
set_option maxRecDepth 8000
theorem fo_79_2 : fieldOff Try.prog 79 2 = some 2 := by kernel_rfl
theorem rPut_down (W0 : World) (jr : Nat) (t : ByteArray) (n : Int) (s : ByteArray) (q bd cd : Nat) (secs : List ByteArray) (since : List (Nat × ByteArray)) (count : Nat) (sv : Value) (lv bv : Int) (cut : Option (Nat × Int)) (hr : refR lv bv cut) :
  Con Try.prog W0 42 #[Value.pointer (some ⟨jr, 0, none⟩), Value.string s] [pt jr 79 [Value.pointer (some ⟨q, 0, none⟩), Value.string t, Value.int .i64 n, Value.bool false], pt q 63 [Value.slice (some ⟨bd, 0, none⟩) secs.length cd, sv, Value.bool true, Value.int .i64 lv, Value.int .i64 bv, Value.int .i64 ((count : Nat) : Int)], slp 9 1 bd cd (secs.map Value.string), sl 86 2 sv since.length (flat since)] (X := Unit) (fun _ => True) (fun _ => .int .i64 ((JS.mk t n false).put (⟨secs, since, true, count, cut⟩ : DS) s).1) (fun _ => [isRJ jr q ((JS.mk t n false).put (⟨secs, since, true, count, cut⟩ : DS) s).2.2, isRef q ((JS.mk t n false).put (⟨secs, since, true, count, cut⟩ : DS) s).2.1]) := by
 refine Con.of (args := [Value.pointer (some ⟨jr, 0, none⟩), Value.string s]) Try.func42 rfl Try.ntmps42 rfl (fun F => ?_)
 show Wc _ W0 _ _ _ _ _ ((pt jr 79 [Value.pointer (some ⟨q, 0, none⟩), Value.string t, Value.int .i64 n, Value.bool false]) :: (pt q 63 [Value.slice (some ⟨bd, 0, none⟩) secs.length cd, sv, Value.bool true, Value.int .i64 lv, Value.int .i64 bv, Value.int .i64 ((count : Nat) : Int)]) :: (slp 9 1 bd cd (secs.map Value.string)) :: (sl 86 2 sv since.length (flat since)) :: F)
 refine Wc.seq ?_
 refine Wc.region ?_
 refine Wl.q (v := Value.int .i64 0) (q_assign rfl) ?_
 refine Wl.done ?_
 refine Wx.go ?_
 refine Wc.seq ?_
 refine Wc.seq ?_
 refine Wc.region ?_
 refine Wl.q (v := Value.pointer (some ⟨jr, 0, none⟩)) (q_move rfl) ?_
 refine Wl.q (v := Value.pointer (some ⟨jr, 0, none⟩)) (q_nil_ptr rfl) ?_
 refine Wl.q (v := Value.pointer (some ⟨jr, 3, none⟩)) (q_field (m := 3) fo_79_3 rfl rfl) ?_
 refine Wl.q (v := Value.bool false) (q_load sc_4 rfl (.cel (i := 0) rfl rfl)) ?_
 refine Wl.q (v := Value.bool false) (q_move rfl) ?_
 refine Wl.q (v := Value.pointer (some ⟨jr, 0, none⟩)) (q_move rfl) ?_
 refine Wl.q (v := Value.pointer (some ⟨jr, 0, none⟩)) (q_nil_ptr rfl) ?_
 refine Wl.q (v := Value.pointer (some ⟨jr, 0, none⟩)) (q_field (m := 0) fo_79_0 rfl rfl) ?_
 refine Wl.q (v := Value.pointer (some ⟨q, 0, none⟩)) (q_load sc_52 rfl (.cel (i := 0) rfl rfl)) ?_
 refine Wl.q (v := Value.pointer (some ⟨q, 0, none⟩)) (q_nil_ptr rfl) ?_
 refine Wl.q (v := Value.pointer (some ⟨q, 2, none⟩)) (q_field (m := 2) fo_63_2 rfl rfl) ?_
 refine Wl.q (v := Value.bool true) (q_load sc_4 rfl (.cel (i := 1) rfl rfl)) ?_
 refine Wl.q (v := Value.bool true) (q_pick (t := false) rfl rfl) ?_
 refine Wl.done ?_
 refine Wx.go ?_
 refine Wc.yes rfl ?_
 refine Wc.seq ?_
 refine Wc.region ?_
 refine Wl.q (v := Value.int .i64 6) (q_assign rfl) ?_
 refine Wl.done ?_
 refine Wx.go ?_
 refine Wc.ret ?_
 refine Wx.thenRet ?_
 refine Wx.fin1 rfl (.inl rfl) (fun w hs => ?_)
 have e : ((JS.mk t n false).put (⟨secs, since, true, count, cut⟩ : DS) s) = (6, _, _) := if_pos (.inr rfl)
 exact ⟨(), trivial, by rw [e]; rfl, by rw [e]; exact st_swap (isRef_mk (d := (⟨secs, since, true, count, cut⟩ : DS)) hr rfl (st_pull [1, 1, 1, 0] (hs)))⟩

theorem rPut_dead (W0 : World) (jr : Nat) (t : ByteArray) (n : Int) (s : ByteArray) (q bd cd : Nat) (secs : List ByteArray) (since : List (Nat × ByteArray)) (count : Nat) (sv : Value) (lv bv : Int) (cut : Option (Nat × Int)) (hr : refR lv bv cut) (down : Bool) :
  Con Try.prog W0 42 #[Value.pointer (some ⟨jr, 0, none⟩), Value.string s] [pt jr 79 [Value.pointer (some ⟨q, 0, none⟩), Value.string t, Value.int .i64 n, Value.bool true], pt q 63 [Value.slice (some ⟨bd, 0, none⟩) secs.length cd, sv, Value.bool down, Value.int .i64 lv, Value.int .i64 bv, Value.int .i64 ((count : Nat) : Int)], slp 9 1 bd cd (secs.map Value.string), sl 86 2 sv since.length (flat since)] (X := Unit) (fun _ => True) (fun _ => .int .i64 ((JS.mk t n true).put (⟨secs, since, down, count, cut⟩ : DS) s).1) (fun _ => [isRJ jr q ((JS.mk t n true).put (⟨secs, since, down, count, cut⟩ : DS) s).2.2, isRef q ((JS.mk t n true).put (⟨secs, since, down, count, cut⟩ : DS) s).2.1]) := by
 refine Con.of (args := [Value.pointer (some ⟨jr, 0, none⟩), Value.string s]) Try.func42 rfl Try.ntmps42 rfl (fun F => ?_)
 show Wc _ W0 _ _ _ _ _ ((pt jr 79 [Value.pointer (some ⟨q, 0, none⟩), Value.string t, Value.int .i64 n, Value.bool true]) :: (pt q 63 [Value.slice (some ⟨bd, 0, none⟩) secs.length cd, sv, Value.bool down, Value.int .i64 lv, Value.int .i64 bv, Value.int .i64 ((count : Nat) : Int)]) :: (slp 9 1 bd cd (secs.map Value.string)) :: (sl 86 2 sv since.length (flat since)) :: F)
 refine Wc.seq ?_
 refine Wc.region ?_
 refine Wl.q (v := Value.int .i64 0) (q_assign rfl) ?_
 refine Wl.done ?_
 refine Wx.go ?_
 refine Wc.seq ?_
 refine Wc.seq ?_
 refine Wc.region ?_
 refine Wl.q (v := Value.pointer (some ⟨jr, 0, none⟩)) (q_move rfl) ?_
 refine Wl.q (v := Value.pointer (some ⟨jr, 0, none⟩)) (q_nil_ptr rfl) ?_
 refine Wl.q (v := Value.pointer (some ⟨jr, 3, none⟩)) (q_field (m := 3) fo_79_3 rfl rfl) ?_
 refine Wl.q (v := Value.bool true) (q_load sc_4 rfl (.cel (i := 0) rfl rfl)) ?_
 refine Wl.q (v := Value.bool true) (q_move rfl) ?_
 refine Wl.no ?_
 refine Wl.no ?_
 refine Wl.no ?_
 refine Wl.no ?_
 refine Wl.no ?_
 refine Wl.no ?_
 refine Wl.no ?_
 refine Wl.q (v := Value.bool true) (q_pick (t := true) rfl rfl) ?_
 refine Wl.done ?_
 refine Wx.go ?_
 refine Wc.yes rfl ?_
 refine Wc.seq ?_
 refine Wc.region ?_
 refine Wl.q (v := Value.int .i64 6) (q_assign rfl) ?_
 refine Wl.done ?_
 refine Wx.go ?_
 refine Wc.ret ?_
 refine Wx.thenRet ?_
 refine Wx.fin1 rfl (.inl rfl) (fun w hs => ?_)
 have e : ((JS.mk t n true).put (⟨secs, since, down, count, cut⟩ : DS) s) = (6, _, _) := if_pos (.inl rfl)
 exact ⟨(), trivial, by rw [e]; rfl, by rw [e]; exact st_swap (isRef_mk (d := ⟨secs, since, down, count, cut⟩) hr rfl (st_pull [1, 1, 1, 0] (hs)))⟩

set_option maxHeartbeats 4000000 in
theorem rPut_on (W0 : World) (jr : Nat) (t : ByteArray) (n : Int) (s : ByteArray) (q bd cd : Nat) (secs : List ByteArray) (since : List (Nat × ByteArray)) (count : Nat) (sv : Value) (lv bv : Int) (cut : Option (Nat × Int)) (hr : refR lv bv cut) (hw : WF (⟨secs, since, false, count, cut⟩ : DS)) (h4 : 4 ≤ secs.length) (hm : secs.length ≤ 4096) (hsn : since.length < 1000000000000) (hct : count < 4000000000000000000) (hq0 : 0 ≤ n) (hq : n < 9223372036854775807) :
    Con Try.prog W0 42 #[Value.pointer (some ⟨jr, 0, none⟩), Value.string s] [pt jr 79 [Value.pointer (some ⟨q, 0, none⟩), Value.string t, Value.int .i64 n, Value.bool false], pt q 63 [Value.slice (some ⟨bd, 0, none⟩) secs.length cd, sv, Value.bool false, Value.int .i64 lv, Value.int .i64 bv, Value.int .i64 ((count : Nat) : Int)], slp 9 1 bd cd (secs.map Value.string), sl 86 2 sv since.length (flat since)] (X := Unit) (fun _ => True) (fun _ => .int .i64 ((JS.mk t n false).put (⟨secs, since, false, count, cut⟩ : DS) s).1) (fun _ => [isRJ jr q ((JS.mk t n false).put (⟨secs, since, false, count, cut⟩ : DS) s).2.2, isRef q ((JS.mk t n false).put (⟨secs, since, false, count, cut⟩ : DS) s).2.1]) := by
  refine Con.of (args := [Value.pointer (some ⟨jr, 0, none⟩), Value.string s]) Try.func42 rfl Try.ntmps42 rfl (fun F => ?_)
  have hn1 : 1 ≤ secs.length := by omega
  have hh : half secs ≤ 2047 := by unfold half; omega
  have hf2 : first secs (n + 1) ≤ 4096 := by unfold first; split <;> omega
  show Wc _ W0 _ _ _ _ _ ((pt jr 79 [Value.pointer (some ⟨q, 0, none⟩), Value.string t, Value.int .i64 n, Value.bool false]) :: (pt q 63 [Value.slice (some ⟨bd, 0, none⟩) secs.length cd, sv, Value.bool false, Value.int .i64 lv, Value.int .i64 bv, Value.int .i64 ((count : Nat) : Int)]) :: (slp 9 1 bd cd (secs.map Value.string)) :: (sl 86 2 sv since.length (flat since)) :: F)
  refine Wc.seq ?_
  refine Wc.region ?_
  refine Wl.q (v := Value.int .i64 0) (q_assign rfl) ?_
  refine Wl.done ?_
  refine Wx.go ?_
  refine Wc.seq ?_
  refine Wc.seq ?_
  refine Wc.region ?_
  refine Wl.q (v := Value.pointer (some ⟨jr, 0, none⟩)) (q_move rfl) ?_
  refine Wl.q (v := Value.pointer (some ⟨jr, 0, none⟩)) (q_nil_ptr rfl) ?_
  refine Wl.q (v := Value.pointer (some ⟨jr, 3, none⟩)) (q_field (m := 3) fo_79_3 rfl rfl) ?_
  refine Wl.q (v := Value.bool false) (q_load sc_4 rfl (.cel (i := 0) rfl rfl)) ?_
  refine Wl.q (v := Value.bool false) (q_move rfl) ?_
  refine Wl.q (v := Value.pointer (some ⟨jr, 0, none⟩)) (q_move rfl) ?_
  refine Wl.q (v := Value.pointer (some ⟨jr, 0, none⟩)) (q_nil_ptr rfl) ?_
  refine Wl.q (v := Value.pointer (some ⟨jr, 0, none⟩)) (q_field (m := 0) fo_79_0 rfl rfl) ?_
  refine Wl.q (v := Value.pointer (some ⟨q, 0, none⟩)) (q_load sc_52 rfl (.cel (i := 0) rfl rfl)) ?_
  refine Wl.q (v := Value.pointer (some ⟨q, 0, none⟩)) (q_nil_ptr rfl) ?_
  refine Wl.q (v := Value.pointer (some ⟨q, 2, none⟩)) (q_field (m := 2) fo_63_2 rfl rfl) ?_
  refine Wl.q (v := Value.bool false) (q_load sc_4 rfl (.cel (i := 1) rfl rfl)) ?_
  refine Wl.q (v := Value.bool false) (q_pick (t := false) rfl rfl) ?_
  refine Wl.done ?_
  refine Wx.go ?_
  refine Wc.no rfl ?_
  refine Wc.skip ?_
  refine Wx.go ?_
  refine Wc.seq ?_
  refine Wc.seq ?_
  refine Wc.region ?_
  refine Wl.q (v := Value.string s) (q_move rfl) ?_
  refine Wl.q (v := Value.int .i64 ((s.size : Nat) : Int)) (q_len_str Try.underlying9 rfl) ?_
  refine Wl.q (v := Value.pointer (some ⟨jr, 0, none⟩)) (q_move rfl) ?_
  refine Wl.e (e_call (F := F) (args := [Value.pointer (some ⟨jr, 0, none⟩)]) Try.call45 rfl (rjroom_o W0 jr t n q bd cd secs since count sv lv bv cut false false hr hn1 hm)) (fun _ _ => ?_)
  refine Wl.imp (L' := (pt jr 79 [Value.pointer (some ⟨q, 0, none⟩), Value.string t, Value.int .i64 n, Value.bool false]) :: (pt q 63 [Value.slice (some ⟨bd, 0, none⟩) secs.length cd, sv, Value.bool false, Value.int .i64 lv, Value.int .i64 bv, Value.int .i64 ((count : Nat) : Int)]) :: (slp 9 1 bd cd (secs.map Value.string)) :: (sl 86 2 sv since.length (flat since)) :: F) (fun _ h => h) ?_
  by_cases hbig : ((s.size : Nat) : Int) > ((half secs * 64 : Nat) : Int)
  ·
    refine Wl.q (v := Value.bool true) (q_gtr (r := true) rfl rfl (decide_eq_true hbig)) ?_
    refine Wl.done ?_
    refine Wx.go ?_
    refine Wc.yes rfl ?_
    refine Wc.seq ?_
    refine Wc.region ?_
    refine Wl.q (v := Value.int .i64 5) (q_assign rfl) ?_
    refine Wl.done ?_
    refine Wx.go ?_
    refine Wc.ret ?_
    refine Wx.thenRet ?_
    refine Wx.fin1 rfl (.inl rfl) (fun w hs => ?_)
    have e : ((JS.mk t n false).put (⟨secs, since, false, count, cut⟩ : DS) s) = (5, (⟨secs, since, false, count, cut⟩ : DS), ⟨t, n, false⟩) := jput_big rfl (by show half secs * 64 < s.size; omega)
    exact ⟨(), trivial, by rw [e]; rfl, by rw [e]; exact st_swap (isRef_mk (d := (⟨secs, since, false, count, cut⟩ : DS)) hr rfl (st_pull [1, 1, 1, 0] (hs)))⟩
  ·
    refine Wl.q (v := Value.bool false) (q_gtr (r := false) rfl rfl (decide_eq_false hbig)) ?_
    refine Wl.done ?_
    refine Wx.go ?_
    refine Wc.no rfl ?_
    refine Wc.skip ?_
    refine Wx.go ?_
    refine Wc.seq ?_
    refine Wc.drawsS [] ((pt jr 79 [Value.pointer (some ⟨q, 0, none⟩), Value.string t, Value.int .i64 n, Value.bool false]) :: (pt q 63 [Value.slice (some ⟨bd, 0, none⟩) secs.length cd, sv, Value.bool false, Value.int .i64 lv, Value.int .i64 bv, Value.int .i64 ((count : Nat) : Int)]) :: (slp 9 1 bd cd (secs.map Value.string)) :: (sl 86 2 sv since.length (flat since)) :: []) (by kernel_rfl) ?_
    refine Wr.pure (v := Value.pointer (some ⟨jr, 0, none⟩)) 0 rfl (by kernel_rfl) (.inr (fun _ h => st_take [0, 0, 0, 0] h)) (.inl ⟨rfl, fun _ => q_move rfl⟩) ?_
    refine Wr.pure (v := Value.pointer (some ⟨jr, 0, none⟩)) 1 rfl (by kernel_rfl) (.inr (fun _ h => st_take [0, 0, 0, 0] h)) (.inl ⟨rfl, fun _ => q_nil_ptr rfl⟩) ?_
    refine Wr.pure (v := Value.pointer (some ⟨jr, 2, none⟩)) 2 rfl (by kernel_rfl) (.inr (fun _ h => st_take [0, 0, 0, 0] h)) (.inl ⟨rfl, fun _ => q_field (m := 2) fo_79_2 rfl rfl⟩) ?_
    refine Wr.take (v := Value.int .i64 n) 3 rfl (by kernel_rfl) (fun _ h => st_take [0, 0, 0, 0] h) (.inl ⟨rfl, q_load sc_3 rfl (.cel (i := 0) rfl rfl)⟩) ?_
    refine Wr.pure (v := Value.int .i64 (n + 1)) 4 rfl (by kernel_rfl) (.inr (fun _ h => st_take [0, 0, 0, 0] h)) (.inl ⟨rfl, fun _ => q_add (c := (n + 1)) rfl rfl (wrap_i64 (by omega) (by omega))⟩) ?_
    refine Wr.pure (v := Value.pointer (some ⟨jr, 0, none⟩)) 5 rfl (by kernel_rfl) (.inr (fun _ h => st_take [0, 0, 0, 0] h)) (.inl ⟨rfl, fun _ => q_move rfl⟩) ?_
    refine Wr.pure (v := Value.pointer (some ⟨jr, 0, none⟩)) 6 rfl (by kernel_rfl) (.inr (fun _ h => st_take [0, 0, 0, 0] h)) (.inl ⟨rfl, fun _ => q_nil_ptr rfl⟩) ?_
    refine Wr.pure (v := Value.pointer (some ⟨jr, 0, none⟩)) 7 rfl (by kernel_rfl) (.inr (fun _ h => st_take [0, 0, 0, 0] h)) (.inl ⟨rfl, fun _ => q_field (m := 0) fo_79_0 rfl rfl⟩) ?_
    refine Wr.take (v := Value.pointer (some ⟨q, 0, none⟩)) 8 rfl (by kernel_rfl) (fun _ h => st_take [0, 0, 0, 0] h) (.inl ⟨rfl, q_load sc_52 rfl (.cel (i := 0) rfl rfl)⟩) ?_
    refine Wr.pure (v := Value.pointer (some ⟨q, 0, none⟩)) 9 rfl (by kernel_rfl) (.inr (fun _ h => st_take [0, 0, 0, 0] h)) (.inl ⟨rfl, fun _ => q_nil_ptr rfl⟩) ?_
    refine Wr.pure (v := Value.pointer (some ⟨q, 0, none⟩)) 10 rfl (by kernel_rfl) (.inr (fun _ h => st_take [0, 0, 0, 0] h)) (.inl ⟨rfl, fun _ => q_field (m := 0) fo_63_0 rfl rfl⟩) ?_
    refine Wr.take (v := Value.slice (some ⟨bd, 0, none⟩) secs.length cd) 11 rfl (by kernel_rfl) (fun _ h => st_take [0, 0, 0, 0] h) (.inl ⟨rfl, q_load sc_33 rfl (.cel (i := 1) rfl rfl)⟩) ?_
    refine Wr.take (v := Value.int .i64 ((secs.length : Nat) : Int)) 12 rfl (by kernel_rfl) (fun _ h => st_take [0, 0, 0, 0] h) (.inl ⟨rfl, q_len_slice Try.underlying33 rfl⟩) ?_
    refine Wr.e 13 (by kernel_rfl) rfl (e_call (F := (pt jr 79 [Value.pointer (some ⟨q, 0, none⟩), Value.string t, Value.int .i64 n, Value.bool false]) :: (pt q 63 [Value.slice (some ⟨bd, 0, none⟩) secs.length cd, sv, Value.bool false, Value.int .i64 lv, Value.int .i64 bv, Value.int .i64 ((count : Nat) : Int)]) :: (slp 9 1 bd cd (secs.map Value.string)) :: (sl 86 2 sv since.length (flat since)) :: F) (args := [Value.int .i64 ((secs.length : Nat) : Int)]) Try.call63 rfl (rroom_c W0 secs hn1 hm)) (.inr fun _ _ _ h => st_take [0, 0, 0, 0] h) (fun _ _ => ?_)
    refine Wr.imp (L' := (pt jr 79 [Value.pointer (some ⟨q, 0, none⟩), Value.string t, Value.int .i64 n, Value.bool false]) :: (pt q 63 [Value.slice (some ⟨bd, 0, none⟩) secs.length cd, sv, Value.bool false, Value.int .i64 lv, Value.int .i64 bv, Value.int .i64 ((count : Nat) : Int)]) :: (slp 9 1 bd cd (secs.map Value.string)) :: (sl 86 2 sv since.length (flat since)) :: F) (fun _ h => h) ?_
    refine Wr.e 14 (by kernel_rfl) rfl (e_call (F := (pt jr 79 [Value.pointer (some ⟨q, 0, none⟩), Value.string t, Value.int .i64 n, Value.bool false]) :: (pt q 63 [Value.slice (some ⟨bd, 0, none⟩) secs.length cd, sv, Value.bool false, Value.int .i64 lv, Value.int .i64 bv, Value.int .i64 ((count : Nat) : Int)]) :: (slp 9 1 bd cd (secs.map Value.string)) :: (sl 86 2 sv since.length (flat since)) :: F) (args := [Value.int .i64 (n + 1), Value.int .i64 ((half secs : Nat) : Int)]) Try.call62 rfl (Con.eqs (val' := fun _ => Value.tuple #[Value.int .i64 (n % 2), Value.int .i64 ((first secs (n + 1) : Nat) : Int)]) (post' := fun _ => []) (rhalf_c W0 (n + 1) secs (by omega) hm) (fun _ => by rw [show (n + 1 + 1) % 2 = n % 2 by omega]) (fun _ => rfl))) (.inr fun _ _ _ h => st_take [0, 0, 0, 0] h) (fun _ _ => ?_)
    refine Wr.imp (L' := (pt jr 79 [Value.pointer (some ⟨q, 0, none⟩), Value.string t, Value.int .i64 n, Value.bool false]) :: (pt q 63 [Value.slice (some ⟨bd, 0, none⟩) secs.length cd, sv, Value.bool false, Value.int .i64 lv, Value.int .i64 bv, Value.int .i64 ((count : Nat) : Int)]) :: (slp 9 1 bd cd (secs.map Value.string)) :: (sl 86 2 sv since.length (flat since)) :: F) (fun _ h => h) ?_
    refine Wr.pure (v := Value.tuple #[Value.int .i64 (n % 2), Value.int .i64 ((first secs (n + 1) : Nat) : Int)]) 15 rfl (by kernel_rfl) (.inr (fun _ h => st_take [0, 0, 0, 0] h)) (.inl ⟨rfl, fun _ => q_move rfl⟩) ?_
    refine Wr.pure (v := Value.int .i64 (n % 2)) 16 rfl (by kernel_rfl) (.inr (fun _ h => st_take [0, 0, 0, 0] h)) (.inl ⟨rfl, fun _ => q_extract (i := 0) rfl rfl⟩) ?_
    refine Wr.pure (v := Value.int .i64 ((first secs (n + 1) : Nat) : Int)) 17 rfl (by kernel_rfl) (.inr (fun _ h => st_take [0, 0, 0, 0] h)) (.inl ⟨rfl, fun _ => q_extract (i := 1) rfl rfl⟩) ?_
    refine Wr.pure (v := Value.int .i64 (n % 2)) 18 rfl (by kernel_rfl) (.inr (fun _ h => st_take [0, 0, 0, 0] h)) (.inl ⟨rfl, fun _ => q_assign rfl⟩) ?_
    refine Wr.pure (v := Value.int .i64 ((first secs (n + 1) : Nat) : Int)) 19 rfl (by kernel_rfl) (.inr (fun _ h => st_take [0, 0, 0, 0] h)) (.inl ⟨rfl, fun _ => q_assign rfl⟩) ?_
    refine Wr.done (by kernel_rfl) ?_
    refine Wx.go ?_
    refine Wc.seq ?_
    refine Wc.region ?_
    refine Wl.imp (L' := (pt jr 79 [Value.pointer (some ⟨q, 0, none⟩), Value.string t, Value.int .i64 n, Value.bool false]) :: (isRef q (⟨secs, since, false, count, cut⟩ : DS)) :: F) (fun w hs => st_swap (isRef_mk (d := (⟨secs, since, false, count, cut⟩ : DS)) hr rfl (st_pull [1, 1, 1, 0] (hs)))) ?_
    refine Wl.q (v := Value.slice none 0 0) (q_assign rfl) ?_
    refine Wl.done ?_
    refine Wx.go ?_
    refine Wc.seq ?_
    refine Wc.seq ?_
    refine Wc.region ?_
    refine Wl.q (v := Value.int .i64 0) (q_assign rfl) ?_
    refine Wl.done ?_
    refine Wx.go ?_
    refine Wc.block ?_
    refine Wc.loop (X := Nat × Value) (fun (i, v) E => E 7 = v ∧ E 8 = Value.int .i64 (((i * 64) : Nat) : Int) ∧ E 0 = Value.pointer (some ⟨jr, 0, none⟩) ∧ E 1 = Value.string s ∧ E 5 = Value.int .i64 (n % 2) ∧ E 6 = Value.int .i64 ((first secs (n + 1) : Nat) : Int) ∧ i ≤ nPieces s) (fun (i, v) => (pt jr 79 [Value.pointer (some ⟨q, 0, none⟩), Value.string t, Value.int .i64 n, Value.bool false]) :: (isRef q (⟨secs, since, false, count, cut⟩ : DS)) :: (sl 86 2 v i (flat ((List.range i).map fun i => (first secs (n + 1) + i, piece s i)))) :: F) (fun (i, v) => nPieces s - i) (0, .slice none 0 0) ?_ ?_ ?_
    · exact ⟨rfl, rfl, rfl, rfl, rfl, rfl, (Nat.zero_le _)⟩
    · exact fun w hs => st_pull [1, 1] (st_sl_nil hs)
    · rintro ⟨i, v⟩ E2 ⟨hE7_0, hE8_0, hE0_0, hE1_0, hE5_0, hE6_0, hi⟩
      dsimp only at *
      have hrs : (s.extract (i * 64) s.size).size = s.size - i * 64 := rest_size s i
      refine Wc.seq ?_
      refine Wc.seq ?_
      refine Wc.region ?_
      refine Wl.q (v := Value.int .i64 (((i * 64) : Nat) : Int)) (q_move hE8_0) ?_
      refine Wl.q (v := Value.string s) (q_move hE1_0) ?_
      refine Wl.q (v := Value.int .i64 ((s.size : Nat) : Int)) (q_len_str Try.underlying9 rfl) ?_
      by_cases hlt : (((i * 64) : Nat) : Int) < ((s.size : Nat) : Int)
      ·
        have him : i < nPieces s := by unfold nPieces; omega
        refine Wl.q (v := Value.bool true) (q_lss (r := true) rfl rfl (decide_eq_true hlt)) ?_
        refine Wl.done ?_
        refine Wx.go ?_
        refine Wc.yes rfl ?_
        refine Wc.skip ?_
        refine Wx.go ?_
        refine Wc.seq ?_
        refine Wc.block ?_
        refine Wc.seq ?_
        refine Wc.region ?_
        refine Wl.q (v := Value.string s) (q_move hE1_0) ?_
        refine Wl.q (v := Value.int .i64 (((i * 64) : Nat) : Int)) (q_move hE8_0) ?_
        refine Wl.q (v := Value.string (s.extract (i * 64) s.size)) (q_slice_str (l := (i * 64)) (h := s.size) Try.underlying9 rfl ⟨_, rfl⟩ rfl (by omega) (by omega) rfl) ?_
        refine Wl.q (v := Value.string (s.extract (i * 64) s.size)) (q_assign rfl) ?_
        refine Wl.done ?_
        refine Wx.go ?_
        refine Wc.seq ?_
        refine Wc.seq ?_
        refine Wc.region ?_
        refine Wl.q (v := Value.string (s.extract (i * 64) s.size)) (q_move rfl) ?_
        refine Wl.q (v := Value.int .i64 (((s.extract (i * 64) s.size).size : Nat) : Int)) (q_len_str Try.underlying9 rfl) ?_
        by_cases h64 : (((s.extract (i * 64) s.size).size : Nat) : Int) > 64
        ·
          refine Wl.q (v := Value.bool true) (q_gtr (r := true) rfl rfl (decide_eq_true h64)) ?_
          refine Wl.done ?_
          refine Wx.go ?_
          refine Wc.yes rfl ?_
          refine Wc.region ?_
          refine Wl.q (v := Value.string (s.extract (i * 64) s.size)) (q_move rfl) ?_
          refine Wl.q (v := Value.string ((s.extract (i * 64) s.size).extract 0 64)) (q_slice_str (l := 0) (h := 64) Try.underlying9 rfl rfl ⟨_, rfl⟩ (by omega) (by omega) rfl) ?_
          refine Wl.q (v := Value.string ((s.extract (i * 64) s.size).extract 0 64)) (q_assign rfl) ?_
          refine Wl.done ?_
          refine Wx.go ?_
          refine Wc.seq ?_
          refine Wc.region ?_
          refine Wl.q (v := Value.string ((s.extract (i * 64) s.size).extract 0 64)) (q_move rfl) ?_
          refine Wl.e (e_call (F := (pt jr 79 [Value.pointer (some ⟨q, 0, none⟩), Value.string t, Value.int .i64 n, Value.bool false]) :: (isRef q (⟨secs, since, false, count, cut⟩ : DS)) :: (sl 86 2 v i (flat ((List.range i).map fun i => (first secs (n + 1) + i, piece s i)))) :: F) (args := []) Try.call41 rfl (noughts_c W0)) (fun _ _ => ?_)
          refine Wl.imp (L' := (pt jr 79 [Value.pointer (some ⟨q, 0, none⟩), Value.string t, Value.int .i64 n, Value.bool false]) :: (isRef q (⟨secs, since, false, count, cut⟩ : DS)) :: (sl 86 2 v i (flat ((List.range i).map fun i => (first secs (n + 1) + i, piece s i)))) :: F) (fun _ h => h) ?_
          refine Wl.q (v := Value.string ((s.extract (i * 64) s.size).extract 0 64)) (q_move rfl) ?_
          refine Wl.q (v := Value.int .i64 ((((s.extract (i * 64) s.size).extract 0 64).size : Nat) : Int)) (q_len_str Try.underlying9 rfl) ?_
          refine Wl.q (v := Value.string (noughts.extract (((s.extract (i * 64) s.size).extract 0 64).size) noughts.size)) (q_slice_str (l := ((s.extract (i * 64) s.size).extract 0 64).size) (h := noughts.size) Try.underlying9 rfl ⟨_, rfl⟩ rfl (by rw [noughts_size]; first | omega | (rw [ByteArray.size_extract]; omega)) (by omega) rfl) ?_
          refine Wl.q (v := Value.string (piece s i)) (q_cat (z := (piece s i)) rfl rfl (by simp only [ByteArray.size_extract, noughts_size]; omega) (piece_big (by show (s.extract (i * 64) s.size).size > 64; omega))) ?_
          refine Wl.q (v := Value.string (piece s i)) (q_assign rfl) ?_
          refine Wl.done ?_
          refine Wx.go ?_
          refine Wc.region ?_
          refine Wl.q (v := v) (q_move hE7_0) ?_
          refine Wl.q (v := Value.int .i64 ((first secs (n + 1) : Nat) : Int)) (q_move hE6_0) ?_
          refine Wl.q (v := Value.int .i64 (((i * 64) : Nat) : Int)) (q_move hE8_0) ?_
          refine Wl.q (v := Value.int .i64 ((i : Nat) : Int)) (q_quo (c := ((i : Nat) : Int)) rfl rfl (by decide) (quo64 (by omega))) ?_
          refine Wl.q (v := Value.int .i64 (((first secs (n + 1)) + i : Nat) : Int)) (q_add (c := (((first secs (n + 1)) + i : Nat) : Int)) rfl rfl (by rw [wrap_i64] <;> omega)) ?_
          refine Wl.q (v := Value.string (piece s i)) (q_move rfl) ?_
          refine Wl.q (v := Value.agg #[Value.int .i64 (((first secs (n + 1)) + i : Nat) : Int), Value.string (piece s i)]) (q_build (pl := [(0, 1), (1, 1)]) Try.underlying86 zo_86 (by kernel_rfl) (by kernel_rfl)) ?_
          refine Wl.e (e_buildSlice (cs := [Value.int .i64 (((first secs (n + 1)) + i : Nat) : Int), Value.string (piece s i)]) se_34 zo_86 (by decide) (by decide) (by kernel_rfl)) (fun b3 _ => ?_)
          refine Wl.imp (L' := (pt b3 86 [Value.int .i64 (((first secs (n + 1)) + i : Nat) : Int), Value.string (piece s i)]) :: (pt jr 79 [Value.pointer (some ⟨q, 0, none⟩), Value.string t, Value.int .i64 n, Value.bool false]) :: (isRef q (⟨secs, since, false, count, cut⟩ : DS)) :: (sl 86 2 v i (flat ((List.range i).map fun i => (first secs (n + 1) + i, piece s i)))) :: F) (fun _ h => h) ?_
          refine Wl.e (e_append (i := 3) (k := 2) (m := 1) (off := 0) (news := [Value.int .i64 (((first secs (n + 1)) + i : Nat) : Int), Value.string (piece s i)]) Try.underlying34 sz_86 by_86 zo_86 rfl rfl rfl rfl rfl (Has.of_pt (i := 0) rfl rfl) rfl (by decide) (by simp only [maxLen]; omega) (by omega)) (fun v2 _ => ?_)
          refine Wl.imp (L' := (pt b3 86 [Value.int .i64 (((first secs (n + 1)) + i : Nat) : Int), Value.string (piece s i)]) :: (pt jr 79 [Value.pointer (some ⟨q, 0, none⟩), Value.string t, Value.int .i64 n, Value.bool false]) :: (isRef q (⟨secs, since, false, count, cut⟩ : DS)) :: (sl 86 2 v2 (i + 1) ((flat ((List.range i).map fun i => (first secs (n + 1) + i, piece s i))) ++ [Value.int .i64 (((first secs (n + 1)) + i : Nat) : Int), Value.string (piece s i)])) :: F) (fun _ h => h) ?_
          refine Wl.q (v := v2) (q_assign rfl) ?_
          refine Wl.done ?_
          refine Wx.blockEnd ?_
          refine Wx.go ?_
          refine Wc.region ?_
          refine Wl.q (v := Value.int .i64 (((i * 64) : Nat) : Int)) (q_move hE8_0) ?_
          refine Wl.q (v := Value.int .i64 ((((i + 1) * 64) : Nat) : Int)) (q_add (c := ((((i + 1) * 64) : Nat) : Int)) rfl rfl (by rw [wrap_i64] <;> omega)) ?_
          refine Wl.q (v := Value.int .i64 ((((i + 1) * 64) : Nat) : Int)) (q_assign rfl) ?_
          refine Wl.done ?_
          refine Wx.at (i + 1, v2) ⟨(by simp only; omega), rfl, rfl, hE0_0, hE1_0, hE5_0, hE6_0, (by omega)⟩ (fun w hs => by have h2 : st W0 w ((pt jr 79 [Value.pointer (some ⟨q, 0, none⟩), Value.string t, Value.int .i64 n, Value.bool false]) :: (isRef q (⟨secs, since, false, count, cut⟩ : DS)) :: (sl 86 2 v2 (i + 1) (flat ((List.range (i + 1)).map fun i => (first secs (n + 1) + i, piece s i)))) :: F) := (by rw [flat_pieces]; exact (st_drop (st_pull [0] hs))); exact h2)
        ·
          refine Wl.q (v := Value.bool false) (q_gtr (r := false) rfl rfl (decide_eq_false h64)) ?_
          refine Wl.done ?_
          refine Wx.go ?_
          refine Wc.no rfl ?_
          refine Wc.skip ?_
          refine Wx.go ?_
          refine Wc.seq ?_
          refine Wc.region ?_
          refine Wl.q (v := Value.string (s.extract (i * 64) s.size)) (q_move rfl) ?_
          refine Wl.e (e_call (F := (pt jr 79 [Value.pointer (some ⟨q, 0, none⟩), Value.string t, Value.int .i64 n, Value.bool false]) :: (isRef q (⟨secs, since, false, count, cut⟩ : DS)) :: (sl 86 2 v i (flat ((List.range i).map fun i => (first secs (n + 1) + i, piece s i)))) :: F) (args := []) Try.call41 rfl (noughts_c W0)) (fun _ _ => ?_)
          refine Wl.imp (L' := (pt jr 79 [Value.pointer (some ⟨q, 0, none⟩), Value.string t, Value.int .i64 n, Value.bool false]) :: (isRef q (⟨secs, since, false, count, cut⟩ : DS)) :: (sl 86 2 v i (flat ((List.range i).map fun i => (first secs (n + 1) + i, piece s i)))) :: F) (fun _ h => h) ?_
          refine Wl.q (v := Value.string (s.extract (i * 64) s.size)) (q_move rfl) ?_
          refine Wl.q (v := Value.int .i64 (((s.extract (i * 64) s.size).size : Nat) : Int)) (q_len_str Try.underlying9 rfl) ?_
          refine Wl.q (v := Value.string (noughts.extract ((s.extract (i * 64) s.size).size) noughts.size)) (q_slice_str (l := (s.extract (i * 64) s.size).size) (h := noughts.size) Try.underlying9 rfl ⟨_, rfl⟩ rfl (by rw [noughts_size]; first | omega | (rw [ByteArray.size_extract]; omega)) (by omega) rfl) ?_
          refine Wl.q (v := Value.string (piece s i)) (q_cat (z := (piece s i)) rfl rfl (by simp only [ByteArray.size_extract, noughts_size]; omega) (piece_small (by show ¬ (s.extract (i * 64) s.size).size > 64; omega))) ?_
          refine Wl.q (v := Value.string (piece s i)) (q_assign rfl) ?_
          refine Wl.done ?_
          refine Wx.go ?_
          refine Wc.region ?_
          refine Wl.q (v := v) (q_move hE7_0) ?_
          refine Wl.q (v := Value.int .i64 ((first secs (n + 1) : Nat) : Int)) (q_move hE6_0) ?_
          refine Wl.q (v := Value.int .i64 (((i * 64) : Nat) : Int)) (q_move hE8_0) ?_
          refine Wl.q (v := Value.int .i64 ((i : Nat) : Int)) (q_quo (c := ((i : Nat) : Int)) rfl rfl (by decide) (quo64 (by omega))) ?_
          refine Wl.q (v := Value.int .i64 (((first secs (n + 1)) + i : Nat) : Int)) (q_add (c := (((first secs (n + 1)) + i : Nat) : Int)) rfl rfl (by rw [wrap_i64] <;> omega)) ?_
          refine Wl.q (v := Value.string (piece s i)) (q_move rfl) ?_
          refine Wl.q (v := Value.agg #[Value.int .i64 (((first secs (n + 1)) + i : Nat) : Int), Value.string (piece s i)]) (q_build (pl := [(0, 1), (1, 1)]) Try.underlying86 zo_86 (by kernel_rfl) (by kernel_rfl)) ?_
          refine Wl.e (e_buildSlice (cs := [Value.int .i64 (((first secs (n + 1)) + i : Nat) : Int), Value.string (piece s i)]) se_34 zo_86 (by decide) (by decide) (by kernel_rfl)) (fun b4 _ => ?_)
          refine Wl.imp (L' := (pt b4 86 [Value.int .i64 (((first secs (n + 1)) + i : Nat) : Int), Value.string (piece s i)]) :: (pt jr 79 [Value.pointer (some ⟨q, 0, none⟩), Value.string t, Value.int .i64 n, Value.bool false]) :: (isRef q (⟨secs, since, false, count, cut⟩ : DS)) :: (sl 86 2 v i (flat ((List.range i).map fun i => (first secs (n + 1) + i, piece s i)))) :: F) (fun _ h => h) ?_
          refine Wl.e (e_append (i := 3) (k := 2) (m := 1) (off := 0) (news := [Value.int .i64 (((first secs (n + 1)) + i : Nat) : Int), Value.string (piece s i)]) Try.underlying34 sz_86 by_86 zo_86 rfl rfl rfl rfl rfl (Has.of_pt (i := 0) rfl rfl) rfl (by decide) (by simp only [maxLen]; omega) (by omega)) (fun v2 _ => ?_)
          refine Wl.imp (L' := (pt b4 86 [Value.int .i64 (((first secs (n + 1)) + i : Nat) : Int), Value.string (piece s i)]) :: (pt jr 79 [Value.pointer (some ⟨q, 0, none⟩), Value.string t, Value.int .i64 n, Value.bool false]) :: (isRef q (⟨secs, since, false, count, cut⟩ : DS)) :: (sl 86 2 v2 (i + 1) ((flat ((List.range i).map fun i => (first secs (n + 1) + i, piece s i))) ++ [Value.int .i64 (((first secs (n + 1)) + i : Nat) : Int), Value.string (piece s i)])) :: F) (fun _ h => h) ?_
          refine Wl.q (v := v2) (q_assign rfl) ?_
          refine Wl.done ?_
          refine Wx.blockEnd ?_
          refine Wx.go ?_
          refine Wc.region ?_
          refine Wl.q (v := Value.int .i64 (((i * 64) : Nat) : Int)) (q_move hE8_0) ?_
          refine Wl.q (v := Value.int .i64 ((((i + 1) * 64) : Nat) : Int)) (q_add (c := ((((i + 1) * 64) : Nat) : Int)) rfl rfl (by rw [wrap_i64] <;> omega)) ?_
          refine Wl.q (v := Value.int .i64 ((((i + 1) * 64) : Nat) : Int)) (q_assign rfl) ?_
          refine Wl.done ?_
          refine Wx.at (i + 1, v2) ⟨(by simp only; omega), rfl, rfl, hE0_0, hE1_0, hE5_0, hE6_0, (by omega)⟩ (fun w hs => by have h2 : st W0 w ((pt jr 79 [Value.pointer (some ⟨q, 0, none⟩), Value.string t, Value.int .i64 n, Value.bool false]) :: (isRef q (⟨secs, since, false, count, cut⟩ : DS)) :: (sl 86 2 v2 (i + 1) (flat ((List.range (i + 1)).map fun i => (first secs (n + 1) + i, piece s i)))) :: F) := (by rw [flat_pieces]; exact (st_drop (st_pull [0] hs))); exact h2)
      ·
        have hend : i = nPieces s := by unfold nPieces at *; omega
        refine Wl.q (v := Value.bool false) (q_lss (r := false) rfl rfl (decide_eq_false hlt)) ?_
        refine Wl.done ?_
        refine Wx.go ?_
        refine Wc.no rfl ?_
        refine Wc.exit ?_
        refine Wx.thenExit ?_
        refine Wx.thenExit ?_
        refine Wx.out ?_
        refine Wx.go ?_
        refine Wc.seq ?_
        refine Wc.seq ?_
        refine Wc.region ?_
        refine Wl.imp (L' := (pt jr 79 [Value.pointer (some ⟨q, 0, none⟩), Value.string t, Value.int .i64 n, Value.bool false]) :: (isRef q (⟨secs, since, false, count, cut⟩ : DS)) :: (sl 86 2 v (nPieces s) (flat (pieces s (first secs (n + 1))))) :: F) (fun w hs => by rw [hend] at hs; exact hs) ?_
        have hnp := pieces_le (s := s) (n := 2047) (by omega)
        rcases Nat.eq_zero_or_pos (nPieces s) with hz | hz
        ·
          refine Wl.q (v := Value.int .i64 0) (q_assign rfl) ?_
          refine Wl.done ?_
          refine Wx.go ?_
          refine Wc.block ?_
          refine Wc.loop (X := Nat × DS) (fun (k, d) E => E 10 = Value.int .i64 ((k : Nat) : Int) ∧ E 0 = Value.pointer (some ⟨jr, 0, none⟩) ∧ E 1 = Value.string s ∧ E 5 = Value.int .i64 (n % 2) ∧ E 7 = v ∧ Kp (⟨secs, since, false, count, cut⟩ : DS) d k ∧ k ≤ nPieces s ∧ (wall (⟨secs, since, false, count, cut⟩ : DS) (pieces s (first secs (n + 1)))) = wall d ((pieces s (first secs (n + 1))).drop k)) (fun (k, d) => (pt jr 79 [Value.pointer (some ⟨q, 0, none⟩), Value.string t, Value.int .i64 n, Value.bool false]) :: (isRef q d) :: (sl 86 2 v (nPieces s) (flat (pieces s (first secs (n + 1))))) :: F) (fun (k, d) => nPieces s - k) (0, (⟨secs, since, false, count, cut⟩ : DS)) ?_ ?_ ?_
          · exact ⟨rfl, hE0_0, hE1_0, hE5_0, hE7_0, (Kp.refl hw), (Nat.zero_le _), (by rw [List.drop_zero])⟩
          · exact fun w hs => hs
          · rintro ⟨k, d⟩ E6 ⟨hE10_4, hE0_4, hE1_4, hE5_4, hE7_4, hk, hkn, hw3⟩
            dsimp only at *
            refine Wc.seq ?_
            refine Wc.seq ?_
            refine Wc.region ?_
            refine Wl.q (v := Value.int .i64 ((k : Nat) : Int)) (q_move hE10_4) ?_
            refine Wl.q (v := v) (q_move hE7_4) ?_
            refine Wl.q (v := Value.int .i64 ((nPieces s : Nat) : Int)) (q_len_sl (i := 2) Try.underlying34 rfl rfl) ?_
            by_cases hlt2 : ((k : Nat) : Int) < ((nPieces s : Nat) : Int)
            ·
              exfalso; omega
            ·
              have hend2 : k = nPieces s := by omega
              have hW : (wall (⟨secs, since, false, count, cut⟩ : DS) (pieces s (first secs (n + 1)))) = (0, d) := by rw [hw3, hend2]; exact wall_done d
              have hkS := hk.sync
              have hkH := hkS.write (n % 2) (headB (n + 1) ((s.size : Nat) : Int))
              refine Wl.q (v := Value.bool false) (q_lss (r := false) rfl rfl (decide_eq_false hlt2)) ?_
              refine Wl.done ?_
              refine Wx.go ?_
              refine Wc.no rfl ?_
              refine Wc.exit ?_
              refine Wx.thenExit ?_
              refine Wx.thenExit ?_
              refine Wx.out ?_
              refine Wx.go ?_
              refine Wc.seq ?_
              refine Wc.seq ?_
              refine Wc.drawsS [4, 20, 28] ((pt jr 79 [Value.pointer (some ⟨q, 0, none⟩), Value.string t, Value.int .i64 n, Value.bool false]) :: (isRef q d) :: (sl 86 2 v (nPieces s) (flat (pieces s (first secs (n + 1))))) :: []) (by kernel_rfl) ?_
              refine Wr.pure (v := Value.pointer (some ⟨jr, 0, none⟩)) 0 rfl (by kernel_rfl) (.inr (fun _ h => st_take [0, 0, 0] h)) (.inl ⟨rfl, fun _ => q_move hE0_4⟩) ?_
              refine Wr.pure (v := Value.pointer (some ⟨jr, 0, none⟩)) 1 rfl (by kernel_rfl) (.inr (fun _ h => st_take [0, 0, 0] h)) (.inl ⟨rfl, fun _ => q_nil_ptr rfl⟩) ?_
              refine Wr.pure (v := Value.pointer (some ⟨jr, 0, none⟩)) 2 rfl (by kernel_rfl) (.inr (fun _ h => st_take [0, 0, 0] h)) (.inl ⟨rfl, fun _ => q_field (m := 0) fo_79_0 rfl rfl⟩) ?_
              refine Wr.take (v := Value.pointer (some ⟨q, 0, none⟩)) 3 rfl (by kernel_rfl) (fun _ h => st_take [0, 0, 0] h) (.inl ⟨rfl, q_load sc_52 rfl (.cel (i := 0) rfl rfl)⟩) ?_
              refine Wr.imp (L' := (isRef q d) :: (pt jr 79 [Value.pointer (some ⟨q, 0, none⟩), Value.string t, Value.int .i64 n, Value.bool false]) :: (sl 86 2 v (nPieces s) (flat (pieces s (first secs (n + 1))))) :: F) (fun _ h => st_pull [1] h) ?_
              refine Wr.e 4 (by kernel_rfl) rfl (e_call (F := (pt jr 79 [Value.pointer (some ⟨q, 0, none⟩), Value.string t, Value.int .i64 n, Value.bool false]) :: (sl 86 2 v (nPieces s) (flat (pieces s (first secs (n + 1))))) :: F) (args := [Value.pointer (some ⟨q, 0, none⟩)]) Try.call54 rfl (rsync_c W0 q d hk.wf (by have := hk.since; have : (⟨secs, since, false, count, cut⟩ : DS).since.length = since.length := rfl; omega) (by have := hk.count; have : (⟨secs, since, false, count, cut⟩ : DS).count = count := rfl; omega))) (.inl (by kernel_rfl)) (fun _ _ => ?_)
              refine Wr.imp (L' := (isRef q ((d.sync).2)) :: (pt jr 79 [Value.pointer (some ⟨q, 0, none⟩), Value.string t, Value.int .i64 n, Value.bool false]) :: (sl 86 2 v (nPieces s) (flat (pieces s (first secs (n + 1))))) :: F) (fun _ h => h) ?_
              by_cases hs0 : (d.sync).1 = 0
              ·
                refine Wr.pure (v := Value.bool false) 5 rfl (by kernel_rfl) (.inl (by kernel_rfl)) (.inl ⟨rfl, fun _ => q_neq (r := true) rfl rfl (decide_eq_true hs0)⟩) ?_
                refine Wr.rebaseS [20, 28] ((isRef q ((d.sync).2)) :: (pt jr 79 [Value.pointer (some ⟨q, 0, none⟩), Value.string t, Value.int .i64 n, Value.bool false]) :: (sl 86 2 v (nPieces s) (flat (pieces s (first secs (n + 1))))) :: []) (by kernel_rfl) ?_
                refine Wr.pure (v := Value.bool false) 6 rfl (by kernel_rfl) (.inr (fun _ h => st_take [0, 0, 0] h)) (.inl ⟨rfl, fun _ => q_move rfl⟩) ?_
                refine Wr.pure (v := Value.pointer (some ⟨jr, 0, none⟩)) 7 rfl (by kernel_rfl) (.inr (fun _ h => st_take [0, 0, 0] h)) (.inl ⟨rfl, fun _ => q_move hE0_4⟩) ?_
                refine Wr.pure (v := Value.pointer (some ⟨jr, 0, none⟩)) 8 rfl (by kernel_rfl) (.inr (fun _ h => st_take [0, 0, 0] h)) (.inl ⟨rfl, fun _ => q_nil_ptr rfl⟩) ?_
                refine Wr.pure (v := Value.pointer (some ⟨jr, 0, none⟩)) 9 rfl (by kernel_rfl) (.inr (fun _ h => st_take [0, 0, 0] h)) (.inl ⟨rfl, fun _ => q_field (m := 0) fo_79_0 rfl rfl⟩) ?_
                refine Wr.take (v := Value.pointer (some ⟨q, 0, none⟩)) 10 rfl (by kernel_rfl) (fun _ h => st_take [0, 0, 0] h) (.inl ⟨rfl, q_load sc_52 rfl (.cel (i := 1) rfl rfl)⟩) ?_
                refine Wr.pure (v := Value.int .i64 (n % 2)) 11 rfl (by kernel_rfl) (.inr (fun _ h => st_take [0, 0, 0] h)) (.inl ⟨rfl, fun _ => q_move hE5_4⟩) ?_
                refine Wr.pure (v := Value.pointer (some ⟨jr, 0, none⟩)) 12 rfl (by kernel_rfl) (.inr (fun _ h => st_take [0, 0, 0] h)) (.inl ⟨rfl, fun _ => q_move hE0_4⟩) ?_
                refine Wr.pure (v := Value.pointer (some ⟨jr, 0, none⟩)) 13 rfl (by kernel_rfl) (.inr (fun _ h => st_take [0, 0, 0] h)) (.inl ⟨rfl, fun _ => q_nil_ptr rfl⟩) ?_
                refine Wr.pure (v := Value.pointer (some ⟨jr, 2, none⟩)) 14 rfl (by kernel_rfl) (.inr (fun _ h => st_take [0, 0, 0] h)) (.inl ⟨rfl, fun _ => q_field (m := 2) fo_79_2 rfl rfl⟩) ?_
                refine Wr.take (v := Value.int .i64 n) 15 rfl (by kernel_rfl) (fun _ h => st_take [0, 0, 0] h) (.inl ⟨rfl, q_load sc_3 rfl (.cel (i := 1) rfl rfl)⟩) ?_
                refine Wr.pure (v := Value.int .i64 (n + 1)) 16 rfl (by kernel_rfl) (.inr (fun _ h => st_take [0, 0, 0] h)) (.inl ⟨rfl, fun _ => q_add (c := (n + 1)) rfl rfl (wrap_i64 (by omega) (by omega))⟩) ?_
                refine Wr.pure (v := Value.string s) 17 rfl (by kernel_rfl) (.inr (fun _ h => st_take [0, 0, 0] h)) (.inl ⟨rfl, fun _ => q_move hE1_4⟩) ?_
                refine Wr.take (v := Value.int .i64 ((s.size : Nat) : Int)) 18 rfl (by kernel_rfl) (fun _ h => st_take [0, 0, 0] h) (.inl ⟨rfl, q_len_str Try.underlying9 rfl⟩) ?_
                refine Wr.e 19 (by kernel_rfl) rfl (e_call (F := (isRef q ((d.sync).2)) :: (pt jr 79 [Value.pointer (some ⟨q, 0, none⟩), Value.string t, Value.int .i64 n, Value.bool false]) :: (sl 86 2 v (nPieces s) (flat (pieces s (first secs (n + 1))))) :: F) (args := [Value.int .i64 (n + 1), Value.int .i64 ((s.size : Nat) : Int)]) Try.call52 rfl (rhead_c W0 (n + 1) ((s.size : Nat) : Int))) (.inr fun _ _ _ h => st_take [0, 0, 0] h) (fun _ _ => ?_)
                refine Wr.imp (L' := (isRef q ((d.sync).2)) :: (pt jr 79 [Value.pointer (some ⟨q, 0, none⟩), Value.string t, Value.int .i64 n, Value.bool false]) :: (sl 86 2 v (nPieces s) (flat (pieces s (first secs (n + 1))))) :: F) (fun _ h => h) ?_
                refine Wr.e 20 (by kernel_rfl) rfl (e_call (F := (pt jr 79 [Value.pointer (some ⟨q, 0, none⟩), Value.string t, Value.int .i64 n, Value.bool false]) :: (sl 86 2 v (nPieces s) (flat (pieces s (first secs (n + 1))))) :: F) (args := [Value.pointer (some ⟨q, 0, none⟩), Value.int .i64 (n % 2), Value.string (headB (n + 1) ((s.size : Nat) : Int))]) Try.call51 rfl (rwrite_c W0 q ((d.sync).2) (n % 2) (headB (n + 1) ((s.size : Nat) : Int)) hkS.wf (by have := hkS.since; have : (⟨secs, since, false, count, cut⟩ : DS).since.length = since.length := rfl; omega) (by have := hkS.count; have : (⟨secs, since, false, count, cut⟩ : DS).count = count := rfl; omega))) (.inl (by kernel_rfl)) (fun _ _ => ?_)
                refine Wr.imp (L' := (isRef q ((((d.sync).2).write (n % 2) (headB (n + 1) ((s.size : Nat) : Int))).2)) :: (pt jr 79 [Value.pointer (some ⟨q, 0, none⟩), Value.string t, Value.int .i64 n, Value.bool false]) :: (sl 86 2 v (nPieces s) (flat (pieces s (first secs (n + 1))))) :: F) (fun _ h => h) ?_
                by_cases hh0 : (((d.sync).2).write (n % 2) (headB (n + 1) ((s.size : Nat) : Int))).1 = 0
                ·
                  refine Wr.pure (v := Value.bool false) 21 rfl (by kernel_rfl) (.inl (by kernel_rfl)) (.inl ⟨rfl, fun _ => q_neq (r := true) rfl rfl (decide_eq_true hh0)⟩) ?_
                  refine Wr.rebaseS [28] ((isRef q ((((d.sync).2).write (n % 2) (headB (n + 1) ((s.size : Nat) : Int))).2)) :: (pt jr 79 [Value.pointer (some ⟨q, 0, none⟩), Value.string t, Value.int .i64 n, Value.bool false]) :: (sl 86 2 v (nPieces s) (flat (pieces s (first secs (n + 1))))) :: []) (by kernel_rfl) ?_
                  refine Wr.pure (v := Value.bool false) 22 rfl (by kernel_rfl) (.inr (fun _ h => st_take [0, 0, 0] h)) (.inl ⟨rfl, fun _ => q_pick (t := false) rfl rfl⟩) ?_
                  refine Wr.pure (v := Value.bool false) 23 rfl (by kernel_rfl) (.inr (fun _ h => st_take [0, 0, 0] h)) (.inl ⟨rfl, fun _ => q_move rfl⟩) ?_
                  refine Wr.pure (v := Value.pointer (some ⟨jr, 0, none⟩)) 24 rfl (by kernel_rfl) (.inr (fun _ h => st_take [0, 0, 0] h)) (.inl ⟨rfl, fun _ => q_move hE0_4⟩) ?_
                  refine Wr.pure (v := Value.pointer (some ⟨jr, 0, none⟩)) 25 rfl (by kernel_rfl) (.inr (fun _ h => st_take [0, 0, 0] h)) (.inl ⟨rfl, fun _ => q_nil_ptr rfl⟩) ?_
                  refine Wr.pure (v := Value.pointer (some ⟨jr, 0, none⟩)) 26 rfl (by kernel_rfl) (.inr (fun _ h => st_take [0, 0, 0] h)) (.inl ⟨rfl, fun _ => q_field (m := 0) fo_79_0 rfl rfl⟩) ?_
                  refine Wr.take (v := Value.pointer (some ⟨q, 0, none⟩)) 27 rfl (by kernel_rfl) (fun _ h => st_take [0, 0, 0] h) (.inl ⟨rfl, q_load sc_52 rfl (.cel (i := 1) rfl rfl)⟩) ?_
                  refine Wr.e 28 (by kernel_rfl) rfl (e_call (F := (pt jr 79 [Value.pointer (some ⟨q, 0, none⟩), Value.string t, Value.int .i64 n, Value.bool false]) :: (sl 86 2 v (nPieces s) (flat (pieces s (first secs (n + 1))))) :: F) (args := [Value.pointer (some ⟨q, 0, none⟩)]) Try.call54 rfl (rsync_c W0 q ((((d.sync).2).write (n % 2) (headB (n + 1) ((s.size : Nat) : Int))).2) hkH.wf (by have := hkH.since; have : (⟨secs, since, false, count, cut⟩ : DS).since.length = since.length := rfl; omega) (by have := hkH.count; have : (⟨secs, since, false, count, cut⟩ : DS).count = count := rfl; omega))) (.inl (by kernel_rfl)) (fun _ _ => ?_)
                  refine Wr.imp (L' := (isRef q ((((((d.sync).2).write (n % 2) (headB (n + 1) ((s.size : Nat) : Int))).2).sync).2)) :: (pt jr 79 [Value.pointer (some ⟨q, 0, none⟩), Value.string t, Value.int .i64 n, Value.bool false]) :: (sl 86 2 v (nPieces s) (flat (pieces s (first secs (n + 1))))) :: F) (fun _ h => h) ?_
                  refine Wr.rebaseS [] ((isRef q ((((((d.sync).2).write (n % 2) (headB (n + 1) ((s.size : Nat) : Int))).2).sync).2)) :: (pt jr 79 [Value.pointer (some ⟨q, 0, none⟩), Value.string t, Value.int .i64 n, Value.bool false]) :: (sl 86 2 v (nPieces s) (flat (pieces s (first secs (n + 1))))) :: []) (by kernel_rfl) ?_
                  by_cases hy0 : (((((d.sync).2).write (n % 2) (headB (n + 1) ((s.size : Nat) : Int))).2).sync).1 = 0
                  ·
                    refine Wr.pure (v := Value.bool false) 29 rfl (by kernel_rfl) (.inr (fun _ h => st_take [0, 0, 0] h)) (.inl ⟨rfl, fun _ => q_neq (r := true) rfl rfl (decide_eq_true hy0)⟩) ?_
                    refine Wr.pure (v := Value.bool false) 30 rfl (by kernel_rfl) (.inr (fun _ h => st_take [0, 0, 0] h)) (.inl ⟨rfl, fun _ => q_pick (t := false) rfl rfl⟩) ?_
                    refine Wr.done (by kernel_rfl) ?_
                    refine Wx.go ?_
                    refine Wc.no rfl ?_
                    refine Wc.skip ?_
                    refine Wx.go ?_
                    refine Wc.seq ?_
                    refine Wc.region ?_
                    refine Wl.q (v := Value.pointer (some ⟨jr, 0, none⟩)) (q_move hE0_4) ?_
                    refine Wl.q (v := Value.string s) (q_move hE1_4) ?_
                    refine Wl.q (v := Value.pointer (some ⟨jr, 0, none⟩)) (q_nil_ptr rfl) ?_
                    refine Wl.q (v := Value.pointer (some ⟨jr, 1, none⟩)) (q_field (m := 1) fo_79_1 rfl rfl) ?_
                    refine Wl.e (e_store (i := 1) (v := Value.string s) sz_9 rfl rfl (fun _ _ => rfl) rfl (by simp)) (fun _ _ => ?_)
                    refine Wl.imp (L' := (isRef q ((((((d.sync).2).write (n % 2) (headB (n + 1) ((s.size : Nat) : Int))).2).sync).2)) :: (pt jr 79 [Value.pointer (some ⟨q, 0, none⟩), Value.string s, Value.int .i64 n, Value.bool false]) :: (sl 86 2 v (nPieces s) (flat (pieces s (first secs (n + 1))))) :: F) (fun _ h => h) ?_
                    refine Wl.done ?_
                    refine Wx.go ?_
                    refine Wc.seq ?_
                    refine Wc.region ?_
                    refine Wl.q (v := Value.pointer (some ⟨jr, 0, none⟩)) (q_move hE0_4) ?_
                    refine Wl.q (v := Value.pointer (some ⟨jr, 0, none⟩)) (q_nil_ptr rfl) ?_
                    refine Wl.q (v := Value.pointer (some ⟨jr, 2, none⟩)) (q_field (m := 2) fo_79_2 rfl rfl) ?_
                    refine Wl.q (v := Value.int .i64 n) (q_load sc_3 rfl (.cel (i := 1) rfl rfl)) ?_
                    refine Wl.q (v := Value.int .i64 (n + 1)) (q_add (c := (n + 1)) rfl rfl (wrap_i64 (by omega) (by omega))) ?_
                    refine Wl.q (v := Value.pointer (some ⟨jr, 0, none⟩)) (q_nil_ptr rfl) ?_
                    refine Wl.q (v := Value.pointer (some ⟨jr, 2, none⟩)) (q_field (m := 2) fo_79_2 rfl rfl) ?_
                    refine Wl.e (e_store (i := 1) (v := Value.int .i64 (n + 1)) sz_3 rfl rfl (fun _ _ => rfl) rfl (by simp)) (fun _ _ => ?_)
                    refine Wl.imp (L' := (isRef q ((((((d.sync).2).write (n % 2) (headB (n + 1) ((s.size : Nat) : Int))).2).sync).2)) :: (pt jr 79 [Value.pointer (some ⟨q, 0, none⟩), Value.string s, Value.int .i64 (n + 1), Value.bool false]) :: (sl 86 2 v (nPieces s) (flat (pieces s (first secs (n + 1))))) :: F) (fun _ h => h) ?_
                    refine Wl.done ?_
                    refine Wx.go ?_
                    refine Wc.seq ?_
                    refine Wc.region ?_
                    refine Wl.q (v := Value.int .i64 0) (q_assign rfl) ?_
                    refine Wl.done ?_
                    refine Wx.go ?_
                    refine Wc.ret ?_
                    refine Wx.fin1 rfl (.inl rfl) (fun w hs => ?_)
                    have e : ((JS.mk t n false).put (⟨secs, since, false, count, cut⟩ : DS) s) = (0, (d.sync.2.write (n % 2) (headB (n + 1) ((s.size : Nat) : Int))).2.sync.2, ⟨s, n + 1, false⟩) := jput_ok rfl (by show ¬ half secs * 64 < s.size; omega) hW (is_ok hs0) (is_ok hh0) (is_ok hy0)
                    exact ⟨(), trivial, by rw [e]; rfl, by rw [e]; exact (st_pull [1, 0] (st_drop (st_pull [2] hs)))⟩
                  ·
                    refine Wr.pure (v := Value.bool true) 29 rfl (by kernel_rfl) (.inr (fun _ h => st_take [0, 0, 0] h)) (.inl ⟨rfl, fun _ => q_neq (r := false) rfl rfl (decide_eq_false hy0)⟩) ?_
                    refine Wr.pure (v := Value.bool true) 30 rfl (by kernel_rfl) (.inr (fun _ h => st_take [0, 0, 0] h)) (.inl ⟨rfl, fun _ => q_pick (t := false) rfl rfl⟩) ?_
                    refine Wr.done (by kernel_rfl) ?_
                    refine Wx.go ?_
                    refine Wc.yes rfl ?_
                    refine Wc.seq ?_
                    refine Wc.region ?_
                    refine Wl.q (v := Value.pointer (some ⟨jr, 0, none⟩)) (q_move hE0_4) ?_
                    refine Wl.q (v := Value.pointer (some ⟨jr, 0, none⟩)) (q_nil_ptr rfl) ?_
                    refine Wl.q (v := Value.pointer (some ⟨jr, 3, none⟩)) (q_field (m := 3) fo_79_3 rfl rfl) ?_
                    refine Wl.e (e_store (i := 1) (v := Value.bool true) sz_4 rfl rfl (fun _ _ => rfl) rfl (by simp)) (fun _ _ => ?_)
                    refine Wl.imp (L' := (isRef q ((((((d.sync).2).write (n % 2) (headB (n + 1) ((s.size : Nat) : Int))).2).sync).2)) :: (pt jr 79 [Value.pointer (some ⟨q, 0, none⟩), Value.string t, Value.int .i64 n, Value.bool true]) :: (sl 86 2 v (nPieces s) (flat (pieces s (first secs (n + 1))))) :: F) (fun _ h => h) ?_
                    refine Wl.done ?_
                    refine Wx.go ?_
                    refine Wc.seq ?_
                    refine Wc.region ?_
                    refine Wl.q (v := Value.int .i64 6) (q_assign rfl) ?_
                    refine Wl.done ?_
                    refine Wx.go ?_
                    refine Wc.ret ?_
                    refine Wx.thenRet ?_
                    refine Wx.fin1 rfl (.inl rfl) (fun w hs => ?_)
                    have e : ((JS.mk t n false).put (⟨secs, since, false, count, cut⟩ : DS) s) = (6, (d.sync.2.write (n % 2) (headB (n + 1) ((s.size : Nat) : Int))).2.sync.2, ⟨t, n, true⟩) := jput_last rfl (by show ¬ half secs * 64 < s.size; omega) hW (is_ok hs0) (is_ok hh0) (is_six (sync_06 _) hy0) (by decide)
                    exact ⟨(), trivial, by rw [e]; rfl, by rw [e]; exact (st_pull [1, 0] (st_drop (st_pull [2] hs)))⟩
                ·
                  refine Wr.pure (v := Value.bool true) 21 rfl (by kernel_rfl) (.inl (by kernel_rfl)) (.inl ⟨rfl, fun _ => q_neq (r := false) rfl rfl (decide_eq_false hh0)⟩) ?_
                  refine Wr.rebaseS [] ((isRef q ((((d.sync).2).write (n % 2) (headB (n + 1) ((s.size : Nat) : Int))).2)) :: (pt jr 79 [Value.pointer (some ⟨q, 0, none⟩), Value.string t, Value.int .i64 n, Value.bool false]) :: (sl 86 2 v (nPieces s) (flat (pieces s (first secs (n + 1))))) :: []) (by kernel_rfl) ?_
                  refine Wr.pure (v := Value.bool true) 22 rfl (by kernel_rfl) (.inr (fun _ h => st_take [0, 0, 0] h)) (.inl ⟨rfl, fun _ => q_pick (t := false) rfl rfl⟩) ?_
                  refine Wr.pure (v := Value.bool true) 23 rfl (by kernel_rfl) (.inr (fun _ h => st_take [0, 0, 0] h)) (.inl ⟨rfl, fun _ => q_move rfl⟩) ?_
                  refine Wr.pure (v := undef) 24 rfl (by kernel_rfl) (.inr (fun _ h => st_take [0, 0, 0] h)) (.inr ⟨rfl, rfl⟩) ?_
                  refine Wr.pure (v := undef) 25 rfl (by kernel_rfl) (.inr (fun _ h => st_take [0, 0, 0] h)) (.inr ⟨rfl, rfl⟩) ?_
                  refine Wr.pure (v := undef) 26 rfl (by kernel_rfl) (.inr (fun _ h => st_take [0, 0, 0] h)) (.inr ⟨rfl, rfl⟩) ?_
                  refine Wr.pure (v := undef) 27 rfl (by kernel_rfl) (.inr (fun _ h => st_take [0, 0, 0] h)) (.inr ⟨rfl, rfl⟩) ?_
                  refine Wr.pure (v := undef) 28 rfl (by kernel_rfl) (.inr (fun _ h => st_take [0, 0, 0] h)) (.inr ⟨rfl, rfl⟩) ?_
                  refine Wr.pure (v := undef) 29 rfl (by kernel_rfl) (.inr (fun _ h => st_take [0, 0, 0] h)) (.inr ⟨rfl, rfl⟩) ?_
                  refine Wr.pure (v := Value.bool true) 30 rfl (by kernel_rfl) (.inr (fun _ h => st_take [0, 0, 0] h)) (.inl ⟨rfl, fun _ => q_pick (t := true) rfl rfl⟩) ?_
                  refine Wr.done (by kernel_rfl) ?_
                  refine Wx.go ?_
                  refine Wc.yes rfl ?_
                  refine Wc.seq ?_
                  refine Wc.region ?_
                  refine Wl.q (v := Value.pointer (some ⟨jr, 0, none⟩)) (q_move hE0_4) ?_
                  refine Wl.q (v := Value.pointer (some ⟨jr, 0, none⟩)) (q_nil_ptr rfl) ?_
                  refine Wl.q (v := Value.pointer (some ⟨jr, 3, none⟩)) (q_field (m := 3) fo_79_3 rfl rfl) ?_
                  refine Wl.e (e_store (i := 1) (v := Value.bool true) sz_4 rfl rfl (fun _ _ => rfl) rfl (by simp)) (fun _ _ => ?_)
                  refine Wl.imp (L' := (isRef q ((((d.sync).2).write (n % 2) (headB (n + 1) ((s.size : Nat) : Int))).2)) :: (pt jr 79 [Value.pointer (some ⟨q, 0, none⟩), Value.string t, Value.int .i64 n, Value.bool true]) :: (sl 86 2 v (nPieces s) (flat (pieces s (first secs (n + 1))))) :: F) (fun _ h => h) ?_
                  refine Wl.done ?_
                  refine Wx.go ?_
                  refine Wc.seq ?_
                  refine Wc.region ?_
                  refine Wl.q (v := Value.int .i64 6) (q_assign rfl) ?_
                  refine Wl.done ?_
                  refine Wx.go ?_
                  refine Wc.ret ?_
                  refine Wx.thenRet ?_
                  refine Wx.fin1 rfl (.inl rfl) (fun w hs => ?_)
                  have e : ((JS.mk t n false).put (⟨secs, since, false, count, cut⟩ : DS) s) = (6, (d.sync.2.write (n % 2) (headB (n + 1) ((s.size : Nat) : Int))).2, ⟨t, n, true⟩) := jput_head rfl (by show ¬ half secs * 64 < s.size; omega) hW (is_ok hs0) (is_six (head_06 (by have := hkS.len; have h5 : (⟨secs, since, false, count, cut⟩ : DS).secs = secs := rfl; rw [h5] at this; omega) n) hh0) (by decide)
                  exact ⟨(), trivial, by rw [e]; rfl, by rw [e]; exact (st_pull [1, 0] (st_drop (st_pull [2] hs)))⟩
              ·
                refine Wr.pure (v := Value.bool true) 5 rfl (by kernel_rfl) (.inl (by kernel_rfl)) (.inl ⟨rfl, fun _ => q_neq (r := false) rfl rfl (decide_eq_false hs0)⟩) ?_
                refine Wr.rebaseS [] ((isRef q ((d.sync).2)) :: (pt jr 79 [Value.pointer (some ⟨q, 0, none⟩), Value.string t, Value.int .i64 n, Value.bool false]) :: (sl 86 2 v (nPieces s) (flat (pieces s (first secs (n + 1))))) :: []) (by kernel_rfl) ?_
                refine Wr.pure (v := Value.bool true) 6 rfl (by kernel_rfl) (.inr (fun _ h => st_take [0, 0, 0] h)) (.inl ⟨rfl, fun _ => q_move rfl⟩) ?_
                refine Wr.pure (v := undef) 7 rfl (by kernel_rfl) (.inr (fun _ h => st_take [0, 0, 0] h)) (.inr ⟨rfl, rfl⟩) ?_
                refine Wr.pure (v := undef) 8 rfl (by kernel_rfl) (.inr (fun _ h => st_take [0, 0, 0] h)) (.inr ⟨rfl, rfl⟩) ?_
                refine Wr.pure (v := undef) 9 rfl (by kernel_rfl) (.inr (fun _ h => st_take [0, 0, 0] h)) (.inr ⟨rfl, rfl⟩) ?_
                refine Wr.pure (v := undef) 10 rfl (by kernel_rfl) (.inr (fun _ h => st_take [0, 0, 0] h)) (.inr ⟨rfl, rfl⟩) ?_
                refine Wr.pure (v := undef) 11 rfl (by kernel_rfl) (.inr (fun _ h => st_take [0, 0, 0] h)) (.inr ⟨rfl, rfl⟩) ?_
                refine Wr.pure (v := undef) 12 rfl (by kernel_rfl) (.inr (fun _ h => st_take [0, 0, 0] h)) (.inr ⟨rfl, rfl⟩) ?_
                refine Wr.pure (v := undef) 13 rfl (by kernel_rfl) (.inr (fun _ h => st_take [0, 0, 0] h)) (.inr ⟨rfl, rfl⟩) ?_
                refine Wr.pure (v := undef) 14 rfl (by kernel_rfl) (.inr (fun _ h => st_take [0, 0, 0] h)) (.inr ⟨rfl, rfl⟩) ?_
                refine Wr.pure (v := undef) 15 rfl (by kernel_rfl) (.inr (fun _ h => st_take [0, 0, 0] h)) (.inr ⟨rfl, rfl⟩) ?_
                refine Wr.pure (v := undef) 16 rfl (by kernel_rfl) (.inr (fun _ h => st_take [0, 0, 0] h)) (.inr ⟨rfl, rfl⟩) ?_
                refine Wr.pure (v := undef) 17 rfl (by kernel_rfl) (.inr (fun _ h => st_take [0, 0, 0] h)) (.inr ⟨rfl, rfl⟩) ?_
                refine Wr.pure (v := undef) 18 rfl (by kernel_rfl) (.inr (fun _ h => st_take [0, 0, 0] h)) (.inr ⟨rfl, rfl⟩) ?_
                refine Wr.pure (v := undef) 19 rfl (by kernel_rfl) (.inr (fun _ h => st_take [0, 0, 0] h)) (.inr ⟨rfl, rfl⟩) ?_
                refine Wr.pure (v := undef) 20 rfl (by kernel_rfl) (.inr (fun _ h => st_take [0, 0, 0] h)) (.inr ⟨rfl, rfl⟩) ?_
                refine Wr.pure (v := undef) 21 rfl (by kernel_rfl) (.inr (fun _ h => st_take [0, 0, 0] h)) (.inr ⟨rfl, rfl⟩) ?_
                refine Wr.pure (v := Value.bool true) 22 rfl (by kernel_rfl) (.inr (fun _ h => st_take [0, 0, 0] h)) (.inl ⟨rfl, fun _ => q_pick (t := true) rfl rfl⟩) ?_
                refine Wr.pure (v := Value.bool true) 23 rfl (by kernel_rfl) (.inr (fun _ h => st_take [0, 0, 0] h)) (.inl ⟨rfl, fun _ => q_move rfl⟩) ?_
                refine Wr.pure (v := undef) 24 rfl (by kernel_rfl) (.inr (fun _ h => st_take [0, 0, 0] h)) (.inr ⟨rfl, rfl⟩) ?_
                refine Wr.pure (v := undef) 25 rfl (by kernel_rfl) (.inr (fun _ h => st_take [0, 0, 0] h)) (.inr ⟨rfl, rfl⟩) ?_
                refine Wr.pure (v := undef) 26 rfl (by kernel_rfl) (.inr (fun _ h => st_take [0, 0, 0] h)) (.inr ⟨rfl, rfl⟩) ?_
                refine Wr.pure (v := undef) 27 rfl (by kernel_rfl) (.inr (fun _ h => st_take [0, 0, 0] h)) (.inr ⟨rfl, rfl⟩) ?_
                refine Wr.pure (v := undef) 28 rfl (by kernel_rfl) (.inr (fun _ h => st_take [0, 0, 0] h)) (.inr ⟨rfl, rfl⟩) ?_
                refine Wr.pure (v := undef) 29 rfl (by kernel_rfl) (.inr (fun _ h => st_take [0, 0, 0] h)) (.inr ⟨rfl, rfl⟩) ?_
                refine Wr.pure (v := Value.bool true) 30 rfl (by kernel_rfl) (.inr (fun _ h => st_take [0, 0, 0] h)) (.inl ⟨rfl, fun _ => q_pick (t := true) rfl rfl⟩) ?_
                refine Wr.done (by kernel_rfl) ?_
                refine Wx.go ?_
                refine Wc.yes rfl ?_
                refine Wc.seq ?_
                refine Wc.region ?_
                refine Wl.q (v := Value.pointer (some ⟨jr, 0, none⟩)) (q_move hE0_4) ?_
                refine Wl.q (v := Value.pointer (some ⟨jr, 0, none⟩)) (q_nil_ptr rfl) ?_
                refine Wl.q (v := Value.pointer (some ⟨jr, 3, none⟩)) (q_field (m := 3) fo_79_3 rfl rfl) ?_
                refine Wl.e (e_store (i := 1) (v := Value.bool true) sz_4 rfl rfl (fun _ _ => rfl) rfl (by simp)) (fun _ _ => ?_)
                refine Wl.imp (L' := (isRef q ((d.sync).2)) :: (pt jr 79 [Value.pointer (some ⟨q, 0, none⟩), Value.string t, Value.int .i64 n, Value.bool true]) :: (sl 86 2 v (nPieces s) (flat (pieces s (first secs (n + 1))))) :: F) (fun _ h => h) ?_
                refine Wl.done ?_
                refine Wx.go ?_
                refine Wc.seq ?_
                refine Wc.region ?_
                refine Wl.q (v := Value.int .i64 6) (q_assign rfl) ?_
                refine Wl.done ?_
                refine Wx.go ?_
                refine Wc.ret ?_
                refine Wx.thenRet ?_
                refine Wx.fin1 rfl (.inl rfl) (fun w hs => ?_)
                have e : ((JS.mk t n false).put (⟨secs, since, false, count, cut⟩ : DS) s) = (6, d.sync.2, ⟨t, n, true⟩) := jput_sync rfl (by show ¬ half secs * 64 < s.size; omega) hW (is_six (sync_06 d) hs0) (by decide)
                exact ⟨(), trivial, by rw [e]; rfl, by rw [e]; exact (st_pull [1, 0] (st_drop (st_pull [2] hs)))⟩
        ·
          refine Wl.sl (i := 2) (m := nPieces s) rfl hz (fun b cap hv hcap => ?_)
          subst hv
          refine Wl.imp (L' := (pt jr 79 [Value.pointer (some ⟨q, 0, none⟩), Value.string t, Value.int .i64 n, Value.bool false]) :: (isRef q (⟨secs, since, false, count, cut⟩ : DS)) :: (slp 86 2 b cap (flat (pieces s (first secs (n + 1))))) :: F) (fun _ h => h) ?_
          refine Wl.q (v := Value.int .i64 0) (q_assign rfl) ?_
          refine Wl.done ?_
          refine Wx.go ?_
          refine Wc.block ?_
          refine Wc.loop (X := Nat × DS) (fun (k, d) E => E 10 = Value.int .i64 ((k : Nat) : Int) ∧ E 0 = Value.pointer (some ⟨jr, 0, none⟩) ∧ E 1 = Value.string s ∧ E 5 = Value.int .i64 (n % 2) ∧ E 7 = Value.slice (some ⟨b, 0, none⟩) (nPieces s) cap ∧ Kp (⟨secs, since, false, count, cut⟩ : DS) d k ∧ k ≤ nPieces s ∧ (wall (⟨secs, since, false, count, cut⟩ : DS) (pieces s (first secs (n + 1)))) = wall d ((pieces s (first secs (n + 1))).drop k)) (fun (k, d) => (pt jr 79 [Value.pointer (some ⟨q, 0, none⟩), Value.string t, Value.int .i64 n, Value.bool false]) :: (isRef q d) :: (slp 86 2 b cap (flat (pieces s (first secs (n + 1))))) :: F) (fun (k, d) => nPieces s - k) (0, (⟨secs, since, false, count, cut⟩ : DS)) ?_ ?_ ?_
          · exact ⟨rfl, hE0_0, hE1_0, hE5_0, hE7_0, (Kp.refl hw), (Nat.zero_le _), (by rw [List.drop_zero])⟩
          · exact fun w hs => hs
          · rintro ⟨k, d⟩ E8 ⟨hE10_6, hE0_6, hE1_6, hE5_6, hE7_6, hk, hkn, hw3⟩
            dsimp only at *
            refine Wc.seq ?_
            refine Wc.seq ?_
            refine Wc.region ?_
            refine Wl.q (v := Value.int .i64 ((k : Nat) : Int)) (q_move hE10_6) ?_
            refine Wl.q (v := Value.slice (some ⟨b, 0, none⟩) (nPieces s) cap) (q_move hE7_6) ?_
            refine Wl.q (v := Value.int .i64 ((nPieces s : Nat) : Int)) (q_len_slice Try.underlying34 rfl) ?_
            by_cases hlt2 : ((k : Nat) : Int) < ((nPieces s : Nat) : Int)
            ·
              have hkm : k < nPieces s := by omega
              have hg := flat_at (s := s) (f := first secs (n + 1)) hkm
              refine Wl.q (v := Value.bool true) (q_lss (r := true) rfl rfl (decide_eq_true hlt2)) ?_
              refine Wl.done ?_
              refine Wx.go ?_
              refine Wc.yes rfl ?_
              refine Wc.skip ?_
              refine Wx.go ?_
              refine Wc.seq ?_
              refine Wc.block ?_
              refine Wc.seq ?_
              refine Wc.drawsS [14] ((pt jr 79 [Value.pointer (some ⟨q, 0, none⟩), Value.string t, Value.int .i64 n, Value.bool false]) :: (isRef q d) :: (slp 86 2 b cap (flat (pieces s (first secs (n + 1))))) :: []) (by kernel_rfl) ?_
              refine Wr.pure (v := Value.pointer (some ⟨jr, 0, none⟩)) 0 rfl (by kernel_rfl) (.inr (fun _ h => st_take [0, 0, 0] h)) (.inl ⟨rfl, fun _ => q_move hE0_6⟩) ?_
              refine Wr.pure (v := Value.pointer (some ⟨jr, 0, none⟩)) 1 rfl (by kernel_rfl) (.inr (fun _ h => st_take [0, 0, 0] h)) (.inl ⟨rfl, fun _ => q_nil_ptr rfl⟩) ?_
              refine Wr.pure (v := Value.pointer (some ⟨jr, 0, none⟩)) 2 rfl (by kernel_rfl) (.inr (fun _ h => st_take [0, 0, 0] h)) (.inl ⟨rfl, fun _ => q_field (m := 0) fo_79_0 rfl rfl⟩) ?_
              refine Wr.take (v := Value.pointer (some ⟨q, 0, none⟩)) 3 rfl (by kernel_rfl) (fun _ h => st_take [0, 0, 0] h) (.inl ⟨rfl, q_load sc_52 rfl (.cel (i := 0) rfl rfl)⟩) ?_
              refine Wr.pure (v := Value.slice (some ⟨b, 0, none⟩) (nPieces s) cap) 4 rfl (by kernel_rfl) (.inr (fun _ h => st_take [0, 0, 0] h)) (.inl ⟨rfl, fun _ => q_move hE7_6⟩) ?_
              refine Wr.pure (v := Value.int .i64 ((k : Nat) : Int)) 5 rfl (by kernel_rfl) (.inr (fun _ h => st_take [0, 0, 0] h)) (.inl ⟨rfl, fun _ => q_move hE10_6⟩) ?_
              refine Wr.pure (v := Value.pointer (some ⟨b, k * 2, none⟩)) 6 rfl (by kernel_rfl) (.inr (fun _ h => st_take [0, 0, 0] h)) (.inl ⟨rfl, fun _ => q_idx (m := k * 2) se_34 rfl rfl (by omega) (by omega) (by simp)⟩) ?_
              refine Wr.pure (v := Value.pointer (some ⟨b, k * 2, none⟩)) 7 rfl (by kernel_rfl) (.inr (fun _ h => st_take [0, 0, 0] h)) (.inl ⟨rfl, fun _ => q_field (m := k * 2) fo_86_0 rfl rfl⟩) ?_
              refine Wr.take (v := Value.int .i64 (((first secs (n + 1) + k) : Nat) : Int)) 8 rfl (by kernel_rfl) (fun _ h => st_take [0, 0, 0] h) (.inl ⟨rfl, q_load sc_3 rfl (.row (i := 2) rfl hg.1)⟩) ?_
              refine Wr.pure (v := Value.slice (some ⟨b, 0, none⟩) (nPieces s) cap) 9 rfl (by kernel_rfl) (.inr (fun _ h => st_take [0, 0, 0] h)) (.inl ⟨rfl, fun _ => q_move hE7_6⟩) ?_
              refine Wr.pure (v := Value.int .i64 ((k : Nat) : Int)) 10 rfl (by kernel_rfl) (.inr (fun _ h => st_take [0, 0, 0] h)) (.inl ⟨rfl, fun _ => q_move hE10_6⟩) ?_
              refine Wr.pure (v := Value.pointer (some ⟨b, k * 2, none⟩)) 11 rfl (by kernel_rfl) (.inr (fun _ h => st_take [0, 0, 0] h)) (.inl ⟨rfl, fun _ => q_idx (m := k * 2) se_34 rfl rfl (by omega) (by omega) (by simp)⟩) ?_
              refine Wr.pure (v := Value.pointer (some ⟨b, k * 2 + 1, none⟩)) 12 rfl (by kernel_rfl) (.inr (fun _ h => st_take [0, 0, 0] h)) (.inl ⟨rfl, fun _ => q_field (m := k * 2 + 1) fo_86_1 rfl rfl⟩) ?_
              refine Wr.take (v := Value.string (piece s k)) 13 rfl (by kernel_rfl) (fun _ h => st_take [0, 0, 0] h) (.inl ⟨rfl, q_load sc_9 rfl (.row (i := 2) rfl hg.2)⟩) ?_
              refine Wr.imp (L' := (isRef q d) :: (pt jr 79 [Value.pointer (some ⟨q, 0, none⟩), Value.string t, Value.int .i64 n, Value.bool false]) :: (slp 86 2 b cap (flat (pieces s (first secs (n + 1))))) :: F) (fun _ h => st_pull [1] h) ?_
              refine Wr.e 14 (by kernel_rfl) rfl (e_call (F := (pt jr 79 [Value.pointer (some ⟨q, 0, none⟩), Value.string t, Value.int .i64 n, Value.bool false]) :: (slp 86 2 b cap (flat (pieces s (first secs (n + 1))))) :: F) (args := [Value.pointer (some ⟨q, 0, none⟩), Value.int .i64 (((first secs (n + 1) + k) : Nat) : Int), Value.string (piece s k)]) Try.call51 rfl (rwrite_c W0 q d (((first secs (n + 1) + k) : Nat) : Int) (piece s k) hk.wf (by have := hk.since; have : (⟨secs, since, false, count, cut⟩ : DS).since.length = since.length := rfl; omega) (by have := hk.count; have : (⟨secs, since, false, count, cut⟩ : DS).count = count := rfl; omega))) (.inl (by kernel_rfl)) (fun _ _ => ?_)
              refine Wr.imp (L' := (isRef q ((d.write (((first secs (n + 1) + k) : Nat) : Int) (piece s k)).2)) :: (pt jr 79 [Value.pointer (some ⟨q, 0, none⟩), Value.string t, Value.int .i64 n, Value.bool false]) :: (slp 86 2 b cap (flat (pieces s (first secs (n + 1))))) :: F) (fun _ h => h) ?_
              refine Wr.rebaseS [] ((isRef q ((d.write (((first secs (n + 1) + k) : Nat) : Int) (piece s k)).2)) :: (pt jr 79 [Value.pointer (some ⟨q, 0, none⟩), Value.string t, Value.int .i64 n, Value.bool false]) :: (slp 86 2 b cap (flat (pieces s (first secs (n + 1))))) :: []) (by kernel_rfl) ?_
              by_cases hw0 : (d.write (((first secs (n + 1) + k) : Nat) : Int) (piece s k)).1 = 0
              ·
                refine Wr.pure (v := Value.bool false) 15 rfl (by kernel_rfl) (.inr (fun _ h => st_take [0, 0, 0] h)) (.inl ⟨rfl, fun _ => q_neq (r := true) rfl rfl (decide_eq_true hw0)⟩) ?_
                refine Wr.done (by kernel_rfl) ?_
                refine Wx.go ?_
                refine Wc.no rfl ?_
                refine Wc.skip ?_
                refine Wx.blockEnd ?_
                refine Wx.go ?_
                refine Wc.region ?_
                refine Wl.q (v := Value.int .i64 ((k : Nat) : Int)) (q_move hE10_6) ?_
                refine Wl.q (v := Value.int .i64 ((k + 1 : Nat) : Int)) (q_add (c := ((k + 1 : Nat) : Int)) rfl rfl (by rw [wrap_i64] <;> omega)) ?_
                refine Wl.q (v := Value.int .i64 ((k + 1 : Nat) : Int)) (q_assign rfl) ?_
                refine Wl.done ?_
                refine Wx.at (k + 1, (d.write ((first secs (n + 1) + k : Nat) : Int) (piece s k)).2) ⟨(by simp only; omega), rfl, hE0_6, hE1_6, hE5_6, hE7_6, (hk.write _ _), (by omega), (by rw [hw3, wall_at d hkm, if_pos hw0])⟩ (fun w hs => (st_pull [1, 0, 0] (hs)))
              ·
                refine Wr.pure (v := Value.bool true) 15 rfl (by kernel_rfl) (.inr (fun _ h => st_take [0, 0, 0] h)) (.inl ⟨rfl, fun _ => q_neq (r := false) rfl rfl (decide_eq_false hw0)⟩) ?_
                refine Wr.done (by kernel_rfl) ?_
                refine Wx.go ?_
                refine Wc.yes rfl ?_
                refine Wc.seq ?_
                refine Wc.region ?_
                refine Wl.q (v := Value.pointer (some ⟨jr, 0, none⟩)) (q_move hE0_6) ?_
                refine Wl.q (v := Value.pointer (some ⟨jr, 0, none⟩)) (q_nil_ptr rfl) ?_
                refine Wl.q (v := Value.pointer (some ⟨jr, 3, none⟩)) (q_field (m := 3) fo_79_3 rfl rfl) ?_
                refine Wl.e (e_store (i := 1) (v := Value.bool true) sz_4 rfl rfl (fun _ _ => rfl) rfl (by simp)) (fun _ _ => ?_)
                refine Wl.imp (L' := (isRef q ((d.write (((first secs (n + 1) + k) : Nat) : Int) (piece s k)).2)) :: (pt jr 79 [Value.pointer (some ⟨q, 0, none⟩), Value.string t, Value.int .i64 n, Value.bool true]) :: (slp 86 2 b cap (flat (pieces s (first secs (n + 1))))) :: F) (fun _ h => h) ?_
                refine Wl.done ?_
                refine Wx.go ?_
                refine Wc.seq ?_
                refine Wc.region ?_
                refine Wl.q (v := Value.int .i64 6) (q_assign rfl) ?_
                refine Wl.done ?_
                refine Wx.go ?_
                refine Wc.ret ?_
                refine Wx.blockRet ?_
                refine Wx.thenRet ?_
                refine Wx.thenRet ?_
                refine Wx.blockRet ?_
                refine Wx.thenRet ?_
                refine Wx.fin1 rfl (.inl rfl) (fun w hs => ?_)
                have eW : (wall (⟨secs, since, false, count, cut⟩ : DS) (pieces s (first secs (n + 1)))) = (6, (d.write ((first secs (n + 1) + k : Nat) : Int) (piece s k)).2) := (by rw [hw3, wall_at d hkm, if_neg hw0]; exact is_six (write_06 (by have := hk.len; have h5 : (⟨secs, since, false, count, cut⟩ : DS).secs = secs := rfl; rw [h5] at this; have := pieces_ok (S := secs) (q := n + 1) (s := s) (by omega) h4 _ (List.mem_of_getElem? (pieces_get hkm)); have h6 : first secs (n + 1) + k < secs.length := this.1; omega) (piece_size s k)) hw0)
                have e : ((JS.mk t n false).put (⟨secs, since, false, count, cut⟩ : DS) s) = (6, (d.write ((first secs (n + 1) + k : Nat) : Int) (piece s k)).2, ⟨t, n, true⟩) := jput_wall rfl (by show ¬ half secs * 64 < s.size; omega) eW (by decide)
                exact ⟨(), trivial, by rw [e]; rfl, by rw [e]; exact (st_pull [1, 0] (st_drop (st_pull [2] hs)))⟩
            ·
              have hend2 : k = nPieces s := by omega
              have hW : (wall (⟨secs, since, false, count, cut⟩ : DS) (pieces s (first secs (n + 1)))) = (0, d) := by rw [hw3, hend2]; exact wall_done d
              have hkS := hk.sync
              have hkH := hkS.write (n % 2) (headB (n + 1) ((s.size : Nat) : Int))
              refine Wl.q (v := Value.bool false) (q_lss (r := false) rfl rfl (decide_eq_false hlt2)) ?_
              refine Wl.done ?_
              refine Wx.go ?_
              refine Wc.no rfl ?_
              refine Wc.exit ?_
              refine Wx.thenExit ?_
              refine Wx.thenExit ?_
              refine Wx.out ?_
              refine Wx.go ?_
              refine Wc.seq ?_
              refine Wc.seq ?_
              refine Wc.drawsS [4, 20, 28] ((pt jr 79 [Value.pointer (some ⟨q, 0, none⟩), Value.string t, Value.int .i64 n, Value.bool false]) :: (isRef q d) :: (slp 86 2 b cap (flat (pieces s (first secs (n + 1))))) :: []) (by kernel_rfl) ?_
              refine Wr.pure (v := Value.pointer (some ⟨jr, 0, none⟩)) 0 rfl (by kernel_rfl) (.inr (fun _ h => st_take [0, 0, 0] h)) (.inl ⟨rfl, fun _ => q_move hE0_6⟩) ?_
              refine Wr.pure (v := Value.pointer (some ⟨jr, 0, none⟩)) 1 rfl (by kernel_rfl) (.inr (fun _ h => st_take [0, 0, 0] h)) (.inl ⟨rfl, fun _ => q_nil_ptr rfl⟩) ?_
              refine Wr.pure (v := Value.pointer (some ⟨jr, 0, none⟩)) 2 rfl (by kernel_rfl) (.inr (fun _ h => st_take [0, 0, 0] h)) (.inl ⟨rfl, fun _ => q_field (m := 0) fo_79_0 rfl rfl⟩) ?_
              refine Wr.take (v := Value.pointer (some ⟨q, 0, none⟩)) 3 rfl (by kernel_rfl) (fun _ h => st_take [0, 0, 0] h) (.inl ⟨rfl, q_load sc_52 rfl (.cel (i := 0) rfl rfl)⟩) ?_
              refine Wr.imp (L' := (isRef q d) :: (pt jr 79 [Value.pointer (some ⟨q, 0, none⟩), Value.string t, Value.int .i64 n, Value.bool false]) :: (slp 86 2 b cap (flat (pieces s (first secs (n + 1))))) :: F) (fun _ h => st_pull [1] h) ?_
              refine Wr.e 4 (by kernel_rfl) rfl (e_call (F := (pt jr 79 [Value.pointer (some ⟨q, 0, none⟩), Value.string t, Value.int .i64 n, Value.bool false]) :: (slp 86 2 b cap (flat (pieces s (first secs (n + 1))))) :: F) (args := [Value.pointer (some ⟨q, 0, none⟩)]) Try.call54 rfl (rsync_c W0 q d hk.wf (by have := hk.since; have : (⟨secs, since, false, count, cut⟩ : DS).since.length = since.length := rfl; omega) (by have := hk.count; have : (⟨secs, since, false, count, cut⟩ : DS).count = count := rfl; omega))) (.inl (by kernel_rfl)) (fun _ _ => ?_)
              refine Wr.imp (L' := (isRef q ((d.sync).2)) :: (pt jr 79 [Value.pointer (some ⟨q, 0, none⟩), Value.string t, Value.int .i64 n, Value.bool false]) :: (slp 86 2 b cap (flat (pieces s (first secs (n + 1))))) :: F) (fun _ h => h) ?_
              by_cases hs0 : (d.sync).1 = 0
              ·
                refine Wr.pure (v := Value.bool false) 5 rfl (by kernel_rfl) (.inl (by kernel_rfl)) (.inl ⟨rfl, fun _ => q_neq (r := true) rfl rfl (decide_eq_true hs0)⟩) ?_
                refine Wr.rebaseS [20, 28] ((isRef q ((d.sync).2)) :: (pt jr 79 [Value.pointer (some ⟨q, 0, none⟩), Value.string t, Value.int .i64 n, Value.bool false]) :: (slp 86 2 b cap (flat (pieces s (first secs (n + 1))))) :: []) (by kernel_rfl) ?_
                refine Wr.pure (v := Value.bool false) 6 rfl (by kernel_rfl) (.inr (fun _ h => st_take [0, 0, 0] h)) (.inl ⟨rfl, fun _ => q_move rfl⟩) ?_
                refine Wr.pure (v := Value.pointer (some ⟨jr, 0, none⟩)) 7 rfl (by kernel_rfl) (.inr (fun _ h => st_take [0, 0, 0] h)) (.inl ⟨rfl, fun _ => q_move hE0_6⟩) ?_
                refine Wr.pure (v := Value.pointer (some ⟨jr, 0, none⟩)) 8 rfl (by kernel_rfl) (.inr (fun _ h => st_take [0, 0, 0] h)) (.inl ⟨rfl, fun _ => q_nil_ptr rfl⟩) ?_
                refine Wr.pure (v := Value.pointer (some ⟨jr, 0, none⟩)) 9 rfl (by kernel_rfl) (.inr (fun _ h => st_take [0, 0, 0] h)) (.inl ⟨rfl, fun _ => q_field (m := 0) fo_79_0 rfl rfl⟩) ?_
                refine Wr.take (v := Value.pointer (some ⟨q, 0, none⟩)) 10 rfl (by kernel_rfl) (fun _ h => st_take [0, 0, 0] h) (.inl ⟨rfl, q_load sc_52 rfl (.cel (i := 1) rfl rfl)⟩) ?_
                refine Wr.pure (v := Value.int .i64 (n % 2)) 11 rfl (by kernel_rfl) (.inr (fun _ h => st_take [0, 0, 0] h)) (.inl ⟨rfl, fun _ => q_move hE5_6⟩) ?_
                refine Wr.pure (v := Value.pointer (some ⟨jr, 0, none⟩)) 12 rfl (by kernel_rfl) (.inr (fun _ h => st_take [0, 0, 0] h)) (.inl ⟨rfl, fun _ => q_move hE0_6⟩) ?_
                refine Wr.pure (v := Value.pointer (some ⟨jr, 0, none⟩)) 13 rfl (by kernel_rfl) (.inr (fun _ h => st_take [0, 0, 0] h)) (.inl ⟨rfl, fun _ => q_nil_ptr rfl⟩) ?_
                refine Wr.pure (v := Value.pointer (some ⟨jr, 2, none⟩)) 14 rfl (by kernel_rfl) (.inr (fun _ h => st_take [0, 0, 0] h)) (.inl ⟨rfl, fun _ => q_field (m := 2) fo_79_2 rfl rfl⟩) ?_
                refine Wr.take (v := Value.int .i64 n) 15 rfl (by kernel_rfl) (fun _ h => st_take [0, 0, 0] h) (.inl ⟨rfl, q_load sc_3 rfl (.cel (i := 1) rfl rfl)⟩) ?_
                refine Wr.pure (v := Value.int .i64 (n + 1)) 16 rfl (by kernel_rfl) (.inr (fun _ h => st_take [0, 0, 0] h)) (.inl ⟨rfl, fun _ => q_add (c := (n + 1)) rfl rfl (wrap_i64 (by omega) (by omega))⟩) ?_
                refine Wr.pure (v := Value.string s) 17 rfl (by kernel_rfl) (.inr (fun _ h => st_take [0, 0, 0] h)) (.inl ⟨rfl, fun _ => q_move hE1_6⟩) ?_
                refine Wr.take (v := Value.int .i64 ((s.size : Nat) : Int)) 18 rfl (by kernel_rfl) (fun _ h => st_take [0, 0, 0] h) (.inl ⟨rfl, q_len_str Try.underlying9 rfl⟩) ?_
                refine Wr.e 19 (by kernel_rfl) rfl (e_call (F := (isRef q ((d.sync).2)) :: (pt jr 79 [Value.pointer (some ⟨q, 0, none⟩), Value.string t, Value.int .i64 n, Value.bool false]) :: (slp 86 2 b cap (flat (pieces s (first secs (n + 1))))) :: F) (args := [Value.int .i64 (n + 1), Value.int .i64 ((s.size : Nat) : Int)]) Try.call52 rfl (rhead_c W0 (n + 1) ((s.size : Nat) : Int))) (.inr fun _ _ _ h => st_take [0, 0, 0] h) (fun _ _ => ?_)
                refine Wr.imp (L' := (isRef q ((d.sync).2)) :: (pt jr 79 [Value.pointer (some ⟨q, 0, none⟩), Value.string t, Value.int .i64 n, Value.bool false]) :: (slp 86 2 b cap (flat (pieces s (first secs (n + 1))))) :: F) (fun _ h => h) ?_
                refine Wr.e 20 (by kernel_rfl) rfl (e_call (F := (pt jr 79 [Value.pointer (some ⟨q, 0, none⟩), Value.string t, Value.int .i64 n, Value.bool false]) :: (slp 86 2 b cap (flat (pieces s (first secs (n + 1))))) :: F) (args := [Value.pointer (some ⟨q, 0, none⟩), Value.int .i64 (n % 2), Value.string (headB (n + 1) ((s.size : Nat) : Int))]) Try.call51 rfl (rwrite_c W0 q ((d.sync).2) (n % 2) (headB (n + 1) ((s.size : Nat) : Int)) hkS.wf (by have := hkS.since; have : (⟨secs, since, false, count, cut⟩ : DS).since.length = since.length := rfl; omega) (by have := hkS.count; have : (⟨secs, since, false, count, cut⟩ : DS).count = count := rfl; omega))) (.inl (by kernel_rfl)) (fun _ _ => ?_)
                refine Wr.imp (L' := (isRef q ((((d.sync).2).write (n % 2) (headB (n + 1) ((s.size : Nat) : Int))).2)) :: (pt jr 79 [Value.pointer (some ⟨q, 0, none⟩), Value.string t, Value.int .i64 n, Value.bool false]) :: (slp 86 2 b cap (flat (pieces s (first secs (n + 1))))) :: F) (fun _ h => h) ?_
                by_cases hh0 : (((d.sync).2).write (n % 2) (headB (n + 1) ((s.size : Nat) : Int))).1 = 0
                ·
                  refine Wr.pure (v := Value.bool false) 21 rfl (by kernel_rfl) (.inl (by kernel_rfl)) (.inl ⟨rfl, fun _ => q_neq (r := true) rfl rfl (decide_eq_true hh0)⟩) ?_
                  refine Wr.rebaseS [28] ((isRef q ((((d.sync).2).write (n % 2) (headB (n + 1) ((s.size : Nat) : Int))).2)) :: (pt jr 79 [Value.pointer (some ⟨q, 0, none⟩), Value.string t, Value.int .i64 n, Value.bool false]) :: (slp 86 2 b cap (flat (pieces s (first secs (n + 1))))) :: []) (by kernel_rfl) ?_
                  refine Wr.pure (v := Value.bool false) 22 rfl (by kernel_rfl) (.inr (fun _ h => st_take [0, 0, 0] h)) (.inl ⟨rfl, fun _ => q_pick (t := false) rfl rfl⟩) ?_
                  refine Wr.pure (v := Value.bool false) 23 rfl (by kernel_rfl) (.inr (fun _ h => st_take [0, 0, 0] h)) (.inl ⟨rfl, fun _ => q_move rfl⟩) ?_
                  refine Wr.pure (v := Value.pointer (some ⟨jr, 0, none⟩)) 24 rfl (by kernel_rfl) (.inr (fun _ h => st_take [0, 0, 0] h)) (.inl ⟨rfl, fun _ => q_move hE0_6⟩) ?_
                  refine Wr.pure (v := Value.pointer (some ⟨jr, 0, none⟩)) 25 rfl (by kernel_rfl) (.inr (fun _ h => st_take [0, 0, 0] h)) (.inl ⟨rfl, fun _ => q_nil_ptr rfl⟩) ?_
                  refine Wr.pure (v := Value.pointer (some ⟨jr, 0, none⟩)) 26 rfl (by kernel_rfl) (.inr (fun _ h => st_take [0, 0, 0] h)) (.inl ⟨rfl, fun _ => q_field (m := 0) fo_79_0 rfl rfl⟩) ?_
                  refine Wr.take (v := Value.pointer (some ⟨q, 0, none⟩)) 27 rfl (by kernel_rfl) (fun _ h => st_take [0, 0, 0] h) (.inl ⟨rfl, q_load sc_52 rfl (.cel (i := 1) rfl rfl)⟩) ?_
                  refine Wr.e 28 (by kernel_rfl) rfl (e_call (F := (pt jr 79 [Value.pointer (some ⟨q, 0, none⟩), Value.string t, Value.int .i64 n, Value.bool false]) :: (slp 86 2 b cap (flat (pieces s (first secs (n + 1))))) :: F) (args := [Value.pointer (some ⟨q, 0, none⟩)]) Try.call54 rfl (rsync_c W0 q ((((d.sync).2).write (n % 2) (headB (n + 1) ((s.size : Nat) : Int))).2) hkH.wf (by have := hkH.since; have : (⟨secs, since, false, count, cut⟩ : DS).since.length = since.length := rfl; omega) (by have := hkH.count; have : (⟨secs, since, false, count, cut⟩ : DS).count = count := rfl; omega))) (.inl (by kernel_rfl)) (fun _ _ => ?_)
                  refine Wr.imp (L' := (isRef q ((((((d.sync).2).write (n % 2) (headB (n + 1) ((s.size : Nat) : Int))).2).sync).2)) :: (pt jr 79 [Value.pointer (some ⟨q, 0, none⟩), Value.string t, Value.int .i64 n, Value.bool false]) :: (slp 86 2 b cap (flat (pieces s (first secs (n + 1))))) :: F) (fun _ h => h) ?_
                  refine Wr.rebaseS [] ((isRef q ((((((d.sync).2).write (n % 2) (headB (n + 1) ((s.size : Nat) : Int))).2).sync).2)) :: (pt jr 79 [Value.pointer (some ⟨q, 0, none⟩), Value.string t, Value.int .i64 n, Value.bool false]) :: (slp 86 2 b cap (flat (pieces s (first secs (n + 1))))) :: []) (by kernel_rfl) ?_
                  by_cases hy0 : (((((d.sync).2).write (n % 2) (headB (n + 1) ((s.size : Nat) : Int))).2).sync).1 = 0
                  ·
                    refine Wr.pure (v := Value.bool false) 29 rfl (by kernel_rfl) (.inr (fun _ h => st_take [0, 0, 0] h)) (.inl ⟨rfl, fun _ => q_neq (r := true) rfl rfl (decide_eq_true hy0)⟩) ?_
                    refine Wr.pure (v := Value.bool false) 30 rfl (by kernel_rfl) (.inr (fun _ h => st_take [0, 0, 0] h)) (.inl ⟨rfl, fun _ => q_pick (t := false) rfl rfl⟩) ?_
                    refine Wr.done (by kernel_rfl) ?_
                    refine Wx.go ?_
                    refine Wc.no rfl ?_
                    refine Wc.skip ?_
                    refine Wx.go ?_
                    refine Wc.seq ?_
                    refine Wc.region ?_
                    refine Wl.q (v := Value.pointer (some ⟨jr, 0, none⟩)) (q_move hE0_6) ?_
                    refine Wl.q (v := Value.string s) (q_move hE1_6) ?_
                    refine Wl.q (v := Value.pointer (some ⟨jr, 0, none⟩)) (q_nil_ptr rfl) ?_
                    refine Wl.q (v := Value.pointer (some ⟨jr, 1, none⟩)) (q_field (m := 1) fo_79_1 rfl rfl) ?_
                    refine Wl.e (e_store (i := 1) (v := Value.string s) sz_9 rfl rfl (fun _ _ => rfl) rfl (by simp)) (fun _ _ => ?_)
                    refine Wl.imp (L' := (isRef q ((((((d.sync).2).write (n % 2) (headB (n + 1) ((s.size : Nat) : Int))).2).sync).2)) :: (pt jr 79 [Value.pointer (some ⟨q, 0, none⟩), Value.string s, Value.int .i64 n, Value.bool false]) :: (slp 86 2 b cap (flat (pieces s (first secs (n + 1))))) :: F) (fun _ h => h) ?_
                    refine Wl.done ?_
                    refine Wx.go ?_
                    refine Wc.seq ?_
                    refine Wc.region ?_
                    refine Wl.q (v := Value.pointer (some ⟨jr, 0, none⟩)) (q_move hE0_6) ?_
                    refine Wl.q (v := Value.pointer (some ⟨jr, 0, none⟩)) (q_nil_ptr rfl) ?_
                    refine Wl.q (v := Value.pointer (some ⟨jr, 2, none⟩)) (q_field (m := 2) fo_79_2 rfl rfl) ?_
                    refine Wl.q (v := Value.int .i64 n) (q_load sc_3 rfl (.cel (i := 1) rfl rfl)) ?_
                    refine Wl.q (v := Value.int .i64 (n + 1)) (q_add (c := (n + 1)) rfl rfl (wrap_i64 (by omega) (by omega))) ?_
                    refine Wl.q (v := Value.pointer (some ⟨jr, 0, none⟩)) (q_nil_ptr rfl) ?_
                    refine Wl.q (v := Value.pointer (some ⟨jr, 2, none⟩)) (q_field (m := 2) fo_79_2 rfl rfl) ?_
                    refine Wl.e (e_store (i := 1) (v := Value.int .i64 (n + 1)) sz_3 rfl rfl (fun _ _ => rfl) rfl (by simp)) (fun _ _ => ?_)
                    refine Wl.imp (L' := (isRef q ((((((d.sync).2).write (n % 2) (headB (n + 1) ((s.size : Nat) : Int))).2).sync).2)) :: (pt jr 79 [Value.pointer (some ⟨q, 0, none⟩), Value.string s, Value.int .i64 (n + 1), Value.bool false]) :: (slp 86 2 b cap (flat (pieces s (first secs (n + 1))))) :: F) (fun _ h => h) ?_
                    refine Wl.done ?_
                    refine Wx.go ?_
                    refine Wc.seq ?_
                    refine Wc.region ?_
                    refine Wl.q (v := Value.int .i64 0) (q_assign rfl) ?_
                    refine Wl.done ?_
                    refine Wx.go ?_
                    refine Wc.ret ?_
                    refine Wx.fin1 rfl (.inl rfl) (fun w hs => ?_)
                    have e : ((JS.mk t n false).put (⟨secs, since, false, count, cut⟩ : DS) s) = (0, (d.sync.2.write (n % 2) (headB (n + 1) ((s.size : Nat) : Int))).2.sync.2, ⟨s, n + 1, false⟩) := jput_ok rfl (by show ¬ half secs * 64 < s.size; omega) hW (is_ok hs0) (is_ok hh0) (is_ok hy0)
                    exact ⟨(), trivial, by rw [e]; rfl, by rw [e]; exact (st_pull [1, 0] (st_drop (st_pull [2] hs)))⟩
                  ·
                    refine Wr.pure (v := Value.bool true) 29 rfl (by kernel_rfl) (.inr (fun _ h => st_take [0, 0, 0] h)) (.inl ⟨rfl, fun _ => q_neq (r := false) rfl rfl (decide_eq_false hy0)⟩) ?_
                    refine Wr.pure (v := Value.bool true) 30 rfl (by kernel_rfl) (.inr (fun _ h => st_take [0, 0, 0] h)) (.inl ⟨rfl, fun _ => q_pick (t := false) rfl rfl⟩) ?_
                    refine Wr.done (by kernel_rfl) ?_
                    refine Wx.go ?_
                    refine Wc.yes rfl ?_
                    refine Wc.seq ?_
                    refine Wc.region ?_
                    refine Wl.q (v := Value.pointer (some ⟨jr, 0, none⟩)) (q_move hE0_6) ?_
                    refine Wl.q (v := Value.pointer (some ⟨jr, 0, none⟩)) (q_nil_ptr rfl) ?_
                    refine Wl.q (v := Value.pointer (some ⟨jr, 3, none⟩)) (q_field (m := 3) fo_79_3 rfl rfl) ?_
                    refine Wl.e (e_store (i := 1) (v := Value.bool true) sz_4 rfl rfl (fun _ _ => rfl) rfl (by simp)) (fun _ _ => ?_)
                    refine Wl.imp (L' := (isRef q ((((((d.sync).2).write (n % 2) (headB (n + 1) ((s.size : Nat) : Int))).2).sync).2)) :: (pt jr 79 [Value.pointer (some ⟨q, 0, none⟩), Value.string t, Value.int .i64 n, Value.bool true]) :: (slp 86 2 b cap (flat (pieces s (first secs (n + 1))))) :: F) (fun _ h => h) ?_
                    refine Wl.done ?_
                    refine Wx.go ?_
                    refine Wc.seq ?_
                    refine Wc.region ?_
                    refine Wl.q (v := Value.int .i64 6) (q_assign rfl) ?_
                    refine Wl.done ?_
                    refine Wx.go ?_
                    refine Wc.ret ?_
                    refine Wx.thenRet ?_
                    refine Wx.fin1 rfl (.inl rfl) (fun w hs => ?_)
                    have e : ((JS.mk t n false).put (⟨secs, since, false, count, cut⟩ : DS) s) = (6, (d.sync.2.write (n % 2) (headB (n + 1) ((s.size : Nat) : Int))).2.sync.2, ⟨t, n, true⟩) := jput_last rfl (by show ¬ half secs * 64 < s.size; omega) hW (is_ok hs0) (is_ok hh0) (is_six (sync_06 _) hy0) (by decide)
                    exact ⟨(), trivial, by rw [e]; rfl, by rw [e]; exact (st_pull [1, 0] (st_drop (st_pull [2] hs)))⟩
                ·
                  refine Wr.pure (v := Value.bool true) 21 rfl (by kernel_rfl) (.inl (by kernel_rfl)) (.inl ⟨rfl, fun _ => q_neq (r := false) rfl rfl (decide_eq_false hh0)⟩) ?_
                  refine Wr.rebaseS [] ((isRef q ((((d.sync).2).write (n % 2) (headB (n + 1) ((s.size : Nat) : Int))).2)) :: (pt jr 79 [Value.pointer (some ⟨q, 0, none⟩), Value.string t, Value.int .i64 n, Value.bool false]) :: (slp 86 2 b cap (flat (pieces s (first secs (n + 1))))) :: []) (by kernel_rfl) ?_
                  refine Wr.pure (v := Value.bool true) 22 rfl (by kernel_rfl) (.inr (fun _ h => st_take [0, 0, 0] h)) (.inl ⟨rfl, fun _ => q_pick (t := false) rfl rfl⟩) ?_
                  refine Wr.pure (v := Value.bool true) 23 rfl (by kernel_rfl) (.inr (fun _ h => st_take [0, 0, 0] h)) (.inl ⟨rfl, fun _ => q_move rfl⟩) ?_
                  refine Wr.pure (v := undef) 24 rfl (by kernel_rfl) (.inr (fun _ h => st_take [0, 0, 0] h)) (.inr ⟨rfl, rfl⟩) ?_
                  refine Wr.pure (v := undef) 25 rfl (by kernel_rfl) (.inr (fun _ h => st_take [0, 0, 0] h)) (.inr ⟨rfl, rfl⟩) ?_
                  refine Wr.pure (v := undef) 26 rfl (by kernel_rfl) (.inr (fun _ h => st_take [0, 0, 0] h)) (.inr ⟨rfl, rfl⟩) ?_
                  refine Wr.pure (v := undef) 27 rfl (by kernel_rfl) (.inr (fun _ h => st_take [0, 0, 0] h)) (.inr ⟨rfl, rfl⟩) ?_
                  refine Wr.pure (v := undef) 28 rfl (by kernel_rfl) (.inr (fun _ h => st_take [0, 0, 0] h)) (.inr ⟨rfl, rfl⟩) ?_
                  refine Wr.pure (v := undef) 29 rfl (by kernel_rfl) (.inr (fun _ h => st_take [0, 0, 0] h)) (.inr ⟨rfl, rfl⟩) ?_
                  refine Wr.pure (v := Value.bool true) 30 rfl (by kernel_rfl) (.inr (fun _ h => st_take [0, 0, 0] h)) (.inl ⟨rfl, fun _ => q_pick (t := true) rfl rfl⟩) ?_
                  refine Wr.done (by kernel_rfl) ?_
                  refine Wx.go ?_
                  refine Wc.yes rfl ?_
                  refine Wc.seq ?_
                  refine Wc.region ?_
                  refine Wl.q (v := Value.pointer (some ⟨jr, 0, none⟩)) (q_move hE0_6) ?_
                  refine Wl.q (v := Value.pointer (some ⟨jr, 0, none⟩)) (q_nil_ptr rfl) ?_
                  refine Wl.q (v := Value.pointer (some ⟨jr, 3, none⟩)) (q_field (m := 3) fo_79_3 rfl rfl) ?_
                  refine Wl.e (e_store (i := 1) (v := Value.bool true) sz_4 rfl rfl (fun _ _ => rfl) rfl (by simp)) (fun _ _ => ?_)
                  refine Wl.imp (L' := (isRef q ((((d.sync).2).write (n % 2) (headB (n + 1) ((s.size : Nat) : Int))).2)) :: (pt jr 79 [Value.pointer (some ⟨q, 0, none⟩), Value.string t, Value.int .i64 n, Value.bool true]) :: (slp 86 2 b cap (flat (pieces s (first secs (n + 1))))) :: F) (fun _ h => h) ?_
                  refine Wl.done ?_
                  refine Wx.go ?_
                  refine Wc.seq ?_
                  refine Wc.region ?_
                  refine Wl.q (v := Value.int .i64 6) (q_assign rfl) ?_
                  refine Wl.done ?_
                  refine Wx.go ?_
                  refine Wc.ret ?_
                  refine Wx.thenRet ?_
                  refine Wx.fin1 rfl (.inl rfl) (fun w hs => ?_)
                  have e : ((JS.mk t n false).put (⟨secs, since, false, count, cut⟩ : DS) s) = (6, (d.sync.2.write (n % 2) (headB (n + 1) ((s.size : Nat) : Int))).2, ⟨t, n, true⟩) := jput_head rfl (by show ¬ half secs * 64 < s.size; omega) hW (is_ok hs0) (is_six (head_06 (by have := hkS.len; have h5 : (⟨secs, since, false, count, cut⟩ : DS).secs = secs := rfl; rw [h5] at this; omega) n) hh0) (by decide)
                  exact ⟨(), trivial, by rw [e]; rfl, by rw [e]; exact (st_pull [1, 0] (st_drop (st_pull [2] hs)))⟩
              ·
                refine Wr.pure (v := Value.bool true) 5 rfl (by kernel_rfl) (.inl (by kernel_rfl)) (.inl ⟨rfl, fun _ => q_neq (r := false) rfl rfl (decide_eq_false hs0)⟩) ?_
                refine Wr.rebaseS [] ((isRef q ((d.sync).2)) :: (pt jr 79 [Value.pointer (some ⟨q, 0, none⟩), Value.string t, Value.int .i64 n, Value.bool false]) :: (slp 86 2 b cap (flat (pieces s (first secs (n + 1))))) :: []) (by kernel_rfl) ?_
                refine Wr.pure (v := Value.bool true) 6 rfl (by kernel_rfl) (.inr (fun _ h => st_take [0, 0, 0] h)) (.inl ⟨rfl, fun _ => q_move rfl⟩) ?_
                refine Wr.pure (v := undef) 7 rfl (by kernel_rfl) (.inr (fun _ h => st_take [0, 0, 0] h)) (.inr ⟨rfl, rfl⟩) ?_
                refine Wr.pure (v := undef) 8 rfl (by kernel_rfl) (.inr (fun _ h => st_take [0, 0, 0] h)) (.inr ⟨rfl, rfl⟩) ?_
                refine Wr.pure (v := undef) 9 rfl (by kernel_rfl) (.inr (fun _ h => st_take [0, 0, 0] h)) (.inr ⟨rfl, rfl⟩) ?_
                refine Wr.pure (v := undef) 10 rfl (by kernel_rfl) (.inr (fun _ h => st_take [0, 0, 0] h)) (.inr ⟨rfl, rfl⟩) ?_
                refine Wr.pure (v := undef) 11 rfl (by kernel_rfl) (.inr (fun _ h => st_take [0, 0, 0] h)) (.inr ⟨rfl, rfl⟩) ?_
                refine Wr.pure (v := undef) 12 rfl (by kernel_rfl) (.inr (fun _ h => st_take [0, 0, 0] h)) (.inr ⟨rfl, rfl⟩) ?_
                refine Wr.pure (v := undef) 13 rfl (by kernel_rfl) (.inr (fun _ h => st_take [0, 0, 0] h)) (.inr ⟨rfl, rfl⟩) ?_
                refine Wr.pure (v := undef) 14 rfl (by kernel_rfl) (.inr (fun _ h => st_take [0, 0, 0] h)) (.inr ⟨rfl, rfl⟩) ?_
                refine Wr.pure (v := undef) 15 rfl (by kernel_rfl) (.inr (fun _ h => st_take [0, 0, 0] h)) (.inr ⟨rfl, rfl⟩) ?_
                refine Wr.pure (v := undef) 16 rfl (by kernel_rfl) (.inr (fun _ h => st_take [0, 0, 0] h)) (.inr ⟨rfl, rfl⟩) ?_
                refine Wr.pure (v := undef) 17 rfl (by kernel_rfl) (.inr (fun _ h => st_take [0, 0, 0] h)) (.inr ⟨rfl, rfl⟩) ?_
                refine Wr.pure (v := undef) 18 rfl (by kernel_rfl) (.inr (fun _ h => st_take [0, 0, 0] h)) (.inr ⟨rfl, rfl⟩) ?_
                refine Wr.pure (v := undef) 19 rfl (by kernel_rfl) (.inr (fun _ h => st_take [0, 0, 0] h)) (.inr ⟨rfl, rfl⟩) ?_
                refine Wr.pure (v := undef) 20 rfl (by kernel_rfl) (.inr (fun _ h => st_take [0, 0, 0] h)) (.inr ⟨rfl, rfl⟩) ?_
                refine Wr.pure (v := undef) 21 rfl (by kernel_rfl) (.inr (fun _ h => st_take [0, 0, 0] h)) (.inr ⟨rfl, rfl⟩) ?_
                refine Wr.pure (v := Value.bool true) 22 rfl (by kernel_rfl) (.inr (fun _ h => st_take [0, 0, 0] h)) (.inl ⟨rfl, fun _ => q_pick (t := true) rfl rfl⟩) ?_
                refine Wr.pure (v := Value.bool true) 23 rfl (by kernel_rfl) (.inr (fun _ h => st_take [0, 0, 0] h)) (.inl ⟨rfl, fun _ => q_move rfl⟩) ?_
                refine Wr.pure (v := undef) 24 rfl (by kernel_rfl) (.inr (fun _ h => st_take [0, 0, 0] h)) (.inr ⟨rfl, rfl⟩) ?_
                refine Wr.pure (v := undef) 25 rfl (by kernel_rfl) (.inr (fun _ h => st_take [0, 0, 0] h)) (.inr ⟨rfl, rfl⟩) ?_
                refine Wr.pure (v := undef) 26 rfl (by kernel_rfl) (.inr (fun _ h => st_take [0, 0, 0] h)) (.inr ⟨rfl, rfl⟩) ?_
                refine Wr.pure (v := undef) 27 rfl (by kernel_rfl) (.inr (fun _ h => st_take [0, 0, 0] h)) (.inr ⟨rfl, rfl⟩) ?_
                refine Wr.pure (v := undef) 28 rfl (by kernel_rfl) (.inr (fun _ h => st_take [0, 0, 0] h)) (.inr ⟨rfl, rfl⟩) ?_
                refine Wr.pure (v := undef) 29 rfl (by kernel_rfl) (.inr (fun _ h => st_take [0, 0, 0] h)) (.inr ⟨rfl, rfl⟩) ?_
                refine Wr.pure (v := Value.bool true) 30 rfl (by kernel_rfl) (.inr (fun _ h => st_take [0, 0, 0] h)) (.inl ⟨rfl, fun _ => q_pick (t := true) rfl rfl⟩) ?_
                refine Wr.done (by kernel_rfl) ?_
                refine Wx.go ?_
                refine Wc.yes rfl ?_
                refine Wc.seq ?_
                refine Wc.region ?_
                refine Wl.q (v := Value.pointer (some ⟨jr, 0, none⟩)) (q_move hE0_6) ?_
                refine Wl.q (v := Value.pointer (some ⟨jr, 0, none⟩)) (q_nil_ptr rfl) ?_
                refine Wl.q (v := Value.pointer (some ⟨jr, 3, none⟩)) (q_field (m := 3) fo_79_3 rfl rfl) ?_
                refine Wl.e (e_store (i := 1) (v := Value.bool true) sz_4 rfl rfl (fun _ _ => rfl) rfl (by simp)) (fun _ _ => ?_)
                refine Wl.imp (L' := (isRef q ((d.sync).2)) :: (pt jr 79 [Value.pointer (some ⟨q, 0, none⟩), Value.string t, Value.int .i64 n, Value.bool true]) :: (slp 86 2 b cap (flat (pieces s (first secs (n + 1))))) :: F) (fun _ h => h) ?_
                refine Wl.done ?_
                refine Wx.go ?_
                refine Wc.seq ?_
                refine Wc.region ?_
                refine Wl.q (v := Value.int .i64 6) (q_assign rfl) ?_
                refine Wl.done ?_
                refine Wx.go ?_
                refine Wc.ret ?_
                refine Wx.thenRet ?_
                refine Wx.fin1 rfl (.inl rfl) (fun w hs => ?_)
                have e : ((JS.mk t n false).put (⟨secs, since, false, count, cut⟩ : DS) s) = (6, d.sync.2, ⟨t, n, true⟩) := jput_sync rfl (by show ¬ half secs * 64 < s.size; omega) hW (is_six (sync_06 d) hs0) (by decide)
                exact ⟨(), trivial, by rw [e]; rfl, by rw [e]; exact (st_pull [1, 0] (st_drop (st_pull [2] hs)))⟩

end Go.Proofs.Ytnhejdnigblnoaa
