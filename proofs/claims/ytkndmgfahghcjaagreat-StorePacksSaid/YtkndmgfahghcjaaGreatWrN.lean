import Derived.Test.YtkndmgfahghcjaaGreatWrE
import Derived.Test.YtkndmgfahghcjaaGreatWrL
import Derived.Test.YtkndmgfahghcjaaGreatSLD
/- Contracts of the calls. -/
namespace Go.Proofs.YtkndmgfahghcjaaGreat
open Go Go.SL Go.Wr Go.RowKit
open Go.Dk (beyondF beyondB beyond_step beyond_le beyond_one beyond_two)
set_option linter.unusedVariables false
set_option maxRecDepth 8000







theorem wlist_neg (W0 : World) (q : Nat) (l : List UInt8) (n : Int) (sv : Value) (hn : n < 0) :
  Con Tryz.prog W0 33 #[Value.pointer (some ⟨q, 0, none⟩), Value.int .i64 n] [pt q 96 [Value.bool true, sv], sl 5 1 sv l.length (l.map u8v)] (X := Unit) (fun _ => True) (fun _ => .int .i64 1) (fun _ => [pt q 96 [Value.bool true, sv], sl 5 1 sv l.length (l.map u8v)]) := by
 refine Con.of (args := [Value.pointer (some ⟨q, 0, none⟩), Value.int .i64 n]) Tryz.func33 rfl Tryz.ntmps33 rfl (fun F => ?_)
 show Wc _ W0 _ _ _ _ _ ((pt q 96 [Value.bool true, sv]) :: (sl 5 1 sv l.length (l.map u8v)) :: F)
 refine Wc.seq (Wc.region (Wl.q (v := Value.int .i64 0) (q_assign rfl) (Wl.done (Wx.go (Wc.seq (Wc.block (Wc.seq (Wc.region (Wl.q (v := Value.pointer (some ⟨q, 0, none⟩)) (q_move rfl) (Wl.e (e_call (F := (sl 5 1 sv l.length (l.map u8v)) :: F) (args := [Value.pointer (some ⟨q, 0, none⟩)]) Tryz.call60 rfl (wthere_yes W0 q (sv))) (fun _ _ => Wl.imp (L' := (pt q 96 [Value.bool true, sv]) :: (sl 5 1 sv l.length (l.map u8v)) :: F) (fun _ h => h) ?_)))))))))))
 refine Wl.q (v := Value.bool false) (q_not rfl rfl) (Wl.q (v := Value.bool false) (q_assign rfl) (Wl.done (Wx.go (Wc.no rfl (Wc.seq (Wc.region (Wl.q (v := Value.int .i64 n) (q_move rfl) (Wl.q (v := Value.bool true) (q_lss (r := true) rfl rfl (decide_eq_true (hn))) (Wl.q (v := Value.bool true) (q_assign rfl) (Wl.done (Wx.go ?_)))))))))))
 refine Wc.yes rfl (Wc.seq (Wc.region (Wl.q (v := Value.int .i64 1) (q_assign rfl) (Wl.done (Wx.go (Wc.ret (Wx.blockRet (Wx.thenRet (Wx.fin1 rfl (.inl rfl) (fun w hs => ?_))))))))))
 exact ⟨(), trivial, rfl, hs⟩

theorem wlist_big (W0 : World) (q : Nat) (l : List UInt8) (n : Int) (sv : Value) (h0 : 0 ≤ n) (hn : 65536 < n) :
  Con Tryz.prog W0 33 #[Value.pointer (some ⟨q, 0, none⟩), Value.int .i64 n] [pt q 96 [Value.bool true, sv], sl 5 1 sv l.length (l.map u8v)] (X := Unit) (fun _ => True) (fun _ => .int .i64 3) (fun _ => [pt q 96 [Value.bool true, sv], sl 5 1 sv l.length (l.map u8v)]) := by
 refine Con.of (args := [Value.pointer (some ⟨q, 0, none⟩), Value.int .i64 n]) Tryz.func33 rfl Tryz.ntmps33 rfl (fun F => ?_)
 show Wc _ W0 _ _ _ _ _ ((pt q 96 [Value.bool true, sv]) :: (sl 5 1 sv l.length (l.map u8v)) :: F)
 refine Wc.seq (Wc.region (Wl.q (v := Value.int .i64 0) (q_assign rfl) (Wl.done (Wx.go (Wc.seq (Wc.block (Wc.seq (Wc.region (Wl.q (v := Value.pointer (some ⟨q, 0, none⟩)) (q_move rfl) (Wl.e (e_call (F := (sl 5 1 sv l.length (l.map u8v)) :: F) (args := [Value.pointer (some ⟨q, 0, none⟩)]) Tryz.call60 rfl (wthere_yes W0 q (sv))) (fun _ _ => Wl.imp (L' := (pt q 96 [Value.bool true, sv]) :: (sl 5 1 sv l.length (l.map u8v)) :: F) (fun _ h => h) ?_)))))))))))
 refine Wl.q (v := Value.bool false) (q_not rfl rfl) (Wl.q (v := Value.bool false) (q_assign rfl) (Wl.done (Wx.go (Wc.no rfl (Wc.seq (Wc.region (Wl.q (v := Value.int .i64 n) (q_move rfl) (Wl.q (v := Value.bool false) (q_lss (r := false) rfl rfl (decide_eq_false (by omega))) (Wl.q (v := Value.bool false) (q_assign rfl) (Wl.done (Wx.go ?_)))))))))))
 refine Wc.no rfl (Wc.seq (Wc.region (Wl.q (v := Value.int .i64 n) (q_move rfl) (Wl.q (v := Value.bool true) (q_gtr (r := true) rfl rfl (decide_eq_true (hn))) (Wl.q (v := Value.bool true) (q_assign rfl) (Wl.done (Wx.go (Wc.yes rfl (Wc.seq (Wc.region (Wl.q (v := Value.int .i64 3) (q_assign rfl) ?_)))))))))))
 refine Wl.done (Wx.go (Wc.ret (Wx.blockRet (Wx.thenRet (Wx.fin1 rfl (.inl rfl) (fun w hs => ?_))))))
 exact ⟨(), trivial, rfl, hs⟩

theorem wlist_o (W0 : World) (q : Nat) (l : List UInt8) (n : Int) (sv : Value) (h0 : 0 ≤ n) (hn : n ≤ 65536) (hl : l.length < 100000000000000) :
  Con Tryz.prog W0 33 #[Value.pointer (some ⟨q, 0, none⟩), Value.int .i64 n] [pt q 96 [Value.bool true, sv], sl 5 1 sv l.length (l.map u8v)] (X := Value) (fun _ => True) (fun _ => .int .i64 0) (fun v => [pt q 96 [Value.bool true, v], sl 5 1 v ((l ++ enc (zz n)).length) ((l ++ enc (zz n)).map u8v)]) := by
 refine Con.of (args := [Value.pointer (some ⟨q, 0, none⟩), Value.int .i64 n]) Tryz.func33 rfl Tryz.ntmps33 rfl (fun F => ?_)
 show Wc _ W0 _ _ _ _ _ ((pt q 96 [Value.bool true, sv]) :: (sl 5 1 sv l.length (l.map u8v)) :: F)
 refine Wc.seq (Wc.region (Wl.q (v := Value.int .i64 0) (q_assign rfl) (Wl.done (Wx.go (Wc.seq (Wc.block (Wc.seq (Wc.region (Wl.q (v := Value.pointer (some ⟨q, 0, none⟩)) (q_move rfl) (Wl.e (e_call (F := (sl 5 1 sv l.length (l.map u8v)) :: F) (args := [Value.pointer (some ⟨q, 0, none⟩)]) Tryz.call60 rfl (wthere_yes W0 q (sv))) (fun _ _ => Wl.imp (L' := (pt q 96 [Value.bool true, sv]) :: (sl 5 1 sv l.length (l.map u8v)) :: F) (fun _ h => h) ?_)))))))))))
 refine Wl.q (v := Value.bool false) (q_not rfl rfl) (Wl.q (v := Value.bool false) (q_assign rfl) (Wl.done (Wx.go (Wc.no rfl (Wc.seq (Wc.region (Wl.q (v := Value.int .i64 n) (q_move rfl) (Wl.q (v := Value.bool false) (q_lss (r := false) rfl rfl (decide_eq_false (by omega))) (Wl.q (v := Value.bool false) (q_assign rfl) (Wl.done (Wx.go ?_)))))))))))
 refine Wc.no rfl (Wc.seq (Wc.region (Wl.q (v := Value.int .i64 n) (q_move rfl) (Wl.q (v := Value.bool false) (q_gtr (r := false) rfl rfl (decide_eq_false (by omega))) (Wl.q (v := Value.bool false) (q_assign rfl) (Wl.done (Wx.go (Wc.no rfl (Wc.skip (Wx.blockEnd (Wx.go ?_)))))))))))
 refine Wc.seq (Wc.region (Wl.q (v := Value.pointer (some ⟨q, 0, none⟩)) (q_move rfl) (Wl.q (v := Value.int .i64 n) (q_move rfl) (Wl.e (e_call (F := F) (args := [Value.pointer (some ⟨q, 0, none⟩), Value.int .i64 n]) Tryz.call61 rfl (wnumber_o W0 q l n sv (by omega) (by omega) hl)) (fun v1 _ => Wl.imp (L' := (pt q 96 [Value.bool true, v1]) :: (sl 5 1 v1 ((l ++ enc (zz n)).length) ((l ++ enc (zz n)).map u8v)) :: F) (fun _ h => h) (Wl.q (v := Value.int .i64 0) (q_assign rfl) (Wl.done (Wx.go (Wc.ret (Wx.fin1 rfl (.inl rfl) (fun w hs => ?_)))))))))))
 exact ⟨v1, trivial, rfl, hs⟩

theorem wlist_c (W0 : World) (q : Nat) (l : List UInt8) (n : Int) (hl : l.length < 50000000000000) :
    Con Tryz.prog W0 33 #[Value.pointer (some ⟨q, 0, none⟩), Value.int .i64 n] [isW q l] (X := Unit) (fun _ => True) (fun _ => .int .i64 (listW n).1) (fun _ => [isW q (l ++ (listW n).2)]) := Con.wr fun sv => by
  by_cases h0 : n < 0
  · have e : listW n = (1, []) := if_pos h0
    rw [e]; exact (wlist_neg W0 q l n sv h0).mono fun _ _ => ⟨(), trivial, rfl, fun _ _ h => isW_mk (by rw [List.append_nil]; exact h)⟩
  by_cases h1 : n > 65536
  · have e : listW n = (3, []) := by rw [listW, if_neg h0, if_pos h1]
    rw [e]; exact (wlist_big W0 q l n sv (by omega) h1).mono fun _ _ => ⟨(), trivial, rfl, fun _ _ h => isW_mk (by rw [List.append_nil]; exact h)⟩
  have e : listW n = (0, enc (zz n)) := by rw [listW, if_neg h0, if_neg h1]
  rw [e]; exact (wlist_o W0 q l n sv (by omega) (by omega) (by omega)).mono fun _ _ => ⟨(), trivial, rfl, fun _ _ h => isW_mk h⟩
theorem wtextW_c (W0 : World) (q : Nat) (l : List UInt8) (s : ByteArray) (hl : l.length < 50000000000000) :
    Con Tryz.prog W0 34 #[Value.pointer (some ⟨q, 0, none⟩), Value.string s] [isW q l] (X := Unit) (fun _ => True) (fun _ => .int .i64 (textW s).1) (fun _ => [isW q (l ++ (textW s).2)]) := Con.wr fun sv => by
  by_cases h0 : 65536 < s.size
  · have e : textW s = (3, []) := if_pos h0
    rw [e]; exact (wtext_big W0 q l s sv h0).mono fun _ _ => ⟨(), trivial, rfl, fun _ _ h => isW_mk (by rw [List.append_nil]; exact h)⟩
  have e : textW s = (0, enc (zz (s.size : Int)) ++ s.data.toList) := if_neg h0
  rw [e]; exact (wtext_o W0 q l s sv (by omega) (by omega)).mono fun _ _ => ⟨(), trivial, rfl, fun _ _ h => isW_mk (by rw [← List.append_assoc]; exact h)⟩

end Go.Proofs.YtkndmgfahghcjaaGreat

/- The wire: the document's answer, in plain data. -/
namespace Go.SL
open Go Go.RowKit
section
variable {P : Program} {W0 : World} {E : Nat → Value} {L : List HP} {x : Operand} {ty : TypeId}
/-- string(b) of bytes that a slice owns. -/
theorem q_str_sl {src dst e e' n i : Nat} {v : Value} {xs : List Value} {l : List UInt8} (hs : P.underlying src = some (.slice e)) (he : P.underlying e = some (.int .u8)) (hd : P.underlying dst = some .string)
    (hx : evE E x = v) (hi : L[i]? = some (sl e' 1 v n xs)) (hxs : xs = l.map fun c => Value.int .u8 ((c.toNat : Nat) : Int)) : Quiet P W0 E L (.convert src dst x) ty (.string ⟨l.toArray⟩) := fun w d pos aft g hst => by
  subst hxs
  rcases st_sl_cases (st_at hst hi) with ⟨e1, _, e3⟩ | ⟨b, cap, e1, _, hl, hs2⟩
  · subst e1
    obtain rfl : l = [] := by cases l with
      | nil => rfl
      | cons a l => simp at e3
    exact (q_str_nil hs he hd hx) w d pos aft g hst
  · have hn : l.length = n := by simpa using hl
    exact q_str_of (L := slp e' 1 b cap (l.map fun c => Value.int .u8 ((c.toNat : Nat) : Int)) :: L.eraseIdx i) hs he hd (hx.trans e1) hn (fun j u hj => .row (i := 0) rfl (by rw [Nat.zero_add]; exact hj)) w d pos aft g hs2
end
end Go.SL
namespace Go.Wr
open Go Go.SL
/-! ### The document's answer -/
theorem nil_cat (s : ByteArray) : (⟨#[]⟩ : ByteArray) ++ s = s := by
 apply congrArg ByteArray.mk (a₁ := ((⟨#[]⟩ : ByteArray) ++ s).data) (a₂ := s.data)
 apply Array.ext'
 simp
theorem nilb {s : ByteArray} (h : s.size ≤ 9223372036854775807) : (⟨#[]⟩ : ByteArray).size + s.size ≤ 9223372036854775807 := by
 rw [show (⟨#[]⟩ : ByteArray).size = 0 from rfl, Nat.zero_add]; exact h
theorem ba_app (l : List UInt8) (s : ByteArray) : ba l ++ s = ba (l ++ s.data.toList) := by
 have : s = ba s.data.toList := by simp [ba]
 exact (congrArg (ba l ++ ·) this).trans (ba_cat l _)
theorem zz_mul {n : Int} (h0 : n ≥ 0) (h2 : n ≤ 9223372036854775807) : IntKind.u64.wrap (n * 2) = ((zz n : Nat) : Int) := by
 rw [wrap_u64 (by omega) (by omega)]; unfold zz; rw [if_pos h0]; omega
theorem zz_add {n : Int} (h0 : ¬ n ≥ 0) (h1 : -9223372036854775808 ≤ n) : IntKind.u64.wrap (-(n + 1) * 2 + 1) = ((zz n : Nat) : Int) := by
 rw [wrap_u64 (by omega) (by omega)]; unfold zz; rw [if_neg (by omega)]; omega
theorem textW_len (s : ByteArray) : (textW s).2.length ≤ 65546 := by
  unfold textW; split
  · simp
  · have := enc_len_le 9 _ (Nat.lt_trans (zz_lt (n := (s.size : Int)) (by omega) (by omega)) (by decide))
    simp only [List.length_append, Array.length_toList]
    have : s.data.size = s.size := rfl
    omega
end Go.Wr

