import Derived.Test.YtkndmgfahghcjaaGreatWrN
/- Contracts of the calls. -/
namespace Go.Proofs.YtkndmgfahghcjaaGreat
open Go Go.SL Go.Wr Go.RowKit
open Go.Dk (beyondF beyondB beyond_step beyond_le beyond_one beyond_two)
set_option linter.unusedVariables false
set_option maxRecDepth 8000

theorem zigzag_c (W0 : World) (n : Int) (h1 : -9223372036854775808 ≤ n) (h2 : n ≤ 9223372036854775807) :
  Con Tryz.prog W0 102 #[Value.int .i64 n] [] (X := Unit) (fun _ => True) (fun _ => .int .u64 ((zz n : Nat) : Int)) (fun _ => []) := by
 refine Con.of (args := [Value.int .i64 n]) Tryz.func102 rfl Tryz.ntmps102 rfl (fun F => ?_)
 show Wc _ W0 _ _ _ _ _ (F)
 refine Wc.seq (Wc.region (Wl.q (v := Value.int .u64 0) (q_assign rfl) (Wl.done (Wx.go (Wc.seq (Wc.seq (Wc.region (Wl.q (v := Value.int .i64 n) (q_move rfl) ?_))))))))
 by_cases hge : n ≥ 0
 ·
  refine Wl.q (v := Value.bool true) (q_geq (r := true) rfl rfl (decide_eq_true hge)) (Wl.done (Wx.go (Wc.yes rfl (Wc.seq (Wc.region (Wl.q (v := Value.int .i64 n) (q_move rfl) (Wl.q (v := Value.int .u64 n) (q_conv_int (c := n) Tryz.underlying125 (by rw [Tryz.underlying2]; rfl) rfl (wrap_u64 (by omega) (by omega))) (Wl.q (v := Value.int .u64 ((zz n : Nat) : Int)) (q_mul (c := ((zz n : Nat) : Int)) rfl rfl (zz_mul hge h2)) (Wl.q (v := Value.int .u64 ((zz n : Nat) : Int)) (q_assign rfl) (Wl.done (Wx.go ?_)))))))))))
  refine Wc.ret (Wx.thenRet (Wx.fin1 rfl (.inl rfl) (fun w hs => ?_)))
  exact ⟨(), trivial, rfl, hs⟩
 ·
  refine Wl.q (v := Value.bool false) (q_geq (r := false) rfl rfl (decide_eq_false hge)) (Wl.done (Wx.go (Wc.no rfl (Wc.skip (Wx.go (Wc.seq (Wc.region (Wl.q (v := Value.int .i64 n) (q_move rfl) (Wl.q (v := Value.int .i64 (n + 1)) (q_add (c := (n + 1)) rfl rfl (wrap_i64 (by omega) (by omega))) (Wl.q (v := Value.int .i64 (-(n + 1))) (q_neg (c := (-(n + 1))) rfl (wrap_i64 (by omega) (by omega))) (Wl.q (v := Value.int .u64 (-(n + 1))) (q_conv_int (c := (-(n + 1))) Tryz.underlying125 (by rw [Tryz.underlying2]; rfl) rfl (wrap_u64 (by omega) (by omega))) ?_)))))))))))
  refine Wl.q (v := Value.int .u64 (-(n + 1) * 2)) (q_mul (c := (-(n + 1) * 2)) rfl rfl (wrap_u64 (by omega) (by omega))) (Wl.q (v := Value.int .u64 ((zz n : Nat) : Int)) (q_add (c := ((zz n : Nat) : Int)) rfl rfl (zz_add hge h1)) (Wl.q (v := Value.int .u64 ((zz n : Nat) : Int)) (q_assign rfl) (Wl.done (Wx.go (Wc.ret (Wx.fin1 rfl (.inl rfl) (fun w hs => ?_)))))))
  exact ⟨(), trivial, rfl, hs⟩

theorem refnum_c (W0 : World) (n : Int) (h1 : -9223372036854775808 ≤ n) (h2 : n ≤ 9223372036854775807) :
    Con Tryz.prog W0 86 #[Value.string (⟨#[]⟩ : ByteArray), Value.int .i64 n] [] (X := Unit) (fun _ => True) (fun _ => .string (ba (enc (zz n)))) (fun _ => []) := by
  refine Con.of (args := [Value.string (⟨#[]⟩ : ByteArray), Value.int .i64 n]) Tryz.func86 rfl Tryz.ntmps86 rfl (fun F => ?_)
  show Wc _ W0 _ _ _ _ _ (F)
  refine Wc.seq (Wc.region (Wl.q (v := Value.string (⟨#[]⟩)) (q_assign rfl) (Wl.done (Wx.go (Wc.seq (Wc.region (Wl.q (v := Value.int .i64 n) (q_move rfl) (Wl.e (e_call (F := F) (args := [Value.int .i64 n]) Tryz.call102 rfl (zigzag_c W0 n h1 h2)) (fun _ _ => Wl.imp (L' := F) (fun _ h => h) (Wl.q (v := Value.int .u64 ((zz n : Nat) : Int)) (q_assign rfl) (Wl.done ?_)))))))))))
  refine Wx.go (Wc.seq (Wc.region (Wl.q (v := Value.slice none 0 0) (q_assign rfl) (Wl.done (Wx.go (Wc.seq (Wc.block ?_)))))))
  refine Wc.loop (X := Nat × Value × List UInt8) (fun (z, v, m) E => E 5 = Value.int .u64 ((z : Nat) : Int) ∧ E 6 = v ∧ E 0 = Value.string (⟨#[]⟩ : ByteArray) ∧ m ++ enc z = enc (zz n) ∧ z < 18446744073709551616) (fun (z, v, m) => (sl 5 1 v m.length (m.map u8v)) :: F) (fun (z, v, m) => z) (zz n, Value.slice none 0 0, []) ?_ ?_ ?_
  · exact ⟨rfl, rfl, rfl, rfl, (zz_lt h1 h2)⟩
  · exact fun w hs => st_sl_nil hs
  · rintro ⟨z, v, m⟩ E2 ⟨hE5_0, hE6_0, hE0_0, hp0, hz⟩
    dsimp only at *
    have hml : m.length ≤ 10 := by have e := congrArg List.length hp0; have e2 := enc_len_le 9 (zz n) (Nat.lt_trans (zz_lt h1 h2) (by decide)); have e3 := enc_ne z; simp only [List.length_append] at e; omega
    refine Wc.seq (Wc.seq (Wc.region (Wl.q (v := Value.int .u64 ((z : Nat) : Int)) (q_move hE5_0) ?_)))
    by_cases hgt : ((z : Nat) : Int) ≥ 128
    ·
      refine Wl.q (v := Value.bool true) (q_geq (r := true) rfl rfl (decide_eq_true hgt)) (Wl.done (Wx.go (Wc.yes rfl (Wc.skip (Wx.go (Wc.block (Wc.seq (Wc.region (Wl.q (v := v) (q_move hE6_0) (Wl.q (v := Value.int .u64 ((z : Nat) : Int)) (q_move hE5_0) (Wl.q (v := Value.int .u64 ((z % 128 : Nat) : Int)) (q_rem (c := ((z % 128 : Nat) : Int)) rfl rfl (by decide) (by rw [Int.tmod_eq_emod_of_nonneg (by omega)]; omega)) ?_)))))))))))
      refine Wl.q (v := Value.int .u64 ((z % 128 + 128 : Nat) : Int)) (q_add (c := ((z % 128 + 128 : Nat) : Int)) rfl rfl (wrap_u64 (by omega) (by omega))) (Wl.q (v := Value.int .u8 ((z % 128 + 128 : Nat) : Int)) (q_conv_int (c := ((z % 128 + 128 : Nat) : Int)) Tryz.underlying5 (by rw [Tryz.underlying125]; rfl) rfl (by rw [conv8]; omega)) (Wl.e (e_buildSlice (cs := [Value.int .u8 ((z % 128 + 128 : Nat) : Int)]) se_65 zo_5 (by decide) (by decide) (by kernel_rfl)) (fun b3 _ => Wl.imp (L' := (pt b3 5 [Value.int .u8 ((z % 128 + 128 : Nat) : Int)]) :: (sl 5 1 v m.length (m.map u8v)) :: F) (fun _ h => h) (Wl.e (e_append (i := 1) (k := 1) (m := 1) (off := 0) (news := [Value.int .u8 ((z % 128 + 128 : Nat) : Int)]) Tryz.underlying65 sz_5 by_5 zo_5 rfl rfl rfl rfl rfl (Has.of_pt (i := 0) rfl rfl) rfl (by decide) (by simp only [maxLen]; omega) (by omega)) (fun v2 _ => Wl.imp (L' := (pt b3 5 [Value.int .u8 ((z % 128 + 128 : Nat) : Int)]) :: (sl 5 1 v2 (m.length + 1) ((m.map u8v) ++ [Value.int .u8 ((z % 128 + 128 : Nat) : Int)])) :: F) (fun _ h => h) (Wl.q (v := v2) (q_assign rfl) (Wl.done (Wx.go (Wc.region (Wl.q (v := Value.int .u64 ((z : Nat) : Int)) (q_move hE5_0) (Wl.q (v := Value.int .u64 ((z / 128 : Nat) : Int)) (q_quo (c := ((z / 128 : Nat) : Int)) rfl rfl (by decide) (by rw [Int.tdiv_eq_ediv_of_nonneg (by omega), wrap_u64 (by omega) (by omega)]; omega)) ?_)))))))))))
      refine Wl.q (v := Value.int .u64 ((z / 128 : Nat) : Int)) (q_assign rfl) (Wl.done (Wx.blockEnd ?_))
      refine Wx.at (z / 128, v2, m ++ [UInt8.ofNat (z % 128 + 128)]) ⟨(by simp only; omega), rfl, rfl, hE0_0, (by rw [← hp0, enc_ge (show ¬ z < 128 by omega), List.append_assoc]; rfl), (by simp only; omega)⟩ (fun w hs => by simp only [List.length_append, List.length_singleton, u8_snoc m (show z % 128 + 128 < 256 by omega)]; exact (st_drop (st_pull [0] hs)))
    ·
      refine Wl.q (v := Value.bool false) (q_geq (r := false) rfl rfl (decide_eq_false hgt)) (Wl.done (Wx.go (Wc.no rfl (Wc.exit (Wx.thenExit (Wx.thenExit (Wx.out (Wx.go (Wc.seq (Wc.region (Wl.q (v := v) (q_move hE6_0) ?_)))))))))))
      refine Wl.q (v := Value.int .u64 ((z : Nat) : Int)) (q_move hE5_0) (Wl.q (v := Value.int .u8 ((z : Nat) : Int)) (q_conv_int (c := ((z : Nat) : Int)) Tryz.underlying5 (by rw [Tryz.underlying125]; rfl) rfl (by rw [conv8]; omega)) (Wl.e (e_buildSlice (cs := [Value.int .u8 ((z : Nat) : Int)]) se_65 zo_5 (by decide) (by decide) (by kernel_rfl)) (fun b4 _ => Wl.imp (L' := (pt b4 5 [Value.int .u8 ((z : Nat) : Int)]) :: (sl 5 1 v m.length (m.map u8v)) :: F) (fun _ h => h) (Wl.e (e_append (i := 1) (k := 1) (m := 1) (off := 0) (news := [Value.int .u8 ((z : Nat) : Int)]) Tryz.underlying65 sz_5 by_5 zo_5 rfl rfl rfl rfl rfl (Has.of_pt (i := 0) rfl rfl) rfl (by decide) (by simp only [maxLen]; omega) (by omega)) (fun v3 _ => Wl.imp (L' := (pt b4 5 [Value.int .u8 ((z : Nat) : Int)]) :: (sl 5 1 v3 (m.length + 1) ((m.map u8v) ++ [Value.int .u8 ((z : Nat) : Int)])) :: F) (fun _ h => h) (Wl.q (v := v3) (q_assign rfl) (Wl.done (Wx.go (Wc.seq (Wc.region (Wl.q (v := Value.string (⟨#[]⟩ : ByteArray)) (q_move hE0_0) ?_)))))))))))
      refine Wl.q (v := v3) (q_move rfl) ?_
      have e : ba (enc (zz n)) = ⟨(m ++ [UInt8.ofNat z]).toArray⟩ := by rw [← hp0, enc_lt (show z < 128 by omega)]; rfl
      refine Wl.q (v := Value.string (ba (enc (zz n)))) (e.symm ▸ q_str_sl (i := 1) (l := m ++ [UInt8.ofNat z]) Tryz.underlying65 Tryz.underlying5 Tryz.underlying9 rfl rfl (u8_snoc m (show z < 256 by omega)).symm) (Wl.q (v := Value.string (ba (enc (zz n)))) (q_cat (z := (ba (enc (zz n)))) rfl rfl (by exact nilb (by rw [ba_size]; have := enc_len_le 9 (zz n) (Nat.lt_trans (zz_lt h1 h2) (by decide)); omega)) (nil_cat _)) (Wl.q (v := Value.string (ba (enc (zz n)))) (q_assign rfl) (Wl.done (Wx.go (Wc.ret (Wx.fin1 rfl (.inl rfl) (fun w hs => ?_)))))))
      exact ⟨(), trivial, rfl, (st_drop (st_drop (st_pull [0, 0] hs)))⟩




theorem reftext_c (W0 : World) (s : ByteArray) :
  Con Tryz.prog W0 64 #[Value.string (⟨#[]⟩ : ByteArray), Value.string s] [] (X := Unit) (fun _ => True) (fun _ => .tuple #[.string (ba (textW s).2), .int .i64 (textW s).1]) (fun _ => []) := by
 refine Con.of (args := [Value.string (⟨#[]⟩ : ByteArray), Value.string s]) Tryz.func64 rfl Tryz.ntmps64 rfl (fun F => ?_)
 show Wc _ W0 _ _ _ _ _ (F)
 refine Wc.seq (Wc.region (Wl.q (v := Value.string (⟨#[]⟩)) (q_assign rfl) (Wl.q (v := Value.int .i64 0) (q_assign rfl) (Wl.done (Wx.go (Wc.seq (Wc.seq (Wc.region (Wl.q (v := Value.string s) (q_move rfl) (Wl.q (v := Value.int .i64 ((s.size : Nat) : Int)) (q_len_str Tryz.underlying9 rfl) ?_))))))))))
 by_cases hz0 : ((s.size : Nat) : Int) > 65536
 ·
  have h0 : 65536 < s.size := by omega
  refine Wl.q (v := Value.bool true) (q_gtr (r := true) rfl rfl (decide_eq_true hz0)) (Wl.done (Wx.go (Wc.yes rfl (Wc.seq (Wc.region (Wl.q (v := Value.string (⟨#[]⟩)) (q_assign rfl) (Wl.q (v := Value.int .i64 3) (q_assign rfl) (Wl.done (Wx.go (Wc.ret (Wx.thenRet ?_)))))))))))
  refine Wx.fin2 rfl (.inl rfl) (fun w hs => ?_)
  have e : textW s = (3, []) := if_pos h0
  exact ⟨(), trivial, by rw [e]; rfl, hs⟩
 ·
  have h0 : ¬ 65536 < s.size := by omega
  refine Wl.q (v := Value.bool false) (q_gtr (r := false) rfl rfl (decide_eq_false hz0)) (Wl.done (Wx.go (Wc.no rfl (Wc.skip (Wx.go (Wc.seq (Wc.region (Wl.q (v := Value.string (⟨#[]⟩ : ByteArray)) (q_move rfl) (Wl.q (v := Value.string s) (q_move rfl) (Wl.q (v := Value.int .i64 ((s.size : Nat) : Int)) (q_len_str Tryz.underlying9 rfl) (Wl.e (e_call (F := F) (args := [Value.string (⟨#[]⟩ : ByteArray), Value.int .i64 ((s.size : Nat) : Int)]) Tryz.call86 rfl (refnum_c W0 ((s.size : Nat) : Int) (by omega) (by omega))) (fun _ _ => ?_))))))))))))
  refine Wl.imp (L' := F) (fun _ h => h) (Wl.q (v := Value.string s) (q_move rfl) (Wl.q (v := Value.string (ba (enc (zz ((s.size : Nat) : Int)) ++ s.data.toList))) (q_cat (z := (ba (enc (zz ((s.size : Nat) : Int)) ++ s.data.toList))) rfl rfl (by (have := enc_len_le 9 (zz ((s.size : Nat) : Int)) (Nat.lt_trans (zz_lt (by omega) (by omega)) (by decide)); rw [ba_size]; omega)) (ba_app _ _)) (Wl.q (v := Value.string (ba (enc (zz ((s.size : Nat) : Int)) ++ s.data.toList))) (q_assign rfl) (Wl.q (v := Value.int .i64 0) (q_assign rfl) (Wl.done (Wx.go (Wc.ret (Wx.fin2 rfl (.inl rfl) (fun w hs => ?_)))))))))
  have e : textW s = (0, enc (zz (s.size : Int)) ++ s.data.toList) := if_neg h0
  exact ⟨(), trivial, by rw [e]; rfl, hs⟩

theorem reflist_c (W0 : World) (n : Int) :
  Con Tryz.prog W0 63 #[Value.string (⟨#[]⟩ : ByteArray), Value.int .i64 n] [] (X := Unit) (fun _ => True) (fun _ => .tuple #[.string (ba (listW n).2), .int .i64 (listW n).1]) (fun _ => []) := by
 refine Con.of (args := [Value.string (⟨#[]⟩ : ByteArray), Value.int .i64 n]) Tryz.func63 rfl Tryz.ntmps63 rfl (fun F => ?_)
 show Wc _ W0 _ _ _ _ _ (F)
 refine Wc.seq (Wc.region (Wl.q (v := Value.string (⟨#[]⟩)) (q_assign rfl) (Wl.q (v := Value.int .i64 0) (q_assign rfl) (Wl.done (Wx.go (Wc.seq (Wc.seq (Wc.region (Wl.q (v := Value.int .i64 n) (q_move rfl) ?_)))))))))
 by_cases h0 : n < 0
 ·
  refine Wl.q (v := Value.bool true) (q_lss (r := true) rfl rfl (decide_eq_true h0)) (Wl.done (Wx.go (Wc.yes rfl (Wc.seq (Wc.region (Wl.q (v := Value.string (⟨#[]⟩)) (q_assign rfl) (Wl.q (v := Value.int .i64 1) (q_assign rfl) (Wl.done (Wx.go (Wc.ret (Wx.thenRet ?_)))))))))))
  refine Wx.fin2 rfl (.inl rfl) (fun w hs => ?_)
  have e : listW n = (1, []) := if_pos h0
  exact ⟨(), trivial, by rw [e]; rfl, hs⟩
 ·
  refine Wl.q (v := Value.bool false) (q_lss (r := false) rfl rfl (decide_eq_false h0)) (Wl.done (Wx.go (Wc.no rfl (Wc.skip (Wx.go (Wc.seq (Wc.seq (Wc.region (Wl.q (v := Value.int .i64 n) (q_move rfl) ?_)))))))))
  by_cases h9 : n > 65536
  ·
   refine Wl.q (v := Value.bool true) (q_gtr (r := true) rfl rfl (decide_eq_true h9)) (Wl.done (Wx.go (Wc.yes rfl (Wc.seq (Wc.region (Wl.q (v := Value.string (⟨#[]⟩)) (q_assign rfl) (Wl.q (v := Value.int .i64 3) (q_assign rfl) (Wl.done (Wx.go (Wc.ret (Wx.thenRet ?_)))))))))))
   refine Wx.fin2 rfl (.inl rfl) (fun w hs => ?_)
   have e : listW n = (3, []) := by rw [listW, if_neg h0, if_pos h9]
   exact ⟨(), trivial, by rw [e]; rfl, hs⟩
  ·
   refine Wl.q (v := Value.bool false) (q_gtr (r := false) rfl rfl (decide_eq_false h9)) (Wl.done (Wx.go (Wc.no rfl (Wc.skip (Wx.go (Wc.seq (Wc.region (Wl.q (v := Value.string (⟨#[]⟩ : ByteArray)) (q_move rfl) (Wl.q (v := Value.int .i64 n) (q_move rfl) (Wl.e (e_call (F := F) (args := [Value.string (⟨#[]⟩ : ByteArray), Value.int .i64 n]) Tryz.call86 rfl (refnum_c W0 n (by omega) (by omega))) (fun _ _ => Wl.imp (L' := F) (fun _ h => h) ?_)))))))))))
   refine Wl.q (v := Value.string (ba (enc (zz n)))) (q_assign rfl) (Wl.q (v := Value.int .i64 0) (q_assign rfl) (Wl.done (Wx.go (Wc.ret (Wx.fin2 rfl (.inl rfl) (fun w hs => ?_))))))
   have e : listW n = (0, enc (zz n)) := by rw [listW, if_neg h0, if_neg h9]
   exact ⟨(), trivial, by rw [e]; rfl, hs⟩


end Go.Proofs.YtkndmgfahghcjaaGreat

