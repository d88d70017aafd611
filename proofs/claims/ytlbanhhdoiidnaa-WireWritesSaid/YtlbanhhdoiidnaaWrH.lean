/- The wire: contracts of its calls. -/
import Derived.Test.YtlbanhhdoiidnaaWrG
import Derived.Test.YtlbanhhdoiidnaaWrN
namespace Go.Proofs.Ytlbanhhdoiidnaa
open Go Go.SL Go.Wr Go.RowKit
open Go.Dk (beyondF beyondB beyond_step beyond_le beyond_one beyond_two)
set_option linter.unusedVariables false

theorem zigzag_c (W0 : World) (n : Int) (h1 : -9223372036854775808 ≤ n) (h2 : n ≤ 9223372036854775807) :
    Con Try.prog W0 52 #[Value.int .i64 n] [] (X := Unit) (fun _ => True) (fun _ => .int .u64 ((zz n : Nat) : Int)) (fun _ => []) := by
  refine Con.of (args := [Value.int .i64 n]) Try.func52 rfl Try.ntmps52 rfl (fun F => ?_)
  show Wc _ W0 _ _ _ _ _ (F)
  refine Wc.seq ?_
  refine Wc.region ?_
  refine Wl.q (v := Value.int .u64 0) (q_assign rfl) ?_
  refine Wl.done ?_
  refine Wx.go ?_
  refine Wc.seq ?_
  refine Wc.seq ?_
  refine Wc.region ?_
  refine Wl.q (v := Value.int .i64 n) (q_move rfl) ?_
  by_cases hge : n ≥ 0
  ·
    refine Wl.q (v := Value.bool true) (q_geq (r := true) rfl rfl (decide_eq_true hge)) ?_
    refine Wl.done ?_
    refine Wx.go ?_
    refine Wc.yes rfl ?_
    refine Wc.seq ?_
    refine Wc.region ?_
    refine Wl.q (v := Value.int .i64 n) (q_move rfl) ?_
    refine Wl.q (v := Value.int .u64 n) (q_conv_int (c := n) Try.underlying61 (by rw [Try.underlying2]; rfl) rfl (wrap_u64 (by omega) (by omega))) ?_
    refine Wl.q (v := Value.int .u64 ((zz n : Nat) : Int)) (q_mul (c := ((zz n : Nat) : Int)) rfl rfl (zz_mul hge h2)) ?_
    refine Wl.q (v := Value.int .u64 ((zz n : Nat) : Int)) (q_assign rfl) ?_
    refine Wl.done ?_
    refine Wx.go ?_
    refine Wc.ret ?_
    refine Wx.thenRet ?_
    refine Wx.fin1 rfl (.inl rfl) (fun w hs => ?_)
    exact ⟨(), trivial, rfl, hs⟩
  ·
    refine Wl.q (v := Value.bool false) (q_geq (r := false) rfl rfl (decide_eq_false hge)) ?_
    refine Wl.done ?_
    refine Wx.go ?_
    refine Wc.no rfl ?_
    refine Wc.skip ?_
    refine Wx.go ?_
    refine Wc.seq ?_
    refine Wc.region ?_
    refine Wl.q (v := Value.int .i64 n) (q_move rfl) ?_
    refine Wl.q (v := Value.int .i64 (n + 1)) (q_add (c := (n + 1)) rfl rfl (wrap_i64 (by omega) (by omega))) ?_
    refine Wl.q (v := Value.int .i64 (-(n + 1))) (q_neg (c := (-(n + 1))) rfl (wrap_i64 (by omega) (by omega))) ?_
    refine Wl.q (v := Value.int .u64 (-(n + 1))) (q_conv_int (c := (-(n + 1))) Try.underlying61 (by rw [Try.underlying2]; rfl) rfl (wrap_u64 (by omega) (by omega))) ?_
    refine Wl.q (v := Value.int .u64 (-(n + 1) * 2)) (q_mul (c := (-(n + 1) * 2)) rfl rfl (wrap_u64 (by omega) (by omega))) ?_
    refine Wl.q (v := Value.int .u64 ((zz n : Nat) : Int)) (q_add (c := ((zz n : Nat) : Int)) rfl rfl (zz_add hge h1)) ?_
    refine Wl.q (v := Value.int .u64 ((zz n : Nat) : Int)) (q_assign rfl) ?_
    refine Wl.done ?_
    refine Wx.go ?_
    refine Wc.ret ?_
    refine Wx.fin1 rfl (.inl rfl) (fun w hs => ?_)
    exact ⟨(), trivial, rfl, hs⟩

theorem refnum_c (W0 : World) (n : Int) (h1 : -9223372036854775808 ≤ n) (h2 : n ≤ 9223372036854775807) :
    Con Try.prog W0 36 #[Value.string (⟨#[]⟩ : ByteArray), Value.int .i64 n] [] (X := Unit) (fun _ => True) (fun _ => .string (ba (enc (zz n)))) (fun _ => []) := by
  refine Con.of (args := [Value.string (⟨#[]⟩ : ByteArray), Value.int .i64 n]) Try.func36 rfl Try.ntmps36 rfl (fun F => ?_)
  show Wc _ W0 _ _ _ _ _ (F)
  refine Wc.seq ?_
  refine Wc.region ?_
  refine Wl.q (v := Value.string (⟨#[]⟩)) (q_assign rfl) ?_
  refine Wl.done ?_
  refine Wx.go ?_
  refine Wc.seq ?_
  refine Wc.region ?_
  refine Wl.q (v := Value.int .i64 n) (q_move rfl) ?_
  refine Wl.e (e_call (F := F) (args := [Value.int .i64 n]) Try.call52 rfl (zigzag_c W0 n h1 h2)) (fun _ _ => ?_)
  refine Wl.imp (L' := F) (fun _ h => h) ?_
  refine Wl.q (v := Value.int .u64 ((zz n : Nat) : Int)) (q_assign rfl) ?_
  refine Wl.done ?_
  refine Wx.go ?_
  refine Wc.seq ?_
  refine Wc.region ?_
  refine Wl.q (v := Value.slice none 0 0) (q_assign rfl) ?_
  refine Wl.done ?_
  refine Wx.go ?_
  refine Wc.seq ?_
  refine Wc.block ?_
  refine Wc.loop (X := Nat × Value × List UInt8) (fun (z, v, m) E => E 5 = Value.int .u64 ((z : Nat) : Int) ∧ E 6 = v ∧ E 0 = Value.string (⟨#[]⟩ : ByteArray) ∧ m ++ enc z = enc (zz n) ∧ z < 18446744073709551616) (fun (z, v, m) => (sl 5 1 v m.length (m.map u8v)) :: F) (fun (z, v, m) => z) (zz n, Value.slice none 0 0, []) ?_ ?_ ?_
  · exact ⟨rfl, rfl, rfl, rfl, (zz_lt h1 h2)⟩
  · exact fun w hs => st_sl_nil hs
  · rintro ⟨z, v, m⟩ E2 ⟨hE5_0, hE6_0, hE0_0, hp0, hz⟩
    dsimp only at *
    have hml : m.length ≤ 10 := by have e := congrArg List.length hp0; have e2 := enc_len_le 9 (zz n) (Nat.lt_trans (zz_lt h1 h2) (by decide)); have e3 := enc_ne z; simp only [List.length_append] at e; omega
    refine Wc.seq ?_
    refine Wc.seq ?_
    refine Wc.region ?_
    refine Wl.q (v := Value.int .u64 ((z : Nat) : Int)) (q_move hE5_0) ?_
    by_cases hgt : ((z : Nat) : Int) ≥ 128
    ·
      refine Wl.q (v := Value.bool true) (q_geq (r := true) rfl rfl (decide_eq_true hgt)) ?_
      refine Wl.done ?_
      refine Wx.go ?_
      refine Wc.yes rfl ?_
      refine Wc.skip ?_
      refine Wx.go ?_
      refine Wc.block ?_
      refine Wc.seq ?_
      refine Wc.region ?_
      refine Wl.q (v := v) (q_move hE6_0) ?_
      refine Wl.q (v := Value.int .u64 ((z : Nat) : Int)) (q_move hE5_0) ?_
      refine Wl.q (v := Value.int .u64 ((z % 128 : Nat) : Int)) (q_rem (c := ((z % 128 : Nat) : Int)) rfl rfl (by decide) (by rw [Int.tmod_eq_emod_of_nonneg (by omega)]; omega)) ?_
      refine Wl.q (v := Value.int .u64 ((z % 128 + 128 : Nat) : Int)) (q_add (c := ((z % 128 + 128 : Nat) : Int)) rfl rfl (wrap_u64 (by omega) (by omega))) ?_
      refine Wl.q (v := Value.int .u8 ((z % 128 + 128 : Nat) : Int)) (q_conv_int (c := ((z % 128 + 128 : Nat) : Int)) Try.underlying5 (by rw [Try.underlying61]; rfl) rfl (by rw [conv8]; omega)) ?_
      refine Wl.e (e_buildSlice (cs := [Value.int .u8 ((z % 128 + 128 : Nat) : Int)]) se_40 zo_5 (by decide) (by decide) (by kernel_rfl)) (fun b3 _ => ?_)
      refine Wl.imp (L' := (pt b3 5 [Value.int .u8 ((z % 128 + 128 : Nat) : Int)]) :: (sl 5 1 v m.length (m.map u8v)) :: F) (fun _ h => h) ?_
      refine Wl.e (e_append (i := 1) (k := 1) (m := 1) (off := 0) (news := [Value.int .u8 ((z % 128 + 128 : Nat) : Int)]) Try.underlying40 sz_5 by_5 zo_5 rfl rfl rfl rfl rfl (Has.of_pt (i := 0) rfl rfl) rfl (by decide) (by simp only [maxLen]; omega) (by omega)) (fun v2 _ => ?_)
      refine Wl.imp (L' := (pt b3 5 [Value.int .u8 ((z % 128 + 128 : Nat) : Int)]) :: (sl 5 1 v2 (m.length + 1) ((m.map u8v) ++ [Value.int .u8 ((z % 128 + 128 : Nat) : Int)])) :: F) (fun _ h => h) ?_
      refine Wl.q (v := v2) (q_assign rfl) ?_
      refine Wl.done ?_
      refine Wx.go ?_
      refine Wc.region ?_
      refine Wl.q (v := Value.int .u64 ((z : Nat) : Int)) (q_move hE5_0) ?_
      refine Wl.q (v := Value.int .u64 ((z / 128 : Nat) : Int)) (q_quo (c := ((z / 128 : Nat) : Int)) rfl rfl (by decide) (by rw [Int.tdiv_eq_ediv_of_nonneg (by omega), wrap_u64 (by omega) (by omega)]; omega)) ?_
      refine Wl.q (v := Value.int .u64 ((z / 128 : Nat) : Int)) (q_assign rfl) ?_
      refine Wl.done ?_
      refine Wx.blockEnd ?_
      refine Wx.at (z / 128, v2, m ++ [UInt8.ofNat (z % 128 + 128)]) ⟨(by simp only; omega), rfl, rfl, hE0_0, (by rw [← hp0, enc_ge (show ¬ z < 128 by omega), List.append_assoc]; rfl), (by simp only; omega)⟩ (fun w hs => by simp only [List.length_append, List.length_singleton, u8_snoc m (show z % 128 + 128 < 256 by omega)]; exact (st_drop (st_pull [0] hs)))
    ·
      refine Wl.q (v := Value.bool false) (q_geq (r := false) rfl rfl (decide_eq_false hgt)) ?_
      refine Wl.done ?_
      refine Wx.go ?_
      refine Wc.no rfl ?_
      refine Wc.exit ?_
      refine Wx.thenExit ?_
      refine Wx.thenExit ?_
      refine Wx.out ?_
      refine Wx.go ?_
      refine Wc.seq ?_
      refine Wc.region ?_
      refine Wl.q (v := v) (q_move hE6_0) ?_
      refine Wl.q (v := Value.int .u64 ((z : Nat) : Int)) (q_move hE5_0) ?_
      refine Wl.q (v := Value.int .u8 ((z : Nat) : Int)) (q_conv_int (c := ((z : Nat) : Int)) Try.underlying5 (by rw [Try.underlying61]; rfl) rfl (by rw [conv8]; omega)) ?_
      refine Wl.e (e_buildSlice (cs := [Value.int .u8 ((z : Nat) : Int)]) se_40 zo_5 (by decide) (by decide) (by kernel_rfl)) (fun b4 _ => ?_)
      refine Wl.imp (L' := (pt b4 5 [Value.int .u8 ((z : Nat) : Int)]) :: (sl 5 1 v m.length (m.map u8v)) :: F) (fun _ h => h) ?_
      refine Wl.e (e_append (i := 1) (k := 1) (m := 1) (off := 0) (news := [Value.int .u8 ((z : Nat) : Int)]) Try.underlying40 sz_5 by_5 zo_5 rfl rfl rfl rfl rfl (Has.of_pt (i := 0) rfl rfl) rfl (by decide) (by simp only [maxLen]; omega) (by omega)) (fun v3 _ => ?_)
      refine Wl.imp (L' := (pt b4 5 [Value.int .u8 ((z : Nat) : Int)]) :: (sl 5 1 v3 (m.length + 1) ((m.map u8v) ++ [Value.int .u8 ((z : Nat) : Int)])) :: F) (fun _ h => h) ?_
      refine Wl.q (v := v3) (q_assign rfl) ?_
      refine Wl.done ?_
      refine Wx.go ?_
      refine Wc.seq ?_
      refine Wc.region ?_
      refine Wl.q (v := Value.string (⟨#[]⟩ : ByteArray)) (q_move hE0_0) ?_
      refine Wl.q (v := v3) (q_move rfl) ?_
      have e : ba (enc (zz n)) = ⟨(m ++ [UInt8.ofNat z]).toArray⟩ := by rw [← hp0, enc_lt (show z < 128 by omega)]; rfl
      refine Wl.q (v := Value.string (ba (enc (zz n)))) (e.symm ▸ q_str_sl (i := 1) (l := m ++ [UInt8.ofNat z]) Try.underlying40 Try.underlying5 Try.underlying9 rfl rfl (u8_snoc m (show z < 256 by omega)).symm) ?_
      refine Wl.q (v := Value.string (ba (enc (zz n)))) (q_cat (z := (ba (enc (zz n)))) rfl rfl (by exact nilb (by rw [ba_size]; have := enc_len_le 9 (zz n) (Nat.lt_trans (zz_lt h1 h2) (by decide)); omega)) (nil_cat _)) ?_
      refine Wl.q (v := Value.string (ba (enc (zz n)))) (q_assign rfl) ?_
      refine Wl.done ?_
      refine Wx.go ?_
      refine Wc.ret ?_
      refine Wx.fin1 rfl (.inl rfl) (fun w hs => ?_)
      exact ⟨(), trivial, rfl, (st_drop (st_drop (st_pull [0, 0] hs)))⟩

theorem refbyte_c (W0 : World) (n : Int) (h1 : -9223372036854775808 ≤ n) (h2 : n ≤ 9223372036854775807) :
    Con Try.prog W0 35 #[Value.string (⟨#[]⟩ : ByteArray), Value.int .i64 n] [] (X := Unit) (fun _ => True) (fun _ => .tuple #[.string (ba (byteW n).2), .int .i64 (byteW n).1]) (fun _ => []) := by
  refine Con.of (args := [Value.string (⟨#[]⟩ : ByteArray), Value.int .i64 n]) Try.func35 rfl Try.ntmps35 rfl (fun F => ?_)
  show Wc _ W0 _ _ _ _ _ (F)
  refine Wc.seq ?_
  refine Wc.region ?_
  refine Wl.q (v := Value.string (⟨#[]⟩)) (q_assign rfl) ?_
  refine Wl.q (v := Value.int .i64 0) (q_assign rfl) ?_
  refine Wl.done ?_
  refine Wx.go ?_
  refine Wc.seq ?_
  refine Wc.seq ?_
  refine Wc.region ?_
  refine Wl.q (v := Value.int .i64 n) (q_move rfl) ?_
  by_cases h0 : n < 0
  ·
    refine Wl.q (v := Value.bool true) (q_lss (r := true) rfl rfl (decide_eq_true h0)) ?_
    refine Wl.q (v := Value.bool true) (q_move rfl) ?_
    refine Wl.no ?_
    refine Wl.no ?_
    refine Wl.q (v := Value.bool true) (q_pick (t := true) rfl rfl) ?_
    refine Wl.done ?_
    refine Wx.go ?_
    refine Wc.yes rfl ?_
    refine Wc.seq ?_
    refine Wc.region ?_
    refine Wl.q (v := Value.string (⟨#[]⟩)) (q_assign rfl) ?_
    refine Wl.q (v := Value.int .i64 1) (q_assign rfl) ?_
    refine Wl.done ?_
    refine Wx.go ?_
    refine Wc.ret ?_
    refine Wx.thenRet ?_
    refine Wx.fin2 rfl (.inl rfl) (fun w hs => ?_)
    have e : byteW n = (1, []) := if_pos (.inl h0)
    exact ⟨(), trivial, by rw [e]; rfl, hs⟩
  ·
    refine Wl.q (v := Value.bool false) (q_lss (r := false) rfl rfl (decide_eq_false h0)) ?_
    refine Wl.q (v := Value.bool false) (q_move rfl) ?_
    refine Wl.q (v := Value.int .i64 n) (q_move rfl) ?_
    by_cases h9 : n > 255
    ·
      refine Wl.q (v := Value.bool true) (q_gtr (r := true) rfl rfl (decide_eq_true h9)) ?_
      refine Wl.q (v := Value.bool true) (q_pick (t := false) rfl rfl) ?_
      refine Wl.done ?_
      refine Wx.go ?_
      refine Wc.yes rfl ?_
      refine Wc.seq ?_
      refine Wc.region ?_
      refine Wl.q (v := Value.string (⟨#[]⟩)) (q_assign rfl) ?_
      refine Wl.q (v := Value.int .i64 1) (q_assign rfl) ?_
      refine Wl.done ?_
      refine Wx.go ?_
      refine Wc.ret ?_
      refine Wx.thenRet ?_
      refine Wx.fin2 rfl (.inl rfl) (fun w hs => ?_)
      have e : byteW n = (1, []) := if_pos (.inr h9)
      exact ⟨(), trivial, by rw [e]; rfl, hs⟩
    ·
      refine Wl.q (v := Value.bool false) (q_gtr (r := false) rfl rfl (decide_eq_false h9)) ?_
      refine Wl.q (v := Value.bool false) (q_pick (t := false) rfl rfl) ?_
      refine Wl.done ?_
      refine Wx.go ?_
      refine Wc.no rfl ?_
      refine Wc.skip ?_
      refine Wx.go ?_
      refine Wc.seq ?_
      refine Wc.region ?_
      refine Wl.q (v := Value.string (⟨#[]⟩ : ByteArray)) (q_move rfl) ?_
      refine Wl.q (v := Value.int .i64 n) (q_move rfl) ?_
      refine Wl.q (v := Value.int .u8 (((UInt8.ofNat n.toNat).toNat : Nat) : Int)) (q_conv_int (c := (((UInt8.ofNat n.toNat).toNat : Nat) : Int)) Try.underlying5 (by rw [Try.underlying3]; rfl) rfl (by rw [wrap_u8', UInt8.toNat_ofNat']; omega)) ?_
      refine Wl.e (e_buildSlice (cs := [Value.int .u8 (((UInt8.ofNat n.toNat).toNat : Nat) : Int)]) se_40 zo_5 (by decide) (by decide) (by kernel_rfl)) (fun b1 _ => ?_)
      refine Wl.imp (L' := (pt b1 5 [Value.int .u8 (((UInt8.ofNat n.toNat).toNat : Nat) : Int)]) :: F) (fun _ h => h) ?_
      refine Wl.q (v := Value.string (⟨([UInt8.ofNat n.toNat]).toArray⟩)) (q_str_of (l := [UInt8.ofNat n.toNat]) Try.underlying40 Try.underlying5 Try.underlying9 rfl (by simp) (Has.of_pt (i := 0) rfl rfl)) ?_
      refine Wl.q (v := Value.string (ba [UInt8.ofNat n.toNat])) (q_cat (z := (ba [UInt8.ofNat n.toNat])) rfl rfl (by exact nilb (show 1 ≤ 9223372036854775807 by decide)) (nil_cat _)) ?_
      refine Wl.q (v := Value.string (ba [UInt8.ofNat n.toNat])) (q_assign rfl) ?_
      refine Wl.q (v := Value.int .i64 0) (q_assign rfl) ?_
      refine Wl.done ?_
      refine Wx.go ?_
      refine Wc.ret ?_
      refine Wx.fin2 rfl (.inl rfl) (fun w hs => ?_)
      have e : byteW n = (0, [UInt8.ofNat n.toNat]) := if_neg (by omega)
      exact ⟨(), trivial, by rw [e]; rfl, (st_drop (st_pull [0] hs))⟩

theorem refflag_t (W0 : World)  :
    Con Try.prog W0 37 #[Value.string (⟨#[]⟩ : ByteArray), Value.bool true] [] (X := Unit) (fun _ => True) (fun _ => .string (ba (byteW 1).2)) (fun _ => []) := by
  refine Con.of (args := [Value.string (⟨#[]⟩ : ByteArray), Value.bool true]) Try.func37 rfl Try.ntmps37 rfl (fun F => ?_)
  show Wc _ W0 _ _ _ _ _ (F)
  refine Wc.seq ?_
  refine Wc.region ?_
  refine Wl.q (v := Value.string (⟨#[]⟩)) (q_assign rfl) ?_
  refine Wl.done ?_
  refine Wx.go ?_
  refine Wc.seq ?_
  refine Wc.seq ?_
  refine Wc.region ?_
  refine Wl.q (v := Value.bool true) (q_move rfl) ?_
  refine Wl.done ?_
  refine Wx.go ?_
  refine Wc.yes rfl ?_
  refine Wc.seq ?_
  refine Wc.region ?_
  refine Wl.q (v := Value.string (⟨#[]⟩ : ByteArray)) (q_move rfl) ?_
  refine Wl.q (v := Value.string (ba (byteW 1).2)) (q_cat (z := (ba (byteW 1).2)) rfl rfl (by decide) (nil_cat _)) ?_
  refine Wl.q (v := Value.string (ba (byteW 1).2)) (q_assign rfl) ?_
  refine Wl.done ?_
  refine Wx.go ?_
  refine Wc.ret ?_
  refine Wx.thenRet ?_
  refine Wx.fin1 rfl (.inl rfl) (fun w hs => ?_)
  exact ⟨(), trivial, rfl, hs⟩

theorem refflag_f (W0 : World)  :
    Con Try.prog W0 37 #[Value.string (⟨#[]⟩ : ByteArray), Value.bool false] [] (X := Unit) (fun _ => True) (fun _ => .string (ba (byteW 0).2)) (fun _ => []) := by
  refine Con.of (args := [Value.string (⟨#[]⟩ : ByteArray), Value.bool false]) Try.func37 rfl Try.ntmps37 rfl (fun F => ?_)
  show Wc _ W0 _ _ _ _ _ (F)
  refine Wc.seq ?_
  refine Wc.region ?_
  refine Wl.q (v := Value.string (⟨#[]⟩)) (q_assign rfl) ?_
  refine Wl.done ?_
  refine Wx.go ?_
  refine Wc.seq ?_
  refine Wc.seq ?_
  refine Wc.region ?_
  refine Wl.q (v := Value.bool false) (q_move rfl) ?_
  refine Wl.done ?_
  refine Wx.go ?_
  refine Wc.no rfl ?_
  refine Wc.skip ?_
  refine Wx.go ?_
  refine Wc.seq ?_
  refine Wc.region ?_
  refine Wl.q (v := Value.string (⟨#[]⟩ : ByteArray)) (q_move rfl) ?_
  refine Wl.q (v := Value.string (ba (byteW 0).2)) (q_cat (z := (ba (byteW 0).2)) rfl rfl (by decide) (nil_cat _)) ?_
  refine Wl.q (v := Value.string (ba (byteW 0).2)) (q_assign rfl) ?_
  refine Wl.done ?_
  refine Wx.go ?_
  refine Wc.ret ?_
  refine Wx.fin1 rfl (.inl rfl) (fun w hs => ?_)
  exact ⟨(), trivial, rfl, hs⟩

theorem reftext_c (W0 : World) (s : ByteArray) :
    Con Try.prog W0 38 #[Value.string (⟨#[]⟩ : ByteArray), Value.string s] [] (X := Unit) (fun _ => True) (fun _ => .tuple #[.string (ba (textW s).2), .int .i64 (textW s).1]) (fun _ => []) := by
  refine Con.of (args := [Value.string (⟨#[]⟩ : ByteArray), Value.string s]) Try.func38 rfl Try.ntmps38 rfl (fun F => ?_)
  show Wc _ W0 _ _ _ _ _ (F)
  refine Wc.seq ?_
  refine Wc.region ?_
  refine Wl.q (v := Value.string (⟨#[]⟩)) (q_assign rfl) ?_
  refine Wl.q (v := Value.int .i64 0) (q_assign rfl) ?_
  refine Wl.done ?_
  refine Wx.go ?_
  refine Wc.seq ?_
  refine Wc.seq ?_
  refine Wc.region ?_
  refine Wl.q (v := Value.string s) (q_move rfl) ?_
  refine Wl.q (v := Value.int .i64 ((s.size : Nat) : Int)) (q_len_str Try.underlying9 rfl) ?_
  by_cases hz0 : ((s.size : Nat) : Int) > 65536
  ·
    have h0 : 65536 < s.size := by omega
    refine Wl.q (v := Value.bool true) (q_gtr (r := true) rfl rfl (decide_eq_true hz0)) ?_
    refine Wl.done ?_
    refine Wx.go ?_
    refine Wc.yes rfl ?_
    refine Wc.seq ?_
    refine Wc.region ?_
    refine Wl.q (v := Value.string (⟨#[]⟩)) (q_assign rfl) ?_
    refine Wl.q (v := Value.int .i64 3) (q_assign rfl) ?_
    refine Wl.done ?_
    refine Wx.go ?_
    refine Wc.ret ?_
    refine Wx.thenRet ?_
    refine Wx.fin2 rfl (.inl rfl) (fun w hs => ?_)
    have e : textW s = (3, []) := if_pos h0
    exact ⟨(), trivial, by rw [e]; rfl, hs⟩
  ·
    have h0 : ¬ 65536 < s.size := by omega
    refine Wl.q (v := Value.bool false) (q_gtr (r := false) rfl rfl (decide_eq_false hz0)) ?_
    refine Wl.done ?_
    refine Wx.go ?_
    refine Wc.no rfl ?_
    refine Wc.skip ?_
    refine Wx.go ?_
    refine Wc.seq ?_
    refine Wc.region ?_
    refine Wl.q (v := Value.string (⟨#[]⟩ : ByteArray)) (q_move rfl) ?_
    refine Wl.q (v := Value.string s) (q_move rfl) ?_
    refine Wl.q (v := Value.int .i64 ((s.size : Nat) : Int)) (q_len_str Try.underlying9 rfl) ?_
    refine Wl.e (e_call (F := F) (args := [Value.string (⟨#[]⟩ : ByteArray), Value.int .i64 ((s.size : Nat) : Int)]) Try.call36 rfl (refnum_c W0 ((s.size : Nat) : Int) (by omega) (by omega))) (fun _ _ => ?_)
    refine Wl.imp (L' := F) (fun _ h => h) ?_
    refine Wl.q (v := Value.string s) (q_move rfl) ?_
    refine Wl.q (v := Value.string (ba (enc (zz ((s.size : Nat) : Int)) ++ s.data.toList))) (q_cat (z := (ba (enc (zz ((s.size : Nat) : Int)) ++ s.data.toList))) rfl rfl (by (have := enc_len_le 9 (zz ((s.size : Nat) : Int)) (Nat.lt_trans (zz_lt (by omega) (by omega)) (by decide)); rw [ba_size]; omega)) (ba_app _ _)) ?_
    refine Wl.q (v := Value.string (ba (enc (zz ((s.size : Nat) : Int)) ++ s.data.toList))) (q_assign rfl) ?_
    refine Wl.q (v := Value.int .i64 0) (q_assign rfl) ?_
    refine Wl.done ?_
    refine Wx.go ?_
    refine Wc.ret ?_
    refine Wx.fin2 rfl (.inl rfl) (fun w hs => ?_)
    have e : textW s = (0, enc (zz (s.size : Int)) ++ s.data.toList) := if_neg h0
    exact ⟨(), trivial, by rw [e]; rfl, hs⟩

theorem reflist_c (W0 : World) (n : Int) :
    Con Try.prog W0 39 #[Value.string (⟨#[]⟩ : ByteArray), Value.int .i64 n] [] (X := Unit) (fun _ => True) (fun _ => .tuple #[.string (ba (listW n).2), .int .i64 (listW n).1]) (fun _ => []) := by
  refine Con.of (args := [Value.string (⟨#[]⟩ : ByteArray), Value.int .i64 n]) Try.func39 rfl Try.ntmps39 rfl (fun F => ?_)
  show Wc _ W0 _ _ _ _ _ (F)
  refine Wc.seq ?_
  refine Wc.region ?_
  refine Wl.q (v := Value.string (⟨#[]⟩)) (q_assign rfl) ?_
  refine Wl.q (v := Value.int .i64 0) (q_assign rfl) ?_
  refine Wl.done ?_
  refine Wx.go ?_
  refine Wc.seq ?_
  refine Wc.seq ?_
  refine Wc.region ?_
  refine Wl.q (v := Value.int .i64 n) (q_move rfl) ?_
  by_cases h0 : n < 0
  ·
    refine Wl.q (v := Value.bool true) (q_lss (r := true) rfl rfl (decide_eq_true h0)) ?_
    refine Wl.done ?_
    refine Wx.go ?_
    refine Wc.yes rfl ?_
    refine Wc.seq ?_
    refine Wc.region ?_
    refine Wl.q (v := Value.string (⟨#[]⟩)) (q_assign rfl) ?_
    refine Wl.q (v := Value.int .i64 1) (q_assign rfl) ?_
    refine Wl.done ?_
    refine Wx.go ?_
    refine Wc.ret ?_
    refine Wx.thenRet ?_
    refine Wx.fin2 rfl (.inl rfl) (fun w hs => ?_)
    have e : listW n = (1, []) := if_pos h0
    exact ⟨(), trivial, by rw [e]; rfl, hs⟩
  ·
    refine Wl.q (v := Value.bool false) (q_lss (r := false) rfl rfl (decide_eq_false h0)) ?_
    refine Wl.done ?_
    refine Wx.go ?_
    refine Wc.no rfl ?_
    refine Wc.skip ?_
    refine Wx.go ?_
    refine Wc.seq ?_
    refine Wc.seq ?_
    refine Wc.region ?_
    refine Wl.q (v := Value.int .i64 n) (q_move rfl) ?_
    by_cases h9 : n > 65536
    ·
      refine Wl.q (v := Value.bool true) (q_gtr (r := true) rfl rfl (decide_eq_true h9)) ?_
      refine Wl.done ?_
      refine Wx.go ?_
      refine Wc.yes rfl ?_
      refine Wc.seq ?_
      refine Wc.region ?_
      refine Wl.q (v := Value.string (⟨#[]⟩)) (q_assign rfl) ?_
      refine Wl.q (v := Value.int .i64 3) (q_assign rfl) ?_
      refine Wl.done ?_
      refine Wx.go ?_
      refine Wc.ret ?_
      refine Wx.thenRet ?_
      refine Wx.fin2 rfl (.inl rfl) (fun w hs => ?_)
      have e : listW n = (3, []) := by rw [listW, if_neg h0, if_pos h9]
      exact ⟨(), trivial, by rw [e]; rfl, hs⟩
    ·
      refine Wl.q (v := Value.bool false) (q_gtr (r := false) rfl rfl (decide_eq_false h9)) ?_
      refine Wl.done ?_
      refine Wx.go ?_
      refine Wc.no rfl ?_
      refine Wc.skip ?_
      refine Wx.go ?_
      refine Wc.seq ?_
      refine Wc.region ?_
      refine Wl.q (v := Value.string (⟨#[]⟩ : ByteArray)) (q_move rfl) ?_
      refine Wl.q (v := Value.int .i64 n) (q_move rfl) ?_
      refine Wl.e (e_call (F := F) (args := [Value.string (⟨#[]⟩ : ByteArray), Value.int .i64 n]) Try.call36 rfl (refnum_c W0 n (by omega) (by omega))) (fun _ _ => ?_)
      refine Wl.imp (L' := F) (fun _ h => h) ?_
      refine Wl.q (v := Value.string (ba (enc (zz n)))) (q_assign rfl) ?_
      refine Wl.q (v := Value.int .i64 0) (q_assign rfl) ?_
      refine Wl.done ?_
      refine Wx.go ?_
      refine Wc.ret ?_
      refine Wx.fin2 rfl (.inl rfl) (fun w hs => ?_)
      have e : listW n = (0, enc (zz n)) := by rw [listW, if_neg h0, if_neg h9]
      exact ⟨(), trivial, by rw [e]; rfl, hs⟩

theorem written_c (W0 : World) (x : ItemR) (hn : -9223372036854775808 ≤ x.n ∧ x.n ≤ 9223372036854775807) :
    Con Try.prog W0 20 #[Value.string (⟨#[]⟩ : ByteArray), Value.agg #[Value.int .i64 x.kind, Value.int .i64 x.n, Value.string x.s]] [] (X := Unit) (fun _ => True) (fun _ => .tuple #[.string (ba (itemW x).2), .int .i64 (itemW x).1]) (fun _ => []) := by
  refine Con.of (args := [Value.string (⟨#[]⟩ : ByteArray), Value.agg #[Value.int .i64 x.kind, Value.int .i64 x.n, Value.string x.s]]) Try.func20 rfl Try.ntmps20 rfl (fun F => ?_)
  show Wc _ W0 _ _ _ _ _ (F)
  refine Wc.seq ?_
  refine Wc.region ?_
  refine Wl.e (e_box (x := .tmp 1) (vs := [Value.int .i64 x.kind, Value.int .i64 x.n, Value.string x.s]) rfl) (fun b1 _ => ?_)
  refine Wl.imp (L' := (pt b1 44 [Value.int .i64 x.kind, Value.int .i64 x.n, Value.string x.s]) :: F) (fun _ h => h) ?_
  refine Wl.q (v := Value.string (⟨#[]⟩)) (q_assign rfl) ?_
  refine Wl.q (v := Value.int .i64 0) (q_assign rfl) ?_
  refine Wl.done ?_
  refine Wx.go ?_
  refine Wc.seq ?_
  refine Wc.seq ?_
  refine Wc.region ?_
  refine Wl.q (v := Value.pointer (some ⟨b1, 0, none⟩)) (q_field (m := 0) fo_44_0 rfl rfl) ?_
  refine Wl.q (v := Value.int .i64 x.kind) (q_load sc_3 rfl (.cel (i := 0) rfl rfl)) ?_
  refine Wl.done ?_
  refine Wx.go ?_
  refine Wc.block ?_
  refine Wc.seq ?_
  refine Wc.region ?_
  by_cases hk0 : x.kind = 0
  ·
    refine Wl.q (v := Value.bool true) (q_eql (r := true) rfl rfl (decide_eq_true hk0)) ?_
    refine Wl.q (v := Value.bool true) (q_assign rfl) ?_
    refine Wl.done ?_
    refine Wx.go ?_
    refine Wc.yes rfl ?_
    refine Wc.seq ?_
    refine Wc.region ?_
    refine Wl.q (v := Value.string (⟨#[]⟩ : ByteArray)) (q_move rfl) ?_
    refine Wl.q (v := Value.pointer (some ⟨b1, 1, none⟩)) (q_field (m := 1) fo_44_1 rfl rfl) ?_
    refine Wl.q (v := Value.int .i64 x.n) (q_load sc_2 rfl (.cel (i := 0) rfl rfl)) ?_
    refine Wl.e (e_call (F := (pt b1 44 [Value.int .i64 x.kind, Value.int .i64 x.n, Value.string x.s]) :: F) (args := [Value.string (⟨#[]⟩ : ByteArray), Value.int .i64 x.n]) Try.call35 rfl (refbyte_c W0 x.n hn.1 hn.2)) (fun _ _ => ?_)
    refine Wl.imp (L' := (pt b1 44 [Value.int .i64 x.kind, Value.int .i64 x.n, Value.string x.s]) :: F) (fun _ h => h) ?_
    refine Wl.q (v := Value.string (ba (byteW x.n).2)) (q_extract (i := 0) rfl rfl) ?_
    refine Wl.q (v := Value.int .i64 ((byteW x.n).1)) (q_extract (i := 1) rfl rfl) ?_
    refine Wl.q (v := Value.string (ba (byteW x.n).2)) (q_assign rfl) ?_
    refine Wl.q (v := Value.int .i64 ((byteW x.n).1)) (q_assign rfl) ?_
    refine Wl.done ?_
    refine Wx.go ?_
    refine Wc.ret ?_
    refine Wx.blockRet ?_
    refine Wx.thenRet ?_
    refine Wx.fin2 rfl (.inl rfl) (fun w hs => ?_)
    unfold itemW
    rw [if_pos hk0]
    exact ⟨(), trivial, rfl, (st_drop (st_pull [0] hs))⟩
  ·
    refine Wl.q (v := Value.bool false) (q_eql (r := false) rfl rfl (decide_eq_false hk0)) ?_
    refine Wl.q (v := Value.bool false) (q_assign rfl) ?_
    refine Wl.done ?_
    refine Wx.go ?_
    refine Wc.no rfl ?_
    refine Wc.seq ?_
    refine Wc.region ?_
    by_cases hk1 : x.kind = 1
    ·
      refine Wl.q (v := Value.bool true) (q_eql (r := true) rfl rfl (decide_eq_true hk1)) ?_
      refine Wl.q (v := Value.bool true) (q_assign rfl) ?_
      refine Wl.done ?_
      refine Wx.go ?_
      refine Wc.yes rfl ?_
      refine Wc.seq ?_
      refine Wc.region ?_
      refine Wl.q (v := Value.string (⟨#[]⟩ : ByteArray)) (q_move rfl) ?_
      refine Wl.q (v := Value.pointer (some ⟨b1, 1, none⟩)) (q_field (m := 1) fo_44_1 rfl rfl) ?_
      refine Wl.q (v := Value.int .i64 x.n) (q_load sc_2 rfl (.cel (i := 0) rfl rfl)) ?_
      refine Wl.e (e_call (F := (pt b1 44 [Value.int .i64 x.kind, Value.int .i64 x.n, Value.string x.s]) :: F) (args := [Value.string (⟨#[]⟩ : ByteArray), Value.int .i64 x.n]) Try.call36 rfl (refnum_c W0 x.n hn.1 hn.2)) (fun _ _ => ?_)
      refine Wl.imp (L' := (pt b1 44 [Value.int .i64 x.kind, Value.int .i64 x.n, Value.string x.s]) :: F) (fun _ h => h) ?_
      refine Wl.q (v := Value.string (ba (enc (zz x.n)))) (q_assign rfl) ?_
      refine Wl.q (v := Value.int .i64 0) (q_assign rfl) ?_
      refine Wl.done ?_
      refine Wx.go ?_
      refine Wc.ret ?_
      refine Wx.blockRet ?_
      refine Wx.thenRet ?_
      refine Wx.fin2 rfl (.inl rfl) (fun w hs => ?_)
      unfold itemW
      rw [if_neg hk0, if_pos hk1]
      exact ⟨(), trivial, rfl, (st_drop (st_pull [0] hs))⟩
    ·
      refine Wl.q (v := Value.bool false) (q_eql (r := false) rfl rfl (decide_eq_false hk1)) ?_
      refine Wl.q (v := Value.bool false) (q_assign rfl) ?_
      refine Wl.done ?_
      refine Wx.go ?_
      refine Wc.no rfl ?_
      refine Wc.seq ?_
      refine Wc.region ?_
      by_cases hk2 : x.kind = 2
      ·
        refine Wl.q (v := Value.bool true) (q_eql (r := true) rfl rfl (decide_eq_true hk2)) ?_
        refine Wl.q (v := Value.bool true) (q_assign rfl) ?_
        refine Wl.done ?_
        refine Wx.go ?_
        refine Wc.yes rfl ?_
        refine Wc.seq ?_
        refine Wc.region ?_
        refine Wl.q (v := Value.string (⟨#[]⟩ : ByteArray)) (q_move rfl) ?_
        refine Wl.q (v := Value.pointer (some ⟨b1, 1, none⟩)) (q_field (m := 1) fo_44_1 rfl rfl) ?_
        refine Wl.q (v := Value.int .i64 x.n) (q_load sc_2 rfl (.cel (i := 0) rfl rfl)) ?_
        by_cases hpos : x.n > 0
        ·
          refine Wl.q (v := Value.bool true) (q_gtr (r := true) rfl rfl (decide_eq_true hpos)) ?_
          refine Wl.e (e_call (F := (pt b1 44 [Value.int .i64 x.kind, Value.int .i64 x.n, Value.string x.s]) :: F) (args := [Value.string (⟨#[]⟩ : ByteArray), Value.bool true]) Try.call37 rfl (refflag_t W0)) (fun _ _ => ?_)
          refine Wl.imp (L' := (pt b1 44 [Value.int .i64 x.kind, Value.int .i64 x.n, Value.string x.s]) :: F) (fun _ h => h) ?_
          refine Wl.q (v := Value.string (ba (byteW 1).2)) (q_assign rfl) ?_
          refine Wl.q (v := Value.int .i64 0) (q_assign rfl) ?_
          refine Wl.done ?_
          refine Wx.go ?_
          refine Wc.ret ?_
          refine Wx.blockRet ?_
          refine Wx.thenRet ?_
          refine Wx.fin2 rfl (.inl rfl) (fun w hs => ?_)
          unfold itemW
          rw [if_neg hk0, if_neg hk1, if_pos hk2, if_pos hpos]
          exact ⟨(), trivial, rfl, (st_drop (st_pull [0] hs))⟩
        ·
          refine Wl.q (v := Value.bool false) (q_gtr (r := false) rfl rfl (decide_eq_false hpos)) ?_
          refine Wl.e (e_call (F := (pt b1 44 [Value.int .i64 x.kind, Value.int .i64 x.n, Value.string x.s]) :: F) (args := [Value.string (⟨#[]⟩ : ByteArray), Value.bool false]) Try.call37 rfl (refflag_f W0)) (fun _ _ => ?_)
          refine Wl.imp (L' := (pt b1 44 [Value.int .i64 x.kind, Value.int .i64 x.n, Value.string x.s]) :: F) (fun _ h => h) ?_
          refine Wl.q (v := Value.string (ba (byteW 0).2)) (q_assign rfl) ?_
          refine Wl.q (v := Value.int .i64 0) (q_assign rfl) ?_
          refine Wl.done ?_
          refine Wx.go ?_
          refine Wc.ret ?_
          refine Wx.blockRet ?_
          refine Wx.thenRet ?_
          refine Wx.fin2 rfl (.inl rfl) (fun w hs => ?_)
          unfold itemW
          rw [if_neg hk0, if_neg hk1, if_pos hk2, if_neg hpos]
          exact ⟨(), trivial, rfl, (st_drop (st_pull [0] hs))⟩
      ·
        refine Wl.q (v := Value.bool false) (q_eql (r := false) rfl rfl (decide_eq_false hk2)) ?_
        refine Wl.q (v := Value.bool false) (q_assign rfl) ?_
        refine Wl.done ?_
        refine Wx.go ?_
        refine Wc.no rfl ?_
        refine Wc.seq ?_
        refine Wc.region ?_
        by_cases hk3 : x.kind = 3
        ·
          refine Wl.q (v := Value.bool true) (q_eql (r := true) rfl rfl (decide_eq_true hk3)) ?_
          refine Wl.q (v := Value.bool true) (q_assign rfl) ?_
          refine Wl.done ?_
          refine Wx.go ?_
          refine Wc.yes rfl ?_
          refine Wc.seq ?_
          refine Wc.region ?_
          refine Wl.q (v := Value.pointer (some ⟨b1, 2, none⟩)) (q_field (m := 2) fo_44_2 rfl rfl) ?_
          refine Wl.q (v := Value.string x.s) (q_load sc_9 rfl (.cel (i := 0) rfl rfl)) ?_
          refine Wl.e (e_call (F := (pt b1 44 [Value.int .i64 x.kind, Value.int .i64 x.n, Value.string x.s]) :: F) (args := [Value.string (⟨#[]⟩), Value.string x.s]) Try.call38 rfl (reftext_c W0 x.s)) (fun _ _ => ?_)
          refine Wl.imp (L' := (pt b1 44 [Value.int .i64 x.kind, Value.int .i64 x.n, Value.string x.s]) :: F) (fun _ h => h) ?_
          refine Wl.q (v := Value.tuple #[Value.string (ba (textW x.s).2), Value.int .i64 ((textW x.s).1)]) (q_move rfl) ?_
          refine Wl.q (v := Value.string (ba (textW x.s).2)) (q_extract (i := 0) rfl rfl) ?_
          refine Wl.q (v := Value.int .i64 ((textW x.s).1)) (q_extract (i := 1) rfl rfl) ?_
          refine Wl.q (v := Value.string (ba (textW x.s).2)) (q_assign rfl) ?_
          refine Wl.q (v := Value.int .i64 ((textW x.s).1)) (q_assign rfl) ?_
          refine Wl.done ?_
          refine Wx.go ?_
          refine Wc.seq ?_
          refine Wc.region ?_
          refine Wl.q (v := Value.string (⟨#[]⟩ : ByteArray)) (q_move rfl) ?_
          refine Wl.q (v := Value.string (ba (textW x.s).2)) (q_move rfl) ?_
          refine Wl.q (v := Value.string (ba (textW x.s).2)) (q_cat (z := (ba (textW x.s).2)) rfl rfl (by exact nilb (by rw [ba_size]; have := textW_len x.s; omega)) (nil_cat _)) ?_
          refine Wl.q (v := Value.int .i64 ((textW x.s).1)) (q_move rfl) ?_
          refine Wl.q (v := Value.string (ba (textW x.s).2)) (q_assign rfl) ?_
          refine Wl.q (v := Value.int .i64 ((textW x.s).1)) (q_assign rfl) ?_
          refine Wl.done ?_
          refine Wx.go ?_
          refine Wc.ret ?_
          refine Wx.blockRet ?_
          refine Wx.thenRet ?_
          refine Wx.fin2 rfl (.inl rfl) (fun w hs => ?_)
          unfold itemW
          rw [if_neg hk0, if_neg hk1, if_neg hk2, if_pos hk3]
          exact ⟨(), trivial, rfl, (st_drop (st_pull [0] hs))⟩
        ·
          refine Wl.q (v := Value.bool false) (q_eql (r := false) rfl rfl (decide_eq_false hk3)) ?_
          refine Wl.q (v := Value.bool false) (q_assign rfl) ?_
          refine Wl.done ?_
          refine Wx.go ?_
          refine Wc.no rfl ?_
          refine Wc.skip ?_
          refine Wx.blockEnd ?_
          refine Wx.go ?_
          refine Wc.seq ?_
          refine Wc.region ?_
          refine Wl.q (v := Value.string (⟨#[]⟩ : ByteArray)) (q_move rfl) ?_
          refine Wl.q (v := Value.pointer (some ⟨b1, 1, none⟩)) (q_field (m := 1) fo_44_1 rfl rfl) ?_
          refine Wl.q (v := Value.int .i64 x.n) (q_load sc_2 rfl (.cel (i := 0) rfl rfl)) ?_
          refine Wl.e (e_call (F := (pt b1 44 [Value.int .i64 x.kind, Value.int .i64 x.n, Value.string x.s]) :: F) (args := [Value.string (⟨#[]⟩ : ByteArray), Value.int .i64 x.n]) Try.call39 rfl (reflist_c W0 x.n)) (fun _ _ => ?_)
          refine Wl.imp (L' := (pt b1 44 [Value.int .i64 x.kind, Value.int .i64 x.n, Value.string x.s]) :: F) (fun _ h => h) ?_
          refine Wl.q (v := Value.string (ba (listW x.n).2)) (q_extract (i := 0) rfl rfl) ?_
          refine Wl.q (v := Value.int .i64 ((listW x.n).1)) (q_extract (i := 1) rfl rfl) ?_
          refine Wl.q (v := Value.string (ba (listW x.n).2)) (q_assign rfl) ?_
          refine Wl.q (v := Value.int .i64 ((listW x.n).1)) (q_assign rfl) ?_
          refine Wl.done ?_
          refine Wx.go ?_
          refine Wc.ret ?_
          refine Wx.fin2 rfl (.inl rfl) (fun w hs => ?_)
          unfold itemW
          rw [if_neg hk0, if_neg hk1, if_neg hk2, if_neg hk3]
          exact ⟨(), trivial, rfl, (st_drop (st_pull [0] hs))⟩

end Go.Proofs.Ytlbanhhdoiidnaa
