/- A part of the proof. -/
import Derived.Test.YtjnejkdamhefgaaGreatDoorWrE
namespace Go.Proofs.YtjnejkdamhefgaaGreatDoor
open Tryz
open Go Go.SL Go.Wr Go.RowKit
open Go.Dk (beyondF beyondB beyond_step beyond_le beyond_one beyond_two)
set_option linter.unusedVariables false
set_option maxRecDepth 8000
theorem wlist_neg (W0 : World) (q : Nat) (l : List UInt8) (n : Int) (sv : Value) (hn : n < 0) :
  Con1 prog W0 155 #[Vp q, Vi n] [pt q 428 [Vt, sv], sl 5 1 sv l.length (l.map u8v)] (.int .i64 1) ([pt q 428 [Vt, sv], sl 5 1 sv l.length (l.map u8v)]) := by
 refine Con.of func155 rfl ntmps155 rfl (fun F => ?_)
 show Wc _ W0 _ _ _ _ _ ((pt q 428 [Vt, sv]) :: (sl 5 1 sv l.length (l.map u8v)) :: F)
 refine Wc.a 1 rfl (Wc.seq (Wc.block (Wc.b 1 rfl (Wl.e (e_c call258 (wthere_yes W0 q (sv))) (fun _ _ => Wl.q (q_not rfl rfl) (Wl.rg 1 rfl (Wc.no rfl (Wc.b 1 rfl (Wl.q (q_lss rfl rfl (dt (hn))) (Wl.rg 1 rfl (Wc.yes rfl (Wc.a 1 rfl (Wc.ret (Wx.blockRet (Wx.thenRet (Wx.f1 rfl (fun w hs => ?_)))))))))))))))))
 exact ⟨(), trivial, rfl, hs⟩
theorem wlist_big (W0 : World) (q : Nat) (l : List UInt8) (n : Int) (sv : Value) (h0 : 0 ≤ n) (hn : 65536 < n) :
  Con1 prog W0 155 #[Vp q, Vi n] [pt q 428 [Vt, sv], sl 5 1 sv l.length (l.map u8v)] (.int .i64 3) ([pt q 428 [Vt, sv], sl 5 1 sv l.length (l.map u8v)]) := by
 refine Con.of func155 rfl ntmps155 rfl (fun F => ?_)
 show Wc _ W0 _ _ _ _ _ ((pt q 428 [Vt, sv]) :: (sl 5 1 sv l.length (l.map u8v)) :: F)
 refine Wc.a 1 rfl (Wc.seq (Wc.block (Wc.b 1 rfl (Wl.e (e_c call258 (wthere_yes W0 q (sv))) (fun _ _ => Wl.q (q_not rfl rfl) (Wl.rg 1 rfl (Wc.no rfl (Wc.b 1 rfl (Wl.q (q_lss rfl rfl (df (by omega))) (Wl.rg 1 rfl (Wc.no rfl (Wc.b 1 rfl (Wl.q (q_gtr rfl rfl (dt (hn))) (Wl.rg 1 rfl (Wc.yes rfl (Wc.a 1 rfl (Wc.ret (Wx.blockRet (Wx.thenRet (Wx.f1 rfl (fun w hs => ?_)))))))))))))))))))))
 exact ⟨(), trivial, rfl, hs⟩
theorem wlist_o (W0 : World) (q : Nat) (l : List UInt8) (n : Int) (sv : Value) (h0 : 0 ≤ n) (hn : n ≤ 65536) (hl : l.length < 100000000000000) :
  Con prog W0 155 #[Vp q, Vi n] [pt q 428 [Vt, sv], sl 5 1 sv l.length (l.map u8v)] (X := Value) (fun _ => True) (fun _ => .int .i64 0) (fun v => [pt q 428 [Vt, v], sl 5 1 v ((l ++ enc (zz n)).length) ((l ++ enc (zz n)).map u8v)]) := by
 refine Con.of func155 rfl ntmps155 rfl (fun F => ?_)
 show Wc _ W0 _ _ _ _ _ ((pt q 428 [Vt, sv]) :: (sl 5 1 sv l.length (l.map u8v)) :: F)
 refine Wc.a 1 rfl (Wc.seq (Wc.block (Wc.b 1 rfl (Wl.e (e_c call258 (wthere_yes W0 q (sv))) (fun _ _ => Wl.imp (L' := (pt q 428 [Vt, sv]) :: (sl 5 1 sv l.length (l.map u8v)) :: F) (fun _ h => h) (Wl.q (q_not rfl rfl) (Wl.rg 1 rfl (Wc.no rfl (Wc.b 1 rfl (Wl.q (q_lss rfl rfl (df (by omega))) (Wl.rg 1 rfl (Wc.no rfl (Wc.b 1 rfl (Wl.q (q_gtr rfl rfl (df (by omega))) (Wl.rg 1 rfl (Wc.no rfl (Wc.skip (Wx.blockEnd (Wx.go (Wc.b 2 rfl (Wl.e (e_c call259 (wnumber_o W0 q l n sv (by omega) (by omega) hl)) (fun v1 _ => Wl.rg 1 rfl (Wc.ret ?_)))))))))))))))))))))))
 refine Wx.f1 rfl (fun w hs => ?_)
 exact ⟨v1, trivial, rfl, hs⟩
theorem wlist_c (W0 : World) (q : Nat) (l : List UInt8) (n : Int) (hl : l.length < 50000000000000) :
    Con1 prog W0 155 #[Vp q, Vi n] [isW q l] (.int .i64 (listW n).1) [isW q (l ++ (listW n).2)] := Con.wr fun sv => by
  by_cases h0 : n < 0
  · have e : listW n = (1, []) := if_pos h0
    rw [e]; exact (wlist_neg W0 q l n sv h0).mono fun _ _ => ⟨(), trivial, rfl, fun _ _ h => isW_mk (by rw [List.append_nil]; exact h)⟩
  by_cases h1 : n > 65536
  · have e : listW n = (3, []) := by rw [listW, if_neg h0, if_pos h1]
    rw [e]; exact (wlist_big W0 q l n sv (by omega) h1).mono fun _ _ => ⟨(), trivial, rfl, fun _ _ h => isW_mk (by rw [List.append_nil]; exact h)⟩
  have e : listW n = (0, enc (zz n)) := by rw [listW, if_neg h0, if_neg h1]
  rw [e]; exact (wlist_o W0 q l n sv (by omega) (by omega) (by omega)).mono fun _ _ => ⟨(), trivial, rfl, fun _ _ h => isW_mk h⟩
theorem wtextW_c (W0 : World) (q : Nat) (l : List UInt8) (s : ByteArray) (hl : l.length < 50000000000000) :
    Con1 prog W0 156 #[Vp q, Vs s] [isW q l] (.int .i64 (textW s).1) [isW q (l ++ (textW s).2)] := Con.wr fun sv => by
  by_cases h0 : 65536 < s.size
  · have e : textW s = (3, []) := if_pos h0
    rw [e]; exact (wtext_big W0 q l s sv h0).mono fun _ _ => ⟨(), trivial, rfl, fun _ _ h => isW_mk (by rw [List.append_nil]; exact h)⟩
  have e : textW s = (0, enc (zz (s.size : Int)) ++ s.data.toList) := if_neg h0
  rw [e]; exact (wtext_o W0 q l s sv (by omega) (by omega)).mono fun _ _ => ⟨(), trivial, rfl, fun _ _ h => isW_mk (by rw [← List.append_assoc]; exact h)⟩
end Go.Proofs.YtjnejkdamhefgaaGreatDoor
namespace Go.SL
open Go Go.RowKit
section
variable {P : Program} {W0 : World} {E : Nat → Value} {L : List HP} {x : Operand} {ty : TypeId}
theorem q_str_sl {src dst e e' n i : Nat} {v : Value} {xs : List Value} {l : List UInt8} (hs : P.underlying src = some (.slice e)) (he : P.underlying e = some (.int .u8)) (hd : P.underlying dst = some .string)
    (hx : evE E x = v) (hi : L[i]? = some (sl e' 1 v n xs)) (hxs : xs = l.map fun c => Value.int .u8 ((c.toNat : Nat) : Int)) : Quiet P W0 E L (.convert src dst x) ty (.string ⟨l.toArray⟩) := fun w d pos aft g hst => by
  subst hxs
  rcases st_sl_cases (st_at hst hi) with ⟨e1, _, e3⟩ | ⟨b, cap, e1, _, hl, hs2⟩
  · subst e1
    obtain rfl : l = [] := by cases l with
      | nil => rfl
      | cons a l => simp at e3
    exact (q_str_nil hs he hd hx) w d pos aft g hst
  · have hn : l.length = n := by simpa using hl
    exact q_str_of (L := slp e' 1 b cap (l.map fun c => Value.int .u8 ((c.toNat : Nat) : Int)) :: L.eraseIdx i) hs he hd (hx.trans e1) hn (fun j u hj => .row (i := 0) rfl (by rw [Nat.zero_add]; exact hj)) w d pos aft g hs2
end
end Go.SL
namespace Go.Wr
open Go Go.SL
theorem nil_cat (s : ByteArray) : (⟨#[]⟩ : ByteArray) ++ s = s := by
 apply congrArg ByteArray.mk (a₁ := ((⟨#[]⟩ : ByteArray) ++ s).data) (a₂ := s.data)
 apply Array.ext'
 simp
theorem nilb {s : ByteArray} (h : s.size ≤ 9223372036854775807) : (⟨#[]⟩ : ByteArray).size + s.size ≤ 9223372036854775807 := by
 rw [show (⟨#[]⟩ : ByteArray).size = 0 from rfl, Nat.zero_add]; exact h
theorem ba_app (l : List UInt8) (s : ByteArray) : ba l ++ s = ba (l ++ s.data.toList) := by
 have : s = ba s.data.toList := by simp [ba]
 exact (congrArg (ba l ++ ·) this).trans (ba_cat l _)
theorem zz_mul {n : Int} (h0 : n ≥ 0) (h2 : n ≤ 9223372036854775807) : IntKind.u64.wrap (n * 2) = ((zz n : Nat) : Int) := by
 rw [wrap_u64 (by omega) (by omega)]; unfold zz; rw [if_pos h0]; omega
theorem zz_add {n : Int} (h0 : ¬ n ≥ 0) (h1 : -9223372036854775808 ≤ n) : IntKind.u64.wrap (-(n + 1) * 2 + 1) = ((zz n : Nat) : Int) := by
 rw [wrap_u64 (by omega) (by omega)]; unfold zz; rw [if_neg (by omega)]; omega
theorem textW_len (s : ByteArray) : (textW s).2.length ≤ 65546 := by
  unfold textW; split
  · simp
  · have := enc_len_le 9 _ (Nat.lt_trans (zz_lt (n := (s.size : Int)) (by omega) (by omega)) (by decide))
    simp only [List.length_append, Array.length_toList]
    have : s.data.size = s.size := rfl
    omega
end Go.Wr
namespace Go.Proofs.YtjnejkdamhefgaaGreatDoor
open Tryz
open Go Go.SL Go.Wr Go.RowKit
open Go.Dk (beyondF beyondB beyond_step beyond_le beyond_one beyond_two)
set_option linter.unusedVariables false
set_option maxRecDepth 8000
theorem zigzag_c (W0 : World) (n : Int) (h1 : -9223372036854775808 ≤ n) (h2 : n ≤ 9223372036854775807) :
  Con1 prog W0 318 #[Vi n] [] (.int .u64 ((zz n : Nat) : Int)) [] := by
 refine Con.of func318 rfl ntmps318 rfl (fun F => ?_)
 show Wc _ W0 _ _ _ _ _ (F)
 refine Wc.a 1 rfl (Wc.seq (Wc.b 1 rfl ?_))
 by_cases hge : n ≥ 0
 ·
  refine Wl.q (q_geq rfl rfl (dt hge)) (Wl.dg (Wc.yes rfl (Wc.b 1 rfl (Wl.q (q_conv_int (c := n) underlying457 (by rw [underlying2]; rfl) rfl (wrap_u64 (by omega) (by omega))) (Wl.q (q_mul (c := ((zz n : Nat) : Int)) rfl rfl (zz_mul hge h2)) (Wl.rg 1 rfl (Wc.ret (Wx.thenRet (Wx.f1 rfl (fun w hs => ?_))))))))))
  exact ⟨(), trivial, rfl, hs⟩
 ·
  refine Wl.q (q_geq rfl rfl (df hge)) (Wl.dg (Wc.no rfl (Wc.skip (Wx.go (Wc.b 1 rfl (Wl.q (q_add (c := (n + 1)) rfl rfl (wrap_i64 (by omega) (by omega))) (Wl.q (q_neg (c := (-(n + 1))) rfl (wrap_i64 (by omega) (by omega))) (Wl.q (q_conv_int (c := (-(n + 1))) underlying457 (by rw [underlying2]; rfl) rfl (wrap_u64 (by omega) (by omega))) (Wl.q (q_mul (c := (-(n + 1) * 2)) rfl rfl (wrap_u64 (by omega) (by omega))) (Wl.q (q_add (c := ((zz n : Nat) : Int)) rfl rfl (zz_add hge h1)) (Wl.rg 1 rfl (Wc.ret (Wx.f1 rfl (fun w hs => ?_))))))))))))))
  exact ⟨(), trivial, rfl, hs⟩
theorem refnum_c (W0 : World) (n : Int) (h1 : -9223372036854775808 ≤ n) (h2 : n ≤ 9223372036854775807) :
    Con1 prog W0 305 #[Vs (⟨#[]⟩ : ByteArray), Vi n] [] (.string (ba (enc (zz n)))) [] := by
  refine Con.of func305 rfl ntmps305 rfl (fun F => ?_)
  show Wc _ W0 _ _ _ _ _ (F)
  refine Wc.a 1 rfl (Wc.b 1 rfl (Wl.e (e_c call318 (zigzag_c W0 n h1 h2)) (fun _ _ => Wl.rg 1 rfl (Wc.a 1 rfl (Wc.seq (Wc.block ?_))))))
  refine Wc.loop (X := Nat × Value × List UInt8) (fun (z, v, m) E => E 5 = Value.int .u64 ((z : Nat) : Int) ∧ E 6 = v ∧ E 0 = Vs (⟨#[]⟩ : ByteArray) ∧ m ++ enc z = enc (zz n) ∧ z < 18446744073709551616) (fun (z, v, m) => (sl 5 1 v m.length (m.map u8v)) :: F) (fun (z, v, m) => z) (zz n, Vn, []) ?_ ?_ ?_
  · exact ⟨rfl, rfl, rfl, rfl, (zz_lt h1 h2)⟩
  · exact fun w hs => st_sl_nil hs
  · rintro ⟨z, v, m⟩ E2 ⟨hE5_0, hE6_0, hE0_0, hp0, hz⟩
    dsimp only at *
    have hml : m.length ≤ 10 := by have e := congrArg List.length hp0; have e2 := enc_len_le 9 (zz n) (Nat.lt_trans (zz_lt h1 h2) (by decide)); have e3 := enc_ne z; simp only [List.length_append] at e; omega
    refine Wc.seq (Wc.sr (Wl.q (v := Value.int .u64 ((z : Nat) : Int)) (q_move hE5_0) ?_))
    by_cases hgt : ((z : Nat) : Int) ≥ 128
    ·
      refine Wl.q (q_geq rfl rfl (dt hgt)) (Wl.dg (Wc.yes rfl (Wc.skip (Wx.go (Wc.block (Wc.sr (Wl.q (v := v) (q_move hE6_0) (Wl.q (v := Value.int .u64 ((z : Nat) : Int)) (q_move hE5_0) (Wl.q (q_rem (c := ((z % 128 : Nat) : Int)) rfl rfl (by decide) (by rw [Int.tmod_eq_emod_of_nonneg (by omega)]; omega)) (Wl.q (q_add (c := ((z % 128 + 128 : Nat) : Int)) rfl rfl (wrap_u64 (by omega) (by omega))) (Wl.q (q_conv_int (c := ((z % 128 + 128 : Nat) : Int)) underlying5 (by rw [underlying457]; rfl) rfl (by rw [conv8]; omega)) (Wl.e (e_buildSlice (cs := [Value.int .u8 ((z % 128 + 128 : Nat) : Int)]) se_105 zo_5 (by decide) (by decide) (by kernel_rfl)) (fun b3 _ => Wl.e (e_append (i := 1) (k := 1) (m := 1) (off := 0) (news := [Value.int .u8 ((z % 128 + 128 : Nat) : Int)]) underlying105 sz_5 by_5 zo_5 rfl rfl rfl rfl rfl (Has.of_pt (i := 0) rfl rfl) rfl (by decide) (by simp only [maxLen]; omega) (by omega)) (fun v2 _ => Wl.rg 1 rfl (Wc.region (Wl.q (v := Value.int .u64 ((z : Nat) : Int)) (q_move hE5_0) (Wl.q (q_quo (c := ((z / 128 : Nat) : Int)) rfl rfl (by decide) (by rw [Int.tdiv_eq_ediv_of_nonneg (by omega), wrap_u64 (by omega) (by omega)]; omega)) (Wl.run 1 rfl (Wl.done (Wx.blockEnd ?_))))))))))))))))))))
      refine Wx.at (z / 128, v2, m ++ [UInt8.ofNat (z % 128 + 128)]) ⟨(by simp only; omega), rfl, rfl, hE0_0, (by rw [← hp0, enc_ge (show ¬ z < 128 by omega), List.append_assoc]; rfl), (by simp only; omega)⟩ (fun w hs => by simp only [List.length_append, List.length_singleton, u8_snoc m (show z % 128 + 128 < 256 by omega)]; exact (st_drop (st_pull [0] hs)))
    ·
      refine Wl.q (q_geq rfl rfl (df hgt)) (Wl.dg (Wc.no rfl (Wc.exit (Wx.thenExit (Wx.thenExit (Wx.out (Wx.go (Wc.sr (Wl.q (v := v) (q_move hE6_0) (Wl.q (v := Value.int .u64 ((z : Nat) : Int)) (q_move hE5_0) (Wl.q (q_conv_int (c := ((z : Nat) : Int)) underlying5 (by rw [underlying457]; rfl) rfl (by rw [conv8]; omega)) (Wl.e (e_buildSlice (cs := [Value.int .u8 ((z : Nat) : Int)]) se_105 zo_5 (by decide) (by decide) (by kernel_rfl)) (fun b4 _ => Wl.e (e_append (i := 1) (k := 1) (m := 1) (off := 0) (news := [Value.int .u8 ((z : Nat) : Int)]) underlying105 sz_5 by_5 zo_5 rfl rfl rfl rfl rfl (Has.of_pt (i := 0) rfl rfl) rfl (by decide) (by simp only [maxLen]; omega) (by omega)) (fun v3 _ => Wl.rg 1 rfl (Wc.sr (Wl.q (v := Vs (⟨#[]⟩ : ByteArray)) (q_move hE0_0) (Wl.run 1 rfl ?_)))))))))))))))))
      have e : ba (enc (zz n)) = ⟨(m ++ [UInt8.ofNat z]).toArray⟩ := by rw [← hp0, enc_lt (show z < 128 by omega)]; rfl
      refine Wl.q (e.symm ▸ q_str_sl (i := 1) (l := m ++ [UInt8.ofNat z]) underlying105 underlying5 underlying9 rfl rfl (u8_snoc m (show z < 256 by omega)).symm) (Wl.q (q_cat (z := (ba (enc (zz n)))) rfl rfl (by exact nilb (by rw [ba_size]; have := enc_len_le 9 (zz n) (Nat.lt_trans (zz_lt h1 h2) (by decide)); omega)) (nil_cat _)) (Wl.rg 1 rfl (Wc.ret (Wx.f1 rfl (fun w hs => ?_)))))
      exact ⟨(), trivial, rfl, (st_drop (st_drop (st_pull [0, 0] hs)))⟩
theorem reftext_c (W0 : World) (s : ByteArray) :
  Con1 prog W0 282 #[Vs (⟨#[]⟩ : ByteArray), Vs s] [] (.tuple #[.string (ba (textW s).2), .int .i64 (textW s).1]) [] := by
 refine Con.of func282 rfl ntmps282 rfl (fun F => ?_)
 show Wc _ W0 _ _ _ _ _ (F)
 refine Wc.a 2 rfl (Wc.seq (Wc.b 1 rfl (Wl.q (q_len_str underlying9 rfl) ?_)))
 by_cases hz0 : ((s.size : Nat) : Int) > 65536
 ·
  have h0 : 65536 < s.size := by omega
  refine Wl.q (q_gtr rfl rfl (dt hz0)) (Wl.dg (Wc.yes rfl (Wc.a 2 rfl (Wc.ret (Wx.thenRet (Wx.f2 rfl (fun w hs => ?_)))))))
  have e : textW s = (3, []) := if_pos h0
  exact ⟨(), trivial, by rw [e]; rfl, hs⟩
 ·
  have h0 : ¬ 65536 < s.size := by omega
  refine Wl.q (q_gtr rfl rfl (df hz0)) (Wl.dg (Wc.no rfl (Wc.skip (Wx.go (Wc.b 2 rfl (Wl.q (q_len_str underlying9 rfl) (Wl.e (e_c call305 (refnum_c W0 ((s.size : Nat) : Int) (by omega) (by omega))) (fun _ _ => Wl.run 1 rfl (Wl.q (q_cat (z := (ba (enc (zz ((s.size : Nat) : Int)) ++ s.data.toList))) rfl rfl (by (have := enc_len_le 9 (zz ((s.size : Nat) : Int)) (Nat.lt_trans (zz_lt (by omega) (by omega)) (by decide)); rw [ba_size]; omega)) (ba_app _ _)) (Wl.rg 2 rfl (Wc.ret (Wx.f2 rfl (fun w hs => ?_)))))))))))))
  have e : textW s = (0, enc (zz (s.size : Int)) ++ s.data.toList) := if_neg h0
  exact ⟨(), trivial, by rw [e]; rfl, hs⟩
theorem reflist_c (W0 : World) (n : Int) :
  Con1 prog W0 281 #[Vs (⟨#[]⟩ : ByteArray), Vi n] [] (.tuple #[.string (ba (listW n).2), .int .i64 (listW n).1]) [] := by
 refine Con.of func281 rfl ntmps281 rfl (fun F => ?_)
 show Wc _ W0 _ _ _ _ _ (F)
 refine Wc.a 2 rfl (Wc.seq (Wc.b 1 rfl ?_))
 by_cases h0 : n < 0
 ·
  refine Wl.q (q_lss rfl rfl (dt h0)) (Wl.dg (Wc.yes rfl (Wc.a 2 rfl (Wc.ret (Wx.thenRet (Wx.f2 rfl (fun w hs => ?_)))))))
  have e : listW n = (1, []) := if_pos h0
  exact ⟨(), trivial, by rw [e]; rfl, hs⟩
 ·
  refine Wl.q (q_lss rfl rfl (df h0)) (Wl.dg (Wc.no rfl (Wc.skip (Wx.go (Wc.seq (Wc.b 1 rfl ?_))))))
  by_cases h9 : n > 65536
  ·
   refine Wl.q (q_gtr rfl rfl (dt h9)) (Wl.dg (Wc.yes rfl (Wc.a 2 rfl (Wc.ret (Wx.thenRet (Wx.f2 rfl (fun w hs => ?_)))))))
   have e : listW n = (3, []) := by rw [listW, if_neg h0, if_pos h9]
   exact ⟨(), trivial, by rw [e]; rfl, hs⟩
  ·
   refine Wl.q (q_gtr rfl rfl (df h9)) (Wl.dg (Wc.no rfl (Wc.skip (Wx.go (Wc.b 2 rfl (Wl.e (e_c call305 (refnum_c W0 n (by omega) (by omega))) (fun _ _ => Wl.rg 2 rfl (Wc.ret (Wx.f2 rfl (fun w hs => ?_))))))))))
   have e : listW n = (0, enc (zz n)) := by rw [listW, if_neg h0, if_neg h9]
   exact ⟨(), trivial, by rw [e]; rfl, hs⟩
end Go.Proofs.YtjnejkdamhefgaaGreatDoor
namespace Go.Wr
open Go Go.SL
def takeList (s : ByteArray) (a : Nat) : Option (Nat × Nat) := match takeNum s a with
 | some p => if 0 ≤ p.1 ∧ p.1 ≤ 65536 then some (p.1.toNat, p.2) else none
 | none => none
def takeText (s : ByteArray) (a : Nat) : Option (ByteArray × Nat) := match takeList s a with
 | some p => if p.2 + p.1 ≤ s.size then some (s.extract p.2 (p.2 + p.1), p.2 + p.1) else none
 | none => none
def gv {α : Type} (d : α) : Option (α × Nat) → α
 | some p => p.1
 | none => d
def gn {α : Type} (a : Nat) : Option (α × Nat) → Nat
 | some p => p.2
 | none => a
def ge {α : Type} : Option (α × Nat) → Int
 | some _ => 0
 | none => 4
theorem get_some {s : ByteArray} {i : Nat} (h : i < s.size) : ∃ c, s[i]? = some c := ⟨s[i], getElem?_pos s i h⟩
theorem get_lt {s : ByteArray} {i : Nat} {c : UInt8} (h : s[i]? = some c) : i < s.size := by
 rcases Nat.lt_or_ge i s.size with h' | h'
 · exact h'
 · rw [getElem?_neg s i (by omega)] at h; cases h
theorem dec_le {s : ByteArray} {a : Nat} : ∀ (f i z : Nat) {p : Nat × Nat}, dec s a f i z = some p → p.2 ≤ s.size ∧ a + i < p.2
  | 0, _, _, _, h => by cases h
  | f + 1, i, z, p, h => by
    rw [dec] at h
    split at h
    · cases h
    · rename_i c hc
      have := get_lt hc
      split at h
      · cases h
      split at h
      · cases h; simp only; omega
      · have := dec_le f (i + 1) _ h; omega
theorem takeNum_le {s : ByteArray} {a : Nat} {p : Int × Nat} (h : takeNum s a = some p) : p.2 ≤ s.size ∧ a < p.2 := by
 unfold takeNum at h
 cases hd : dec s a 10 0 0 with
 | none => rw [hd] at h; cases h
 | some q => rw [hd] at h; cases h; have := dec_le _ _ _ hd; simp only; omega
theorem takeList_le {s : ByteArray} {a : Nat} {p : Nat × Nat} (h : takeList s a = some p) : p.2 ≤ s.size ∧ a < p.2 ∧ p.1 ≤ 65536 := by
  unfold takeList at h
  split at h
  · rename_i q hq
    split at h
    · cases h; have := takeNum_le hq; simp only; omega
    · cases h
  · cases h
theorem takeList_of {s : ByteArray} {a : Nat} {p : Nat × Nat} (h : takeList s a = some p) : takeNum s a = some ((p.1 : Int), p.2) := by
  unfold takeList at h
  split at h
  · rename_i q hq
    split at h
    · rename_i hr; cases h; rw [hq]; simp only; congr 1; ext <;> simp [Int.toNat_of_nonneg hr.1]
    · cases h
  · cases h
theorem un_odd {Z : Nat} (h : ((Z % 2 : Nat) : Int) = 1) : -((Z / 2 : Nat) : Int) - 1 = un Z := by
 unfold un; rw [if_neg (by omega)]
theorem un_even {Z : Nat} (h : ¬ ((Z % 2 : Nat) : Int) = 1) : ((Z / 2 : Nat) : Int) = un Z := by
 unfold un; rw [if_pos (by omega)]
theorem take_none {s : ByteArray} {a f i z : Nat} (h : dec s a 10 0 0 = dec s a f i z) (hn : dec s a f i z = none) : takeNum s a = none := by
 rw [takeNum, h, hn]; rfl
theorem take_some {s : ByteArray} {a f i z Z b : Nat} (h : dec s a 10 0 0 = dec s a f i z) (hn : dec s a f i z = some (Z, b)) : takeNum s a = some (un Z, b) := by
 rw [takeNum, h, hn]; rfl
theorem get_list (s : ByteArray) (i : Nat) : s[i]? = s.data.toList[i]? := by
 by_cases h : i < s.size
 · rw [getElem?_pos s i h, List.getElem?_eq_getElem (by simpa using h)]; rfl
 · rw [getElem?_neg s i h, List.getElem?_eq_none (by simp only [Array.length_toList]; exact Nat.le_of_not_lt h)]
theorem size_list (s : ByteArray) : s.data.toList.length = s.size := by rw [Array.length_toList]; rfl
theorem drop_take {α : Type} {l : List α} {i n : Nat} {c : α} (h : l[i]? = some c) : (l.drop i).take (n + 1) = c :: (l.drop (i + 1)).take n := by
 obtain ⟨hl, he⟩ := List.getElem?_eq_some_iff.1 h
 rw [List.drop_eq_getElem_cons hl, List.take_succ_cons, he]
theorem pow_nx {z c i : Nat} (hz : z < 128 ^ i) : z + c % 128 * 128 ^ i < 128 ^ (i + 1) := by
 have : c % 128 * 128 ^ i ≤ 127 * 128 ^ i := Nat.mul_le_mul_right _ (by omega)
 rw [Nat.pow_succ]; omega
theorem mul_nx (z m y P : Nat) : z + m * P + y * (P * 128) = z + (m + 128 * y) * P := by
 rw [Nat.add_mul, Nat.mul_comm P 128, ← Nat.mul_assoc, Nat.mul_comm y 128]; omega
theorem dec_inv {s : ByteArray} {a : Nat} : ∀ (f i z : Nat) {p : Nat × Nat}, dec s a f i z = some p → i + f = 10 → z < 128 ^ i →
    ∃ y, p.1 = z + y * 128 ^ i ∧ (s.data.toList.drop (a + i)).take (p.2 - (a + i)) = enc y ∧ (0 < i → 0 < y) ∧ a + i < p.2 ∧ p.1 < 18446744073709551616
  | 0, _, _, _, h, _, _ => by cases h
  | f + 1, i, z, p, h, hf, hz => by
    rw [dec] at h
    split at h
    · cases h
    rename_i c hc
    rw [get_list] at hc
    split at h
    · cases h
    rename_i hb
    have hc8 : c.toNat < 256 := c.toNat_lt
    split at h
    · rename_i hlt
      cases h
      refine ⟨c.toNat, rfl, ?_, fun h => by omega, by simp only; omega, (or7 hz (by omega) (fun h => by omega) hlt).1⟩
      rw [enc_lt hlt, show (a + i + 1) - (a + i) = 0 + 1 by omega, drop_take hc, UInt8.ofNat_toNat]
      rfl
    · rename_i hge
      obtain ⟨y, h1, h2, h3, h4, h5⟩ := dec_inv f (i + 1) _ h (by omega) (pow_nx hz)
      have hy := h3 (by omega)
      refine ⟨c.toNat % 128 + 128 * y, ?_, ?_, fun _ => by omega, by omega, h5⟩
      · rw [h1, Nat.pow_succ, mul_nx]
      · rw [enc_ge (by omega), show (c.toNat % 128 + 128 * y) % 128 + 128 = c.toNat by omega, show (c.toNat % 128 + 128 * y) / 128 = y by omega, UInt8.ofNat_toNat, ← h2, show p.2 - (a + i) = (p.2 - (a + (i + 1))) + 1 by omega, drop_take hc]
        rfl
theorem un_range {Z : Nat} (h : Z < 18446744073709551616) : -9223372036854775808 ≤ un Z ∧ un Z ≤ 9223372036854775807 := by
 unfold un; split <;> omega
theorem takeNum_enc {s : ByteArray} {a : Nat} {p : Int × Nat} (h : takeNum s a = some p) : (s.data.toList.drop a).take (p.2 - a) = enc (zz p.1) ∧ -9223372036854775808 ≤ p.1 ∧ p.1 ≤ 9223372036854775807 := by
 unfold takeNum at h
 cases hd : dec s a 10 0 0 with
 | none => rw [hd] at h; cases h
 | some q =>
  rw [hd] at h; cases h
  obtain ⟨y, h1, h2, _, _, h5⟩ := dec_inv 10 0 0 hd rfl (by decide)
  simp only [Nat.pow_zero, Nat.mul_one, Nat.zero_add] at h1
  refine ⟨?_, un_range h5⟩
  simp only
  rw [zz_un, h1]; exact h2
theorem ba_list (s : ByteArray) : ba s.data.toList = s := by simp [ba]
theorem takeList_enc {s : ByteArray} {a : Nat} {p : Nat × Nat} (h : takeList s a = some p) : (s.data.toList.drop a).take (p.2 - a) = enc (zz (p.1 : Int)) := (takeNum_enc (takeList_of h)).1
theorem bytes_at {T : List ItemR} {k : Nat} {o : ItemR} (hg : T[k]? = some o) : ∃ rest, (ba (bytesW T)).data.toList.drop (bytesW (T.take k)).length = (itemW o).2 ++ rest := by
 refine ⟨bytesW (T.drop (k + 1)), ?_⟩
 obtain ⟨hl, he⟩ := List.getElem?_eq_some_iff.1 hg
 have e : T = T.take k ++ o :: T.drop (k + 1) := by rw [← he, ← List.drop_eq_getElem_cons hl, List.take_append_drop]
 have e2 : bytesW T = bytesW (T.take k) ++ ((itemW o).2 ++ bytesW (T.drop (k + 1))) := (congrArg bytesW e).trans (by simp [bytesW])
 show (bytesW T).toArray.toList.drop _ = _
 rw [show (bytesW T).toArray.toList = bytesW T from rfl, e2, List.drop_left]
end Go.Wr
