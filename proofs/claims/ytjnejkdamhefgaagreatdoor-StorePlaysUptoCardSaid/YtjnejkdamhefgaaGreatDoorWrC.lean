/- A part of the proof. -/
import Derived.Test.YtjnejkdamhefgaaGreatDoorWrL
namespace Go.Proofs.YtjnejkdamhefgaaGreatDoor
open Tryz
open Go Go.SL Go.Wr Go.RowKit
open Go.Dk (beyondF beyondB beyond_step beyond_le beyond_one beyond_two)
set_option linter.unusedVariables false
set_option maxRecDepth 8000
theorem fo_428_0 : fieldOff prog 428 0 = some 0 := by kernel_rfl
theorem zo_428 : zeroOf prog 428 = some (Value.agg #[Value.bool false, Value.slice none 0 0]) := by kernel_rfl
theorem fo_428_1 : fieldOff prog 428 1 = some 1 := by kernel_rfl
def isW (q : Nat) (l : List UInt8) : HP := ex fun sv => grp [pt q 428 [.bool true, sv], sl 5 1 sv l.length (l.map u8v)]
theorem isW_mk {W0 w : World} {L : List HP} {q : Nat} {sv : Value} {l : List UInt8} (h : st W0 w (pt q 428 [.bool true, sv] :: sl 5 1 sv l.length (l.map u8v) :: L)) : st W0 w (isW q l :: L) := st_ex.2 ⟨sv, st_grp.2 h⟩
theorem Con.wr {P : Program} {W0 : World} {f : FuncId} {args : Array Value} {q : Nat} {l : List UInt8} {pre : List HP} {X : Type} {φ : X → Prop} {val : X → Value} {post : X → List HP}
  (h : ∀ sv, Con P W0 f args (pt q 428 [.bool true, sv] :: sl 5 1 sv l.length (l.map u8v) :: pre) φ val post) : Con P W0 f args (isW q l :: pre) φ val post := fun w F hs => by
 obtain ⟨sv, hs⟩ := st_ex.1 hs
 have hs := st_grp.1 hs
 exact h sv w F hs
theorem wthere_yes (W0 : World) (q : Nat) (sv : Value) :
  Con1 prog W0 258 #[Vp q] [pt q 428 [Vt, sv]] (.bool true) ([pt q 428 [Vt, sv]]) := by
 refine Con.of func258 rfl ntmps258 rfl (fun F => ?_)
 show Wc _ W0 _ _ _ _ _ ((pt q 428 [Vt, sv]) :: F)
 refine Wc.a 1 rfl (Wc.b 1 rfl (Wl.q (q_neq_nil (r := false) rfl rfl underlying135 rfl) (Wl.run 3 rfl (Wl.q (q_field fo_428_0 rfl rfl) (Wl.q (q_c 0 sc_4 rfl rfl rfl) (Wl.rg 2 rfl (Wc.ret (Wx.f1 rfl (fun w hs => ?_)))))))))
 exact ⟨(), trivial, rfl, hs⟩
theorem wnew_c (W0 : World)  :
  Con prog W0 154 #[] [] (X := Nat) (fun _ => True) (fun q => .pointer (some ⟨q, 0, none⟩)) (fun q => [isW q []]) := by
 refine Con.of func154 rfl ntmps154 rfl (fun F => ?_)
 show Wc _ W0 _ _ _ _ _ (F)
 refine Wc.a 1 rfl (Wc.sr (Wl.q (v := Value.agg #[Vt, Vn]) (q_build (pl := [(0, 1), (1, 1)]) underlying428 zo_428 (by kernel_rfl) (by kernel_rfl)) (Wl.e (e_box (x := .tmp 1) (vs := [Vt, Vn]) rfl) (fun q _ => Wl.rg 1 rfl (Wc.ret (Wx.f1 rfl (fun w hs => ?_)))))))
 exact ⟨q, trivial, rfl, isW_mk (st_swap (st_sl_nil hs))⟩
set_option maxRecDepth 4000 in
theorem wnumber_o (W0 : World) (q : Nat) (l : List UInt8) (n : Int) (sv : Value) (h1 : -9223372036854775808 ≤ n) (h2 : n ≤ 9223372036854775807) (hl : l.length < 100000000000000) :
    Con prog W0 259 #[Vp q, Vi n] [pt q 428 [Vt, sv], sl 5 1 sv l.length (l.map u8v)] (X := Value) (fun _ => True) (fun _ => .int .i64 0) (fun v => [pt q 428 [Vt, v], sl 5 1 v ((l ++ enc (zz n)).length) ((l ++ enc (zz n)).map u8v)]) := by
  refine Con.of func259 rfl ntmps259 rfl (fun F => ?_)
  show Wc _ W0 _ _ _ _ _ ((pt q 428 [Vt, sv]) :: (sl 5 1 sv l.length (l.map u8v)) :: F)
  refine Wc.a 1 rfl (Wc.seq (Wc.b 1 rfl (Wl.e (e_c call258 (wthere_yes W0 q (sv))) (fun _ _ => Wl.q (q_not rfl rfl) (Wl.dg (Wc.no rfl (Wc.skip (Wx.go (Wc.b 1 rfl (Wl.q (q_conv_int (c := (IntKind.u64.wrap n)) underlying457 (by rw [underlying2]; rfl) rfl rfl) (Wl.q (q_shl (c := (IntKind.u64.wrap (IntKind.u64.wrap n * 2 ^ min (Int.toNat 1) IntKind.u64.bits))) rfl rfl (by decide) rfl) (Wl.run 1 rfl (Wl.q (q_shr (c := (if 0 ≤ n then (0 : Int) else -1)) rfl rfl (by decide) (sh63 h1 h2)) (Wl.q (q_conv_int (c := (IntKind.u64.wrap (if 0 ≤ n then (0 : Int) else -1))) underlying457 (by rw [underlying2]; rfl) rfl rfl) (Wl.q (q_xor (c := ((zz n : Nat) : Int)) rfl rfl (zzcode h1 h2)) (Wl.rg 1 rfl (Wc.seq (Wc.block ?_))))))))))))))))))
  refine Wc.loop (X := Nat × Value × List UInt8) (fun (z, v, m) E => E 5 = Value.int .u64 ((z : Nat) : Int) ∧ E 0 = Vp q ∧ m ++ enc z = l ++ enc (zz n) ∧ z < 18446744073709551616) (fun (z, v, m) => (pt q 428 [Vt, v]) :: (sl 5 1 v m.length (m.map u8v)) :: F) (fun (z, v, m) => z) (zz n, sv, l) ?_ ?_ ?_
  · exact ⟨rfl, rfl, rfl, (zz_lt h1 h2)⟩
  · exact fun w hs => hs
  · rintro ⟨z, v, m⟩ E2 ⟨hE5_0, hE0_0, hp0, hz⟩
    dsimp only at *
    have hml : m.length ≤ l.length + 10 := by have e := congrArg List.length hp0; have e2 := enc_len_le 9 (zz n) (Nat.lt_trans (zz_lt h1 h2) (by decide)); have e3 := enc_ne z; simp only [List.length_append] at e; omega
    refine Wc.seq (Wc.sr (Wl.q (v := Value.int .u64 ((z : Nat) : Int)) (q_move hE5_0) ?_))
    by_cases hgt : ((z : Nat) : Int) > 127
    ·
      refine Wl.q (q_gtr rfl rfl (dt hgt)) (Wl.dg (Wc.yes rfl (Wc.skip (Wx.go (Wc.seq (Wc.block (Wc.region (Wl.q (v := Vp q) (q_move hE0_0) (Wl.q (v := Vp q) (q_move hE0_0) (Wl.run 1 rfl (Wl.q (q_field fo_428_1 rfl rfl) (Wl.q (q_c 0 sc_105 rfl rfl rfl) (Wl.q (v := Value.int .u64 ((z : Nat) : Int)) (q_move hE5_0) (Wl.q (q_conv_int (c := ((z % 256 : Nat) : Int)) underlying5 (by rw [underlying457]; rfl) rfl (conv8 z)) (Wl.q (q_or (c := ((z % 128 + 128 : Nat) : Int)) rfl rfl (or128 z)) (Wl.e (e_buildSlice (cs := [Value.int .u8 ((z % 128 + 128 : Nat) : Int)]) se_105 zo_5 (by decide) (by decide) (by kernel_rfl)) (fun b3 _ => Wl.e (e_append (i := 2) (k := 1) (m := 1) (off := 0) (news := [Value.int .u8 ((z % 128 + 128 : Nat) : Int)]) underlying105 sz_5 by_5 zo_5 rfl rfl rfl rfl rfl (Has.of_pt (i := 0) rfl rfl) rfl (by decide) (by simp only [maxLen]; omega) (by omega)) (fun v2 _ => Wl.run 1 rfl (Wl.q (q_field fo_428_1 rfl rfl) (Wl.e (e_store (i := 1) (v := v2) sz_105 rfl rfl (fun _ h => sl_one (i := 2) h rfl) rfl (by simp)) (fun _ _ => Wl.done (Wx.blockEnd (Wx.go ?_)))))))))))))))))))))))
      refine Wc.region (Wl.q (v := Value.int .u64 ((z : Nat) : Int)) (q_move hE5_0) (Wl.q (q_shr (c := ((z / 128 : Nat) : Int)) rfl rfl (by decide) (shr7 z)) (Wl.run 1 rfl (Wl.done ?_))))
      refine Wx.at (z / 128, v2, m ++ [UInt8.ofNat (z % 128 + 128)]) ⟨(by simp only; omega), rfl, hE0_0, (by rw [← hp0, enc_ge (show ¬ z < 128 by omega), List.append_assoc]; rfl), (by simp only; omega)⟩ (fun w hs => by simp only [List.length_append, List.length_singleton, u8_snoc m (show z % 128 + 128 < 256 by omega)]; exact (st_drop (st_pull [0] hs)))
    ·
      refine Wl.q (q_gtr rfl rfl (df hgt)) (Wl.dg (Wc.no rfl (Wc.exit (Wx.thenExit (Wx.thenExit (Wx.out (Wx.go (Wc.sr (Wl.q (v := Vp q) (q_move hE0_0) (Wl.q (v := Vp q) (q_move hE0_0) (Wl.run 1 rfl (Wl.q (q_field fo_428_1 rfl rfl) (Wl.q (q_c 0 sc_105 rfl rfl rfl) (Wl.q (v := Value.int .u64 ((z : Nat) : Int)) (q_move hE5_0) (Wl.q (q_conv_int (c := ((z : Nat) : Int)) underlying5 (by rw [underlying457]; rfl) rfl (by rw [conv8]; omega)) (Wl.e (e_buildSlice (cs := [Value.int .u8 ((z : Nat) : Int)]) se_105 zo_5 (by decide) (by decide) (by kernel_rfl)) (fun b4 _ => Wl.e (e_append (i := 2) (k := 1) (m := 1) (off := 0) (news := [Value.int .u8 ((z : Nat) : Int)]) underlying105 sz_5 by_5 zo_5 rfl rfl rfl rfl rfl (Has.of_pt (i := 0) rfl rfl) rfl (by decide) (by simp only [maxLen]; omega) (by omega)) (fun v3 _ => Wl.run 1 rfl (Wl.q (q_field fo_428_1 rfl rfl) (Wl.e (e_store (i := 1) (v := v3) sz_105 rfl rfl (fun _ h => sl_one (i := 2) h rfl) rfl (by simp)) (fun _ _ => Wl.dg (Wc.a 1 rfl (Wc.ret ?_)))))))))))))))))))))))
      refine Wx.f1 rfl (fun w hs => ?_)
      have hz2 : z < 128 := by omega
      have e : m ++ [UInt8.ofNat z] = l ++ enc (zz n) := by rw [← hp0, enc_lt hz2]
      exact ⟨v3, trivial, rfl, by rw [← e]; simp only [List.length_append, List.length_singleton, u8_snoc m (show z < 256 by omega)]; exact (st_drop (st_pull [0] hs))⟩
theorem wbytes_blk (W0 : World) (q : Nat) (l : List UInt8) (b cap : Nat) :
  Con1 prog W0 157 #[Vp q] [slp 5 1 b cap (l.map u8v), pt q 428 [Vt, Vl b l.length cap]] (.string ⟨l.toArray⟩) [slp 5 1 b cap (l.map u8v), pt q 428 [Vt, Vl b l.length cap]] := by
 refine Con.of func157 rfl ntmps157 rfl (fun F => ?_)
 show Wc _ W0 _ _ _ _ _ ((slp 5 1 b cap (l.map u8v)) :: (pt q 428 [Vt, Vl b l.length cap]) :: F)
 refine Wc.a 1 rfl (Wc.seq (Wc.b 1 rfl (Wl.imp (L' := (pt q 428 [Vt, Vl b l.length cap]) :: (slp 5 1 b cap (l.map u8v)) :: F) (fun _ h => st_pull [1] h) (Wl.e (e_c call258 (wthere_yes W0 q (Vl b l.length cap))) (fun _ _ => Wl.q (q_not rfl rfl) (Wl.dg (Wc.no rfl (Wc.skip (Wx.go (Wc.b 2 rfl (Wl.q (q_field fo_428_1 rfl rfl) (Wl.q (q_c 0 sc_105 rfl rfl rfl) (Wl.q (q_str_of (l := l) underlying105 underlying5 underlying9 rfl rfl (fun j u hj => .row (i := 1) rfl (by rw [Nat.zero_add]; exact hj))) (Wl.rg 1 rfl (Wc.ret (Wx.f1 rfl (fun w hs => ?_)))))))))))))))))
 exact ⟨(), trivial, rfl, (st_pull [1, 0] (hs))⟩
theorem wbytes_nil (W0 : World) (q : Nat) (l : List UInt8) (hnil : l = []) :
  Con1 prog W0 157 #[Vp q] [pt q 428 [Vt, Vn]] (.string ⟨l.toArray⟩) ([pt q 428 [Vt, Vn]]) := by
 refine Con.of func157 rfl ntmps157 rfl (fun F => ?_)
 show Wc _ W0 _ _ _ _ _ ((pt q 428 [Vt, Vn]) :: F)
 refine Wc.a 1 rfl (Wc.seq (Wc.b 1 rfl (Wl.e (e_c call258 (wthere_yes W0 q (Vn))) (fun _ _ => Wl.q (q_not rfl rfl) (Wl.dg (Wc.no rfl (Wc.skip (Wx.go (Wc.b 2 rfl (Wl.q (q_field fo_428_1 rfl rfl) (Wl.q (q_c 0 sc_105 rfl rfl rfl) (Wl.q (q_str_nil underlying105 underlying5 underlying9 rfl) (Wl.rg 1 rfl (Wc.ret (Wx.f1 rfl (fun w hs => ?_))))))))))))))))
 subst hnil
 exact ⟨(), trivial, rfl, hs⟩
theorem wbytes_c (W0 : World) (q : Nat) (l : List UInt8) :
    Con1 prog W0 157 #[Vp q] [isW q l] (.string ⟨l.toArray⟩) [isW q l] := by
  refine Con.wr fun sv => Con.pull (pre := [sl 5 1 sv l.length (l.map u8v), pt q 428 [Vt, sv]]) [1] (fun _ => rfl) (Con.sl (fun e1 e2 e3 => ?_) (fun b cap e1 e2 e3 => ?_))
  · subst e1; have e4 := List.eq_nil_of_length_eq_zero e2
    exact Con.post (wbytes_nil W0 q l e4) (fun _ w F h => isW_mk (by rw [e2, e3]; exact st_swap (st_sl_nil h)))
  · subst e1
    exact Con.post (wbytes_blk W0 q l b cap) (fun _ w F h => isW_mk (st_swap (st_sl_mk e3 e2 h)))
theorem wtext_big (W0 : World) (q : Nat) (l : List UInt8) (s : ByteArray) (sv : Value) (hs : 65536 < s.size) :
  Con1 prog W0 156 #[Vp q, Vs s] [pt q 428 [Vt, sv], sl 5 1 sv l.length (l.map u8v)] (.int .i64 3) ([pt q 428 [Vt, sv], sl 5 1 sv l.length (l.map u8v)]) := by
 refine Con.of func156 rfl ntmps156 rfl (fun F => ?_)
 show Wc _ W0 _ _ _ _ _ ((pt q 428 [Vt, sv]) :: (sl 5 1 sv l.length (l.map u8v)) :: F)
 refine Wc.a 1 rfl (Wc.seq (Wc.block (Wc.b 1 rfl (Wl.e (e_c call258 (wthere_yes W0 q (sv))) (fun _ _ => Wl.q (q_not rfl rfl) (Wl.rg 1 rfl (Wc.no rfl (Wc.b 1 rfl (Wl.q (q_len_str underlying9 rfl) (Wl.q (q_gtr rfl rfl (dt (by omega))) (Wl.rg 1 rfl (Wc.yes rfl (Wc.a 1 rfl (Wc.ret (Wx.blockRet (Wx.thenRet (Wx.f1 rfl (fun w hs => ?_))))))))))))))))))
 exact ⟨(), trivial, rfl, hs⟩
theorem wtext_o (W0 : World) (q : Nat) (l : List UInt8) (s : ByteArray) (sv : Value) (hs : s.size ≤ 65536) (hl : l.length < 100000000000000) :
  Con prog W0 156 #[Vp q, Vs s] [pt q 428 [Vt, sv], sl 5 1 sv l.length (l.map u8v)] (X := Value) (fun _ => True) (fun _ => .int .i64 0) (fun v => [pt q 428 [Vt, v], sl 5 1 v ((l ++ enc (zz (s.size : Int)) ++ s.data.toList).length) ((l ++ enc (zz (s.size : Int)) ++ s.data.toList).map u8v)]) := by
 refine Con.of func156 rfl ntmps156 rfl (fun F => ?_)
 have hel : (enc (zz (s.size : Int))).length ≤ 10 := enc_len_le 9 _ (Nat.lt_trans (zz_lt (by omega) (by omega)) (by decide))
 show Wc _ W0 _ _ _ _ _ ((pt q 428 [Vt, sv]) :: (sl 5 1 sv l.length (l.map u8v)) :: F)
 refine Wc.a 1 rfl (Wc.seq (Wc.block (Wc.b 1 rfl (Wl.e (e_c call258 (wthere_yes W0 q (sv))) (fun _ _ => Wl.imp (L' := (pt q 428 [Vt, sv]) :: (sl 5 1 sv l.length (l.map u8v)) :: F) (fun _ h => h) (Wl.q (q_not rfl rfl) (Wl.rg 1 rfl (Wc.no rfl (Wc.b 1 rfl (Wl.q (q_len_str underlying9 rfl) (Wl.q (q_gtr rfl rfl (df (by omega))) (Wl.rg 1 rfl (Wc.no rfl (Wc.skip (Wx.blockEnd (Wx.go (Wc.b 2 rfl (Wl.q (q_len_str underlying9 rfl) (Wl.e (e_c call259 (wnumber_o W0 q l ((s.size : Nat) : Int) sv (by omega) (by omega) hl)) (fun v1 _ => Wl.dg (Wc.b 3 rfl (Wl.q (q_field fo_428_1 rfl rfl) (Wl.q (q_c 0 sc_105 rfl rfl rfl) ?_)))))))))))))))))))))))
 refine Wl.run 1 rfl (Wl.e (e_appendStr (i := 1) (s := s) underlying105 underlying9 sz_5 by_5 zo_5 rfl rfl rfl (by have := hel; simp only [maxLen, List.length_append] at *; omega) (by have := hel; simp only [List.length_append] at *; omega)) (fun v3 _ => Wl.run 1 rfl (Wl.q (q_field fo_428_1 rfl rfl) (Wl.e (e_store (i := 0) (v := v3) sz_105 rfl rfl (fun _ h => sl_one (i := 1) h rfl) rfl (by simp)) (fun _ _ => Wl.dg (Wc.a 1 rfl (Wc.ret (Wx.f1 rfl (fun w hs => ?_)))))))))
 exact ⟨v3, trivial, rfl, by rw [show (l ++ enc (zz (s.size : Int)) ++ s.data.toList).length = (l ++ enc (zz (s.size : Int))).length + s.size from by simp; omega, List.map_append (l₂ := s.data.toList)]; exact hs⟩
end Go.Proofs.YtjnejkdamhefgaaGreatDoor
