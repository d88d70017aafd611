/- A part of the proof. -/
import Derived.Test.YtjnejkdamhefgaaGreatDoorStY
import Derived.Test.YtjnejkdamhefgaaGreatDoorDkRef
namespace Go.Proofs.YtjnejkdamhefgaaGreatDoor
open Tryz
open Go Go.SL Go.Dk Go.Jn Go.RowKit
set_option linter.unusedVariables false
set_option maxRecDepth 8000
@[reducible] def isRJ (j q : Nat) (s : JS) : HP := pt j 46 [.pointer (some ⟨q, 0, none⟩), .string s.text, .int .i64 s.seq, .bool s.dead]
theorem rread_o (W0 : World) (q bd cd : Nat) (secs : List ByteArray) (since : List (Nat × ByteArray)) (count : Nat) (sv : Value) (lv bv : Int) (cut : Option (Nat × Int)) (at_ : Int) (hsince : since.length < 1099511627776) : Con1 prog W0 171 #[.pointer (some ⟨q, 0, none⟩), .int .i64 at_] [pt q 60 [Vl bd secs.length cd, sv, Vf, Vi lv, Vi bv, Vi ((count : Nat) : Int)], slp 9 1 bd cd (secs.map Value.string), sl 166 2 sv since.length (flat since)] (.tuple #[.string (DS.read (⟨secs, since, false, count, cut⟩ : DS) at_).1, .int .i64 (DS.read (⟨secs, since, false, count, cut⟩ : DS) at_).2]) [pt q 60 [Vl bd secs.length cd, sv, Vf, Vi lv, Vi bv, Vi ((count : Nat) : Int)], slp 9 1 bd cd (secs.map Value.string), sl 166 2 sv since.length (flat since)] := by
  refine Con.pull (pre := [sl 166 2 sv since.length (flat since), pt q 60 [Vl bd secs.length cd, sv, Vf, Vi lv, Vi bv, Vi ((count : Nat) : Int)], slp 9 1 bd cd (secs.map Value.string)]) [2] (fun _ => rfl) (Con.sl (fun e1 e2 e3 => ?_) (fun b cap e1 e2 e3 => ?_))
  · subst e1; have e4 := List.eq_nil_of_length_eq_zero e2
    exact Con.post (rread_nil W0 q bd cd secs since count lv bv cut at_ hsince e4) (fun _ w F h => by rw [e2, e3]; exact st_pull [1, 1] (st_sl_nil h))
  · subst e1
    exact Con.post (rread_blk W0 q bd cd secs since count lv bv cut at_ hsince b cap e2) (fun _ w F h => st_pull [1, 1] (st_sl_mk e3 e2 h))
theorem rroom_c (W0 : World) (S : List ByteArray) (h1 : 1 ≤ S.length) (hm : S.length ≤ 4096) :
  Con1 prog W0 170 #[Vi ((S.length : Nat) : Int)] [] (.int .i64 ((half S : Nat) : Int)) [] := by
 refine Con.of func170 rfl ntmps170 rfl (fun F => ?_)
 refine Wc.a 1 rfl (Wc.b 1 rfl (Wl.q (q_sub (c := (((S.length : Nat) : Int) - 2)) rfl rfl (wrap_i64 (by omega) (by omega))) (Wl.q (q_quo (c := ((half S : Nat) : Int)) rfl rfl (by decide) (by rw [sectors_eq h1]; exact wrap_i64 (by omega) (by omega))) (Wl.rg 1 rfl (Wc.ret (Wx.f1 rfl (fun w hs => ?_)))))))
 exact ⟨(), trivial, rfl, hs⟩
theorem rhalf_c (W0 : World) (n : Int) (S : List ByteArray) (h0 : 0 ≤ n) (hm : S.length ≤ 4096) :
  Con1 prog W0 187 #[Vi n, Vi ((half S : Nat) : Int)] [] (.tuple #[.int .i64 ((n + 1) % 2), .int .i64 ((first S n : Nat) : Int)]) [] := by
 refine Con.of func187 rfl ntmps187 rfl (fun F => ?_)
 have hh : half S ≤ 4096 := by unfold half; omega
 show Wc _ W0 _ _ _ _ _ (F)
 refine Wc.a 2 rfl (Wc.seq (Wc.b 1 rfl (Wl.q (q_rem (c := (n % 2)) rfl rfl (by decide) (tmod2_eq h0)) ?_)))
 by_cases ho : (n % 2) = 1
 ·
  refine Wl.q (q_eql rfl rfl (dt ho)) (Wl.dg (Wc.yes rfl (Wc.a 2 rfl (Wc.ret (Wx.thenRet (Wx.f2 rfl (fun w hs => ?_)))))))
  exact ⟨(), trivial, (by rw [show (n + 1) % 2 = 0 by omega, first, if_pos ho]; rfl), hs⟩
 ·
  refine Wl.q (q_eql rfl rfl (df ho)) (Wl.dg (Wc.no rfl (Wc.skip (Wx.go (Wc.b 1 rfl (Wl.q (q_add (c := ((2 + (half S) : Nat) : Int)) rfl rfl (by rw [wrap_i64] <;> omega)) (Wl.rg 2 rfl (Wc.ret (Wx.f2 rfl (fun w hs => ?_))))))))))
  exact ⟨(), trivial, (by rw [show (n + 1) % 2 = 1 by omega, first, if_neg ho]; rfl), hs⟩
theorem rhead_c (W0 : World) (n l : Int) :
    Con1 prog W0 190 #[Vi n, Vi l] [] (.string (headB n l)) [] := by
  refine Con.of func190 rfl ntmps190 rfl (fun F => ?_)
  refine Wc.a 1 rfl (Wc.sr (Wl.e (e_makeSlice (len := 64) underlying105 sz_5 by_5 zo_5 rfl rfl (by omega) (by omega)) (fun bl _ => Wl.rg 1 rfl (Wc.b 1 rfl (Wl.q (q_idx (m := 0) se_105 rfl rfl (by omega) (by omega) rfl) (Wl.e (e_store (i := 0) (v := Value.int .u8 74) sz_5 rfl rfl (fun _ _ => rfl) rfl (by rw [made_bytes]; simp)) (fun _ _ => Wl.imp (L' := (pt bl 5 ((rh1 n 0).map byteV)) :: F) (fun _ h => by rw [made_bytes] at h; exact h) (Wl.dg (Wc.seq (Wc.a 1 rfl (Wc.block ?_)))))))))))
  refine Wc.loop (X := Nat) (fun i E => E 6 = Vi ((i : Nat) : Int) ∧ E 0 = Vi n ∧ E 1 = Vi l ∧ E 5 = Vl bl 64 64 ∧ i ≤ 8) (fun i => (pt bl 5 ((rh1 n i).map byteV)) :: F) (fun i => 8 - i) 0 ?_ ?_ ?_
  · exact ⟨rfl, rfl, rfl, rfl, (by omega)⟩
  · exact fun w hs => hs
  · rintro i E2 ⟨hE6_0, hE0_0, hE1_0, hE5_0, hi⟩
    refine Wc.seq (Wc.sr (Wl.q (v := Vi ((i : Nat) : Int)) (q_move hE6_0) ?_))
    by_cases hlt : ((i : Nat) : Int) < 8
    ·
      refine Wl.q (q_lss rfl rfl (dt hlt)) (Wl.dg (Wc.yes rfl (Wc.skip (Wx.go (Wc.seq (Wc.block (Wc.region (Wl.q (v := Vl bl 64 64) (q_move hE5_0) (Wl.q (v := Vi ((i : Nat) : Int)) (q_move hE6_0) (Wl.q (q_sub (c := (((8 - i) : Nat) : Int)) rfl rfl (by rw [wrap_i64] <;> omega)) (Wl.q (v := Vi n) (q_move hE0_0) (Wl.q (v := Vi ((i : Nat) : Int)) (q_move hE6_0) (Wl.q (q_mul (c := ((8 * i : Nat) : Int)) rfl rfl (by rw [wrap_i64] <;> omega)) (Wl.q (q_shr (c := (n.fdiv (2 ^ min (Int.toNat ((8 * i : Nat) : Int)) IntKind.i64.bits))) rfl rfl (by omega) rfl) (Wl.q (q_conv_int (c := ((hByte n i).toNat : Int)) underlying5 (by rw [underlying3]; rfl) rfl (shr_byte n (by omega))) (Wl.q (q_idx (m := (8 - i)) se_105 rfl rfl (by omega) (by omega) (by rw [Int.toNat_natCast]; omega)) (Wl.e (e_store (i := 0) (v := Value.int .u8 ((hByte n i).toNat : Int)) sz_5 rfl rfl (fun _ _ => rfl) rfl (by simp only [List.length_map]; rw [rh1_len n (by omega)]; omega)) (fun _ _ => Wl.imp (L' := (pt bl 5 ((rh1 n (i + 1)).map byteV)) :: F) (fun _ h => by rw [← rh1_step (n := n) (i := i) (by omega), List.map_set]; exact h) (Wl.done (Wx.blockEnd (Wx.go (Wc.region (Wl.q (v := Vi ((i : Nat) : Int)) (q_move hE6_0) ?_)))))))))))))))))))))))
      refine Wl.q (q_add (c := ((i + 1 : Nat) : Int)) rfl rfl (by rw [wrap_i64] <;> omega)) (Wl.run 1 rfl (Wl.done ?_))
      refine Wx.at (i + 1) ⟨(by omega), rfl, hE0_0, hE1_0, hE5_0, (by omega)⟩ (fun w hs => hs)
    ·
      have he : i = 8 := by omega
      refine Wl.q (q_lss rfl rfl (df hlt)) (Wl.dg (Wc.no rfl (Wc.exit (Wx.thenExit (Wx.thenExit (Wx.out (Wx.go (Wc.seq (Wc.a 1 rfl (Wc.block ?_))))))))))
      refine Wc.loop (X := Nat) (fun i E => E 7 = Vi ((i : Nat) : Int) ∧ E 1 = Vi l ∧ E 5 = Vl bl 64 64 ∧ i ≤ 4) (fun i => (pt bl 5 ((rh2 n l i).map byteV)) :: F) (fun i => 4 - i) 0 ?_ ?_ ?_
      · exact ⟨rfl, hE1_0, hE5_0, (by omega)⟩
      · exact fun w hs => by rw [← rh2_start, ← he]; exact hs
      · rintro i E4 ⟨hE7_2, hE1_2, hE5_2, hi⟩
        refine Wc.seq (Wc.sr (Wl.q (v := Vi ((i : Nat) : Int)) (q_move hE7_2) ?_))
        by_cases hlt : ((i : Nat) : Int) < 4
        ·
          refine Wl.q (q_lss rfl rfl (dt hlt)) (Wl.dg (Wc.yes rfl (Wc.skip (Wx.go (Wc.seq (Wc.block (Wc.region (Wl.q (v := Vl bl 64 64) (q_move hE5_2) (Wl.q (v := Vi ((i : Nat) : Int)) (q_move hE7_2) (Wl.q (q_sub (c := (((12 - i) : Nat) : Int)) rfl rfl (by rw [wrap_i64] <;> omega)) (Wl.q (v := Vi l) (q_move hE1_2) (Wl.q (v := Vi ((i : Nat) : Int)) (q_move hE7_2) (Wl.q (q_mul (c := ((8 * i : Nat) : Int)) rfl rfl (by rw [wrap_i64] <;> omega)) (Wl.q (q_shr (c := (l.fdiv (2 ^ min (Int.toNat ((8 * i : Nat) : Int)) IntKind.i64.bits))) rfl rfl (by omega) rfl) (Wl.q (q_conv_int (c := ((hByte l i).toNat : Int)) underlying5 (by rw [underlying3]; rfl) rfl (shr_byte l (by omega))) (Wl.q (q_idx (m := (12 - i)) se_105 rfl rfl (by omega) (by omega) (by rw [Int.toNat_natCast]; omega)) (Wl.e (e_store (i := 0) (v := Value.int .u8 ((hByte l i).toNat : Int)) sz_5 rfl rfl (fun _ _ => rfl) rfl (by simp only [List.length_map]; rw [rh2_len n l (by omega)]; omega)) (fun _ _ => Wl.imp (L' := (pt bl 5 ((rh2 n l (i + 1)).map byteV)) :: F) (fun _ h => by rw [← rh2_step (n := n) (l := l) (i := i) (by omega), List.map_set]; exact h) (Wl.done (Wx.blockEnd (Wx.go (Wc.region (Wl.q (v := Vi ((i : Nat) : Int)) (q_move hE7_2) ?_)))))))))))))))))))))))
          refine Wl.q (q_add (c := ((i + 1 : Nat) : Int)) rfl rfl (by rw [wrap_i64] <;> omega)) (Wl.run 1 rfl (Wl.done ?_))
          refine Wx.at (i + 1) ⟨(by omega), rfl, hE1_2, hE5_2, (by omega)⟩ (fun w hs => hs)
        ·
          have he : i = 4 := by omega
          refine Wl.q (q_lss rfl rfl (df hlt)) (Wl.dg (Wc.no rfl (Wc.exit (Wx.thenExit (Wx.thenExit (Wx.out (Wx.go (Wc.sr (Wl.q (v := Vl bl 64 64) (q_move hE5_2) (Wl.q (q_str_of (l := (headL n l)) underlying105 underlying5 underlying9 rfl (headL_len n l) (fun j u hj => .cel (i := 0) rfl (by rw [he, rh2_end, Nat.zero_add]; exact hj))) (Wl.rg 1 rfl (Wc.ret (Wx.f1 rfl (fun w hs => ?_))))))))))))))
          exact ⟨(), trivial, rfl, (st_drop (st_pull [0] hs))⟩
theorem str_ix {s : ByteArray} {i : Nat} {c : UInt8} (h : s.data.toList[i]? = some c) : s[(Int.toNat ((i : Nat) : Int))]? = some c := by
 rw [Int.toNat_natCast]
 have hl : i < s.size := by simpa using (List.getElem?_eq_some_iff.1 h).1
 rw [getElem?_pos s i hl]
 obtain ⟨_, he⟩ := List.getElem?_eq_some_iff.1 h
 exact congrArg some he
theorem rread_h (W0 : World) (s : ByteArray) (hsz : s.size = 64) :
    Con1 prog W0 172 #[Vs s] [] (.tuple #[.int .i64 (rT s).1, .int .i64 (rT s).2]) [] := by
  refine Con.of func172 rfl ntmps172 rfl (fun F => ?_)
  show Wc _ W0 _ _ _ _ _ (F)
  refine Wc.a 2 rfl (Wc.seq (Wc.b 1 rfl (Wl.e (e_c call31 (noughts_c W0)) (fun _ _ => ?_))))
  by_cases hno : s = noughts
  ·
    refine Wl.q (q_eql_str (r := true) rfl rfl (text_true hno)) (Wl.dg (Wc.yes rfl (Wc.a 2 rfl (Wc.ret (Wx.thenRet (Wx.f2 rfl (fun w hs => ?_)))))))
    have e : rT s = (0, 0) := rT_noughts hno
    exact ⟨(), trivial, (by rw [e]; rfl), hs⟩
  ·
    refine Wl.q (q_eql_str (r := false) rfl rfl (text_false hno)) (Wl.dg (Wc.no rfl (Wc.skip (Wx.go (Wc.a 2 rfl (Wc.seq (Wc.a 1 rfl (Wc.block ?_))))))))
    refine Wc.loop (X := Nat) (fun i E => E 6 = Vi (((1 + i) : Nat) : Int) ∧ E 4 = Vi (num 0 ((s.data.toList.drop 1).take i)) ∧ E 0 = Vs s ∧ E 5 = Vi 0 ∧ i ≤ 8) (fun i => F) (fun i => 8 - i) 0 ?_ ?_ ?_
    · exact ⟨rfl, rfl, rfl, rfl, (by omega)⟩
    · exact fun w hs => hs
    · rintro i E2 ⟨hE6_0, hE4_0, hE0_0, hE5_0, hi⟩
      refine Wc.seq (Wc.sr (Wl.q (v := Vi (((1 + i) : Nat) : Int)) (q_move hE6_0) ?_))
      by_cases hlt : (((1 + i) : Nat) : Int) < 9
      ·
        obtain ⟨c, hc, ht⟩ := str_drop (s := s) 1 (i := i) (by omega)
        refine Wl.q (q_lss rfl rfl (dt hlt)) (Wl.dg (Wc.yes rfl (Wc.skip (Wx.go (Wc.seq (Wc.block (Wc.region (Wl.q (v := Vi (num 0 ((s.data.toList.drop 1).take i))) (q_move hE4_0) (Wl.q (q_mul (c := (IntKind.i64.wrap (num 0 ((s.data.toList.drop 1).take i) * 256))) rfl rfl rfl) (Wl.q (v := Vs s) (q_move hE0_0) (Wl.q (v := Vi (((1 + i) : Nat) : Int)) (q_move hE6_0) (Wl.q (q_idx_str underlying9 rfl rfl (by omega) (str_ix hc)) (Wl.q (q_conv_int (c := ((c.toNat : Nat) : Int)) underlying3 (by rw [underlying5]; rfl) rfl (wrap_i64 (by omega) (by have := c.toNat_lt; omega))) (Wl.q (q_add (c := (num 0 ((s.data.toList.drop 1).take (i + 1)))) rfl rfl (by rw [ht, num_snoc]; exact mul_byte)) (Wl.run 1 rfl (Wl.done (Wx.blockEnd (Wx.go (Wc.region (Wl.q (v := Vi (((1 + i) : Nat) : Int)) (q_move hE6_0) (Wl.q (q_add (c := (((1 + i) + 1 : Nat) : Int)) rfl rfl (by rw [wrap_i64] <;> omega)) (Wl.run 1 rfl (Wl.done ?_)))))))))))))))))))))))
        refine Wx.at (i + 1) ⟨(by omega), rfl, rfl, hE0_0, hE5_0, (by omega)⟩ (fun w hs => hs)
      ·
        have he : i = 8 := by omega
        have esNum : num 0 ((s.data.toList.drop 1).take i) = sNum s := by rw [he]; rfl
        refine Wl.q (q_lss rfl rfl (df hlt)) (Wl.dg (Wc.no rfl (Wc.exit (Wx.thenExit (Wx.thenExit (Wx.out (Wx.go (Wc.seq (Wc.a 1 rfl (Wc.block ?_))))))))))
        refine Wc.loop (X := Nat) (fun i E => E 7 = Vi (((9 + i) : Nat) : Int) ∧ E 5 = Vi (num 0 ((s.data.toList.drop 9).take i)) ∧ E 0 = Vs s ∧ E 4 = Vi (sNum s) ∧ i ≤ 4) (fun i => F) (fun i => 4 - i) 0 ?_ ?_ ?_
        · exact ⟨rfl, hE5_0, hE0_0, (hE4_0.trans (congrArg (Value.int .i64) esNum)), (by omega)⟩
        · exact fun w hs => hs
        · rintro i E4 ⟨hE7_2, hE5_2, hE0_2, hE4_2, hi⟩
          refine Wc.seq (Wc.sr (Wl.q (v := Vi (((9 + i) : Nat) : Int)) (q_move hE7_2) ?_))
          by_cases hlt : (((9 + i) : Nat) : Int) < 13
          ·
            obtain ⟨c, hc, ht⟩ := str_drop (s := s) 9 (i := i) (by omega)
            refine Wl.q (q_lss rfl rfl (dt hlt)) (Wl.dg (Wc.yes rfl (Wc.skip (Wx.go (Wc.seq (Wc.block (Wc.region (Wl.q (v := Vi (num 0 ((s.data.toList.drop 9).take i))) (q_move hE5_2) (Wl.q (q_mul (c := (IntKind.i64.wrap (num 0 ((s.data.toList.drop 9).take i) * 256))) rfl rfl rfl) (Wl.q (v := Vs s) (q_move hE0_2) (Wl.q (v := Vi (((9 + i) : Nat) : Int)) (q_move hE7_2) (Wl.q (q_idx_str underlying9 rfl rfl (by omega) (str_ix hc)) (Wl.q (q_conv_int (c := ((c.toNat : Nat) : Int)) underlying3 (by rw [underlying5]; rfl) rfl (wrap_i64 (by omega) (by have := c.toNat_lt; omega))) (Wl.q (q_add (c := (num 0 ((s.data.toList.drop 9).take (i + 1)))) rfl rfl (by rw [ht, num_snoc]; exact mul_byte)) (Wl.run 1 rfl (Wl.done (Wx.blockEnd (Wx.go (Wc.region (Wl.q (v := Vi (((9 + i) : Nat) : Int)) (q_move hE7_2) (Wl.q (q_add (c := (((9 + i) + 1 : Nat) : Int)) rfl rfl (by rw [wrap_i64] <;> omega)) (Wl.run 1 rfl (Wl.done ?_)))))))))))))))))))))))
            refine Wx.at (i + 1) ⟨(by omega), rfl, rfl, hE0_2, hE4_2, (by omega)⟩ (fun w hs => hs)
          ·
            have he : i = 4 := by omega
            have esLen : num 0 ((s.data.toList.drop 9).take i) = sLen s := by rw [he]; rfl
            refine Wl.q (q_lss rfl rfl (df hlt)) (Wl.dg (Wc.no rfl (Wc.exit (Wx.thenExit (Wx.thenExit (Wx.out (Wx.go (Wc.seq (Wc.sr (Wl.q (v := Vi (sNum s)) (q_move hE4_2) ?_))))))))))
            by_cases hlow : (sNum s) < 1
            ·
              refine Wl.q (q_lss rfl rfl (dt hlow)) (Wl.rg 7 rfl (Wc.yes rfl (Wc.a 2 rfl (Wc.ret (Wx.thenRet (Wx.f2 rfl (fun w hs => ?_)))))))
              have e : rT s = (-1, 0) := rT_bad hno (fun h => by omega)
              exact ⟨(), trivial, (by rw [e]; rfl), hs⟩
            ·
              refine Wl.q (q_lss rfl rfl (df hlow)) (Wl.run 1 rfl (Wl.q (v := Vs s) (q_move hE0_2) (Wl.q (v := Vi (sNum s)) (q_move hE4_2) (Wl.q (v := Vi (sLen s)) (q_move (hE5_2.trans (congrArg (Value.int .i64) esLen))) (Wl.e (e_c call190 (rhead_c W0 (sNum s) (sLen s))) (fun _ _ => ?_))))))
              by_cases hse : s = (headB (sNum s) (sLen s))
              ·
                refine Wl.q (q_neq_str (r := true) rfl rfl (text_true hse)) (Wl.rg 1 rfl (Wc.no rfl (Wc.skip (Wx.go (Wc.sr (Wl.q (v := Vi (sNum s)) (q_move hE4_2) (Wl.q (v := Vi (sLen s)) (q_move (hE5_2.trans (congrArg (Value.int .i64) esLen))) (Wl.rg 2 rfl (Wc.ret (Wx.f2 rfl (fun w hs => ?_)))))))))))
                have e : rT s = (sNum s, sLen s) := rT_head hno (by omega) hse
                exact ⟨(), trivial, (by rw [e]; rfl), hs⟩
              ·
                refine Wl.q (q_neq_str (r := false) rfl rfl (text_false hse)) (Wl.rg 1 rfl (Wc.yes rfl (Wc.a 2 rfl (Wc.ret (Wx.thenRet (Wx.f2 rfl (fun w hs => ?_)))))))
                have e : rT s = (-1, 0) := rT_bad hno (fun h => hse h.2)
                exact ⟨(), trivial, (by rw [e]; rfl), hs⟩
end Go.Proofs.YtjnejkdamhefgaaGreatDoor
