/- A part of the proof. -/
import Derived.Test.YtjnejkdamhefgaaGreatDoorSLG
import Derived.Test.YtjnejkdamhefgaaGreatDoorShelf
namespace Go.Proofs.YtjnejkdamhefgaaGreatDoor
open Tryz
open Go Go.SL Go.Dk Go.Jn Go.RowKit
set_option linter.unusedVariables false
set_option maxRecDepth 8000
theorem se_105 : sliceElem prog 105 = some (5, 1) := by kernel_rfl
theorem sc_5 : scalar prog 5 = true := by kernel_rfl
theorem fo_431_0 : fieldOff prog 431 0 = some 0 := by kernel_rfl
theorem sc_429 : scalar prog 429 = true := by kernel_rfl
theorem sz_431 : sizeIs prog 431 = some 2 := by kernel_rfl
theorem sz_429 : sizeIs prog 429 = some 1 := by kernel_rfl
theorem fo_431_1 : fieldOff prog 431 1 = some 1 := by kernel_rfl
theorem sc_105 : scalar prog 105 = true := by kernel_rfl
theorem sz_105 : sizeIs prog 105 = some 1 := by kernel_rfl
theorem repeat_c (W0 : World) : Con1 prog W0 285 #[.string ⟨#[0]⟩, .int .i64 64] [] (.string noughts) [] := Con.below fun w =>
 (Tryz.strings_Repeat ⟨#[0]⟩ 64 w (by decide) (by decide)).mono fun e w' h => ⟨h.1, h.2⟩
theorem none_c (W0 : World)  :
  Con1 prog W0 260 #[] [] (.string noughts) [] := by
 refine Con.of func260 rfl ntmps260 rfl (fun F => ?_)
 show Wc _ W0 _ _ _ _ _ (F)
 refine Wc.a 1 rfl (Wc.sr (Wl.e (e_c call285 (repeat_c W0)) (fun _ _ => Wl.rg 1 rfl (Wc.ret (Wx.f1 rfl (fun w hs => ?_))))))
 exact ⟨(), trivial, rfl, hs⟩
theorem head_c (W0 : World) (n l : Int) :
    Con1 prog W0 261 #[Vi n, Vi l] [] (.string (headB n l)) [] := by
  refine Con.of func261 rfl ntmps261 rfl (fun F => ?_)
  refine Wc.a 1 rfl (Wc.sr (Wl.e (e_makeSlice (len := 64) underlying105 sz_5 by_5 zo_5 rfl rfl (by omega) (by omega)) (fun bl _ => Wl.rg 1 rfl (Wc.b 1 rfl (Wl.q (q_idx (m := 0) se_105 rfl rfl (by omega) (by omega) rfl) (Wl.e (e_store (i := 0) (v := Value.int .u8 74) sz_5 rfl rfl (fun _ _ => rfl) rfl (by rw [made_bytes]; simp)) (fun _ _ => Wl.imp (L' := (pt bl 5 ((hd1 n 0).map byteV)) :: F) (fun _ h => by rw [made_bytes] at h; exact h) (Wl.dg (Wc.seq (Wc.a 1 rfl (Wc.block ?_)))))))))))
  refine Wc.loop (X := Nat) (fun i E => E 11 = Vi ((i : Nat) : Int) ∧ E 0 = Vi n ∧ E 1 = Vi l ∧ E 5 = Vl bl 64 64 ∧ i ≤ 8) (fun i => (pt bl 5 ((hd1 n i).map byteV)) :: F) (fun i => 8 - i) 0 ?_ ?_ ?_
  · exact ⟨rfl, rfl, rfl, rfl, (by omega)⟩
  · exact fun w hs => hs
  · rintro i E2 ⟨hE11_0, hE0_0, hE1_0, hE5_0, hi⟩
    refine Wc.sr ?_
    by_cases hlt : ((i : Nat) : Int) < 8
    ·
      refine Wl.q (q_lss hE11_0 rfl (dt hlt)) (Wl.dg (Wc.seq (Wc.yes rfl (Wc.skip (Wx.go (Wc.seq (Wc.block (Wc.sr (Wl.q (v := Vi ((i : Nat) : Int)) (q_move hE11_0) (Wl.rg 1 rfl (Wc.region (Wl.q (v := Vl bl 64 64) (q_move hE5_0) (Wl.run 1 rfl (Wl.q (q_add (c := ((1 + i : Nat) : Int)) rfl rfl (by rw [wrap_i64] <;> omega)) (Wl.q (v := Vi n) (q_move hE0_0) (Wl.run 1 rfl (Wl.q (q_mul (c := ((8 * i : Nat) : Int)) rfl rfl (by rw [wrap_i64] <;> omega)) (Wl.q (q_sub (c := ((8 * (7 - i) : Nat) : Int)) rfl rfl (by rw [wrap_i64] <;> omega)) (Wl.q (q_shr (c := (n.fdiv (2 ^ min (Int.toNat ((8 * (7 - i) : Nat) : Int)) IntKind.i64.bits))) rfl rfl (by omega) rfl) (Wl.q (q_conv_int (c := ((hByte n (7 - i)).toNat : Int)) underlying5 (by rw [underlying3]; rfl) rfl (shr_byte n (by omega))) (Wl.q (q_idx (m := 1 + i) se_105 rfl rfl (by omega) (by omega) (by rw [Int.toNat_natCast]; omega)) (Wl.e (e_store (i := 0) (v := Value.int .u8 ((hByte n (7 - i)).toNat : Int)) sz_5 rfl rfl (fun _ _ => rfl) rfl (by simp only [List.length_map]; rw [hd1_len n (by omega)]; omega)) (fun _ _ => Wl.imp (L' := (pt bl 5 ((hd1 n (i + 1)).map byteV)) :: F) (fun _ h => by rw [← hd1_step (n := n) (i := i) (by omega), List.map_set]; exact h) ?_)))))))))))))))))))))))
      refine Wl.done (Wx.blockEnd (Wx.go (Wc.region (Wl.q (q_add (c := ((i + 1 : Nat) : Int)) hE11_0 rfl (by rw [wrap_i64] <;> omega)) (Wl.run 1 rfl (Wl.done ?_))))))
      refine Wx.at (i + 1) ⟨(by omega), rfl, hE0_0, hE1_0, hE5_0, (by omega)⟩ (fun w hs => hs)
    ·
      have he : i = 8 := by omega
      refine Wl.q (q_lss hE11_0 rfl (df hlt)) (Wl.dg (Wc.seq (Wc.no rfl (Wc.exit (Wx.thenExit (Wx.thenExit (Wx.out (Wx.go (Wc.seq (Wc.a 1 rfl (Wc.block ?_)))))))))))
      refine Wc.loop (X := Nat) (fun i E => E 25 = Vi ((i : Nat) : Int) ∧ E 1 = Vi l ∧ E 5 = Vl bl 64 64 ∧ i ≤ 4) (fun i => (pt bl 5 ((hd2 n l i).map byteV)) :: F) (fun i => 4 - i) 0 ?_ ?_ ?_
      · exact ⟨rfl, hE1_0, hE5_0, (by omega)⟩
      · exact fun w hs => by rw [← hd2_start, ← he]; exact hs
      · rintro i E4 ⟨hE25_2, hE1_2, hE5_2, hi⟩
        refine Wc.sr ?_
        by_cases hlt : ((i : Nat) : Int) < 4
        ·
          refine Wl.q (q_lss hE25_2 rfl (dt hlt)) (Wl.dg (Wc.seq (Wc.yes rfl (Wc.skip (Wx.go (Wc.seq (Wc.block (Wc.sr (Wl.q (v := Vi ((i : Nat) : Int)) (q_move hE25_2) (Wl.rg 1 rfl (Wc.region (Wl.q (v := Vl bl 64 64) (q_move hE5_2) (Wl.run 1 rfl (Wl.q (q_add (c := ((9 + i : Nat) : Int)) rfl rfl (by rw [wrap_i64] <;> omega)) (Wl.q (v := Vi l) (q_move hE1_2) (Wl.run 1 rfl (Wl.q (q_mul (c := ((8 * i : Nat) : Int)) rfl rfl (by rw [wrap_i64] <;> omega)) (Wl.q (q_sub (c := ((8 * (3 - i) : Nat) : Int)) rfl rfl (by rw [wrap_i64] <;> omega)) (Wl.q (q_shr (c := (l.fdiv (2 ^ min (Int.toNat ((8 * (3 - i) : Nat) : Int)) IntKind.i64.bits))) rfl rfl (by omega) rfl) (Wl.q (q_conv_int (c := ((hByte l (3 - i)).toNat : Int)) underlying5 (by rw [underlying3]; rfl) rfl (shr_byte l (by omega))) (Wl.q (q_idx (m := 9 + i) se_105 rfl rfl (by omega) (by omega) (by rw [Int.toNat_natCast]; omega)) (Wl.e (e_store (i := 0) (v := Value.int .u8 ((hByte l (3 - i)).toNat : Int)) sz_5 rfl rfl (fun _ _ => rfl) rfl (by simp only [List.length_map]; rw [hd2_len n l (by omega)]; omega)) (fun _ _ => Wl.imp (L' := (pt bl 5 ((hd2 n l (i + 1)).map byteV)) :: F) (fun _ h => by rw [← hd2_step (n := n) (l := l) (i := i) (by omega), List.map_set]; exact h) ?_)))))))))))))))))))))))
          refine Wl.done (Wx.blockEnd (Wx.go (Wc.region (Wl.q (q_add (c := ((i + 1 : Nat) : Int)) hE25_2 rfl (by rw [wrap_i64] <;> omega)) (Wl.run 1 rfl (Wl.done ?_))))))
          refine Wx.at (i + 1) ⟨(by omega), rfl, hE1_2, hE5_2, (by omega)⟩ (fun w hs => hs)
        ·
          have he : i = 4 := by omega
          refine Wl.q (q_lss hE25_2 rfl (df hlt)) (Wl.dg (Wc.seq (Wc.no rfl (Wc.exit (Wx.thenExit (Wx.thenExit (Wx.out (Wx.go (Wc.sr (Wl.q (v := Vl bl 64 64) (q_move hE5_2) (Wl.q (q_str_of (l := (headL n l)) underlying105 underlying5 underlying9 rfl (headL_len n l) (fun j u hj => .cel (i := 0) rfl (by rw [he, hd2_end, Nat.zero_add]; exact hj))) (Wl.rg 1 rfl (Wc.ret (Wx.f1 rfl (fun w hs => ?_)))))))))))))))
          exact ⟨(), trivial, rfl, (st_drop (st_pull [0] hs))⟩
theorem parse_c (W0 : World) (s : ByteArray) (hsz : s.size = 64) :
    Con1 prog W0 161 #[Vs s] [] (.tuple #[.int .i64 (parseT s).1, .int .i64 (parseT s).2.1, .bool (parseT s).2.2]) [] := by
  refine Con.of func161 rfl ntmps161 rfl (fun F => ?_)
  show Wc _ W0 _ _ _ _ _ (F)
  refine Wc.a 3 rfl (Wc.seq (Wc.b 1 rfl (Wl.e (e_c call260 (none_c W0)) (fun _ _ => ?_))))
  by_cases hno : s = noughts
  ·
    refine Wl.q (q_eql_str (r := true) rfl rfl (text_true hno)) (Wl.dg (Wc.yes rfl (Wc.a 3 rfl (Wc.ret (Wx.thenRet (Wx.fin3 rfl (.inl rfl) (fun w hs => ?_)))))))
    have e : parseT s = (0, 0, true) := if_pos hno
    exact ⟨(), trivial, (by rw [e]; rfl), hs⟩
  ·
    refine Wl.q (q_eql_str (r := false) rfl rfl (text_false hno)) (Wl.dg (Wc.no rfl (Wc.skip (Wx.go (Wc.seq (Wc.b 1 rfl ?_))))))
    have hz1 : (s.extract 1 9).size = 8 := by rw [ByteArray.size_extract]; omega
    refine Wl.q (q_slice_str (l := 1) (h := 9) underlying9 rfl ⟨_, rfl⟩ ⟨_, rfl⟩ (by omega) (by omega) rfl) (Wl.e (e_bytes underlying9 underlying105 underlying5 rfl) (fun ⟨b1, c2, m3⟩ _ => Wl.q (q_len_slice underlying105 rfl) (Wl.rg 1 rfl (Wc.block ?_))))
    refine Wc.loop (X := Nat) (fun i E => E 16 = Vi ((i : Nat) : Int) ∧ E 2 = Vi (num 0 ((s.extract 1 9).data.toList.take i)) ∧ E 0 = Vs s ∧ E 3 = Vi 0 ∧ E 14 = Vl b1 ((s.extract 1 9).size) c2 ∧ E 15 = Vi (((s.extract 1 9).size : Nat) : Int) ∧ i ≤ 8) (fun i => (ptf b1 5 (Lib.strCells (s.extract 1 9) ++ List.replicate m3 (Value.int .u8 0))) :: F) (fun i => 8 - i) 0 ?_ ?_ ?_
    · exact ⟨rfl, rfl, rfl, rfl, rfl, rfl, (by omega)⟩
    · exact fun w hs => hs
    · rintro i E5 ⟨hE16_3, hE2_3, hE0_3, hE3_3, hE14_3, hE15_3, hi⟩
      refine Wc.sr ?_
      by_cases hlt : ((i : Nat) : Int) < (((s.extract 1 9).size : Nat) : Int)
      ·
        obtain ⟨c, hc⟩ := bytes_at (s := (s.extract 1 9)) (i := i) (by omega)
        refine Wl.q (q_lss hE16_3 hE15_3 (dt hlt)) (Wl.dg (Wc.seq (Wc.yes rfl (Wc.skip (Wx.go (Wc.seq (Wc.block (Wc.sr (Wl.q (q_idx (m := i) se_105 hE14_3 hE16_3 (by omega) (by omega) (by simp)) (Wl.q (v := Value.int .u8 ((c.toNat : Nat) : Int)) (q_load sc_5 rfl (.frz (i := 0) rfl (str_at hc))) (Wl.rg 1 rfl (Wc.region (Wl.q (v := Vi (num 0 ((s.extract 1 9).data.toList.take i))) (q_move hE2_3) (Wl.q (q_shl (c := (IntKind.i64.wrap (num 0 ((s.extract 1 9).data.toList.take i) * 2 ^ min (Int.toNat 8) IntKind.i64.bits))) rfl rfl (by decide) rfl) (Wl.run 1 rfl (Wl.q (q_conv_int (c := ((c.toNat : Nat) : Int)) underlying3 (by rw [underlying5]; rfl) rfl (wrap_i64 (by omega) (by have := c.toNat_lt; omega))) (Wl.q (q_or (c := (num 0 ((s.extract 1 9).data.toList.take (i + 1)))) rfl rfl (by rw [take_at hc, num_snoc]; exact or_byte (by omega) (by have := c.toNat_lt; omega))) (Wl.run 1 rfl (Wl.done (Wx.blockEnd (Wx.go (Wc.region (Wl.q (q_add (c := ((i + 1 : Nat) : Int)) hE16_3 rfl (by rw [wrap_i64] <;> omega)) ?_)))))))))))))))))))))))
        refine Wl.run 1 rfl (Wl.done ?_)
        refine Wx.at (i + 1) ⟨(by omega), rfl, rfl, hE0_3, hE3_3, hE14_3, hE15_3, (by omega)⟩ (fun w hs => hs)
      ·
        have he : i = 8 := by omega
        have esNum : num 0 ((s.extract 1 9).data.toList.take i) = sNum s := by rw [he]; exact cut_num hsz
        refine Wl.q (q_lss hE16_3 hE15_3 (df hlt)) (Wl.dg (Wc.seq (Wc.no rfl (Wc.exit (Wx.thenExit (Wx.thenExit (Wx.out (Wx.go (Wc.seq (Wc.sr (Wl.q (v := Vs s) (q_move hE0_3) ?_)))))))))))
        have hz2 : (s.extract 9 13).size = 4 := by rw [ByteArray.size_extract]; omega
        refine Wl.q (q_slice_str (l := 9) (h := 13) underlying9 rfl ⟨_, rfl⟩ ⟨_, rfl⟩ (by omega) (by omega) rfl) (Wl.e (e_bytes underlying9 underlying105 underlying5 rfl) (fun ⟨b6, c7, m8⟩ _ => Wl.q (q_len_slice underlying105 rfl) (Wl.rg 1 rfl (Wc.block ?_))))
        refine Wc.loop (X := Nat) (fun i E => E 30 = Vi ((i : Nat) : Int) ∧ E 3 = Vi (num 0 ((s.extract 9 13).data.toList.take i)) ∧ E 0 = Vs s ∧ E 2 = Vi (sNum s) ∧ E 28 = Vl b6 ((s.extract 9 13).size) c7 ∧ E 29 = Vi (((s.extract 9 13).size : Nat) : Int) ∧ i ≤ 4) (fun i => (ptf b6 5 (Lib.strCells (s.extract 9 13) ++ List.replicate m8 (Value.int .u8 0))) :: F) (fun i => 4 - i) 0 ?_ ?_ ?_
        · exact ⟨rfl, hE3_3, hE0_3, (hE2_3.trans (congrArg (Value.int .i64) esNum)), rfl, rfl, (by omega)⟩
        · exact fun w hs => (st_drop (st_pull [1] hs))
        · rintro i E10 ⟨hE30_8, hE3_8, hE0_8, hE2_8, hE28_8, hE29_8, hi⟩
          refine Wc.sr ?_
          by_cases hlt : ((i : Nat) : Int) < (((s.extract 9 13).size : Nat) : Int)
          ·
            obtain ⟨c, hc⟩ := bytes_at (s := (s.extract 9 13)) (i := i) (by omega)
            refine Wl.q (q_lss hE30_8 hE29_8 (dt hlt)) (Wl.dg (Wc.seq (Wc.yes rfl (Wc.skip (Wx.go (Wc.seq (Wc.block (Wc.sr (Wl.q (q_idx (m := i) se_105 hE28_8 hE30_8 (by omega) (by omega) (by simp)) (Wl.q (v := Value.int .u8 ((c.toNat : Nat) : Int)) (q_load sc_5 rfl (.frz (i := 0) rfl (str_at hc))) (Wl.rg 1 rfl (Wc.region (Wl.q (v := Vi (num 0 ((s.extract 9 13).data.toList.take i))) (q_move hE3_8) (Wl.q (q_shl (c := (IntKind.i64.wrap (num 0 ((s.extract 9 13).data.toList.take i) * 2 ^ min (Int.toNat 8) IntKind.i64.bits))) rfl rfl (by decide) rfl) (Wl.run 1 rfl (Wl.q (q_conv_int (c := ((c.toNat : Nat) : Int)) underlying3 (by rw [underlying5]; rfl) rfl (wrap_i64 (by omega) (by have := c.toNat_lt; omega))) (Wl.q (q_or (c := (num 0 ((s.extract 9 13).data.toList.take (i + 1)))) rfl rfl (by rw [take_at hc, num_snoc]; exact or_byte (by omega) (by have := c.toNat_lt; omega))) (Wl.run 1 rfl (Wl.done (Wx.blockEnd (Wx.go (Wc.region (Wl.q (q_add (c := ((i + 1 : Nat) : Int)) hE30_8 rfl (by rw [wrap_i64] <;> omega)) ?_)))))))))))))))))))))))
            refine Wl.run 1 rfl (Wl.done ?_)
            refine Wx.at (i + 1) ⟨(by omega), rfl, rfl, hE0_8, hE2_8, hE28_8, hE29_8, (by omega)⟩ (fun w hs => hs)
          ·
            have he : i = 4 := by omega
            have esLen : num 0 ((s.extract 9 13).data.toList.take i) = sLen s := by rw [he]; exact cut_len hsz
            refine Wl.q (q_lss hE30_8 hE29_8 (df hlt)) (Wl.dg (Wc.seq (Wc.no rfl (Wc.exit (Wx.thenExit (Wx.thenExit (Wx.out (Wx.go (Wc.sr (Wl.q (v := Vi (sNum s)) (q_move hE2_8) (Wl.q (v := Vi (sLen s)) (q_move (hE3_8.trans (congrArg (Value.int .i64) esLen))) (Wl.q (v := Vi (sNum s)) (q_move hE2_8) ?_))))))))))))
            by_cases hpos : (sNum s) > 0
            ·
              refine Wl.q (q_gtr rfl rfl (dt hpos)) (Wl.run 1 rfl (Wl.q (v := Vs s) (q_move hE0_8) (Wl.q (v := Vi (sNum s)) (q_move hE2_8) (Wl.q (v := Vi (sLen s)) (q_move (hE3_8.trans (congrArg (Value.int .i64) esLen))) (Wl.e (e_c call261 (head_c W0 (sNum s) (sLen s))) (fun _ _ => ?_))))))
              by_cases hse : s = (headB (sNum s) (sLen s))
              ·
                refine Wl.q (q_eql_str (r := true) rfl rfl (text_true hse)) (Wl.rg 4 rfl (Wc.ret (Wx.fin3 rfl (.inl rfl) (fun w hs => ?_))))
                have e : parseT s = (sNum s, sLen s, true) := by unfold parseT; rw [if_neg hno, dt ⟨hpos, hse⟩]
                exact ⟨(), trivial, (by rw [e]; rfl), (st_drop (st_pull [0] hs))⟩
              ·
                refine Wl.q (q_eql_str (r := false) rfl rfl (text_false hse)) (Wl.rg 4 rfl (Wc.ret (Wx.fin3 rfl (.inl rfl) (fun w hs => ?_))))
                have e : parseT s = (sNum s, sLen s, false) := by unfold parseT; rw [if_neg hno, df (fun h => hse h.2)]
                exact ⟨(), trivial, (by rw [e]; rfl), (st_drop (st_pull [0] hs))⟩
            ·
              refine Wl.q (q_gtr rfl rfl (df hpos)) (Wl.rg 10 rfl (Wc.ret (Wx.fin3 rfl (.inl rfl) (fun w hs => ?_))))
              have e : parseT s = (sNum s, sLen s, false) := by unfold parseT; rw [if_neg hno, df (fun h => hpos h.1)]
              exact ⟨(), trivial, (by rw [e]; rfl), (st_drop (st_pull [0] hs))⟩
theorem sectors_c (W0 : World) (dp : Nat) (d : DS) (h1 : 1 ≤ d.secs.length) (hm : d.secs.length ≤ 4096) :
  Con1 prog W0 162 #[Vp dp] [isDisk dp d] (.int .i64 ((half d.secs : Nat) : Int)) [isDisk dp d] := by
 refine Con.of func162 rfl ntmps162 rfl (fun F => ?_)
 show Wc _ W0 _ _ _ _ _ ((isDisk dp d) :: F)
 refine Wc.a 1 rfl (Wc.b 1 rfl (Wl.e (e_c call158 (len_c W0 dp d )) (fun _ _ => Wl.q (q_sub (c := ((((d).secs.length : Nat) : Int) - 2)) rfl rfl (wrap_i64 (by omega) (by omega))) (Wl.q (q_quo (c := ((half d.secs : Nat) : Int)) rfl rfl (by decide) (by rw [sectors_eq h1]; exact wrap_i64 (by omega) (by omega))) (Wl.rg 1 rfl (Wc.ret (Wx.f1 rfl (fun w hs => ?_))))))))
 exact ⟨(), trivial, rfl, hs⟩
theorem first_c (W0 : World) (dp : Nat) (d : DS) (n : Int) (h0 : 0 ≤ n) (h1 : 1 ≤ d.secs.length) (hm : d.secs.length ≤ 4096) :
  Con1 prog W0 262 #[Vp dp, Vi n] [isDisk dp d] (.int .i64 ((first d.secs n : Nat) : Int)) [isDisk dp d] := by
 refine Con.of func262 rfl ntmps262 rfl (fun F => ?_)
 show Wc _ W0 _ _ _ _ _ ((isDisk dp d) :: F)
 refine Wc.a 1 rfl (Wc.seq (Wc.b 1 rfl (Wl.q (q_rem (c := (n % 2)) rfl rfl (by decide) (tmod2_eq h0)) ?_)))
 by_cases hodd : (n % 2) = 1
 ·
  refine Wl.q (q_eql rfl rfl (dt hodd)) (Wl.dg (Wc.yes rfl (Wc.a 1 rfl (Wc.ret (Wx.thenRet (Wx.f1 rfl (fun w hs => ?_)))))))
  exact ⟨(), trivial, (by rw [first, if_pos hodd]; rfl), hs⟩
 ·
  refine Wl.q (q_eql rfl rfl (df hodd)) (Wl.dg (Wc.no rfl (Wc.skip (Wx.go (Wc.b 1 rfl ?_)))))
  have hh : half d.secs ≤ 4096 := by unfold half; omega
  refine Wl.e (e_c call162 (sectors_c W0 dp d h1 hm)) (fun _ _ => Wl.q (q_add (c := ((2 + (half d.secs) : Nat) : Int)) rfl rfl (by rw [wrap_i64] <;> omega)) (Wl.rg 1 rfl (Wc.ret (Wx.f1 rfl (fun w hs => ?_)))))
  exact ⟨(), trivial, (by rw [first, if_neg hodd]; rfl), hs⟩
theorem bcheck0 (W0 : World) (b : Nat) (v : Value) :
  Con1 prog W0 286 #[Vp b] [pt b 431 [Vz, v]] (.tuple #[]) [pt b 431 [Vp b, v]] := by
 refine Con.of func286 rfl ntmps286 rfl (fun F => ?_)
 show Wc _ W0 _ _ _ _ _ ((pt b 431 [Vz, v]) :: F)
 refine Wc.b 2 rfl (Wl.q (q_field fo_431_0 rfl rfl) (Wl.q (q_c 0 sc_429 rfl rfl rfl) (Wl.q (q_eql_nil (r := true) rfl rfl underlying429 rfl) (Wl.dg (Wc.yes rfl (Wc.region (Wl.run 2 rfl (Wl.q (q_to_unsafe (i := 0) underlying429 underlying479 sz_431 (by decide) rfl rfl (by simp)) (Wl.q (q_same func310 (by kernel_rfl) (by kernel_rfl) (by kernel_rfl) (by kernel_rfl) rfl) (Wl.q (q_from_unsafe (i := 0) underlying479 underlying429 sz_431 rfl rfl (by kernel_rfl)) (Wl.run 1 rfl (Wl.q (q_field fo_431_0 rfl rfl) (Wl.e (e_store (i := 0) (v := Vp b) sz_429 rfl rfl (fun _ _ => rfl) rfl (by simp)) (fun _ _ => Wl.done (Wx.fin0 rfl (.inr rfl) (fun w hs => ?_))))))))))))))))
 exact ⟨(), trivial, rfl, hs⟩
theorem bcheck1 (W0 : World) (b : Nat) (v : Value) :
  Con1 prog W0 286 #[Vp b] [pt b 431 [Vp b, v]] (.tuple #[]) [pt b 431 [Vp b, v]] := by
 refine Con.of func286 rfl ntmps286 rfl (fun F => ?_)
 refine Wc.b 2 rfl (Wl.q (q_field fo_431_0 rfl rfl) (Wl.q (q_c 0 sc_429 rfl rfl rfl) (Wl.q (q_eql_nil (r := false) rfl rfl underlying429 rfl) (Wl.dg (Wc.no rfl (Wc.b 2 rfl (Wl.q (q_field fo_431_0 rfl rfl) (Wl.q (q_c 0 sc_429 rfl rfl rfl) (Wl.run 1 rfl (Wl.q (q_neq_ptr_same rfl rfl underlying429 sz_431) (Wl.dg (Wc.no rfl (Wc.skip (Wx.fin0 rfl (.inr rfl) (fun w hs => ?_)))))))))))))))
 exact ⟨(), trivial, rfl, hs⟩
theorem bcheck_c (W0 : World) (b : Nat) (a v : Value) (ha : a = .pointer none ∨ a = .pointer (some ⟨b, 0, none⟩)) : Con1 prog W0 286 #[.pointer (some ⟨b, 0, none⟩)] [pt b 431 [a, v]] (.tuple #[]) [pt b 431 [Vp b, v]] := by
 rcases ha with rfl | rfl
 · exact bcheck0 W0 b v
 · exact bcheck1 W0 b v
theorem blen_c (W0 : World) (b n : Nat) (a v : Value) (xs : List Value) :
  Con1 prog W0 263 #[Vp b] [pt b 431 [a, v], sl 5 1 v n xs] (.int .i64 ((n : Nat) : Int)) ([pt b 431 [a, v], sl 5 1 v n xs]) := by
 refine Con.of func263 rfl ntmps263 rfl (fun F => ?_)
 refine Wc.a 1 rfl (Wc.b 2 rfl (Wl.q (q_field fo_431_1 rfl rfl) (Wl.q (q_c 0 sc_105 rfl rfl rfl) (Wl.q (q_len_sl (i := 1) underlying105 rfl rfl) (Wl.rg 1 rfl (Wc.ret (Wx.f1 rfl (fun w hs => ?_))))))))
 exact ⟨(), trivial, rfl, hs⟩
theorem bwrite_c (W0 : World) (b n : Nat) (a v : Value) (xs : List Value) (s : ByteArray) (ha : a = .pointer none ∨ a = .pointer (some ⟨b, 0, none⟩)) (hn : n + s.size ≤ 140737488355328) :
  Con prog W0 264 #[Vp b, Vs s] [pt b 431 [a, v], sl 5 1 v n xs] (X := Value) (fun _ => True) (fun _ => .tuple #[.int .i64 ((s.size : Nat) : Int), .nilIface]) (fun v2 => [pt b 431 [Vp b, v2], sl 5 1 v2 (n + s.size) (xs ++ Lib.strCells s)]) := by
 refine Con.of func264 rfl ntmps264 rfl (fun F => ?_)
 show Wc _ W0 _ _ _ _ _ ((pt b 431 [a, v]) :: (sl 5 1 v n xs) :: F)
 refine Wc.a 2 rfl (Wc.b 1 rfl (Wl.e (e_c call286 (bcheck_c W0 b a v ha)) (fun _ _ => Wl.dg (Wc.b 3 rfl (Wl.q (q_field fo_431_1 rfl rfl) (Wl.q (q_c 0 sc_105 rfl rfl rfl) (Wl.run 1 rfl (Wl.e (e_appendStr (i := 1) (s := s) underlying105 underlying9 sz_5 by_5 zo_5 rfl rfl rfl (by simp only [maxLen]; omega) hn) (fun v2 _ => Wl.run 1 rfl (Wl.q (q_field fo_431_1 rfl rfl) (Wl.e (e_store (i := 0) (v := v2) sz_105 rfl rfl (fun _ h => sl_one (i := 1) h rfl) rfl (by simp)) (fun _ _ => Wl.dg (Wc.b 1 rfl (Wl.q (q_len_str underlying9 rfl) (Wl.rg 2 rfl (Wc.ret (Wx.f2 rfl (fun w hs => ?_))))))))))))))))))
 exact ⟨v2, trivial, rfl, hs⟩
theorem bstr0 (W0 : World) (b : Nat) (a : Value) :
  Con1 prog W0 265 #[Vp b] [pt b 431 [a, Vn]] (.string ByteArray.empty) ([pt b 431 [a, Vn]]) := by
 refine Con.of func265 rfl ntmps265 rfl (fun F => ?_)
 show Wc _ W0 _ _ _ _ _ ((pt b 431 [a, Vn]) :: F)
 refine Wc.a 1 rfl (Wc.seq (Wc.drawsS [] ((pt b 431 [a, Vn]) :: []) (by kernel_rfl) (Wr.p 0 oo1 rfl (q_move rfl) (Wr.p 1 oo1 rfl (q_nil_ptr rfl) (Wr.p 2 oo1 rfl (q_field fo_431_1 rfl rfl) (Wr.t 3 oo1 rfl (q_c 0 sc_105 rfl rfl rfl) (Wr.t 4 oo1 rfl (q_slice_data_nil rfl) (Wr.p 5 oo1 rfl (q_move rfl) (Wr.p 6 oo1 rfl (q_nil_ptr rfl) (Wr.p 7 oo1 rfl (q_field fo_431_1 rfl rfl) (Wr.t 8 oo1 rfl (q_c 0 sc_105 rfl rfl rfl) (Wr.t 9 oo1 rfl (q_len_slice underlying105 rfl) (Wr.t 10 oo1 rfl (q_unsafe_string0 rfl rfl) (Wr.p 11 oo1 rfl (q_assign rfl) (Wr.z (Wx.go (Wc.ret (Wx.f1 rfl (fun w hs => ?_)))))))))))))))))))
 exact ⟨(), trivial, rfl, hs⟩
theorem bstr1 (W0 : World) (b g cap : Nat) (a : Value) (s : ByteArray) (hcap : cap ≠ 0) (h0 : 0 < s.size) (h63 : s.size ≤ 9223372036854775807) :
  Con1 prog W0 265 #[Vp b] [pt b 431 [a, Vl g s.size cap], slp 5 1 g cap (s.data.toList.map fun c => Value.int .u8 c.toNat)] (.string s) [pt b 431 [a, Vl g s.size cap]] := by
 refine Con.of func265 rfl ntmps265 rfl (fun F => ?_)
 show Wc _ W0 _ _ _ _ _ ((pt b 431 [a, Vl g s.size cap]) :: (slp 5 1 g cap (s.data.toList.map fun c => Value.int .u8 c.toNat)) :: F)
 refine Wc.a 1 rfl (Wc.seq (Wc.drawsS [10] ((pt b 431 [a, Vl g s.size cap]) :: (slp 5 1 g cap (s.data.toList.map fun c => Value.int .u8 c.toNat)) :: []) (by kernel_rfl) ?_))
 refine Wr.p 0 oo2 rfl (q_move rfl) (Wr.p 1 oo2 rfl (q_nil_ptr rfl) (Wr.p 2 oo2 rfl (q_field fo_431_1 rfl rfl) (Wr.t 3 oo2 rfl (q_c 0 sc_105 rfl rfl rfl) (Wr.t 4 oo2 rfl (q_slice_data hcap rfl) (Wr.p 5 oo2 rfl (q_move rfl) (Wr.p 6 oo2 rfl (q_nil_ptr rfl) (Wr.p 7 oo2 rfl (q_field fo_431_1 rfl rfl) (Wr.t 8 oo2 rfl (q_c 0 sc_105 rfl rfl rfl) (Wr.t 9 oo2 rfl (q_len_slice underlying105 rfl) (Wr.x0 10 rfl (e_unsafe_string (i := 1) (l := s.data.toList) underlying459 (by kernel_rfl) rfl rfl (by simpa using h0) (by simpa using h63) rfl) (fun _ _ => Wr.rebaseS [] ((pt b 431 [a, Vl g s.size cap]) :: []) (by kernel_rfl) (Wr.p 11 oo1 rfl (q_assign rfl) (Wr.z (Wx.go (Wc.ret (Wx.f1 rfl (fun w hs => ?_)))))))))))))))))
 exact ⟨(), trivial, rfl, hs⟩
theorem bstr_c (W0 : World) (b : Nat) (a v : Value) (s : ByteArray) (h63 : s.size ≤ 9223372036854775807) (hv : s.size = 0 → v = .slice none 0 0) : Con1 prog W0 265 #[.pointer (some ⟨b, 0, none⟩)] [pt b 431 [a, v], sl 5 1 v s.size (Lib.strCells s)] (.string s) ([pt b 431 [a, v]]) := fun w F hs => by
  by_cases h0 : s.size = 0
  · obtain rfl := hv h0
    obtain rfl : s = ByteArray.empty := ByteArray.size_eq_zero_iff.1 h0
    exact bstr0 W0 b a w F (st_drop (st_swap hs))
  · rcases st_sl_cases (st_swap hs) with ⟨_, e, _⟩ | ⟨g, cap, rfl, hnc, _, hs2⟩
    · exact absurd e h0
    · exact bstr1 W0 b g cap a s (by omega) (by omega) h63 w F (st_swap hs2)
end Go.Proofs.YtjnejkdamhefgaaGreatDoor
