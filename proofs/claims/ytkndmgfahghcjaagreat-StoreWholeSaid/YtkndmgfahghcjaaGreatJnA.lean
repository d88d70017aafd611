import Derived.Test.YtkndmgfahghcjaaGreatJnM
import Derived.Test.YtkndmgfahghcjaaGreatDkL
import Derived.Test.YtkndmgfahghcjaaGreatJnV
import Derived.Test.YtkndmgfahghcjaaGreatSLG
import Derived.Test.YtkndmgfahghcjaaGreatShelf
/- Contracts of the calls. -/
namespace Go.Proofs.YtkndmgfahghcjaaGreat
open Go Go.SL Go.Dk Go.Jn Go.RowKit
set_option linter.unusedVariables false
set_option maxRecDepth 8000
theorem se_65 : sliceElem Tryz.prog 65 = some (5, 1) := by kernel_rfl
theorem sc_5 : scalar Tryz.prog 5 = true := by kernel_rfl
theorem fo_132_0 : fieldOff Tryz.prog 132 0 = some 0 := by kernel_rfl
theorem sc_130 : scalar Tryz.prog 130 = true := by kernel_rfl
theorem sz_132 : sizeIs Tryz.prog 132 = some 2 := by kernel_rfl
theorem sz_130 : sizeIs Tryz.prog 130 = some 1 := by kernel_rfl
theorem fo_132_1 : fieldOff Tryz.prog 132 1 = some 1 := by kernel_rfl
theorem sc_65 : scalar Tryz.prog 65 = true := by kernel_rfl
theorem sz_65 : sizeIs Tryz.prog 65 = some 1 := by kernel_rfl
theorem repeat_c (W0 : World) : Con Tryz.prog W0 104 #[.string ⟨#[0]⟩, .int .i64 64] [] (X := Unit) (fun _ => True) (fun _ => .string noughts) (fun _ => []) := Con.below fun w =>
 (Tryz.strings_Repeat ⟨#[0]⟩ 64 w (by decide) (by decide)).mono fun e w' h => ⟨h.1, h.2⟩

theorem none_c (W0 : World)  :
  Con Tryz.prog W0 90 #[] [] (X := Unit) (fun _ => True) (fun _ => .string noughts) (fun _ => []) := by
 refine Con.of (args := []) Tryz.func90 rfl Tryz.ntmps90 rfl (fun F => ?_)
 show Wc _ W0 _ _ _ _ _ (F)
 refine Wc.seq (Wc.region (Wl.q (v := Value.string (⟨#[]⟩)) (q_assign rfl) (Wl.done (Wx.go (Wc.seq (Wc.region (Wl.e (e_call (F := F) (args := [Value.string (⟨#[0]⟩), Value.int .i64 64]) Tryz.call104 rfl (repeat_c W0)) (fun _ _ => Wl.imp (L' := F) (fun _ h => h) (Wl.q (v := Value.string noughts) (q_assign rfl) (Wl.done (Wx.go ?_)))))))))))
 refine Wc.ret (Wx.fin1 rfl (.inl rfl) (fun w hs => ?_))
 exact ⟨(), trivial, rfl, hs⟩

theorem head_c (W0 : World) (n l : Int) :
    Con Tryz.prog W0 91 #[Value.int .i64 n, Value.int .i64 l] [] (X := Unit) (fun _ => True) (fun _ => .string (headB n l)) (fun _ => []) := by
  refine Con.of (args := [Value.int .i64 n, Value.int .i64 l]) Tryz.func91 rfl Tryz.ntmps91 rfl (fun F => ?_)
  show Wc _ W0 _ _ _ _ _ (F)
  refine Wc.seq (Wc.region (Wl.q (v := Value.string (⟨#[]⟩)) (q_assign rfl) (Wl.done (Wx.go (Wc.seq (Wc.region (Wl.e (e_makeSlice (len := 64) Tryz.underlying65 sz_5 by_5 zo_5 rfl rfl (by omega) (by omega)) (fun bl _ => Wl.imp (L' := (pt bl 5 ((madeCells (Value.int .u8 0 : Value).cells (64 * 1)).toList)) :: F) (fun _ h => h) (Wl.q (v := Value.slice (some ⟨bl, 0, none⟩) 64 64) (q_assign rfl) (Wl.done (Wx.go ?_)))))))))))
  refine Wc.seq (Wc.region (Wl.q (v := Value.slice (some ⟨bl, 0, none⟩) 64 64) (q_move rfl) (Wl.q (v := Value.pointer (some ⟨bl, 0, none⟩)) (q_idx (m := 0) se_65 rfl rfl (by omega) (by omega) rfl) (Wl.e (e_store (i := 0) (v := Value.int .u8 74) sz_5 rfl rfl (fun _ _ => rfl) rfl (by rw [made_bytes]; simp)) (fun _ _ => Wl.imp (L' := (pt bl 5 ((hd1 n 0).map byteV)) :: F) (fun _ h => by rw [made_bytes] at h; exact h) (Wl.done (Wx.go (Wc.seq (Wc.seq (Wc.region (Wl.q (v := Value.int .i64 0) (q_move rfl) ?_)))))))))))
  refine Wl.done (Wx.go (Wc.block ?_))
  refine Wc.loop (X := Nat) (fun i E => E 11 = Value.int .i64 ((i : Nat) : Int) ∧ E 0 = Value.int .i64 n ∧ E 1 = Value.int .i64 l ∧ E 5 = Value.slice (some ⟨bl, 0, none⟩) 64 64 ∧ i ≤ 8) (fun i => (pt bl 5 ((hd1 n i).map byteV)) :: F) (fun i => 8 - i) 0 ?_ ?_ ?_
  · exact ⟨rfl, rfl, rfl, rfl, (by omega)⟩
  · exact fun w hs => hs
  · rintro i E2 ⟨hE11_0, hE0_0, hE1_0, hE5_0, hi⟩
    refine Wc.seq (Wc.region ?_)
    by_cases hlt : ((i : Nat) : Int) < 8
    ·
      refine Wl.q (v := Value.bool true) (q_lss (r := true) hE11_0 rfl (decide_eq_true hlt)) (Wl.done (Wx.go (Wc.seq (Wc.yes rfl (Wc.skip (Wx.go (Wc.seq (Wc.block (Wc.seq (Wc.region (Wl.q (v := Value.int .i64 ((i : Nat) : Int)) (q_move hE11_0) ?_)))))))))))
      refine Wl.q (v := Value.int .i64 ((i : Nat) : Int)) (q_assign rfl) (Wl.done (Wx.go (Wc.region (Wl.q (v := Value.slice (some ⟨bl, 0, none⟩) 64 64) (q_move hE5_0) (Wl.q (v := Value.int .i64 ((i : Nat) : Int)) (q_move rfl) (Wl.q (v := Value.int .i64 ((1 + i : Nat) : Int)) (q_add (c := ((1 + i : Nat) : Int)) rfl rfl (by rw [wrap_i64] <;> omega)) (Wl.q (v := Value.int .i64 n) (q_move hE0_0) (Wl.q (v := Value.int .i64 ((i : Nat) : Int)) (q_move rfl) (Wl.q (v := Value.int .i64 ((8 * i : Nat) : Int)) (q_mul (c := ((8 * i : Nat) : Int)) rfl rfl (by rw [wrap_i64] <;> omega)) (Wl.q (v := Value.int .i64 ((8 * (7 - i) : Nat) : Int)) (q_sub (c := ((8 * (7 - i) : Nat) : Int)) rfl rfl (by rw [wrap_i64] <;> omega)) (Wl.q (v := Value.int .i64 (n.fdiv (2 ^ min (Int.toNat ((8 * (7 - i) : Nat) : Int)) IntKind.i64.bits))) (q_shr (c := (n.fdiv (2 ^ min (Int.toNat ((8 * (7 - i) : Nat) : Int)) IntKind.i64.bits))) rfl rfl (by omega) rfl) ?_)))))))))))
      refine Wl.q (v := Value.int .u8 ((hByte n (7 - i)).toNat : Int)) (q_conv_int (c := ((hByte n (7 - i)).toNat : Int)) Tryz.underlying5 (by rw [Tryz.underlying3]; rfl) rfl (shr_byte n (by omega))) (Wl.q (v := Value.pointer (some ⟨bl, 1 + i, none⟩)) (q_idx (m := 1 + i) se_65 rfl rfl (by omega) (by omega) (by rw [Int.toNat_natCast]; omega)) (Wl.e (e_store (i := 0) (v := Value.int .u8 ((hByte n (7 - i)).toNat : Int)) sz_5 rfl rfl (fun _ _ => rfl) rfl (by simp only [List.length_map]; rw [hd1_len n (by omega)]; omega)) (fun _ _ => Wl.imp (L' := (pt bl 5 ((hd1 n (i + 1)).map byteV)) :: F) (fun _ h => by rw [← hd1_step (n := n) (i := i) (by omega), List.map_set]; exact h) (Wl.done (Wx.blockEnd (Wx.go (Wc.region (Wl.q (v := Value.int .i64 ((i + 1 : Nat) : Int)) (q_add (c := ((i + 1 : Nat) : Int)) hE11_0 rfl (by rw [wrap_i64] <;> omega)) (Wl.q (v := Value.int .i64 ((i + 1 : Nat) : Int)) (q_move rfl) (Wl.done ?_))))))))))
      refine Wx.at (i + 1) ⟨(by omega), rfl, hE0_0, hE1_0, hE5_0, (by omega)⟩ (fun w hs => hs)
    ·
      have he : i = 8 := by omega
      refine Wl.q (v := Value.bool false) (q_lss (r := false) hE11_0 rfl (decide_eq_false hlt)) (Wl.done (Wx.go (Wc.seq (Wc.no rfl (Wc.exit (Wx.thenExit (Wx.thenExit (Wx.out (Wx.go (Wc.seq (Wc.seq ?_)))))))))))
      refine Wc.region (Wl.q (v := Value.int .i64 0) (q_move rfl) (Wl.done (Wx.go (Wc.block ?_))))
      refine Wc.loop (X := Nat) (fun i E => E 25 = Value.int .i64 ((i : Nat) : Int) ∧ E 1 = Value.int .i64 l ∧ E 5 = Value.slice (some ⟨bl, 0, none⟩) 64 64 ∧ i ≤ 4) (fun i => (pt bl 5 ((hd2 n l i).map byteV)) :: F) (fun i => 4 - i) 0 ?_ ?_ ?_
      · exact ⟨rfl, hE1_0, hE5_0, (by omega)⟩
      · exact fun w hs => by rw [← hd2_start, ← he]; exact hs
      · rintro i E4 ⟨hE25_2, hE1_2, hE5_2, hi⟩
        refine Wc.seq (Wc.region ?_)
        by_cases hlt : ((i : Nat) : Int) < 4
        ·
          refine Wl.q (v := Value.bool true) (q_lss (r := true) hE25_2 rfl (decide_eq_true hlt)) (Wl.done (Wx.go (Wc.seq (Wc.yes rfl (Wc.skip (Wx.go (Wc.seq (Wc.block (Wc.seq (Wc.region (Wl.q (v := Value.int .i64 ((i : Nat) : Int)) (q_move hE25_2) ?_)))))))))))
          refine Wl.q (v := Value.int .i64 ((i : Nat) : Int)) (q_assign rfl) (Wl.done (Wx.go (Wc.region (Wl.q (v := Value.slice (some ⟨bl, 0, none⟩) 64 64) (q_move hE5_2) (Wl.q (v := Value.int .i64 ((i : Nat) : Int)) (q_move rfl) (Wl.q (v := Value.int .i64 ((9 + i : Nat) : Int)) (q_add (c := ((9 + i : Nat) : Int)) rfl rfl (by rw [wrap_i64] <;> omega)) (Wl.q (v := Value.int .i64 l) (q_move hE1_2) (Wl.q (v := Value.int .i64 ((i : Nat) : Int)) (q_move rfl) (Wl.q (v := Value.int .i64 ((8 * i : Nat) : Int)) (q_mul (c := ((8 * i : Nat) : Int)) rfl rfl (by rw [wrap_i64] <;> omega)) (Wl.q (v := Value.int .i64 ((8 * (3 - i) : Nat) : Int)) (q_sub (c := ((8 * (3 - i) : Nat) : Int)) rfl rfl (by rw [wrap_i64] <;> omega)) (Wl.q (v := Value.int .i64 (l.fdiv (2 ^ min (Int.toNat ((8 * (3 - i) : Nat) : Int)) IntKind.i64.bits))) (q_shr (c := (l.fdiv (2 ^ min (Int.toNat ((8 * (3 - i) : Nat) : Int)) IntKind.i64.bits))) rfl rfl (by omega) rfl) ?_)))))))))))
          refine Wl.q (v := Value.int .u8 ((hByte l (3 - i)).toNat : Int)) (q_conv_int (c := ((hByte l (3 - i)).toNat : Int)) Tryz.underlying5 (by rw [Tryz.underlying3]; rfl) rfl (shr_byte l (by omega))) (Wl.q (v := Value.pointer (some ⟨bl, 9 + i, none⟩)) (q_idx (m := 9 + i) se_65 rfl rfl (by omega) (by omega) (by rw [Int.toNat_natCast]; omega)) (Wl.e (e_store (i := 0) (v := Value.int .u8 ((hByte l (3 - i)).toNat : Int)) sz_5 rfl rfl (fun _ _ => rfl) rfl (by simp only [List.length_map]; rw [hd2_len n l (by omega)]; omega)) (fun _ _ => Wl.imp (L' := (pt bl 5 ((hd2 n l (i + 1)).map byteV)) :: F) (fun _ h => by rw [← hd2_step (n := n) (l := l) (i := i) (by omega), List.map_set]; exact h) (Wl.done (Wx.blockEnd (Wx.go (Wc.region (Wl.q (v := Value.int .i64 ((i + 1 : Nat) : Int)) (q_add (c := ((i + 1 : Nat) : Int)) hE25_2 rfl (by rw [wrap_i64] <;> omega)) (Wl.q (v := Value.int .i64 ((i + 1 : Nat) : Int)) (q_move rfl) (Wl.done ?_))))))))))
          refine Wx.at (i + 1) ⟨(by omega), rfl, hE1_2, hE5_2, (by omega)⟩ (fun w hs => hs)
        ·
          have he : i = 4 := by omega
          refine Wl.q (v := Value.bool false) (q_lss (r := false) hE25_2 rfl (decide_eq_false hlt)) (Wl.done (Wx.go (Wc.seq (Wc.no rfl (Wc.exit (Wx.thenExit (Wx.thenExit (Wx.out (Wx.go (Wc.seq (Wc.region ?_)))))))))))
          refine Wl.q (v := Value.slice (some ⟨bl, 0, none⟩) 64 64) (q_move hE5_2) (Wl.q (v := Value.string (⟨((headL n l)).toArray⟩)) (q_str_of (l := (headL n l)) Tryz.underlying65 Tryz.underlying5 Tryz.underlying9 rfl (headL_len n l) (fun j u hj => .cel (i := 0) rfl (by rw [he, hd2_end, Nat.zero_add]; exact hj))) (Wl.q (v := Value.string (⟨((headL n l)).toArray⟩)) (q_assign rfl) (Wl.done (Wx.go (Wc.ret (Wx.fin1 rfl (.inl rfl) (fun w hs => ?_)))))))
          exact ⟨(), trivial, rfl, (st_drop (st_pull [0] hs))⟩

theorem parse_c (W0 : World) (s : ByteArray) (hsz : s.size = 64) :
    Con Tryz.prog W0 75 #[Value.string s] [] (X := Unit) (fun _ => True) (fun _ => .tuple #[.int .i64 (parseT s).1, .int .i64 (parseT s).2.1, .bool (parseT s).2.2]) (fun _ => []) := by
  refine Con.of (args := [Value.string s]) Tryz.func75 rfl Tryz.ntmps75 rfl (fun F => ?_)
  show Wc _ W0 _ _ _ _ _ (F)
  refine Wc.seq (Wc.region (Wl.q (v := Value.int .i64 0) (q_assign rfl) (Wl.q (v := Value.int .i64 0) (q_assign rfl) (Wl.q (v := Value.bool false) (q_assign rfl) (Wl.done (Wx.go (Wc.seq (Wc.seq (Wc.region (Wl.q (v := Value.string s) (q_move rfl) (Wl.e (e_call (F := F) (args := []) Tryz.call90 rfl (none_c W0)) (fun _ _ => ?_))))))))))))
  refine Wl.imp (L' := F) (fun _ h => h) ?_
  by_cases hno : s = noughts
  ·
    refine Wl.q (v := Value.bool true) (q_eql_str (r := true) rfl rfl (text_true hno)) (Wl.done (Wx.go (Wc.yes rfl (Wc.seq (Wc.region (Wl.q (v := Value.int .i64 0) (q_assign rfl) (Wl.q (v := Value.int .i64 0) (q_assign rfl) (Wl.q (v := Value.bool true) (q_assign rfl) (Wl.done (Wx.go (Wc.ret ?_)))))))))))
    refine Wx.thenRet (Wx.fin3 rfl (.inl rfl) (fun w hs => ?_))
    have e : parseT s = (0, 0, true) := if_pos hno
    exact ⟨(), trivial, (by rw [e]; rfl), hs⟩
  ·
    refine Wl.q (v := Value.bool false) (q_eql_str (r := false) rfl rfl (text_false hno)) (Wl.done (Wx.go (Wc.no rfl (Wc.skip (Wx.go (Wc.seq (Wc.seq (Wc.region (Wl.q (v := Value.string s) (q_move rfl) ?_)))))))))
    have hz1 : (s.extract 1 9).size = 8 := by rw [ByteArray.size_extract]; omega
    refine Wl.q (v := Value.string (s.extract 1 9)) (q_slice_str (l := 1) (h := 9) Tryz.underlying9 rfl ⟨_, rfl⟩ ⟨_, rfl⟩ (by omega) (by omega) rfl) (Wl.e (e_bytes Tryz.underlying9 Tryz.underlying65 Tryz.underlying5 rfl) (fun ⟨b1, c2, m3⟩ _ => Wl.imp (L' := (ptf b1 5 (Lib.strCells (s.extract 1 9) ++ List.replicate m3 (Value.int .u8 0))) :: F) (fun _ h => h) (Wl.q (v := Value.int .i64 (((s.extract 1 9).size : Nat) : Int)) (q_len_slice Tryz.underlying65 rfl) (Wl.q (v := Value.int .i64 0) (q_move rfl) (Wl.done (Wx.go (Wc.block ?_)))))))
    refine Wc.loop (X := Nat) (fun i E => E 16 = Value.int .i64 ((i : Nat) : Int) ∧ E 2 = Value.int .i64 (num 0 ((s.extract 1 9).data.toList.take i)) ∧ E 0 = Value.string s ∧ E 3 = Value.int .i64 0 ∧ E 14 = Value.slice (some ⟨b1, 0, none⟩) ((s.extract 1 9).size) c2 ∧ E 15 = Value.int .i64 (((s.extract 1 9).size : Nat) : Int) ∧ i ≤ 8) (fun i => (ptf b1 5 (Lib.strCells (s.extract 1 9) ++ List.replicate m3 (Value.int .u8 0))) :: F) (fun i => 8 - i) 0 ?_ ?_ ?_
    · exact ⟨rfl, rfl, rfl, rfl, rfl, rfl, (by omega)⟩
    · exact fun w hs => hs
    · rintro i E5 ⟨hE16_3, hE2_3, hE0_3, hE3_3, hE14_3, hE15_3, hi⟩
      refine Wc.seq (Wc.region ?_)
      by_cases hlt : ((i : Nat) : Int) < (((s.extract 1 9).size : Nat) : Int)
      ·
        obtain ⟨c, hc⟩ := bytes_at (s := (s.extract 1 9)) (i := i) (by omega)
        refine Wl.q (v := Value.bool true) (q_lss (r := true) hE16_3 hE15_3 (decide_eq_true hlt)) (Wl.done (Wx.go (Wc.seq (Wc.yes rfl (Wc.skip (Wx.go (Wc.seq (Wc.block (Wc.seq (Wc.region (Wl.q (v := Value.pointer (some ⟨b1, i, none⟩)) (q_idx (m := i) se_65 hE14_3 hE16_3 (by omega) (by omega) (by simp)) ?_)))))))))))
        refine Wl.q (v := Value.int .u8 ((c.toNat : Nat) : Int)) (q_load sc_5 rfl (.frz (i := 0) rfl (str_at hc))) (Wl.q (v := Value.int .u8 ((c.toNat : Nat) : Int)) (q_assign rfl) (Wl.done (Wx.go (Wc.region (Wl.q (v := Value.int .i64 (num 0 ((s.extract 1 9).data.toList.take i))) (q_move hE2_3) (Wl.q (v := Value.int .i64 (IntKind.i64.wrap (num 0 ((s.extract 1 9).data.toList.take i) * 2 ^ min (Int.toNat 8) IntKind.i64.bits))) (q_shl (c := (IntKind.i64.wrap (num 0 ((s.extract 1 9).data.toList.take i) * 2 ^ min (Int.toNat 8) IntKind.i64.bits))) rfl rfl (by decide) rfl) (Wl.q (v := Value.int .u8 ((c.toNat : Nat) : Int)) (q_move rfl) (Wl.q (v := Value.int .i64 ((c.toNat : Nat) : Int)) (q_conv_int (c := ((c.toNat : Nat) : Int)) Tryz.underlying3 (by rw [Tryz.underlying5]; rfl) rfl (wrap_i64 (by omega) (by have := c.toNat_lt; omega))) (Wl.q (v := Value.int .i64 (num 0 ((s.extract 1 9).data.toList.take (i + 1)))) (q_or (c := (num 0 ((s.extract 1 9).data.toList.take (i + 1)))) rfl rfl (by rw [take_at hc, num_snoc]; exact or_byte (by omega) (by have := c.toNat_lt; omega))) (Wl.q (v := Value.int .i64 (num 0 ((s.extract 1 9).data.toList.take (i + 1)))) (q_assign rfl) (Wl.done ?_)))))))))))
        refine Wx.blockEnd (Wx.go (Wc.region (Wl.q (v := Value.int .i64 ((i + 1 : Nat) : Int)) (q_add (c := ((i + 1 : Nat) : Int)) hE16_3 rfl (by rw [wrap_i64] <;> omega)) (Wl.q (v := Value.int .i64 ((i + 1 : Nat) : Int)) (q_move rfl) (Wl.done ?_)))))
        refine Wx.at (i + 1) ⟨(by omega), rfl, rfl, hE0_3, hE3_3, hE14_3, hE15_3, (by omega)⟩ (fun w hs => hs)
      ·
        have he : i = 8 := by omega
        have esNum : num 0 ((s.extract 1 9).data.toList.take i) = sNum s := by rw [he]; exact cut_num hsz
        refine Wl.q (v := Value.bool false) (q_lss (r := false) hE16_3 hE15_3 (decide_eq_false hlt)) (Wl.done (Wx.go (Wc.seq (Wc.no rfl (Wc.exit (Wx.thenExit (Wx.thenExit (Wx.out (Wx.go (Wc.seq (Wc.seq ?_)))))))))))
        refine Wc.region (Wl.q (v := Value.string s) (q_move hE0_3) ?_)
        have hz2 : (s.extract 9 13).size = 4 := by rw [ByteArray.size_extract]; omega
        refine Wl.q (v := Value.string (s.extract 9 13)) (q_slice_str (l := 9) (h := 13) Tryz.underlying9 rfl ⟨_, rfl⟩ ⟨_, rfl⟩ (by omega) (by omega) rfl) (Wl.e (e_bytes Tryz.underlying9 Tryz.underlying65 Tryz.underlying5 rfl) (fun ⟨b6, c7, m8⟩ _ => Wl.imp (L' := (ptf b6 5 (Lib.strCells (s.extract 9 13) ++ List.replicate m8 (Value.int .u8 0))) :: (ptf b1 5 (Lib.strCells (s.extract 1 9) ++ List.replicate m3 (Value.int .u8 0))) :: F) (fun _ h => h) (Wl.q (v := Value.int .i64 (((s.extract 9 13).size : Nat) : Int)) (q_len_slice Tryz.underlying65 rfl) (Wl.q (v := Value.int .i64 0) (q_move rfl) (Wl.done (Wx.go (Wc.block ?_)))))))
        refine Wc.loop (X := Nat) (fun i E => E 30 = Value.int .i64 ((i : Nat) : Int) ∧ E 3 = Value.int .i64 (num 0 ((s.extract 9 13).data.toList.take i)) ∧ E 0 = Value.string s ∧ E 2 = Value.int .i64 (sNum s) ∧ E 28 = Value.slice (some ⟨b6, 0, none⟩) ((s.extract 9 13).size) c7 ∧ E 29 = Value.int .i64 (((s.extract 9 13).size : Nat) : Int) ∧ i ≤ 4) (fun i => (ptf b6 5 (Lib.strCells (s.extract 9 13) ++ List.replicate m8 (Value.int .u8 0))) :: F) (fun i => 4 - i) 0 ?_ ?_ ?_
        · exact ⟨rfl, hE3_3, hE0_3, (hE2_3.trans (congrArg (Value.int .i64) esNum)), rfl, rfl, (by omega)⟩
        · exact fun w hs => (st_drop (st_pull [1] hs))
        · rintro i E10 ⟨hE30_8, hE3_8, hE0_8, hE2_8, hE28_8, hE29_8, hi⟩
          refine Wc.seq (Wc.region ?_)
          by_cases hlt : ((i : Nat) : Int) < (((s.extract 9 13).size : Nat) : Int)
          ·
            obtain ⟨c, hc⟩ := bytes_at (s := (s.extract 9 13)) (i := i) (by omega)
            refine Wl.q (v := Value.bool true) (q_lss (r := true) hE30_8 hE29_8 (decide_eq_true hlt)) (Wl.done (Wx.go (Wc.seq (Wc.yes rfl (Wc.skip (Wx.go (Wc.seq (Wc.block (Wc.seq (Wc.region (Wl.q (v := Value.pointer (some ⟨b6, i, none⟩)) (q_idx (m := i) se_65 hE28_8 hE30_8 (by omega) (by omega) (by simp)) ?_)))))))))))
            refine Wl.q (v := Value.int .u8 ((c.toNat : Nat) : Int)) (q_load sc_5 rfl (.frz (i := 0) rfl (str_at hc))) (Wl.q (v := Value.int .u8 ((c.toNat : Nat) : Int)) (q_assign rfl) (Wl.done (Wx.go (Wc.region (Wl.q (v := Value.int .i64 (num 0 ((s.extract 9 13).data.toList.take i))) (q_move hE3_8) (Wl.q (v := Value.int .i64 (IntKind.i64.wrap (num 0 ((s.extract 9 13).data.toList.take i) * 2 ^ min (Int.toNat 8) IntKind.i64.bits))) (q_shl (c := (IntKind.i64.wrap (num 0 ((s.extract 9 13).data.toList.take i) * 2 ^ min (Int.toNat 8) IntKind.i64.bits))) rfl rfl (by decide) rfl) (Wl.q (v := Value.int .u8 ((c.toNat : Nat) : Int)) (q_move rfl) (Wl.q (v := Value.int .i64 ((c.toNat : Nat) : Int)) (q_conv_int (c := ((c.toNat : Nat) : Int)) Tryz.underlying3 (by rw [Tryz.underlying5]; rfl) rfl (wrap_i64 (by omega) (by have := c.toNat_lt; omega))) (Wl.q (v := Value.int .i64 (num 0 ((s.extract 9 13).data.toList.take (i + 1)))) (q_or (c := (num 0 ((s.extract 9 13).data.toList.take (i + 1)))) rfl rfl (by rw [take_at hc, num_snoc]; exact or_byte (by omega) (by have := c.toNat_lt; omega))) (Wl.q (v := Value.int .i64 (num 0 ((s.extract 9 13).data.toList.take (i + 1)))) (q_assign rfl) (Wl.done ?_)))))))))))
            refine Wx.blockEnd (Wx.go (Wc.region (Wl.q (v := Value.int .i64 ((i + 1 : Nat) : Int)) (q_add (c := ((i + 1 : Nat) : Int)) hE30_8 rfl (by rw [wrap_i64] <;> omega)) (Wl.q (v := Value.int .i64 ((i + 1 : Nat) : Int)) (q_move rfl) (Wl.done ?_)))))
            refine Wx.at (i + 1) ⟨(by omega), rfl, rfl, hE0_8, hE2_8, hE28_8, hE29_8, (by omega)⟩ (fun w hs => hs)
          ·
            have he : i = 4 := by omega
            have esLen : num 0 ((s.extract 9 13).data.toList.take i) = sLen s := by rw [he]; exact cut_len hsz
            refine Wl.q (v := Value.bool false) (q_lss (r := false) hE30_8 hE29_8 (decide_eq_false hlt)) (Wl.done (Wx.go (Wc.seq (Wc.no rfl (Wc.exit (Wx.thenExit (Wx.thenExit (Wx.out (Wx.go (Wc.seq (Wc.region ?_)))))))))))
            refine Wl.q (v := Value.int .i64 (sNum s)) (q_move hE2_8) (Wl.q (v := Value.int .i64 (sLen s)) (q_move (hE3_8.trans (congrArg (Value.int .i64) esLen))) (Wl.q (v := Value.int .i64 (sNum s)) (q_move hE2_8) ?_))
            by_cases hpos : (sNum s) > 0
            ·
              refine Wl.q (v := Value.bool true) (q_gtr (r := true) rfl rfl (decide_eq_true hpos)) (Wl.q (v := Value.bool true) (q_move rfl) (Wl.q (v := Value.string s) (q_move hE0_8) (Wl.q (v := Value.int .i64 (sNum s)) (q_move hE2_8) (Wl.q (v := Value.int .i64 (sLen s)) (q_move (hE3_8.trans (congrArg (Value.int .i64) esLen))) (Wl.e (e_call (F := (ptf b6 5 (Lib.strCells (s.extract 9 13) ++ List.replicate m8 (Value.int .u8 0))) :: F) (args := [Value.int .i64 (sNum s), Value.int .i64 (sLen s)]) Tryz.call91 rfl (head_c W0 (sNum s) (sLen s))) (fun _ _ => Wl.imp (L' := (ptf b6 5 (Lib.strCells (s.extract 9 13) ++ List.replicate m8 (Value.int .u8 0))) :: F) (fun _ h => h) ?_))))))
              by_cases hse : s = (headB (sNum s) (sLen s))
              ·
                refine Wl.q (v := Value.bool true) (q_eql_str (r := true) rfl rfl (text_true hse)) (Wl.q (v := Value.bool true) (q_pick (t := true) rfl rfl) (Wl.q (v := Value.int .i64 (sNum s)) (q_assign rfl) (Wl.q (v := Value.int .i64 (sLen s)) (q_assign rfl) (Wl.q (v := Value.bool true) (q_assign rfl) (Wl.done (Wx.go (Wc.ret (Wx.fin3 rfl (.inl rfl) (fun w hs => ?_)))))))))
                have e : parseT s = (sNum s, sLen s, true) := by unfold parseT; rw [if_neg hno, decide_eq_true ⟨hpos, hse⟩]
                exact ⟨(), trivial, (by rw [e]; rfl), (st_drop (st_pull [0] hs))⟩
              ·
                refine Wl.q (v := Value.bool false) (q_eql_str (r := false) rfl rfl (text_false hse)) (Wl.q (v := Value.bool false) (q_pick (t := true) rfl rfl) (Wl.q (v := Value.int .i64 (sNum s)) (q_assign rfl) (Wl.q (v := Value.int .i64 (sLen s)) (q_assign rfl) (Wl.q (v := Value.bool false) (q_assign rfl) (Wl.done (Wx.go (Wc.ret (Wx.fin3 rfl (.inl rfl) (fun w hs => ?_)))))))))
                have e : parseT s = (sNum s, sLen s, false) := by unfold parseT; rw [if_neg hno, decide_eq_false (fun h => hse h.2)]
                exact ⟨(), trivial, (by rw [e]; rfl), (st_drop (st_pull [0] hs))⟩
            ·
              refine Wl.q (v := Value.bool false) (q_gtr (r := false) rfl rfl (decide_eq_false hpos)) (Wl.q (v := Value.bool false) (q_move rfl) (Wl.no (Wl.no (Wl.no (Wl.no (Wl.no (Wl.q (v := Value.bool false) (q_pick (t := false) rfl rfl) (Wl.q (v := Value.int .i64 (sNum s)) (q_assign rfl) (Wl.q (v := Value.int .i64 (sLen s)) (q_assign rfl) (Wl.q (v := Value.bool false) (q_assign rfl) (Wl.done ?_)))))))))))
              refine Wx.go (Wc.ret (Wx.fin3 rfl (.inl rfl) (fun w hs => ?_)))
              have e : parseT s = (sNum s, sLen s, false) := by unfold parseT; rw [if_neg hno, decide_eq_false (fun h => hpos h.1)]
              exact ⟨(), trivial, (by rw [e]; rfl), (st_drop (st_pull [0] hs))⟩

theorem sectors_c (W0 : World) (dp : Nat) (d : DS) (h1 : 1 ≤ d.secs.length) (hm : d.secs.length ≤ 4096) :
  Con Tryz.prog W0 76 #[Value.pointer (some ⟨dp, 0, none⟩)] [isDisk dp d] (X := Unit) (fun _ => True) (fun _ => .int .i64 ((half d.secs : Nat) : Int)) (fun _ => [isDisk dp d]) := by
 refine Con.of (args := [Value.pointer (some ⟨dp, 0, none⟩)]) Tryz.func76 rfl Tryz.ntmps76 rfl (fun F => ?_)
 show Wc _ W0 _ _ _ _ _ ((isDisk dp d) :: F)
 refine Wc.seq (Wc.region (Wl.q (v := Value.int .i64 0) (q_assign rfl) (Wl.done (Wx.go (Wc.seq (Wc.region (Wl.q (v := Value.pointer (some ⟨dp, 0, none⟩)) (q_move rfl) (Wl.e (e_call (F := F) (args := [Value.pointer (some ⟨dp, 0, none⟩)]) Tryz.call73 rfl (len_c W0 dp d )) (fun _ _ => Wl.imp (L' := (isDisk dp d) :: F) (fun _ h => h) (Wl.q (v := Value.int .i64 ((((d).secs.length : Nat) : Int) - 2)) (q_sub (c := ((((d).secs.length : Nat) : Int) - 2)) rfl rfl (wrap_i64 (by omega) (by omega))) (Wl.q (v := Value.int .i64 ((half d.secs : Nat) : Int)) (q_quo (c := ((half d.secs : Nat) : Int)) rfl rfl (by decide) (by rw [sectors_eq h1]; exact wrap_i64 (by omega) (by omega))) ?_)))))))))))
 refine Wl.q (v := Value.int .i64 ((half d.secs : Nat) : Int)) (q_assign rfl) (Wl.done (Wx.go (Wc.ret (Wx.fin1 rfl (.inl rfl) (fun w hs => ?_)))))
 exact ⟨(), trivial, rfl, hs⟩

theorem first_c (W0 : World) (dp : Nat) (d : DS) (n : Int) (h0 : 0 ≤ n) (h1 : 1 ≤ d.secs.length) (hm : d.secs.length ≤ 4096) :
  Con Tryz.prog W0 92 #[Value.pointer (some ⟨dp, 0, none⟩), Value.int .i64 n] [isDisk dp d] (X := Unit) (fun _ => True) (fun _ => .int .i64 ((first d.secs n : Nat) : Int)) (fun _ => [isDisk dp d]) := by
 refine Con.of (args := [Value.pointer (some ⟨dp, 0, none⟩), Value.int .i64 n]) Tryz.func92 rfl Tryz.ntmps92 rfl (fun F => ?_)
 show Wc _ W0 _ _ _ _ _ ((isDisk dp d) :: F)
 refine Wc.seq (Wc.region (Wl.q (v := Value.int .i64 0) (q_assign rfl) (Wl.done (Wx.go (Wc.seq (Wc.seq (Wc.region (Wl.q (v := Value.int .i64 n) (q_move rfl) (Wl.q (v := Value.int .i64 (n % 2)) (q_rem (c := (n % 2)) rfl rfl (by decide) (tmod2_eq h0)) ?_)))))))))
 by_cases hodd : (n % 2) = 1
 ·
  refine Wl.q (v := Value.bool true) (q_eql (r := true) rfl rfl (decide_eq_true hodd)) (Wl.done (Wx.go (Wc.yes rfl (Wc.seq (Wc.region (Wl.q (v := Value.int .i64 2) (q_assign rfl) (Wl.done (Wx.go (Wc.ret (Wx.thenRet (Wx.fin1 rfl (.inl rfl) (fun w hs => ?_))))))))))))
  exact ⟨(), trivial, (by rw [first, if_pos hodd]; rfl), hs⟩
 ·
  refine Wl.q (v := Value.bool false) (q_eql (r := false) rfl rfl (decide_eq_false hodd)) (Wl.done (Wx.go (Wc.no rfl (Wc.skip (Wx.go (Wc.seq (Wc.region (Wl.q (v := Value.pointer (some ⟨dp, 0, none⟩)) (q_move rfl) ?_))))))))
  have hh : half d.secs ≤ 4096 := by unfold half; omega
  refine Wl.e (e_call (F := F) (args := [Value.pointer (some ⟨dp, 0, none⟩)]) Tryz.call76 rfl (sectors_c W0 dp d h1 hm)) (fun _ _ => Wl.imp (L' := (isDisk dp d) :: F) (fun _ h => h) (Wl.q (v := Value.int .i64 ((2 + (half d.secs) : Nat) : Int)) (q_add (c := ((2 + (half d.secs) : Nat) : Int)) rfl rfl (by rw [wrap_i64] <;> omega)) (Wl.q (v := Value.int .i64 ((2 + (half d.secs) : Nat) : Int)) (q_assign rfl) (Wl.done (Wx.go (Wc.ret (Wx.fin1 rfl (.inl rfl) (fun w hs => ?_))))))))
  exact ⟨(), trivial, (by rw [first, if_neg hodd]; rfl), hs⟩

theorem bcheck0 (W0 : World) (b : Nat) (v : Value) :
  Con Tryz.prog W0 105 #[Value.pointer (some ⟨b, 0, none⟩)] [pt b 132 [Value.pointer none, v]] (X := Unit) (fun _ => True) (fun _ => .tuple #[]) (fun _ => [pt b 132 [Value.pointer (some ⟨b, 0, none⟩), v]]) := by
 refine Con.of (args := [Value.pointer (some ⟨b, 0, none⟩)]) Tryz.func105 rfl Tryz.ntmps105 rfl (fun F => ?_)
 show Wc _ W0 _ _ _ _ _ ((pt b 132 [Value.pointer none, v]) :: F)
 refine Wc.seq (Wc.region (Wl.q (v := Value.pointer (some ⟨b, 0, none⟩)) (q_move rfl) (Wl.q (v := Value.pointer (some ⟨b, 0, none⟩)) (q_nil_ptr rfl) (Wl.q (v := Value.pointer (some ⟨b, 0, none⟩)) (q_field (m := 0) fo_132_0 rfl rfl) (Wl.q (v := Value.pointer none) (q_load sc_130 rfl (.cel (i := 0) rfl rfl)) (Wl.q (v := Value.bool true) (q_eql_nil (r := true) rfl rfl Tryz.underlying130 rfl) (Wl.done (Wx.go (Wc.yes rfl (Wc.region (Wl.q (v := Value.pointer (some ⟨b, 0, none⟩)) (q_move rfl) ?_)))))))))))
 refine Wl.q (v := Value.pointer (some ⟨b, 0, none⟩)) (q_move rfl) (Wl.q (v := Value.pointer (some ⟨b, 0, none⟩)) (q_to_unsafe (i := 0) Tryz.underlying130 Tryz.underlying166 sz_132 (by decide) rfl rfl (by simp)) (Wl.q (v := Value.pointer (some ⟨b, 0, none⟩)) (q_same Tryz.func124 (by kernel_rfl) (by kernel_rfl) (by kernel_rfl) (by kernel_rfl) rfl) (Wl.q (v := Value.pointer (some ⟨b, 0, none⟩)) (q_from_unsafe (i := 0) Tryz.underlying166 Tryz.underlying130 sz_132 rfl rfl (by kernel_rfl)) (Wl.q (v := Value.pointer (some ⟨b, 0, none⟩)) (q_nil_ptr rfl) (Wl.q (v := Value.pointer (some ⟨b, 0, none⟩)) (q_field (m := 0) fo_132_0 rfl rfl) (Wl.e (e_store (i := 0) (v := Value.pointer (some ⟨b, 0, none⟩)) sz_130 rfl rfl (fun _ _ => rfl) rfl (by simp)) (fun _ _ => Wl.imp (L' := (pt b 132 [Value.pointer (some ⟨b, 0, none⟩), v]) :: F) (fun _ h => h) (Wl.done (Wx.fin0 rfl (.inr rfl) (fun w hs => ?_))))))))))
 exact ⟨(), trivial, rfl, hs⟩

theorem bcheck1 (W0 : World) (b : Nat) (v : Value) :
  Con Tryz.prog W0 105 #[Value.pointer (some ⟨b, 0, none⟩)] [pt b 132 [Value.pointer (some ⟨b, 0, none⟩), v]] (X := Unit) (fun _ => True) (fun _ => .tuple #[]) (fun _ => [pt b 132 [Value.pointer (some ⟨b, 0, none⟩), v]]) := by
 refine Con.of (args := [Value.pointer (some ⟨b, 0, none⟩)]) Tryz.func105 rfl Tryz.ntmps105 rfl (fun F => ?_)
 show Wc _ W0 _ _ _ _ _ ((pt b 132 [Value.pointer (some ⟨b, 0, none⟩), v]) :: F)
 refine Wc.seq (Wc.region (Wl.q (v := Value.pointer (some ⟨b, 0, none⟩)) (q_move rfl) (Wl.q (v := Value.pointer (some ⟨b, 0, none⟩)) (q_nil_ptr rfl) (Wl.q (v := Value.pointer (some ⟨b, 0, none⟩)) (q_field (m := 0) fo_132_0 rfl rfl) (Wl.q (v := Value.pointer (some ⟨b, 0, none⟩)) (q_load sc_130 rfl (.cel (i := 0) rfl rfl)) (Wl.q (v := Value.bool false) (q_eql_nil (r := false) rfl rfl Tryz.underlying130 rfl) (Wl.done (Wx.go (Wc.no rfl (Wc.seq (Wc.region ?_)))))))))))
 refine Wl.q (v := Value.pointer (some ⟨b, 0, none⟩)) (q_move rfl) (Wl.q (v := Value.pointer (some ⟨b, 0, none⟩)) (q_nil_ptr rfl) (Wl.q (v := Value.pointer (some ⟨b, 0, none⟩)) (q_field (m := 0) fo_132_0 rfl rfl) (Wl.q (v := Value.pointer (some ⟨b, 0, none⟩)) (q_load sc_130 rfl (.cel (i := 0) rfl rfl)) (Wl.q (v := Value.pointer (some ⟨b, 0, none⟩)) (q_move rfl) (Wl.q (v := Value.bool false) (q_neq_ptr_same rfl rfl Tryz.underlying130 sz_132) (Wl.done (Wx.go (Wc.no rfl (Wc.skip (Wx.fin0 rfl (.inr rfl) (fun w hs => ?_)))))))))))
 exact ⟨(), trivial, rfl, hs⟩

theorem bcheck_c (W0 : World) (b : Nat) (a v : Value) (ha : a = .pointer none ∨ a = .pointer (some ⟨b, 0, none⟩)) : Con Tryz.prog W0 105 #[.pointer (some ⟨b, 0, none⟩)] [pt b 132 [a, v]] (X := Unit) (fun _ => True) (fun _ => .tuple #[]) (fun _ => [pt b 132 [Value.pointer (some ⟨b, 0, none⟩), v]]) := by
 rcases ha with rfl | rfl
 · exact bcheck0 W0 b v
 · exact bcheck1 W0 b v

theorem blen_c (W0 : World) (b n : Nat) (a v : Value) (xs : List Value) :
  Con Tryz.prog W0 93 #[Value.pointer (some ⟨b, 0, none⟩)] [pt b 132 [a, v], sl 5 1 v n xs] (X := Unit) (fun _ => True) (fun _ => .int .i64 ((n : Nat) : Int)) (fun _ => [pt b 132 [a, v], sl 5 1 v n xs]) := by
 refine Con.of (args := [Value.pointer (some ⟨b, 0, none⟩)]) Tryz.func93 rfl Tryz.ntmps93 rfl (fun F => ?_)
 show Wc _ W0 _ _ _ _ _ ((pt b 132 [a, v]) :: (sl 5 1 v n xs) :: F)
 refine Wc.seq (Wc.region (Wl.q (v := Value.int .i64 0) (q_assign rfl) (Wl.done (Wx.go (Wc.seq (Wc.region (Wl.q (v := Value.pointer (some ⟨b, 0, none⟩)) (q_move rfl) (Wl.q (v := Value.pointer (some ⟨b, 0, none⟩)) (q_nil_ptr rfl) (Wl.q (v := Value.pointer (some ⟨b, 1, none⟩)) (q_field (m := 1) fo_132_1 rfl rfl) (Wl.q (v := v) (q_load sc_65 rfl (.cel (i := 0) rfl rfl)) (Wl.q (v := Value.int .i64 ((n : Nat) : Int)) (q_len_sl (i := 1) Tryz.underlying65 rfl rfl) ?_)))))))))))
 refine Wl.q (v := Value.int .i64 ((n : Nat) : Int)) (q_assign rfl) (Wl.done (Wx.go (Wc.ret (Wx.fin1 rfl (.inl rfl) (fun w hs => ?_)))))
 exact ⟨(), trivial, rfl, hs⟩

theorem bwrite_c (W0 : World) (b n : Nat) (a v : Value) (xs : List Value) (s : ByteArray) (ha : a = .pointer none ∨ a = .pointer (some ⟨b, 0, none⟩)) (hn : n + s.size ≤ 140737488355328) :
  Con Tryz.prog W0 94 #[Value.pointer (some ⟨b, 0, none⟩), Value.string s] [pt b 132 [a, v], sl 5 1 v n xs] (X := Value) (fun _ => True) (fun _ => .tuple #[.int .i64 ((s.size : Nat) : Int), .nilIface]) (fun v2 => [pt b 132 [Value.pointer (some ⟨b, 0, none⟩), v2], sl 5 1 v2 (n + s.size) (xs ++ Lib.strCells s)]) := by
 refine Con.of (args := [Value.pointer (some ⟨b, 0, none⟩), Value.string s]) Tryz.func94 rfl Tryz.ntmps94 rfl (fun F => ?_)
 show Wc _ W0 _ _ _ _ _ ((pt b 132 [a, v]) :: (sl 5 1 v n xs) :: F)
 refine Wc.seq (Wc.region (Wl.q (v := Value.int .i64 0) (q_assign rfl) (Wl.q (v := Value.nilIface) (q_assign rfl) (Wl.done (Wx.go (Wc.seq (Wc.region (Wl.q (v := Value.pointer (some ⟨b, 0, none⟩)) (q_move rfl) (Wl.e (e_call (F := (sl 5 1 v n xs) :: F) (args := [Value.pointer (some ⟨b, 0, none⟩)]) Tryz.call105 rfl (bcheck_c W0 b a v ha)) (fun _ _ => Wl.imp (L' := (pt b 132 [Value.pointer (some ⟨b, 0, none⟩), v]) :: (sl 5 1 v n xs) :: F) (fun _ h => h) (Wl.done ?_)))))))))))
 refine Wx.go (Wc.seq (Wc.region (Wl.q (v := Value.pointer (some ⟨b, 0, none⟩)) (q_move rfl) (Wl.q (v := Value.pointer (some ⟨b, 0, none⟩)) (q_move rfl) (Wl.q (v := Value.pointer (some ⟨b, 0, none⟩)) (q_nil_ptr rfl) (Wl.q (v := Value.pointer (some ⟨b, 1, none⟩)) (q_field (m := 1) fo_132_1 rfl rfl) (Wl.q (v := v) (q_load sc_65 rfl (.cel (i := 0) rfl rfl)) (Wl.q (v := Value.string s) (q_move rfl) (Wl.e (e_appendStr (i := 1) (s := s) Tryz.underlying65 Tryz.underlying9 sz_5 by_5 zo_5 rfl rfl rfl (by simp only [maxLen]; omega) hn) (fun v2 _ => Wl.imp (L' := (pt b 132 [Value.pointer (some ⟨b, 0, none⟩), v]) :: (sl 5 1 v2 (n + s.size) (xs ++ Lib.strCells s)) :: F) (fun _ h => h) (Wl.q (v := Value.pointer (some ⟨b, 0, none⟩)) (q_nil_ptr rfl) ?_)))))))))))
 refine Wl.q (v := Value.pointer (some ⟨b, 1, none⟩)) (q_field (m := 1) fo_132_1 rfl rfl) (Wl.e (e_store (i := 0) (v := v2) sz_65 rfl rfl (fun _ h => sl_one (i := 1) h rfl) rfl (by simp)) (fun _ _ => Wl.imp (L' := (pt b 132 [Value.pointer (some ⟨b, 0, none⟩), v2]) :: (sl 5 1 v2 (n + s.size) (xs ++ Lib.strCells s)) :: F) (fun _ h => h) (Wl.done (Wx.go (Wc.seq (Wc.region (Wl.q (v := Value.string s) (q_move rfl) (Wl.q (v := Value.int .i64 ((s.size : Nat) : Int)) (q_len_str Tryz.underlying9 rfl) (Wl.q (v := Value.int .i64 ((s.size : Nat) : Int)) (q_assign rfl) (Wl.q (v := Value.nilIface) (q_assign rfl) (Wl.done ?_)))))))))))
 refine Wx.go (Wc.ret (Wx.fin2 rfl (.inl rfl) (fun w hs => ?_)))
 exact ⟨v2, trivial, rfl, hs⟩

theorem bstr0 (W0 : World) (b : Nat) (a : Value) :
  Con Tryz.prog W0 95 #[Value.pointer (some ⟨b, 0, none⟩)] [pt b 132 [a, Value.slice none 0 0]] (X := Unit) (fun _ => True) (fun _ => .string ByteArray.empty) (fun _ => [pt b 132 [a, Value.slice none 0 0]]) := by
 refine Con.of (args := [Value.pointer (some ⟨b, 0, none⟩)]) Tryz.func95 rfl Tryz.ntmps95 rfl (fun F => ?_)
 show Wc _ W0 _ _ _ _ _ ((pt b 132 [a, Value.slice none 0 0]) :: F)
 refine Wc.seq (Wc.region (Wl.q (v := Value.string (⟨#[]⟩)) (q_assign rfl) (Wl.done (Wx.go (Wc.seq (Wc.drawsS [] ((pt b 132 [a, Value.slice none 0 0]) :: []) (by kernel_rfl) (Wr.pure (v := Value.pointer (some ⟨b, 0, none⟩)) 0 rfl (by kernel_rfl) (.inr (fun _ h => st_take [0] h)) (.inl ⟨rfl, fun _ => q_move rfl⟩) (Wr.pure (v := Value.pointer (some ⟨b, 0, none⟩)) 1 rfl (by kernel_rfl) (.inr (fun _ h => st_take [0] h)) (.inl ⟨rfl, fun _ => q_nil_ptr rfl⟩) (Wr.pure (v := Value.pointer (some ⟨b, 1, none⟩)) 2 rfl (by kernel_rfl) (.inr (fun _ h => st_take [0] h)) (.inl ⟨rfl, fun _ => q_field (m := 1) fo_132_1 rfl rfl⟩) (Wr.take (v := Value.slice none 0 0) 3 rfl (by kernel_rfl) (fun _ h => st_take [0] h) (.inl ⟨rfl, q_load sc_65 rfl (.cel (i := 0) rfl rfl)⟩) (Wr.take (v := Value.pointer none) 4 rfl (by kernel_rfl) (fun _ h => st_take [0] h) (.inl ⟨rfl, q_slice_data_nil rfl⟩) ?_)))))))))))
 refine Wr.pure (v := Value.pointer (some ⟨b, 0, none⟩)) 5 rfl (by kernel_rfl) (.inr (fun _ h => st_take [0] h)) (.inl ⟨rfl, fun _ => q_move rfl⟩) (Wr.pure (v := Value.pointer (some ⟨b, 0, none⟩)) 6 rfl (by kernel_rfl) (.inr (fun _ h => st_take [0] h)) (.inl ⟨rfl, fun _ => q_nil_ptr rfl⟩) (Wr.pure (v := Value.pointer (some ⟨b, 1, none⟩)) 7 rfl (by kernel_rfl) (.inr (fun _ h => st_take [0] h)) (.inl ⟨rfl, fun _ => q_field (m := 1) fo_132_1 rfl rfl⟩) (Wr.take (v := Value.slice none 0 0) 8 rfl (by kernel_rfl) (fun _ h => st_take [0] h) (.inl ⟨rfl, q_load sc_65 rfl (.cel (i := 0) rfl rfl)⟩) (Wr.take (v := Value.int .i64 0) 9 rfl (by kernel_rfl) (fun _ h => st_take [0] h) (.inl ⟨rfl, q_len_slice Tryz.underlying65 rfl⟩) (Wr.take (v := Value.string ByteArray.empty) 10 rfl (by kernel_rfl) (fun _ h => st_take [0] h) (.inl ⟨rfl, q_unsafe_string0 rfl rfl⟩) (Wr.pure (v := Value.string ByteArray.empty) 11 rfl (by kernel_rfl) (.inr (fun _ h => st_take [0] h)) (.inl ⟨rfl, fun _ => q_assign rfl⟩) (Wr.done (by kernel_rfl) (Wx.go (Wc.ret (Wx.fin1 rfl (.inl rfl) (fun w hs => ?_)))))))))))
 exact ⟨(), trivial, rfl, hs⟩

theorem bstr1 (W0 : World) (b g cap : Nat) (a : Value) (s : ByteArray) (hcap : cap ≠ 0) (h0 : 0 < s.size) (h63 : s.size ≤ 9223372036854775807) :
  Con Tryz.prog W0 95 #[Value.pointer (some ⟨b, 0, none⟩)] [pt b 132 [a, Value.slice (some ⟨g, 0, none⟩) s.size cap], slp 5 1 g cap (s.data.toList.map fun c => Value.int .u8 c.toNat)] (X := Unit) (fun _ => True) (fun _ => .string s) (fun _ => [pt b 132 [a, Value.slice (some ⟨g, 0, none⟩) s.size cap]]) := by
 refine Con.of (args := [Value.pointer (some ⟨b, 0, none⟩)]) Tryz.func95 rfl Tryz.ntmps95 rfl (fun F => ?_)
 show Wc _ W0 _ _ _ _ _ ((pt b 132 [a, Value.slice (some ⟨g, 0, none⟩) s.size cap]) :: (slp 5 1 g cap (s.data.toList.map fun c => Value.int .u8 c.toNat)) :: F)
 refine Wc.seq (Wc.region (Wl.q (v := Value.string (⟨#[]⟩)) (q_assign rfl) (Wl.done (Wx.go (Wc.seq (Wc.drawsS [10] ((pt b 132 [a, Value.slice (some ⟨g, 0, none⟩) s.size cap]) :: (slp 5 1 g cap (s.data.toList.map fun c => Value.int .u8 c.toNat)) :: []) (by kernel_rfl) ?_))))))
 refine Wr.pure (v := Value.pointer (some ⟨b, 0, none⟩)) 0 rfl (by kernel_rfl) (.inr (fun _ h => st_take [0, 0] h)) (.inl ⟨rfl, fun _ => q_move rfl⟩) (Wr.pure (v := Value.pointer (some ⟨b, 0, none⟩)) 1 rfl (by kernel_rfl) (.inr (fun _ h => st_take [0, 0] h)) (.inl ⟨rfl, fun _ => q_nil_ptr rfl⟩) (Wr.pure (v := Value.pointer (some ⟨b, 1, none⟩)) 2 rfl (by kernel_rfl) (.inr (fun _ h => st_take [0, 0] h)) (.inl ⟨rfl, fun _ => q_field (m := 1) fo_132_1 rfl rfl⟩) (Wr.take (v := Value.slice (some ⟨g, 0, none⟩) s.size cap) 3 rfl (by kernel_rfl) (fun _ h => st_take [0, 0] h) (.inl ⟨rfl, q_load sc_65 rfl (.cel (i := 0) rfl rfl)⟩) (Wr.take (v := Value.pointer (some ⟨g, 0, none⟩)) 4 rfl (by kernel_rfl) (fun _ h => st_take [0, 0] h) (.inl ⟨rfl, q_slice_data hcap rfl⟩) (Wr.pure (v := Value.pointer (some ⟨b, 0, none⟩)) 5 rfl (by kernel_rfl) (.inr (fun _ h => st_take [0, 0] h)) (.inl ⟨rfl, fun _ => q_move rfl⟩) (Wr.pure (v := Value.pointer (some ⟨b, 0, none⟩)) 6 rfl (by kernel_rfl) (.inr (fun _ h => st_take [0, 0] h)) (.inl ⟨rfl, fun _ => q_nil_ptr rfl⟩) (Wr.pure (v := Value.pointer (some ⟨b, 1, none⟩)) 7 rfl (by kernel_rfl) (.inr (fun _ h => st_take [0, 0] h)) (.inl ⟨rfl, fun _ => q_field (m := 1) fo_132_1 rfl rfl⟩) (Wr.take (v := Value.slice (some ⟨g, 0, none⟩) s.size cap) 8 rfl (by kernel_rfl) (fun _ h => st_take [0, 0] h) (.inl ⟨rfl, q_load sc_65 rfl (.cel (i := 0) rfl rfl)⟩) (Wr.take (v := Value.int .i64 ((s.size : Nat) : Int)) 9 rfl (by kernel_rfl) (fun _ h => st_take [0, 0] h) (.inl ⟨rfl, q_len_slice Tryz.underlying65 rfl⟩) (Wr.e 10 (by kernel_rfl) rfl (e_unsafe_string (i := 1) (l := s.data.toList) Tryz.underlying149 (by kernel_rfl) rfl rfl (by simpa using h0) (by simpa using h63) rfl) (.inl (by kernel_rfl)) (fun _ _ => Wr.imp (L' := (pt b 132 [a, Value.slice (some ⟨g, 0, none⟩) s.size cap]) :: F) (fun _ h => h) ?_)))))))))))
 refine Wr.rebaseS [] ((pt b 132 [a, Value.slice (some ⟨g, 0, none⟩) s.size cap]) :: []) (by kernel_rfl) (Wr.pure (v := Value.string (⟨s.data.toList.toArray⟩)) 11 rfl (by kernel_rfl) (.inr (fun _ h => st_take [0] h)) (.inl ⟨rfl, fun _ => q_assign rfl⟩) (Wr.done (by kernel_rfl) (Wx.go (Wc.ret (Wx.fin1 rfl (.inl rfl) (fun w hs => ?_))))))
 exact ⟨(), trivial, rfl, hs⟩

theorem bstr_c (W0 : World) (b : Nat) (a v : Value) (s : ByteArray) (h63 : s.size ≤ 9223372036854775807) (hv : s.size = 0 → v = .slice none 0 0) : Con Tryz.prog W0 95 #[.pointer (some ⟨b, 0, none⟩)] [pt b 132 [a, v], sl 5 1 v s.size (Lib.strCells s)] (X := Unit) (fun _ => True) (fun _ => .string s) (fun _ => [pt b 132 [a, v]]) := fun w F hs => by
  by_cases h0 : s.size = 0
  · obtain rfl := hv h0
    obtain rfl : s = ByteArray.empty := ByteArray.size_eq_zero_iff.1 h0
    exact bstr0 W0 b a w F (st_drop (st_swap hs))
  · rcases st_sl_cases (st_swap hs) with ⟨_, e, _⟩ | ⟨g, cap, rfl, hnc, _, hs2⟩
    · exact absurd e h0
    · exact bstr1 W0 b g cap a s (by omega) (by omega) h63 w F (st_swap hs2)

end Go.Proofs.YtkndmgfahghcjaaGreat

