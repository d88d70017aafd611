/- Contracts of the calls. -/
import Derived.Test.YtnhejdnigblnoaaJnT
import Derived.Test.YtnhejdnigblnoaaJnU
import Derived.Test.YtnhejdnigblnoaaDkRef
namespace Go.Proofs.Ytnhejdnigblnoaa
open Go Go.SL Go.Dk Go.Jn Go.RowKit
set_option linter.unusedVariables false
set_option maxRecDepth 8000

@[reducible] def isRJ (j q : Nat) (s : JS) : HP := pt j 79 [.pointer (some ⟨q, 0, none⟩), .string s.text, .int .i64 s.seq, .bool s.dead]

theorem rread_o (W0 : World) (q bd cd : Nat) (secs : List ByteArray) (since : List (Nat × ByteArray)) (count : Nat) (sv : Value) (lv bv : Int) (cut : Option (Nat × Int)) (at_ : Int) (hsince : since.length < 1099511627776) : Con Try.prog W0 28 #[.pointer (some ⟨q, 0, none⟩), .int .i64 at_] [pt q 63 [Value.slice (some ⟨bd, 0, none⟩) secs.length cd, sv, Value.bool false, Value.int .i64 lv, Value.int .i64 bv, Value.int .i64 ((count : Nat) : Int)], slp 9 1 bd cd (secs.map Value.string), sl 86 2 sv since.length (flat since)] (X := Unit) (fun _ => True) (fun _ => .tuple #[.string (DS.read (⟨secs, since, false, count, cut⟩ : DS) at_).1, .int .i64 (DS.read (⟨secs, since, false, count, cut⟩ : DS) at_).2]) (fun _ => [pt q 63 [Value.slice (some ⟨bd, 0, none⟩) secs.length cd, sv, Value.bool false, Value.int .i64 lv, Value.int .i64 bv, Value.int .i64 ((count : Nat) : Int)], slp 9 1 bd cd (secs.map Value.string), sl 86 2 sv since.length (flat since)]) := by
  refine Con.pull (pre := [sl 86 2 sv since.length (flat since), pt q 63 [Value.slice (some ⟨bd, 0, none⟩) secs.length cd, sv, Value.bool false, Value.int .i64 lv, Value.int .i64 bv, Value.int .i64 ((count : Nat) : Int)], slp 9 1 bd cd (secs.map Value.string)]) [2] (fun _ => rfl) (Con.sl (fun e1 e2 e3 => ?_) (fun b cap e1 e2 e3 => ?_))
  · subst e1; have e4 := List.eq_nil_of_length_eq_zero e2
    exact Con.post (rread_nil W0 q bd cd secs since count lv bv cut at_ hsince e4) (fun _ w F h => by rw [e2, e3]; exact st_pull [1, 1] (st_sl_nil h))
  · subst e1
    exact Con.post (rread_blk W0 q bd cd secs since count lv bv cut at_ hsince b cap e2) (fun _ w F h => st_pull [1, 1] (st_sl_mk e3 e2 h))

theorem rroom_c (W0 : World) (S : List ByteArray) (h1 : 1 ≤ S.length) (hm : S.length ≤ 4096) :
  Con Try.prog W0 63 #[Value.int .i64 ((S.length : Nat) : Int)] [] (X := Unit) (fun _ => True) (fun _ => .int .i64 ((half S : Nat) : Int)) (fun _ => []) := by
 refine Con.of (args := [Value.int .i64 ((S.length : Nat) : Int)]) Try.func63 rfl Try.ntmps63 rfl (fun F => ?_)
 show Wc _ W0 _ _ _ _ _ (F)
 refine Wc.seq ?_
 refine Wc.region ?_
 refine Wl.q (v := Value.int .i64 0) (q_assign rfl) ?_
 refine Wl.done ?_
 refine Wx.go ?_
 refine Wc.seq ?_
 refine Wc.region ?_
 refine Wl.q (v := Value.int .i64 ((S.length : Nat) : Int)) (q_move rfl) ?_
 refine Wl.q (v := Value.int .i64 (((S.length : Nat) : Int) - 2)) (q_sub (c := (((S.length : Nat) : Int) - 2)) rfl rfl (wrap_i64 (by omega) (by omega))) ?_
 refine Wl.q (v := Value.int .i64 ((half S : Nat) : Int)) (q_quo (c := ((half S : Nat) : Int)) rfl rfl (by decide) (by rw [sectors_eq h1]; exact wrap_i64 (by omega) (by omega))) ?_
 refine Wl.q (v := Value.int .i64 ((half S : Nat) : Int)) (q_assign rfl) ?_
 refine Wl.done ?_
 refine Wx.go ?_
 refine Wc.ret ?_
 refine Wx.fin1 rfl (.inl rfl) (fun w hs => ?_)
 exact ⟨(), trivial, rfl, hs⟩

theorem rhalf_c (W0 : World) (n : Int) (S : List ByteArray) (h0 : 0 ≤ n) (hm : S.length ≤ 4096) :
  Con Try.prog W0 62 #[Value.int .i64 n, Value.int .i64 ((half S : Nat) : Int)] [] (X := Unit) (fun _ => True) (fun _ => .tuple #[.int .i64 ((n + 1) % 2), .int .i64 ((first S n : Nat) : Int)]) (fun _ => []) := by
 refine Con.of (args := [Value.int .i64 n, Value.int .i64 ((half S : Nat) : Int)]) Try.func62 rfl Try.ntmps62 rfl (fun F => ?_)
 have hh : half S ≤ 4096 := by unfold half; omega
 show Wc _ W0 _ _ _ _ _ (F)
 refine Wc.seq ?_
 refine Wc.region ?_
 refine Wl.q (v := Value.int .i64 0) (q_assign rfl) ?_
 refine Wl.q (v := Value.int .i64 0) (q_assign rfl) ?_
 refine Wl.done ?_
 refine Wx.go ?_
 refine Wc.seq ?_
 refine Wc.seq ?_
 refine Wc.region ?_
 refine Wl.q (v := Value.int .i64 n) (q_move rfl) ?_
 refine Wl.q (v := Value.int .i64 (n % 2)) (q_rem (c := (n % 2)) rfl rfl (by decide) (tmod2_eq h0)) ?_
 by_cases ho : (n % 2) = 1
 ·
  refine Wl.q (v := Value.bool true) (q_eql (r := true) rfl rfl (decide_eq_true ho)) ?_
  refine Wl.done ?_
  refine Wx.go ?_
  refine Wc.yes rfl ?_
  refine Wc.seq ?_
  refine Wc.region ?_
  refine Wl.q (v := Value.int .i64 0) (q_assign rfl) ?_
  refine Wl.q (v := Value.int .i64 2) (q_assign rfl) ?_
  refine Wl.done ?_
  refine Wx.go ?_
  refine Wc.ret ?_
  refine Wx.thenRet ?_
  refine Wx.fin2 rfl (.inl rfl) (fun w hs => ?_)
  exact ⟨(), trivial, (by rw [show (n + 1) % 2 = 0 by omega, first, if_pos ho]; rfl), hs⟩
 ·
  refine Wl.q (v := Value.bool false) (q_eql (r := false) rfl rfl (decide_eq_false ho)) ?_
  refine Wl.done ?_
  refine Wx.go ?_
  refine Wc.no rfl ?_
  refine Wc.skip ?_
  refine Wx.go ?_
  refine Wc.seq ?_
  refine Wc.region ?_
  refine Wl.q (v := Value.int .i64 ((half S : Nat) : Int)) (q_move rfl) ?_
  refine Wl.q (v := Value.int .i64 ((2 + (half S) : Nat) : Int)) (q_add (c := ((2 + (half S) : Nat) : Int)) rfl rfl (by rw [wrap_i64] <;> omega)) ?_
  refine Wl.q (v := Value.int .i64 1) (q_assign rfl) ?_
  refine Wl.q (v := Value.int .i64 ((2 + (half S) : Nat) : Int)) (q_assign rfl) ?_
  refine Wl.done ?_
  refine Wx.go ?_
  refine Wc.ret ?_
  refine Wx.fin2 rfl (.inl rfl) (fun w hs => ?_)
  exact ⟨(), trivial, (by rw [show (n + 1) % 2 = 1 by omega, first, if_neg ho]; rfl), hs⟩

theorem rhead_c (W0 : World) (n l : Int) :
    Con Try.prog W0 52 #[Value.int .i64 n, Value.int .i64 l] [] (X := Unit) (fun _ => True) (fun _ => .string (headB n l)) (fun _ => []) := by
  refine Con.of (args := [Value.int .i64 n, Value.int .i64 l]) Try.func52 rfl Try.ntmps52 rfl (fun F => ?_)
  show Wc _ W0 _ _ _ _ _ (F)
  refine Wc.seq ?_
  refine Wc.region ?_
  refine Wl.q (v := Value.string (⟨#[]⟩)) (q_assign rfl) ?_
  refine Wl.done ?_
  refine Wx.go ?_
  refine Wc.seq ?_
  refine Wc.region ?_
  refine Wl.e (e_makeSlice (len := 64) Try.underlying71 sz_5 by_5 zo_5 rfl rfl (by omega) (by omega)) (fun bl _ => ?_)
  refine Wl.imp (L' := (pt bl 5 ((madeCells (Value.int .u8 0 : Value).cells (64 * 1)).toList)) :: F) (fun _ h => h) ?_
  refine Wl.q (v := Value.slice (some ⟨bl, 0, none⟩) 64 64) (q_assign rfl) ?_
  refine Wl.done ?_
  refine Wx.go ?_
  refine Wc.seq ?_
  refine Wc.region ?_
  refine Wl.q (v := Value.slice (some ⟨bl, 0, none⟩) 64 64) (q_move rfl) ?_
  refine Wl.q (v := Value.pointer (some ⟨bl, 0, none⟩)) (q_idx (m := 0) se_71 rfl rfl (by omega) (by omega) rfl) ?_
  refine Wl.e (e_store (i := 0) (v := Value.int .u8 74) sz_5 rfl rfl (fun _ _ => rfl) rfl (by rw [made_bytes]; simp)) (fun _ _ => ?_)
  refine Wl.imp (L' := (pt bl 5 ((rh1 n 0).map byteV)) :: F) (fun _ h => by rw [made_bytes] at h; exact h) ?_
  refine Wl.done ?_
  refine Wx.go ?_
  refine Wc.seq ?_
  refine Wc.seq ?_
  refine Wc.region ?_
  refine Wl.q (v := Value.int .i64 0) (q_assign rfl) ?_
  refine Wl.done ?_
  refine Wx.go ?_
  refine Wc.block ?_
  refine Wc.loop (X := Nat) (fun i E => E 6 = Value.int .i64 ((i : Nat) : Int) ∧ E 0 = Value.int .i64 n ∧ E 1 = Value.int .i64 l ∧ E 5 = Value.slice (some ⟨bl, 0, none⟩) 64 64 ∧ i ≤ 8) (fun i => (pt bl 5 ((rh1 n i).map byteV)) :: F) (fun i => 8 - i) 0 ?_ ?_ ?_
  · exact ⟨rfl, rfl, rfl, rfl, (by omega)⟩
  · exact fun w hs => hs
  · rintro i E2 ⟨hE6_0, hE0_0, hE1_0, hE5_0, hi⟩
    refine Wc.seq ?_
    refine Wc.seq ?_
    refine Wc.region ?_
    refine Wl.q (v := Value.int .i64 ((i : Nat) : Int)) (q_move hE6_0) ?_
    by_cases hlt : ((i : Nat) : Int) < 8
    ·
      refine Wl.q (v := Value.bool true) (q_lss (r := true) rfl rfl (decide_eq_true hlt)) ?_
      refine Wl.done ?_
      refine Wx.go ?_
      refine Wc.yes rfl ?_
      refine Wc.skip ?_
      refine Wx.go ?_
      refine Wc.seq ?_
      refine Wc.block ?_
      refine Wc.region ?_
      refine Wl.q (v := Value.slice (some ⟨bl, 0, none⟩) 64 64) (q_move hE5_0) ?_
      refine Wl.q (v := Value.int .i64 ((i : Nat) : Int)) (q_move hE6_0) ?_
      refine Wl.q (v := Value.int .i64 (((8 - i) : Nat) : Int)) (q_sub (c := (((8 - i) : Nat) : Int)) rfl rfl (by rw [wrap_i64] <;> omega)) ?_
      refine Wl.q (v := Value.int .i64 n) (q_move hE0_0) ?_
      refine Wl.q (v := Value.int .i64 ((i : Nat) : Int)) (q_move hE6_0) ?_
      refine Wl.q (v := Value.int .i64 ((8 * i : Nat) : Int)) (q_mul (c := ((8 * i : Nat) : Int)) rfl rfl (by rw [wrap_i64] <;> omega)) ?_
      refine Wl.q (v := Value.int .i64 (n.fdiv (2 ^ min (Int.toNat ((8 * i : Nat) : Int)) IntKind.i64.bits))) (q_shr (c := (n.fdiv (2 ^ min (Int.toNat ((8 * i : Nat) : Int)) IntKind.i64.bits))) rfl rfl (by omega) rfl) ?_
      refine Wl.q (v := Value.int .u8 ((hByte n i).toNat : Int)) (q_conv_int (c := ((hByte n i).toNat : Int)) Try.underlying5 (by rw [Try.underlying3]; rfl) rfl (shr_byte n (by omega))) ?_
      refine Wl.q (v := Value.pointer (some ⟨bl, (8 - i), none⟩)) (q_idx (m := (8 - i)) se_71 rfl rfl (by omega) (by omega) (by rw [Int.toNat_natCast]; omega)) ?_
      refine Wl.e (e_store (i := 0) (v := Value.int .u8 ((hByte n i).toNat : Int)) sz_5 rfl rfl (fun _ _ => rfl) rfl (by simp only [List.length_map]; rw [rh1_len n (by omega)]; omega)) (fun _ _ => ?_)
      refine Wl.imp (L' := (pt bl 5 ((rh1 n (i + 1)).map byteV)) :: F) (fun _ h => by rw [← rh1_step (n := n) (i := i) (by omega), List.map_set]; exact h) ?_
      refine Wl.done ?_
      refine Wx.blockEnd ?_
      refine Wx.go ?_
      refine Wc.region ?_
      refine Wl.q (v := Value.int .i64 ((i : Nat) : Int)) (q_move hE6_0) ?_
      refine Wl.q (v := Value.int .i64 ((i + 1 : Nat) : Int)) (q_add (c := ((i + 1 : Nat) : Int)) rfl rfl (by rw [wrap_i64] <;> omega)) ?_
      refine Wl.q (v := Value.int .i64 ((i + 1 : Nat) : Int)) (q_assign rfl) ?_
      refine Wl.done ?_
      refine Wx.at (i + 1) ⟨(by omega), rfl, hE0_0, hE1_0, hE5_0, (by omega)⟩ (fun w hs => hs)
    ·
      have he : i = 8 := by omega
      refine Wl.q (v := Value.bool false) (q_lss (r := false) rfl rfl (decide_eq_false hlt)) ?_
      refine Wl.done ?_
      refine Wx.go ?_
      refine Wc.no rfl ?_
      refine Wc.exit ?_
      refine Wx.thenExit ?_
      refine Wx.thenExit ?_
      refine Wx.out ?_
      refine Wx.go ?_
      refine Wc.seq ?_
      refine Wc.seq ?_
      refine Wc.region ?_
      refine Wl.q (v := Value.int .i64 0) (q_assign rfl) ?_
      refine Wl.done ?_
      refine Wx.go ?_
      refine Wc.block ?_
      refine Wc.loop (X := Nat) (fun i E => E 7 = Value.int .i64 ((i : Nat) : Int) ∧ E 1 = Value.int .i64 l ∧ E 5 = Value.slice (some ⟨bl, 0, none⟩) 64 64 ∧ i ≤ 4) (fun i => (pt bl 5 ((rh2 n l i).map byteV)) :: F) (fun i => 4 - i) 0 ?_ ?_ ?_
      · exact ⟨rfl, hE1_0, hE5_0, (by omega)⟩
      · exact fun w hs => by rw [← rh2_start, ← he]; exact hs
      · rintro i E4 ⟨hE7_2, hE1_2, hE5_2, hi⟩
        refine Wc.seq ?_
        refine Wc.seq ?_
        refine Wc.region ?_
        refine Wl.q (v := Value.int .i64 ((i : Nat) : Int)) (q_move hE7_2) ?_
        by_cases hlt : ((i : Nat) : Int) < 4
        ·
          refine Wl.q (v := Value.bool true) (q_lss (r := true) rfl rfl (decide_eq_true hlt)) ?_
          refine Wl.done ?_
          refine Wx.go ?_
          refine Wc.yes rfl ?_
          refine Wc.skip ?_
          refine Wx.go ?_
          refine Wc.seq ?_
          refine Wc.block ?_
          refine Wc.region ?_
          refine Wl.q (v := Value.slice (some ⟨bl, 0, none⟩) 64 64) (q_move hE5_2) ?_
          refine Wl.q (v := Value.int .i64 ((i : Nat) : Int)) (q_move hE7_2) ?_
          refine Wl.q (v := Value.int .i64 (((12 - i) : Nat) : Int)) (q_sub (c := (((12 - i) : Nat) : Int)) rfl rfl (by rw [wrap_i64] <;> omega)) ?_
          refine Wl.q (v := Value.int .i64 l) (q_move hE1_2) ?_
          refine Wl.q (v := Value.int .i64 ((i : Nat) : Int)) (q_move hE7_2) ?_
          refine Wl.q (v := Value.int .i64 ((8 * i : Nat) : Int)) (q_mul (c := ((8 * i : Nat) : Int)) rfl rfl (by rw [wrap_i64] <;> omega)) ?_
          refine Wl.q (v := Value.int .i64 (l.fdiv (2 ^ min (Int.toNat ((8 * i : Nat) : Int)) IntKind.i64.bits))) (q_shr (c := (l.fdiv (2 ^ min (Int.toNat ((8 * i : Nat) : Int)) IntKind.i64.bits))) rfl rfl (by omega) rfl) ?_
          refine Wl.q (v := Value.int .u8 ((hByte l i).toNat : Int)) (q_conv_int (c := ((hByte l i).toNat : Int)) Try.underlying5 (by rw [Try.underlying3]; rfl) rfl (shr_byte l (by omega))) ?_
          refine Wl.q (v := Value.pointer (some ⟨bl, (12 - i), none⟩)) (q_idx (m := (12 - i)) se_71 rfl rfl (by omega) (by omega) (by rw [Int.toNat_natCast]; omega)) ?_
          refine Wl.e (e_store (i := 0) (v := Value.int .u8 ((hByte l i).toNat : Int)) sz_5 rfl rfl (fun _ _ => rfl) rfl (by simp only [List.length_map]; rw [rh2_len n l (by omega)]; omega)) (fun _ _ => ?_)
          refine Wl.imp (L' := (pt bl 5 ((rh2 n l (i + 1)).map byteV)) :: F) (fun _ h => by rw [← rh2_step (n := n) (l := l) (i := i) (by omega), List.map_set]; exact h) ?_
          refine Wl.done ?_
          refine Wx.blockEnd ?_
          refine Wx.go ?_
          refine Wc.region ?_
          refine Wl.q (v := Value.int .i64 ((i : Nat) : Int)) (q_move hE7_2) ?_
          refine Wl.q (v := Value.int .i64 ((i + 1 : Nat) : Int)) (q_add (c := ((i + 1 : Nat) : Int)) rfl rfl (by rw [wrap_i64] <;> omega)) ?_
          refine Wl.q (v := Value.int .i64 ((i + 1 : Nat) : Int)) (q_assign rfl) ?_
          refine Wl.done ?_
          refine Wx.at (i + 1) ⟨(by omega), rfl, hE1_2, hE5_2, (by omega)⟩ (fun w hs => hs)
        ·
          have he : i = 4 := by omega
          refine Wl.q (v := Value.bool false) (q_lss (r := false) rfl rfl (decide_eq_false hlt)) ?_
          refine Wl.done ?_
          refine Wx.go ?_
          refine Wc.no rfl ?_
          refine Wc.exit ?_
          refine Wx.thenExit ?_
          refine Wx.thenExit ?_
          refine Wx.out ?_
          refine Wx.go ?_
          refine Wc.seq ?_
          refine Wc.region ?_
          refine Wl.q (v := Value.slice (some ⟨bl, 0, none⟩) 64 64) (q_move hE5_2) ?_
          refine Wl.q (v := Value.string (⟨((headL n l)).toArray⟩)) (q_str_of (l := (headL n l)) Try.underlying71 Try.underlying5 Try.underlying9 rfl (headL_len n l) (fun j u hj => .cel (i := 0) rfl (by rw [he, rh2_end, Nat.zero_add]; exact hj))) ?_
          refine Wl.q (v := Value.string (⟨((headL n l)).toArray⟩)) (q_assign rfl) ?_
          refine Wl.done ?_
          refine Wx.go ?_
          refine Wc.ret ?_
          refine Wx.fin1 rfl (.inl rfl) (fun w hs => ?_)
          exact ⟨(), trivial, rfl, (st_drop (st_pull [0] hs))⟩

theorem str_ix {s : ByteArray} {i : Nat} {c : UInt8} (h : s.data.toList[i]? = some c) : s[(Int.toNat ((i : Nat) : Int))]? = some c := by
 rw [Int.toNat_natCast]
 have hl : i < s.size := by simpa using (List.getElem?_eq_some_iff.1 h).1
 rw [getElem?_pos s i hl]
 obtain ⟨_, he⟩ := List.getElem?_eq_some_iff.1 h
 exact congrArg some he

theorem rread_h (W0 : World) (s : ByteArray) (hsz : s.size = 64) :
    Con Try.prog W0 64 #[Value.string s] [] (X := Unit) (fun _ => True) (fun _ => .tuple #[.int .i64 (rT s).1, .int .i64 (rT s).2]) (fun _ => []) := by
  refine Con.of (args := [Value.string s]) Try.func64 rfl Try.ntmps64 rfl (fun F => ?_)
  show Wc _ W0 _ _ _ _ _ (F)
  refine Wc.seq ?_
  refine Wc.region ?_
  refine Wl.q (v := Value.int .i64 0) (q_assign rfl) ?_
  refine Wl.q (v := Value.int .i64 0) (q_assign rfl) ?_
  refine Wl.done ?_
  refine Wx.go ?_
  refine Wc.seq ?_
  refine Wc.seq ?_
  refine Wc.region ?_
  refine Wl.q (v := Value.string s) (q_move rfl) ?_
  refine Wl.e (e_call (F := F) (args := []) Try.call41 rfl (noughts_c W0)) (fun _ _ => ?_)
  refine Wl.imp (L' := F) (fun _ h => h) ?_
  by_cases hno : s = noughts
  ·
    refine Wl.q (v := Value.bool true) (q_eql_str (r := true) rfl rfl (text_true hno)) ?_
    refine Wl.done ?_
    refine Wx.go ?_
    refine Wc.yes rfl ?_
    refine Wc.seq ?_
    refine Wc.region ?_
    refine Wl.q (v := Value.int .i64 0) (q_assign rfl) ?_
    refine Wl.q (v := Value.int .i64 0) (q_assign rfl) ?_
    refine Wl.done ?_
    refine Wx.go ?_
    refine Wc.ret ?_
    refine Wx.thenRet ?_
    refine Wx.fin2 rfl (.inl rfl) (fun w hs => ?_)
    have e : rT s = (0, 0) := rT_noughts hno
    exact ⟨(), trivial, (by rw [e]; rfl), hs⟩
  ·
    refine Wl.q (v := Value.bool false) (q_eql_str (r := false) rfl rfl (text_false hno)) ?_
    refine Wl.done ?_
    refine Wx.go ?_
    refine Wc.no rfl ?_
    refine Wc.skip ?_
    refine Wx.go ?_
    refine Wc.seq ?_
    refine Wc.region ?_
    refine Wl.q (v := Value.int .i64 0) (q_assign rfl) ?_
    refine Wl.q (v := Value.int .i64 0) (q_assign rfl) ?_
    refine Wl.done ?_
    refine Wx.go ?_
    refine Wc.seq ?_
    refine Wc.seq ?_
    refine Wc.region ?_
    refine Wl.q (v := Value.int .i64 1) (q_assign rfl) ?_
    refine Wl.done ?_
    refine Wx.go ?_
    refine Wc.block ?_
    refine Wc.loop (X := Nat) (fun i E => E 6 = Value.int .i64 (((1 + i) : Nat) : Int) ∧ E 4 = Value.int .i64 (num 0 ((s.data.toList.drop 1).take i)) ∧ E 0 = Value.string s ∧ E 5 = Value.int .i64 0 ∧ i ≤ 8) (fun i => F) (fun i => 8 - i) 0 ?_ ?_ ?_
    · exact ⟨rfl, rfl, rfl, rfl, (by omega)⟩
    · exact fun w hs => hs
    · rintro i E2 ⟨hE6_0, hE4_0, hE0_0, hE5_0, hi⟩
      refine Wc.seq ?_
      refine Wc.seq ?_
      refine Wc.region ?_
      refine Wl.q (v := Value.int .i64 (((1 + i) : Nat) : Int)) (q_move hE6_0) ?_
      by_cases hlt : (((1 + i) : Nat) : Int) < 9
      ·
        obtain ⟨c, hc, ht⟩ := str_drop (s := s) 1 (i := i) (by omega)
        refine Wl.q (v := Value.bool true) (q_lss (r := true) rfl rfl (decide_eq_true hlt)) ?_
        refine Wl.done ?_
        refine Wx.go ?_
        refine Wc.yes rfl ?_
        refine Wc.skip ?_
        refine Wx.go ?_
        refine Wc.seq ?_
        refine Wc.block ?_
        refine Wc.region ?_
        refine Wl.q (v := Value.int .i64 (num 0 ((s.data.toList.drop 1).take i))) (q_move hE4_0) ?_
        refine Wl.q (v := Value.int .i64 (IntKind.i64.wrap (num 0 ((s.data.toList.drop 1).take i) * 256))) (q_mul (c := (IntKind.i64.wrap (num 0 ((s.data.toList.drop 1).take i) * 256))) rfl rfl rfl) ?_
        refine Wl.q (v := Value.string s) (q_move hE0_0) ?_
        refine Wl.q (v := Value.int .i64 (((1 + i) : Nat) : Int)) (q_move hE6_0) ?_
        refine Wl.q (v := Value.int .u8 ((c.toNat : Nat) : Int)) (q_idx_str Try.underlying9 rfl rfl (by omega) (str_ix hc)) ?_
        refine Wl.q (v := Value.int .i64 ((c.toNat : Nat) : Int)) (q_conv_int (c := ((c.toNat : Nat) : Int)) Try.underlying3 (by rw [Try.underlying5]; rfl) rfl (wrap_i64 (by omega) (by have := c.toNat_lt; omega))) ?_
        refine Wl.q (v := Value.int .i64 (num 0 ((s.data.toList.drop 1).take (i + 1)))) (q_add (c := (num 0 ((s.data.toList.drop 1).take (i + 1)))) rfl rfl (by rw [ht, num_snoc]; exact mul_byte)) ?_
        refine Wl.q (v := Value.int .i64 (num 0 ((s.data.toList.drop 1).take (i + 1)))) (q_assign rfl) ?_
        refine Wl.done ?_
        refine Wx.blockEnd ?_
        refine Wx.go ?_
        refine Wc.region ?_
        refine Wl.q (v := Value.int .i64 (((1 + i) : Nat) : Int)) (q_move hE6_0) ?_
        refine Wl.q (v := Value.int .i64 (((1 + i) + 1 : Nat) : Int)) (q_add (c := (((1 + i) + 1 : Nat) : Int)) rfl rfl (by rw [wrap_i64] <;> omega)) ?_
        refine Wl.q (v := Value.int .i64 (((1 + i) + 1 : Nat) : Int)) (q_assign rfl) ?_
        refine Wl.done ?_
        refine Wx.at (i + 1) ⟨(by omega), rfl, rfl, hE0_0, hE5_0, (by omega)⟩ (fun w hs => hs)
      ·
        have he : i = 8 := by omega
        have esNum : num 0 ((s.data.toList.drop 1).take i) = sNum s := by rw [he]; rfl
        refine Wl.q (v := Value.bool false) (q_lss (r := false) rfl rfl (decide_eq_false hlt)) ?_
        refine Wl.done ?_
        refine Wx.go ?_
        refine Wc.no rfl ?_
        refine Wc.exit ?_
        refine Wx.thenExit ?_
        refine Wx.thenExit ?_
        refine Wx.out ?_
        refine Wx.go ?_
        refine Wc.seq ?_
        refine Wc.seq ?_
        refine Wc.region ?_
        refine Wl.q (v := Value.int .i64 9) (q_assign rfl) ?_
        refine Wl.done ?_
        refine Wx.go ?_
        refine Wc.block ?_
        refine Wc.loop (X := Nat) (fun i E => E 7 = Value.int .i64 (((9 + i) : Nat) : Int) ∧ E 5 = Value.int .i64 (num 0 ((s.data.toList.drop 9).take i)) ∧ E 0 = Value.string s ∧ E 4 = Value.int .i64 (sNum s) ∧ i ≤ 4) (fun i => F) (fun i => 4 - i) 0 ?_ ?_ ?_
        · exact ⟨rfl, hE5_0, hE0_0, (hE4_0.trans (congrArg (Value.int .i64) esNum)), (by omega)⟩
        · exact fun w hs => hs
        · rintro i E4 ⟨hE7_2, hE5_2, hE0_2, hE4_2, hi⟩
          refine Wc.seq ?_
          refine Wc.seq ?_
          refine Wc.region ?_
          refine Wl.q (v := Value.int .i64 (((9 + i) : Nat) : Int)) (q_move hE7_2) ?_
          by_cases hlt : (((9 + i) : Nat) : Int) < 13
          ·
            obtain ⟨c, hc, ht⟩ := str_drop (s := s) 9 (i := i) (by omega)
            refine Wl.q (v := Value.bool true) (q_lss (r := true) rfl rfl (decide_eq_true hlt)) ?_
            refine Wl.done ?_
            refine Wx.go ?_
            refine Wc.yes rfl ?_
            refine Wc.skip ?_
            refine Wx.go ?_
            refine Wc.seq ?_
            refine Wc.block ?_
            refine Wc.region ?_
            refine Wl.q (v := Value.int .i64 (num 0 ((s.data.toList.drop 9).take i))) (q_move hE5_2) ?_
            refine Wl.q (v := Value.int .i64 (IntKind.i64.wrap (num 0 ((s.data.toList.drop 9).take i) * 256))) (q_mul (c := (IntKind.i64.wrap (num 0 ((s.data.toList.drop 9).take i) * 256))) rfl rfl rfl) ?_
            refine Wl.q (v := Value.string s) (q_move hE0_2) ?_
            refine Wl.q (v := Value.int .i64 (((9 + i) : Nat) : Int)) (q_move hE7_2) ?_
            refine Wl.q (v := Value.int .u8 ((c.toNat : Nat) : Int)) (q_idx_str Try.underlying9 rfl rfl (by omega) (str_ix hc)) ?_
            refine Wl.q (v := Value.int .i64 ((c.toNat : Nat) : Int)) (q_conv_int (c := ((c.toNat : Nat) : Int)) Try.underlying3 (by rw [Try.underlying5]; rfl) rfl (wrap_i64 (by omega) (by have := c.toNat_lt; omega))) ?_
            refine Wl.q (v := Value.int .i64 (num 0 ((s.data.toList.drop 9).take (i + 1)))) (q_add (c := (num 0 ((s.data.toList.drop 9).take (i + 1)))) rfl rfl (by rw [ht, num_snoc]; exact mul_byte)) ?_
            refine Wl.q (v := Value.int .i64 (num 0 ((s.data.toList.drop 9).take (i + 1)))) (q_assign rfl) ?_
            refine Wl.done ?_
            refine Wx.blockEnd ?_
            refine Wx.go ?_
            refine Wc.region ?_
            refine Wl.q (v := Value.int .i64 (((9 + i) : Nat) : Int)) (q_move hE7_2) ?_
            refine Wl.q (v := Value.int .i64 (((9 + i) + 1 : Nat) : Int)) (q_add (c := (((9 + i) + 1 : Nat) : Int)) rfl rfl (by rw [wrap_i64] <;> omega)) ?_
            refine Wl.q (v := Value.int .i64 (((9 + i) + 1 : Nat) : Int)) (q_assign rfl) ?_
            refine Wl.done ?_
            refine Wx.at (i + 1) ⟨(by omega), rfl, rfl, hE0_2, hE4_2, (by omega)⟩ (fun w hs => hs)
          ·
            have he : i = 4 := by omega
            have esLen : num 0 ((s.data.toList.drop 9).take i) = sLen s := by rw [he]; rfl
            refine Wl.q (v := Value.bool false) (q_lss (r := false) rfl rfl (decide_eq_false hlt)) ?_
            refine Wl.done ?_
            refine Wx.go ?_
            refine Wc.no rfl ?_
            refine Wc.exit ?_
            refine Wx.thenExit ?_
            refine Wx.thenExit ?_
            refine Wx.out ?_
            refine Wx.go ?_
            refine Wc.seq ?_
            refine Wc.seq ?_
            refine Wc.region ?_
            refine Wl.q (v := Value.int .i64 (sNum s)) (q_move hE4_2) ?_
            by_cases hlow : (sNum s) < 1
            ·
              refine Wl.q (v := Value.bool true) (q_lss (r := true) rfl rfl (decide_eq_true hlow)) ?_
              refine Wl.q (v := Value.bool true) (q_move rfl) ?_
              refine Wl.no ?_
              refine Wl.no ?_
              refine Wl.no ?_
              refine Wl.no ?_
              refine Wl.no ?_
              refine Wl.q (v := Value.bool true) (q_pick (t := true) rfl rfl) ?_
              refine Wl.done ?_
              refine Wx.go ?_
              refine Wc.yes rfl ?_
              refine Wc.seq ?_
              refine Wc.region ?_
              refine Wl.q (v := Value.int .i64 (-1)) (q_assign rfl) ?_
              refine Wl.q (v := Value.int .i64 0) (q_assign rfl) ?_
              refine Wl.done ?_
              refine Wx.go ?_
              refine Wc.ret ?_
              refine Wx.thenRet ?_
              refine Wx.fin2 rfl (.inl rfl) (fun w hs => ?_)
              have e : rT s = (-1, 0) := rT_bad hno (fun h => by omega)
              exact ⟨(), trivial, (by rw [e]; rfl), hs⟩
            ·
              refine Wl.q (v := Value.bool false) (q_lss (r := false) rfl rfl (decide_eq_false hlow)) ?_
              refine Wl.q (v := Value.bool false) (q_move rfl) ?_
              refine Wl.q (v := Value.string s) (q_move hE0_2) ?_
              refine Wl.q (v := Value.int .i64 (sNum s)) (q_move hE4_2) ?_
              refine Wl.q (v := Value.int .i64 (sLen s)) (q_move (hE5_2.trans (congrArg (Value.int .i64) esLen))) ?_
              refine Wl.e (e_call (F := F) (args := [Value.int .i64 (sNum s), Value.int .i64 (sLen s)]) Try.call52 rfl (rhead_c W0 (sNum s) (sLen s))) (fun _ _ => ?_)
              refine Wl.imp (L' := F) (fun _ h => h) ?_
              by_cases hse : s = (headB (sNum s) (sLen s))
              ·
                refine Wl.q (v := Value.bool false) (q_neq_str (r := true) rfl rfl (text_true hse)) ?_
                refine Wl.q (v := Value.bool false) (q_pick (t := false) rfl rfl) ?_
                refine Wl.done ?_
                refine Wx.go ?_
                refine Wc.no rfl ?_
                refine Wc.skip ?_
                refine Wx.go ?_
                refine Wc.seq ?_
                refine Wc.region ?_
                refine Wl.q (v := Value.int .i64 (sNum s)) (q_move hE4_2) ?_
                refine Wl.q (v := Value.int .i64 (sLen s)) (q_move (hE5_2.trans (congrArg (Value.int .i64) esLen))) ?_
                refine Wl.q (v := Value.int .i64 (sNum s)) (q_assign rfl) ?_
                refine Wl.q (v := Value.int .i64 (sLen s)) (q_assign rfl) ?_
                refine Wl.done ?_
                refine Wx.go ?_
                refine Wc.ret ?_
                refine Wx.fin2 rfl (.inl rfl) (fun w hs => ?_)
                have e : rT s = (sNum s, sLen s) := rT_head hno (by omega) hse
                exact ⟨(), trivial, (by rw [e]; rfl), hs⟩
              ·
                refine Wl.q (v := Value.bool true) (q_neq_str (r := false) rfl rfl (text_false hse)) ?_
                refine Wl.q (v := Value.bool true) (q_pick (t := false) rfl rfl) ?_
                refine Wl.done ?_
                refine Wx.go ?_
                refine Wc.yes rfl ?_
                refine Wc.seq ?_
                refine Wc.region ?_
                refine Wl.q (v := Value.int .i64 (-1)) (q_assign rfl) ?_
                refine Wl.q (v := Value.int .i64 0) (q_assign rfl) ?_
                refine Wl.done ?_
                refine Wx.go ?_
                refine Wc.ret ?_
                refine Wx.thenRet ?_
                refine Wx.fin2 rfl (.inl rfl) (fun w hs => ?_)
                have e : rT s = (-1, 0) := rT_bad hno (fun h => hse h.2)
                exact ⟨(), trivial, (by rw [e]; rfl), hs⟩

end Go.Proofs.Ytnhejdnigblnoaa
