/- Contracts of the calls. -/
import Derived.Test.YtnhejdnigblnoaaJnK
namespace Go.Proofs.Ytnhejdnigblnoaa
open Go Go.SL Go.Dk Go.Jn Go.RowKit
set_option linter.unusedVariables false
set_option maxRecDepth 8000

theorem text_in (W0 : World) (m b : Nat) (hm : m ≤ 131072) (hb : b < 256) :
    Con Try.prog W0 17 #[Value.int .i64 ((m : Nat) : Int), Value.int .u8 ((b : Nat) : Int)] [] (X := Unit) (fun _ => True) (fun _ => .string ⟨(txtL b m).toArray⟩) (fun _ => []) := by
  refine Con.of (args := [Value.int .i64 ((m : Nat) : Int), Value.int .u8 ((b : Nat) : Int)]) Try.func17 rfl Try.ntmps17 rfl (fun F => ?_)
  show Wc _ W0 _ _ _ _ _ (F)
  refine Wc.seq ?_
  refine Wc.region ?_
  refine Wl.q (v := Value.string (⟨#[]⟩)) (q_assign rfl) ?_
  refine Wl.done ?_
  refine Wx.go ?_
  refine Wc.seq ?_
  refine Wc.seq ?_
  refine Wc.region ?_
  refine Wl.q (v := Value.int .i64 ((m : Nat) : Int)) (q_move rfl) ?_
  refine Wl.q (v := Value.bool false) (q_lss (r := false) rfl rfl (decide_eq_false (by omega))) ?_
  refine Wl.q (v := Value.bool false) (q_move rfl) ?_
  refine Wl.q (v := Value.int .i64 ((m : Nat) : Int)) (q_move rfl) ?_
  refine Wl.q (v := Value.bool false) (q_gtr (r := false) rfl rfl (decide_eq_false (by omega))) ?_
  refine Wl.q (v := Value.bool false) (q_pick (t := false) rfl rfl) ?_
  refine Wl.done ?_
  refine Wx.go ?_
  refine Wc.no rfl ?_
  refine Wc.skip ?_
  refine Wx.go ?_
  refine Wc.seq ?_
  refine Wc.region ?_
  refine Wl.q (v := Value.int .i64 ((m : Nat) : Int)) (q_move rfl) ?_
  refine Wl.e (e_makeSlice (len := m) Try.underlying71 sz_5 by_5 zo_5 rfl rfl (by omega) (by omega)) (fun bl _ => ?_)
  refine Wl.imp (L' := (pt bl 5 ((madeCells (Value.int .u8 0 : Value).cells (m * 1)).toList)) :: F) (fun _ h => h) ?_
  refine Wl.q (v := Value.slice (some ⟨bl, 0, none⟩) m m) (q_assign rfl) ?_
  refine Wl.done ?_
  refine Wx.go ?_
  refine Wc.seq ?_
  refine Wc.seq ?_
  refine Wc.region ?_
  refine Wl.q (v := Value.int .i64 0) (q_assign rfl) ?_
  refine Wl.done ?_
  refine Wx.go ?_
  refine Wc.block ?_
  refine Wc.loop (X := Nat) (fun k E => E 6 = Value.int .i64 ((k : Nat) : Int) ∧ E 0 = Value.int .i64 ((m : Nat) : Int) ∧ E 1 = Value.int .u8 ((b : Nat) : Int) ∧ E 5 = Value.slice (some ⟨bl, 0, none⟩) m m ∧ k ≤ m) (fun k => (pt bl 5 ((txtL b k ++ List.replicate (m - k) 0).map byteV)) :: F) (fun k => m - k) 0 ?_ ?_ ?_
  · exact ⟨rfl, rfl, rfl, rfl, (by omega)⟩
  · exact fun w hs => by rw [made_bytes] at hs; exact hs
  · rintro k E2 ⟨hE6_0, hE0_0, hE1_0, hE5_0, hk⟩
    refine Wc.seq ?_
    refine Wc.seq ?_
    refine Wc.region ?_
    refine Wl.q (v := Value.int .i64 ((k : Nat) : Int)) (q_move hE6_0) ?_
    refine Wl.q (v := Value.int .i64 ((m : Nat) : Int)) (q_move hE0_0) ?_
    by_cases hlt : ((k : Nat) : Int) < ((m : Nat) : Int)
    ·
      have hlt2 : k < m := by omega
      refine Wl.q (v := Value.bool true) (q_lss (r := true) rfl rfl (decide_eq_true hlt)) ?_
      refine Wl.done ?_
      refine Wx.go ?_
      refine Wc.yes rfl ?_
      refine Wc.skip ?_
      refine Wx.go ?_
      refine Wc.seq ?_
      refine Wc.block ?_
      refine Wc.region ?_
      refine Wl.q (v := Value.slice (some ⟨bl, 0, none⟩) m m) (q_move hE5_0) ?_
      refine Wl.q (v := Value.int .i64 ((k : Nat) : Int)) (q_move hE6_0) ?_
      refine Wl.q (v := Value.int .u8 ((b : Nat) : Int)) (q_move hE1_0) ?_
      refine Wl.q (v := Value.int .i64 ((k : Nat) : Int)) (q_move hE6_0) ?_
      refine Wl.q (v := Value.int .i64 (((k % 7) : Nat) : Int)) (q_rem (c := (((k % 7) : Nat) : Int)) rfl rfl (by decide) (tmod7 k)) ?_
      refine Wl.q (v := Value.int .u8 ((k % 7 : Nat) : Int)) (q_conv_int (c := ((k % 7 : Nat) : Int)) Try.underlying5 (by rw [Try.underlying3]; rfl) rfl (by rw [wrap8]; omega)) ?_
      refine Wl.q (v := Value.int .u8 ((txtB b k).toNat : Int)) (q_add (c := ((txtB b k).toNat : Int)) rfl rfl (txt_val hb)) ?_
      refine Wl.q (v := Value.pointer (some ⟨bl, k, none⟩)) (q_idx (m := k) se_71 rfl rfl (by omega) (by omega) (by simp)) ?_
      refine Wl.e (e_store (i := 0) (v := Value.int .u8 ((txtB b k).toNat : Int)) sz_5 rfl rfl (fun _ _ => rfl) rfl (by simp only [List.length_map, List.length_append, List.length_replicate, txtL_len]; omega)) (fun _ _ => ?_)
      refine Wl.imp (L' := (pt bl 5 ((txtL b (k + 1) ++ List.replicate (m - (k + 1)) 0).map byteV)) :: F) (fun _ h => by rw [← txt_step hlt2, List.map_set]; exact h) ?_
      refine Wl.done ?_
      refine Wx.blockEnd ?_
      refine Wx.go ?_
      refine Wc.region ?_
      refine Wl.q (v := Value.int .i64 ((k : Nat) : Int)) (q_move hE6_0) ?_
      refine Wl.q (v := Value.int .i64 ((k + 1 : Nat) : Int)) (q_add (c := ((k + 1 : Nat) : Int)) rfl rfl (by rw [wrap_i64] <;> omega)) ?_
      refine Wl.q (v := Value.int .i64 ((k + 1 : Nat) : Int)) (q_assign rfl) ?_
      refine Wl.done ?_
      refine Wx.at (k + 1) ⟨(by omega), rfl, hE0_0, hE1_0, hE5_0, (by omega)⟩ (fun w hs => hs)
    ·
      have hend : k = m := by omega
      refine Wl.q (v := Value.bool false) (q_lss (r := false) rfl rfl (decide_eq_false hlt)) ?_
      refine Wl.done ?_
      refine Wx.go ?_
      refine Wc.no rfl ?_
      refine Wc.exit ?_
      refine Wx.thenExit ?_
      refine Wx.thenExit ?_
      refine Wx.out ?_
      refine Wx.go ?_
      refine Wc.seq ?_
      refine Wc.region ?_
      refine Wl.q (v := Value.slice (some ⟨bl, 0, none⟩) m m) (q_move hE5_0) ?_
      refine Wl.q (v := Value.string (⟨((txtL b m)).toArray⟩)) (q_str_of (l := (txtL b m)) Try.underlying71 Try.underlying5 Try.underlying9 rfl (txtL_len b m) (fun j u hj => .cel (i := 0) rfl (by rw [hend, Nat.sub_self, List.replicate_zero, List.append_nil, Nat.zero_add]; exact hj))) ?_
      refine Wl.q (v := Value.string (⟨((txtL b m)).toArray⟩)) (q_assign rfl) ?_
      refine Wl.done ?_
      refine Wx.go ?_
      refine Wc.ret ?_
      refine Wx.fin1 rfl (.inl rfl) (fun w hs => ?_)
      exact ⟨(), trivial, rfl, (st_drop (st_pull [0] hs))⟩

theorem text_neg (W0 : World) (n : Int) (b : Nat) (h : n < 0) :
  Con Try.prog W0 17 #[Value.int .i64 n, Value.int .u8 ((b : Nat) : Int)] [] (X := Unit) (fun _ => True) (fun _ => .string ⟨#[]⟩) (fun _ => []) := by
 refine Con.of (args := [Value.int .i64 n, Value.int .u8 ((b : Nat) : Int)]) Try.func17 rfl Try.ntmps17 rfl (fun F => ?_)
 show Wc _ W0 _ _ _ _ _ (F)
 refine Wc.seq ?_
 refine Wc.region ?_
 refine Wl.q (v := Value.string (⟨#[]⟩)) (q_assign rfl) ?_
 refine Wl.done ?_
 refine Wx.go ?_
 refine Wc.seq ?_
 refine Wc.seq ?_
 refine Wc.region ?_
 refine Wl.q (v := Value.int .i64 n) (q_move rfl) ?_
 refine Wl.q (v := Value.bool true) (q_lss (r := true) rfl rfl (decide_eq_true (h))) ?_
 refine Wl.q (v := Value.bool true) (q_move rfl) ?_
 refine Wl.no ?_
 refine Wl.no ?_
 refine Wl.q (v := Value.bool true) (q_pick (t := true) rfl rfl) ?_
 refine Wl.done ?_
 refine Wx.go ?_
 refine Wc.yes rfl ?_
 refine Wc.seq ?_
 refine Wc.region ?_
 refine Wl.q (v := Value.string (⟨#[]⟩)) (q_assign rfl) ?_
 refine Wl.done ?_
 refine Wx.go ?_
 refine Wc.ret ?_
 refine Wx.thenRet ?_
 refine Wx.fin1 rfl (.inl rfl) (fun w hs => ?_)
 exact ⟨(), trivial, rfl, hs⟩

theorem text_big (W0 : World) (n : Int) (b : Nat) (h : n > 131072) :
  Con Try.prog W0 17 #[Value.int .i64 n, Value.int .u8 ((b : Nat) : Int)] [] (X := Unit) (fun _ => True) (fun _ => .string ⟨#[]⟩) (fun _ => []) := by
 refine Con.of (args := [Value.int .i64 n, Value.int .u8 ((b : Nat) : Int)]) Try.func17 rfl Try.ntmps17 rfl (fun F => ?_)
 show Wc _ W0 _ _ _ _ _ (F)
 refine Wc.seq ?_
 refine Wc.region ?_
 refine Wl.q (v := Value.string (⟨#[]⟩)) (q_assign rfl) ?_
 refine Wl.done ?_
 refine Wx.go ?_
 refine Wc.seq ?_
 refine Wc.seq ?_
 refine Wc.region ?_
 refine Wl.q (v := Value.int .i64 n) (q_move rfl) ?_
 refine Wl.q (v := Value.bool false) (q_lss (r := false) rfl rfl (decide_eq_false (by omega))) ?_
 refine Wl.q (v := Value.bool false) (q_move rfl) ?_
 refine Wl.q (v := Value.int .i64 n) (q_move rfl) ?_
 refine Wl.q (v := Value.bool true) (q_gtr (r := true) rfl rfl (decide_eq_true (h))) ?_
 refine Wl.q (v := Value.bool true) (q_pick (t := false) rfl rfl) ?_
 refine Wl.done ?_
 refine Wx.go ?_
 refine Wc.yes rfl ?_
 refine Wc.seq ?_
 refine Wc.region ?_
 refine Wl.q (v := Value.string (⟨#[]⟩)) (q_assign rfl) ?_
 refine Wl.done ?_
 refine Wx.go ?_
 refine Wc.ret ?_
 refine Wx.thenRet ?_
 refine Wx.fin1 rfl (.inl rfl) (fun w hs => ?_)
 exact ⟨(), trivial, rfl, hs⟩

theorem text_c (W0 : World) (n : Int) (b : Nat) (hb : b < 256) : Con Try.prog W0 17 #[.int .i64 n, .int .u8 ((b : Nat) : Int)] [] (X := Unit) (fun _ => True) (fun _ => .string (txt n b)) (fun _ => []) := by
  by_cases h : n < 0 ∨ n > 131072
  · have e : txt n b = ⟨#[]⟩ := if_pos h
    rw [e]
    rcases h with h | h
    · exact text_neg W0 n b h
    · exact text_big W0 n b h
  · have e : txt n b = ⟨(txtL b n.toNat).toArray⟩ := if_neg h
    obtain ⟨m, rfl⟩ := Int.eq_ofNat_of_zero_le (show 0 ≤ n by omega)
    rw [e]
    exact text_in W0 m b (by omega) hb

end Go.Proofs.Ytnhejdnigblnoaa
