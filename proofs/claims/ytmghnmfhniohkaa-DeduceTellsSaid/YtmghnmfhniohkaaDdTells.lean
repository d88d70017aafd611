/- What follows: contracts of the calls. -/
import Derived.Test.YtmghnmfhniohkaaDdN
import Derived.Test.YtmghnmfhniohkaaDdP
import Derived.Test.YtmghnmfhniohkaaSLB
namespace Go.Proofs.Ytmghnmfhniohkaa
open Go Go.SL Go.Dd Go.RowKit
set_option linter.unusedVariables false

theorem markn_c (W0 : World) (x : Int) (h0 : 0 ≤ x) (h1 : x ≤ 100000) :
    Con Try.prog W0 36 #[Value.int .i64 x] [] (X := Unit) (fun _ => True) (fun _ => .int .i64 (-1000 - x)) (fun _ => []) := by
  refine Con.of (args := [Value.int .i64 x]) Try.func36 rfl Try.ntmps36 rfl (fun F => ?_)
  show Wc _ W0 _ _ _ _ _ (F)
  refine Wc.seq ?_
  refine Wc.region ?_
  refine Wl.q (v := Value.int .i64 0) (q_assign rfl) ?_
  refine Wl.done ?_
  refine Wx.go ?_
  refine Wc.seq ?_
  refine Wc.region ?_
  refine Wl.q (v := Value.int .i64 x) (q_move rfl) ?_
  refine Wl.q (v := Value.int .i64 (-1000 - x)) (q_sub (c := (-1000 - x)) rfl rfl (wrap_i64 (by omega) (by omega))) ?_
  refine Wl.q (v := Value.int .i64 (-1000 - x)) (q_assign rfl) ?_
  refine Wl.done ?_
  refine Wx.go ?_
  refine Wc.ret ?_
  refine Wx.fin1 rfl (.inl rfl) (fun w hs => ?_)
  exact ⟨(), trivial, rfl, hs⟩

theorem isn_c (W0 : World) (x : Int) (h0 : 0 ≤ x) (h1 : x ≤ 100000) :
    Con Try.prog W0 37 #[Value.int .i64 (-1000 - x), Value.int .i64 x] [] (X := Unit) (fun _ => True) (fun _ => .bool true) (fun _ => []) := by
  refine Con.of (args := [Value.int .i64 (-1000 - x), Value.int .i64 x]) Try.func37 rfl Try.ntmps37 rfl (fun F => ?_)
  show Wc _ W0 _ _ _ _ _ (F)
  refine Wc.seq ?_
  refine Wc.region ?_
  refine Wl.q (v := Value.bool false) (q_assign rfl) ?_
  refine Wl.done ?_
  refine Wx.go ?_
  refine Wc.seq ?_
  refine Wc.region ?_
  refine Wl.q (v := Value.int .i64 (-1000 - x)) (q_move rfl) ?_
  refine Wl.q (v := Value.int .i64 x) (q_move rfl) ?_
  refine Wl.e (e_call (F := F) (args := [Value.int .i64 x]) Try.call36 rfl (markn_c W0 x (by omega) (by omega))) (fun _ _ => ?_)
  refine Wl.imp (L' := F) (fun _ h => h) ?_
  refine Wl.q (v := Value.bool true) (q_eql (r := true) rfl rfl (decide_eq_true (rfl))) ?_
  refine Wl.q (v := Value.bool true) (q_assign rfl) ?_
  refine Wl.done ?_
  refine Wx.go ?_
  refine Wc.ret ?_
  refine Wx.fin1 rfl (.inl rfl) (fun w hs => ?_)
  exact ⟨(), trivial, rfl, hs⟩

theorem twin_c (W0 : World) (vk : Value) (kn : List Int) (hk : Rd W0 vk kn.length (kn.flatMap int1)) (hkm : kn.length ≤ 9223372036854775807) (hks : kn.length ≤ 1000)  :
    Con Try.prog W0 20 #[vk] [] (X := Nat) (fun _ => True) (fun b => .slice (some ⟨b, 0, none⟩) kn.length (kn.length + 2)) (fun b => [pt b 3 (kn.map intV ++ mkT kn.length 2)]) := by
  refine Con.of (args := [vk]) Try.func20 rfl Try.ntmps20 rfl (fun F => ?_)
  show Wc _ W0 _ _ _ _ _ (F)
  refine Wc.seq ?_
  refine Wc.region ?_
  refine Wl.q (v := Value.slice none 0 0) (q_assign rfl) ?_
  refine Wl.done ?_
  refine Wx.go ?_
  refine Wc.seq ?_
  refine Wc.region ?_
  refine Wl.q (v := vk) (q_move rfl) ?_
  refine Wl.q (v := Value.int .i64 ((kn.length : Nat) : Int)) (q_len_is Try.underlying23 rfl hk.shape) ?_
  refine Wl.q (v := vk) (q_move rfl) ?_
  refine Wl.q (v := Value.int .i64 ((kn.length : Nat) : Int)) (q_len_is Try.underlying23 rfl hk.shape) ?_
  refine Wl.q (v := Value.int .i64 ((kn.length + 2 : Nat) : Int)) (q_add (c := ((kn.length + 2 : Nat) : Int)) rfl rfl (by rw [wrap_i64] <;> omega)) ?_
  refine Wl.e (e_makeSliceCap (len := kn.length) (cap := kn.length + 2) Try.underlying23 sz_3 by_3 zo_3 rfl rfl (by omega) (by omega) (by omega)) (fun b _ => ?_)
  refine Wl.imp (L' := (pt b 3 ((madeCells (Value.int .i64 0 : Value).cells ((kn.length + 2) * 1)).toList)) :: F) (fun _ h => h) ?_
  refine Wl.q (v := Value.slice (some ⟨b, 0, none⟩) kn.length (kn.length + 2)) (q_assign rfl) ?_
  refine Wl.done ?_
  refine Wx.go ?_
  refine Wc.seq ?_
  refine Wc.region ?_
  refine Wl.q (v := Value.slice (some ⟨b, 0, none⟩) kn.length (kn.length + 2)) (q_move rfl) ?_
  refine Wl.q (v := vk) (q_move rfl) ?_
  refine Wl.e (e_copy_rd (i := 0) (m := kn.length) (news := (kn.flatMap int1)) Try.underlying23 sz_3 rfl rfl rfl hk (by rw [flat_map1, List.length_map]) rfl (by rw [made_len]; omega) (int_cells kn)) (fun _ _ => ?_)
  refine Wl.imp (L' := (pt b 3 (kn.flatMap int1 ++ ((madeCells (Value.int .i64 0 : Value).cells ((kn.length + 2) * 1)).toList).drop kn.length)) :: F) (fun _ h => h) ?_
  refine Wl.done ?_
  refine Wx.go ?_
  refine Wc.seq ?_
  refine Wc.region ?_
  refine Wl.q (v := Value.slice (some ⟨b, 0, none⟩) kn.length (kn.length + 2)) (q_move rfl) ?_
  refine Wl.q (v := vk) (q_move rfl) ?_
  refine Wl.q (v := Value.int .i64 ((kn.length : Nat) : Int)) (q_len_is Try.underlying23 rfl hk.shape) ?_
  refine Wl.q (v := Value.int .i64 ((kn.length + 2 : Nat) : Int)) (q_add (c := ((kn.length + 2 : Nat) : Int)) rfl rfl (by rw [wrap_i64] <;> omega)) ?_
  refine Wl.q (v := Value.slice (some ⟨b, 0, none⟩) (kn.length + 2) (kn.length + 2)) (q_slice_low (h := kn.length + 2) se_23 rfl rfl ⟨_, rfl⟩ (by omega) (by omega)) ?_
  refine Wl.q (v := Value.slice (some ⟨b, 0, none⟩) (kn.length + 2) (kn.length + 2)) (q_assign rfl) ?_
  refine Wl.done ?_
  refine Wx.go ?_
  refine Wc.seq ?_
  refine Wc.seq ?_
  refine Wc.region ?_
  refine Wl.q (v := vk) (q_move rfl) ?_
  refine Wl.q (v := Value.int .i64 ((kn.length : Nat) : Int)) (q_len_is Try.underlying23 rfl hk.shape) ?_
  refine Wl.q (v := Value.int .i64 ((kn.length : Nat) : Int)) (q_assign rfl) ?_
  refine Wl.done ?_
  refine Wx.go ?_
  refine Wc.block ?_
  refine Wc.loop (X := Nat) (fun d E => E 5 = Value.int .i64 (((kn.length + d) : Nat) : Int) ∧ E 3 = Value.slice (some ⟨b, 0, none⟩) kn.length (kn.length + 2) ∧ E 4 = Value.slice (some ⟨b, 0, none⟩) (kn.length + 2) (kn.length + 2) ∧ d ≤ 2) (fun d => (pt b 3 (kn.map intV ++ mkT kn.length d)) :: F) (fun d => 2 - d) 0 ?_ ?_ ?_
  · exact ⟨rfl, rfl, rfl, (by omega)⟩
  · exact fun w hs => by rw [← twin_start]; exact hs
  · rintro d E2 ⟨hE5_0, hE3_0, hE4_0, hd⟩
    obtain rfl | rfl | rfl : d = 0 ∨ d = 1 ∨ d = 2 := by omega
    ·
      refine Wc.seq ?_
      refine Wc.seq ?_
      refine Wc.region ?_
      refine Wl.q (v := Value.int .i64 (((kn.length + 0) : Nat) : Int)) (q_move hE5_0) ?_
      refine Wl.q (v := Value.slice (some ⟨b, 0, none⟩) (kn.length + 2) (kn.length + 2)) (q_move hE4_0) ?_
      refine Wl.q (v := Value.int .i64 ((kn.length + 2 : Nat) : Int)) (q_len_slice Try.underlying23 rfl) ?_
      refine Wl.q (v := Value.bool true) (q_lss (r := true) rfl rfl (decide_eq_true (by omega))) ?_
      refine Wl.done ?_
      refine Wx.go ?_
      refine Wc.yes rfl ?_
      refine Wc.skip ?_
      refine Wx.go ?_
      refine Wc.seq ?_
      refine Wc.block ?_
      refine Wc.region ?_
      refine Wl.q (v := Value.slice (some ⟨b, 0, none⟩) (kn.length + 2) (kn.length + 2)) (q_move hE4_0) ?_
      refine Wl.q (v := Value.int .i64 (((kn.length + 0) : Nat) : Int)) (q_move hE5_0) ?_
      refine Wl.q (v := Value.int .i64 (((kn.length + 0) : Nat) : Int)) (q_move hE5_0) ?_
      refine Wl.e (e_call (F := (pt b 3 (kn.map intV ++ mkT kn.length 0)) :: F) (args := [Value.int .i64 (((kn.length + 0) : Nat) : Int)]) Try.call36 rfl (markn_c W0 (((kn.length + 0) : Nat) : Int) (by omega) (by omega))) (fun _ _ => ?_)
      refine Wl.imp (L' := (pt b 3 (kn.map intV ++ mkT kn.length 0)) :: F) (fun _ h => h) ?_
      refine Wl.q (v := Value.pointer (some ⟨b, (kn.length + 0), none⟩)) (q_idx (m := (kn.length + 0)) se_23 rfl rfl (by omega) (by omega) (by simp)) ?_
      refine Wl.e (e_store (i := 0) (v := Value.int .i64 (-1000 - (((kn.length + 0) : Nat) : Int))) sz_3 rfl rfl (fun _ _ => rfl) rfl (by rw [twin_len]; omega)) (fun _ _ => ?_)
      refine Wl.imp (L' := (pt b 3 ((kn.map intV ++ mkT kn.length 0).set (kn.length + 0) (Value.int .i64 (-1000 - (((kn.length + 0) : Nat) : Int))))) :: F) (fun _ h => h) ?_
      refine Wl.done ?_
      refine Wx.blockEnd ?_
      refine Wx.go ?_
      refine Wc.region ?_
      refine Wl.q (v := Value.int .i64 (((kn.length + 0) : Nat) : Int)) (q_move hE5_0) ?_
      refine Wl.q (v := Value.int .i64 (((kn.length + 0) + 1 : Nat) : Int)) (q_add (c := (((kn.length + 0) + 1 : Nat) : Int)) rfl rfl (by rw [wrap_i64] <;> omega)) ?_
      refine Wl.q (v := Value.int .i64 (((kn.length + 0) + 1 : Nat) : Int)) (q_assign rfl) ?_
      refine Wl.done ?_
      refine Wx.at 1 ⟨(by omega), rfl, hE3_0, hE4_0, (by omega)⟩ (fun w hs => by rw [← twin_set0]; exact hs)
    ·
      refine Wc.seq ?_
      refine Wc.seq ?_
      refine Wc.region ?_
      refine Wl.q (v := Value.int .i64 (((kn.length + 1) : Nat) : Int)) (q_move hE5_0) ?_
      refine Wl.q (v := Value.slice (some ⟨b, 0, none⟩) (kn.length + 2) (kn.length + 2)) (q_move hE4_0) ?_
      refine Wl.q (v := Value.int .i64 ((kn.length + 2 : Nat) : Int)) (q_len_slice Try.underlying23 rfl) ?_
      refine Wl.q (v := Value.bool true) (q_lss (r := true) rfl rfl (decide_eq_true (by omega))) ?_
      refine Wl.done ?_
      refine Wx.go ?_
      refine Wc.yes rfl ?_
      refine Wc.skip ?_
      refine Wx.go ?_
      refine Wc.seq ?_
      refine Wc.block ?_
      refine Wc.region ?_
      refine Wl.q (v := Value.slice (some ⟨b, 0, none⟩) (kn.length + 2) (kn.length + 2)) (q_move hE4_0) ?_
      refine Wl.q (v := Value.int .i64 (((kn.length + 1) : Nat) : Int)) (q_move hE5_0) ?_
      refine Wl.q (v := Value.int .i64 (((kn.length + 1) : Nat) : Int)) (q_move hE5_0) ?_
      refine Wl.e (e_call (F := (pt b 3 (kn.map intV ++ mkT kn.length 1)) :: F) (args := [Value.int .i64 (((kn.length + 1) : Nat) : Int)]) Try.call36 rfl (markn_c W0 (((kn.length + 1) : Nat) : Int) (by omega) (by omega))) (fun _ _ => ?_)
      refine Wl.imp (L' := (pt b 3 (kn.map intV ++ mkT kn.length 1)) :: F) (fun _ h => h) ?_
      refine Wl.q (v := Value.pointer (some ⟨b, (kn.length + 1), none⟩)) (q_idx (m := (kn.length + 1)) se_23 rfl rfl (by omega) (by omega) (by simp)) ?_
      refine Wl.e (e_store (i := 0) (v := Value.int .i64 (-1000 - (((kn.length + 1) : Nat) : Int))) sz_3 rfl rfl (fun _ _ => rfl) rfl (by rw [twin_len]; omega)) (fun _ _ => ?_)
      refine Wl.imp (L' := (pt b 3 ((kn.map intV ++ mkT kn.length 1).set (kn.length + 1) (Value.int .i64 (-1000 - (((kn.length + 1) : Nat) : Int))))) :: F) (fun _ h => h) ?_
      refine Wl.done ?_
      refine Wx.blockEnd ?_
      refine Wx.go ?_
      refine Wc.region ?_
      refine Wl.q (v := Value.int .i64 (((kn.length + 1) : Nat) : Int)) (q_move hE5_0) ?_
      refine Wl.q (v := Value.int .i64 (((kn.length + 1) + 1 : Nat) : Int)) (q_add (c := (((kn.length + 1) + 1 : Nat) : Int)) rfl rfl (by rw [wrap_i64] <;> omega)) ?_
      refine Wl.q (v := Value.int .i64 (((kn.length + 1) + 1 : Nat) : Int)) (q_assign rfl) ?_
      refine Wl.done ?_
      refine Wx.at 2 ⟨(by omega), rfl, hE3_0, hE4_0, (by omega)⟩ (fun w hs => by rw [← twin_set1]; exact hs)
    ·
      refine Wc.seq ?_
      refine Wc.seq ?_
      refine Wc.region ?_
      refine Wl.q (v := Value.int .i64 (((kn.length + 2) : Nat) : Int)) (q_move hE5_0) ?_
      refine Wl.q (v := Value.slice (some ⟨b, 0, none⟩) (kn.length + 2) (kn.length + 2)) (q_move hE4_0) ?_
      refine Wl.q (v := Value.int .i64 ((kn.length + 2 : Nat) : Int)) (q_len_slice Try.underlying23 rfl) ?_
      refine Wl.q (v := Value.bool false) (q_lss (r := false) rfl rfl (decide_eq_false (by omega))) ?_
      refine Wl.done ?_
      refine Wx.go ?_
      refine Wc.no rfl ?_
      refine Wc.exit ?_
      refine Wx.thenExit ?_
      refine Wx.thenExit ?_
      refine Wx.out ?_
      refine Wx.go ?_
      refine Wc.seq ?_
      refine Wc.region ?_
      refine Wl.q (v := Value.slice (some ⟨b, 0, none⟩) kn.length (kn.length + 2)) (q_move hE3_0) ?_
      refine Wl.q (v := Value.slice (some ⟨b, 0, none⟩) kn.length (kn.length + 2)) (q_assign rfl) ?_
      refine Wl.done ?_
      refine Wx.go ?_
      refine Wc.ret ?_
      refine Wx.fin1 rfl (.inl rfl) (fun w hs => ?_)
      exact ⟨b, trivial, rfl, hs⟩

theorem same_c (W0 : World) (b : Nat) (vk : Value) (kn : List Int) (hk : Rd W0 vk kn.length (kn.flatMap int1)) (hkm : kn.length ≤ 9223372036854775807) (hks : kn.length ≤ 1000)  :
    Con Try.prog W0 38 #[Value.slice (some ⟨b, 0, none⟩) kn.length (kn.length + 2), vk] [pt b 3 (kn.map intV ++ mkT kn.length 2)] (X := Unit) (fun _ => True) (fun _ => .bool true) (fun _ => [pt b 3 (kn.map intV ++ mkT kn.length 2)]) := by
  refine Con.of (args := [Value.slice (some ⟨b, 0, none⟩) kn.length (kn.length + 2), vk]) Try.func38 rfl Try.ntmps38 rfl (fun F => ?_)
  show Wc _ W0 _ _ _ _ _ ((pt b 3 (kn.map intV ++ mkT kn.length 2)) :: F)
  refine Wc.seq ?_
  refine Wc.region ?_
  refine Wl.q (v := Value.bool false) (q_assign rfl) ?_
  refine Wl.done ?_
  refine Wx.go ?_
  refine Wc.seq ?_
  refine Wc.seq ?_
  refine Wc.region ?_
  refine Wl.q (v := Value.slice (some ⟨b, 0, none⟩) kn.length (kn.length + 2)) (q_move rfl) ?_
  refine Wl.q (v := Value.int .i64 ((kn.length : Nat) : Int)) (q_len_slice Try.underlying23 rfl) ?_
  refine Wl.q (v := vk) (q_move rfl) ?_
  refine Wl.q (v := Value.int .i64 ((kn.length : Nat) : Int)) (q_len_is Try.underlying23 rfl hk.shape) ?_
  refine Wl.q (v := Value.bool false) (q_neq (r := true) rfl rfl (decide_eq_true (rfl))) ?_
  refine Wl.done ?_
  refine Wx.go ?_
  refine Wc.no rfl ?_
  refine Wc.skip ?_
  refine Wx.go ?_
  refine Wc.seq ?_
  refine Wc.seq ?_
  refine Wc.region ?_
  refine Wl.q (v := Value.slice (some ⟨b, 0, none⟩) kn.length (kn.length + 2)) (q_move rfl) ?_
  refine Wl.q (v := Value.int .i64 ((kn.length : Nat) : Int)) (q_len_slice Try.underlying23 rfl) ?_
  refine Wl.q (v := Value.int .i64 0) (q_move rfl) ?_
  refine Wl.done ?_
  refine Wx.go ?_
  refine Wc.block ?_
  refine Wc.loop (X := Nat) (fun i E => E 13 = Value.int .i64 ((i : Nat) : Int) ∧ E 0 = Value.slice (some ⟨b, 0, none⟩) kn.length (kn.length + 2) ∧ E 1 = vk ∧ E 12 = Value.int .i64 ((kn.length : Nat) : Int) ∧ i ≤ kn.length) (fun i => (pt b 3 (kn.map intV ++ mkT kn.length 2)) :: F) (fun i => kn.length - i) 0 ?_ ?_ ?_
  · exact ⟨rfl, rfl, rfl, rfl, (by omega)⟩
  · exact fun w hs => hs
  · rintro i E2 ⟨hE13_0, hE0_0, hE1_0, hE12_0, hi⟩
    refine Wc.seq ?_
    refine Wc.region ?_
    by_cases hlt : ((i : Nat) : Int) < ((kn.length : Nat) : Int)
    ·
      obtain ⟨o, hget⟩ : ∃ o, kn[i]? = some o := ⟨kn[i]'(by omega), List.getElem?_eq_getElem (by omega)⟩
      refine Wl.q (v := Value.bool true) (q_lss (r := true) hE13_0 hE12_0 (decide_eq_true hlt)) ?_
      refine Wl.done ?_
      refine Wx.go ?_
      refine Wc.seq ?_
      refine Wc.yes rfl ?_
      refine Wc.skip ?_
      refine Wx.go ?_
      refine Wc.seq ?_
      refine Wc.block ?_
      refine Wc.seq ?_
      refine Wc.region ?_
      refine Wl.q (v := Value.int .i64 ((i : Nat) : Int)) (q_move hE13_0) ?_
      refine Wl.q (v := Value.int .i64 ((i : Nat) : Int)) (q_assign rfl) ?_
      refine Wl.done ?_
      refine Wx.go ?_
      refine Wc.seq ?_
      refine Wc.drawsS [] ((pt b 3 (kn.map intV ++ mkT kn.length 2)) :: []) (by kernel_rfl) ?_
      refine Wr.pure (v := Value.slice (some ⟨b, 0, none⟩) kn.length (kn.length + 2)) 0 rfl (by kernel_rfl) (.inr (fun _ h => st_take [0] h)) (.inl ⟨rfl, fun _ => q_move hE0_0⟩) ?_
      refine Wr.pure (v := Value.int .i64 ((i : Nat) : Int)) 1 rfl (by kernel_rfl) (.inr (fun _ h => st_take [0] h)) (.inl ⟨rfl, fun _ => q_move rfl⟩) ?_
      refine Wr.pure (v := Value.pointer (some ⟨b, i, none⟩)) 2 rfl (by kernel_rfl) (.inr (fun _ h => st_take [0] h)) (.inl ⟨rfl, fun _ => q_idx (m := i) se_23 rfl rfl (by omega) (by omega) (by simp)⟩) ?_
      refine Wr.take (v := Value.int .i64 o) 3 rfl (by kernel_rfl) (fun _ h => st_take [0] h) (.inl ⟨rfl, q_load sc_3 rfl (.cel (i := 0) rfl (app_at hget))⟩) ?_
      refine Wr.pure (v := vk) 4 rfl (by kernel_rfl) (.inr (fun _ h => st_take [0] h)) (.inl ⟨rfl, fun _ => q_move hE1_0⟩) ?_
      refine Wr.pure (v := Value.int .i64 ((i : Nat) : Int)) 5 rfl (by kernel_rfl) (.inr (fun _ h => st_take [0] h)) (.inl ⟨rfl, fun _ => q_move rfl⟩) ?_
      refine Wr.pure (v := Value.pointer (some ⟨(rb vk), ro vk + i, none⟩)) 6 rfl (by kernel_rfl) (.inr (fun _ h => st_take [0] h)) (.inl ⟨rfl, fun _ => q_idx_is (m := ro vk + i) se_23 rfl (hk.some_ (by omega)) rfl (by omega) (by omega) (by simp)⟩) ?_
      refine Wr.take (v := Value.int .i64 o) 7 rfl (by kernel_rfl) (fun _ h => st_take [0] h) (.inl ⟨rfl, q_load sc_3 rfl (.old (rd1 hk hget))⟩) ?_
      refine Wr.pure (v := Value.bool false) 8 rfl (by kernel_rfl) (.inr (fun _ h => st_take [0] h)) (.inl ⟨rfl, fun _ => q_neq (r := true) rfl rfl (decide_eq_true (rfl))⟩) ?_
      refine Wr.done (by kernel_rfl) ?_
      refine Wx.go ?_
      refine Wc.no rfl ?_
      refine Wc.skip ?_
      refine Wx.blockEnd ?_
      refine Wx.go ?_
      refine Wc.region ?_
      refine Wl.q (v := Value.int .i64 ((i + 1 : Nat) : Int)) (q_add (c := ((i + 1 : Nat) : Int)) hE13_0 rfl (by rw [wrap_i64] <;> omega)) ?_
      refine Wl.q (v := Value.int .i64 ((i + 1 : Nat) : Int)) (q_move rfl) ?_
      refine Wl.done ?_
      refine Wx.at (i + 1) ⟨(by omega), rfl, hE0_0, hE1_0, hE12_0, (by omega)⟩ (fun w hs => hs)
    ·
      refine Wl.q (v := Value.bool false) (q_lss (r := false) hE13_0 hE12_0 (decide_eq_false hlt)) ?_
      refine Wl.done ?_
      refine Wx.go ?_
      refine Wc.seq ?_
      refine Wc.no rfl ?_
      refine Wc.exit ?_
      refine Wx.thenExit ?_
      refine Wx.thenExit ?_
      refine Wx.out ?_
      refine Wx.go ?_
      refine Wc.seq ?_
      refine Wc.region ?_
      refine Wl.q (v := Value.bool true) (q_assign rfl) ?_
      refine Wl.done ?_
      refine Wx.go ?_
      refine Wc.ret ?_
      refine Wx.fin1 rfl (.inl rfl) (fun w hs => ?_)
      exact ⟨(), trivial, rfl, hs⟩

theorem left_c (W0 : World) (b : Nat) (vk : Value) (kn : List Int) (hk : Rd W0 vk kn.length (kn.flatMap int1)) (hkm : kn.length ≤ 9223372036854775807) (hks : kn.length ≤ 1000)  :
    Con Try.prog W0 21 #[Value.slice (some ⟨b, 0, none⟩) kn.length (kn.length + 2), vk] [pt b 3 (kn.map intV ++ mkT kn.length 2)] (X := Unit) (fun _ => True) (fun _ => .bool true) (fun _ => [pt b 3 (kn.map intV ++ mkT kn.length 2)]) := by
  refine Con.of (args := [Value.slice (some ⟨b, 0, none⟩) kn.length (kn.length + 2), vk]) Try.func21 rfl Try.ntmps21 rfl (fun F => ?_)
  show Wc _ W0 _ _ _ _ _ ((pt b 3 (kn.map intV ++ mkT kn.length 2)) :: F)
  refine Wc.seq ?_
  refine Wc.region ?_
  refine Wl.q (v := Value.bool false) (q_assign rfl) ?_
  refine Wl.done ?_
  refine Wx.go ?_
  refine Wc.seq ?_
  refine Wc.seq ?_
  refine Wc.region ?_
  refine Wl.q (v := Value.slice (some ⟨b, 0, none⟩) kn.length (kn.length + 2)) (q_move rfl) ?_
  refine Wl.q (v := Value.int .i64 ((kn.length : Nat) : Int)) (q_len_slice Try.underlying23 rfl) ?_
  refine Wl.q (v := vk) (q_move rfl) ?_
  refine Wl.q (v := Value.int .i64 ((kn.length : Nat) : Int)) (q_len_is Try.underlying23 rfl hk.shape) ?_
  refine Wl.q (v := Value.bool false) (q_neq (r := true) rfl rfl (decide_eq_true (rfl))) ?_
  refine Wl.done ?_
  refine Wx.go ?_
  refine Wc.no rfl ?_
  refine Wc.skip ?_
  refine Wx.go ?_
  refine Wc.seq ?_
  refine Wc.region ?_
  refine Wl.q (v := Value.slice (some ⟨b, 0, none⟩) kn.length (kn.length + 2)) (q_move rfl) ?_
  refine Wl.q (v := vk) (q_move rfl) ?_
  refine Wl.q (v := Value.int .i64 ((kn.length : Nat) : Int)) (q_len_is Try.underlying23 rfl hk.shape) ?_
  refine Wl.q (v := Value.int .i64 ((kn.length + 2 : Nat) : Int)) (q_add (c := ((kn.length + 2 : Nat) : Int)) rfl rfl (by rw [wrap_i64] <;> omega)) ?_
  refine Wl.q (v := Value.slice (some ⟨b, 0, none⟩) (kn.length + 2) (kn.length + 2)) (q_slice_low (h := kn.length + 2) se_23 rfl rfl ⟨_, rfl⟩ (by omega) (by omega)) ?_
  refine Wl.q (v := Value.slice (some ⟨b, 0, none⟩) (kn.length + 2) (kn.length + 2)) (q_assign rfl) ?_
  refine Wl.done ?_
  refine Wx.go ?_
  refine Wc.seq ?_
  refine Wc.seq ?_
  refine Wc.region ?_
  refine Wl.q (v := vk) (q_move rfl) ?_
  refine Wl.q (v := Value.int .i64 ((kn.length : Nat) : Int)) (q_len_is Try.underlying23 rfl hk.shape) ?_
  refine Wl.q (v := Value.int .i64 ((kn.length : Nat) : Int)) (q_assign rfl) ?_
  refine Wl.done ?_
  refine Wx.go ?_
  refine Wc.block ?_
  refine Wc.loop (X := Nat) (fun d E => E 6 = Value.int .i64 (((kn.length + d) : Nat) : Int) ∧ E 0 = Value.slice (some ⟨b, 0, none⟩) kn.length (kn.length + 2) ∧ E 1 = vk ∧ E 5 = Value.slice (some ⟨b, 0, none⟩) (kn.length + 2) (kn.length + 2) ∧ d ≤ 2) (fun d => (pt b 3 (kn.map intV ++ mkT kn.length 2)) :: F) (fun d => 2 - d) 0 ?_ ?_ ?_
  · exact ⟨rfl, rfl, rfl, rfl, (by omega)⟩
  · exact fun w hs => hs
  · rintro d E2 ⟨hE6_0, hE0_0, hE1_0, hE5_0, hd⟩
    obtain rfl | rfl | rfl : d = 0 ∨ d = 1 ∨ d = 2 := by omega
    ·
      refine Wc.seq ?_
      refine Wc.seq ?_
      refine Wc.region ?_
      refine Wl.q (v := Value.int .i64 (((kn.length + 0) : Nat) : Int)) (q_move hE6_0) ?_
      refine Wl.q (v := Value.slice (some ⟨b, 0, none⟩) (kn.length + 2) (kn.length + 2)) (q_move hE5_0) ?_
      refine Wl.q (v := Value.int .i64 ((kn.length + 2 : Nat) : Int)) (q_len_slice Try.underlying23 rfl) ?_
      refine Wl.q (v := Value.bool true) (q_lss (r := true) rfl rfl (decide_eq_true (by omega))) ?_
      refine Wl.done ?_
      refine Wx.go ?_
      refine Wc.yes rfl ?_
      refine Wc.skip ?_
      refine Wx.go ?_
      refine Wc.seq ?_
      refine Wc.block ?_
      refine Wc.seq ?_
      refine Wc.region ?_
      refine Wl.q (v := Value.slice (some ⟨b, 0, none⟩) (kn.length + 2) (kn.length + 2)) (q_move hE5_0) ?_
      refine Wl.q (v := Value.int .i64 (((kn.length + 0) : Nat) : Int)) (q_move hE6_0) ?_
      refine Wl.q (v := Value.pointer (some ⟨b, (kn.length + 0), none⟩)) (q_idx (m := (kn.length + 0)) se_23 rfl rfl (by omega) (by omega) (by simp)) ?_
      refine Wl.q (v := Value.int .i64 (-1000 - ((kn.length + 0 : Nat) : Int))) (q_load sc_3 rfl (.cel (i := 0) rfl (twin_at0 kn))) ?_
      refine Wl.q (v := Value.int .i64 (((kn.length + 0) : Nat) : Int)) (q_move hE6_0) ?_
      refine Wl.e (e_call (F := (pt b 3 (kn.map intV ++ mkT kn.length 2)) :: F) (args := [Value.int .i64 (-1000 - ((kn.length + 0 : Nat) : Int)), Value.int .i64 (((kn.length + 0) : Nat) : Int)]) Try.call37 rfl (isn_c W0 (((kn.length + 0) : Nat) : Int) (by omega) (by omega))) (fun _ _ => ?_)
      refine Wl.imp (L' := (pt b 3 (kn.map intV ++ mkT kn.length 2)) :: F) (fun _ h => h) ?_
      refine Wl.q (v := Value.bool false) (q_not rfl rfl) ?_
      refine Wl.done ?_
      refine Wx.go ?_
      refine Wc.no rfl ?_
      refine Wc.skip ?_
      refine Wx.blockEnd ?_
      refine Wx.go ?_
      refine Wc.region ?_
      refine Wl.q (v := Value.int .i64 (((kn.length + 0) : Nat) : Int)) (q_move hE6_0) ?_
      refine Wl.q (v := Value.int .i64 (((kn.length + 0) + 1 : Nat) : Int)) (q_add (c := (((kn.length + 0) + 1 : Nat) : Int)) rfl rfl (by rw [wrap_i64] <;> omega)) ?_
      refine Wl.q (v := Value.int .i64 (((kn.length + 0) + 1 : Nat) : Int)) (q_assign rfl) ?_
      refine Wl.done ?_
      refine Wx.at 1 ⟨(by omega), rfl, hE0_0, hE1_0, hE5_0, (by omega)⟩ (fun w hs => hs)
    ·
      refine Wc.seq ?_
      refine Wc.seq ?_
      refine Wc.region ?_
      refine Wl.q (v := Value.int .i64 (((kn.length + 1) : Nat) : Int)) (q_move hE6_0) ?_
      refine Wl.q (v := Value.slice (some ⟨b, 0, none⟩) (kn.length + 2) (kn.length + 2)) (q_move hE5_0) ?_
      refine Wl.q (v := Value.int .i64 ((kn.length + 2 : Nat) : Int)) (q_len_slice Try.underlying23 rfl) ?_
      refine Wl.q (v := Value.bool true) (q_lss (r := true) rfl rfl (decide_eq_true (by omega))) ?_
      refine Wl.done ?_
      refine Wx.go ?_
      refine Wc.yes rfl ?_
      refine Wc.skip ?_
      refine Wx.go ?_
      refine Wc.seq ?_
      refine Wc.block ?_
      refine Wc.seq ?_
      refine Wc.region ?_
      refine Wl.q (v := Value.slice (some ⟨b, 0, none⟩) (kn.length + 2) (kn.length + 2)) (q_move hE5_0) ?_
      refine Wl.q (v := Value.int .i64 (((kn.length + 1) : Nat) : Int)) (q_move hE6_0) ?_
      refine Wl.q (v := Value.pointer (some ⟨b, (kn.length + 1), none⟩)) (q_idx (m := (kn.length + 1)) se_23 rfl rfl (by omega) (by omega) (by simp)) ?_
      refine Wl.q (v := Value.int .i64 (-1000 - ((kn.length + 1 : Nat) : Int))) (q_load sc_3 rfl (.cel (i := 0) rfl (twin_at1 kn))) ?_
      refine Wl.q (v := Value.int .i64 (((kn.length + 1) : Nat) : Int)) (q_move hE6_0) ?_
      refine Wl.e (e_call (F := (pt b 3 (kn.map intV ++ mkT kn.length 2)) :: F) (args := [Value.int .i64 (-1000 - ((kn.length + 1 : Nat) : Int)), Value.int .i64 (((kn.length + 1) : Nat) : Int)]) Try.call37 rfl (isn_c W0 (((kn.length + 1) : Nat) : Int) (by omega) (by omega))) (fun _ _ => ?_)
      refine Wl.imp (L' := (pt b 3 (kn.map intV ++ mkT kn.length 2)) :: F) (fun _ h => h) ?_
      refine Wl.q (v := Value.bool false) (q_not rfl rfl) ?_
      refine Wl.done ?_
      refine Wx.go ?_
      refine Wc.no rfl ?_
      refine Wc.skip ?_
      refine Wx.blockEnd ?_
      refine Wx.go ?_
      refine Wc.region ?_
      refine Wl.q (v := Value.int .i64 (((kn.length + 1) : Nat) : Int)) (q_move hE6_0) ?_
      refine Wl.q (v := Value.int .i64 (((kn.length + 1) + 1 : Nat) : Int)) (q_add (c := (((kn.length + 1) + 1 : Nat) : Int)) rfl rfl (by rw [wrap_i64] <;> omega)) ?_
      refine Wl.q (v := Value.int .i64 (((kn.length + 1) + 1 : Nat) : Int)) (q_assign rfl) ?_
      refine Wl.done ?_
      refine Wx.at 2 ⟨(by omega), rfl, hE0_0, hE1_0, hE5_0, (by omega)⟩ (fun w hs => hs)
    ·
      refine Wc.seq ?_
      refine Wc.seq ?_
      refine Wc.region ?_
      refine Wl.q (v := Value.int .i64 (((kn.length + 2) : Nat) : Int)) (q_move hE6_0) ?_
      refine Wl.q (v := Value.slice (some ⟨b, 0, none⟩) (kn.length + 2) (kn.length + 2)) (q_move hE5_0) ?_
      refine Wl.q (v := Value.int .i64 ((kn.length + 2 : Nat) : Int)) (q_len_slice Try.underlying23 rfl) ?_
      refine Wl.q (v := Value.bool false) (q_lss (r := false) rfl rfl (decide_eq_false (by omega))) ?_
      refine Wl.done ?_
      refine Wx.go ?_
      refine Wc.no rfl ?_
      refine Wc.exit ?_
      refine Wx.thenExit ?_
      refine Wx.thenExit ?_
      refine Wx.out ?_
      refine Wx.go ?_
      refine Wc.seq ?_
      refine Wc.region ?_
      refine Wl.q (v := Value.slice (some ⟨b, 0, none⟩) kn.length (kn.length + 2)) (q_move hE0_0) ?_
      refine Wl.q (v := vk) (q_move hE1_0) ?_
      refine Wl.e (e_call (F := F) (args := [Value.slice (some ⟨b, 0, none⟩) kn.length (kn.length + 2), vk]) Try.call38 rfl (same_c W0 b vk kn hk hkm hks)) (fun _ _ => ?_)
      refine Wl.imp (L' := (pt b 3 (kn.map intV ++ mkT kn.length 2)) :: F) (fun _ h => h) ?_
      refine Wl.q (v := Value.bool true) (q_assign rfl) ?_
      refine Wl.done ?_
      refine Wx.go ?_
      refine Wc.ret ?_
      refine Wx.fin1 rfl (.inl rfl) (fun w hs => ?_)
      exact ⟨(), trivial, rfl, hs⟩

theorem khas_nil (W0 : World) (x : Int) :
    Con Try.prog W0 17 #[Value.pointer none, Value.int .i64 x] [] (X := Unit) (fun _ => True) (fun _ => .bool false) (fun _ => []) := by
  refine Con.of (args := [Value.pointer none, Value.int .i64 x]) Try.func17 rfl Try.ntmps17 rfl (fun F => ?_)
  show Wc _ W0 _ _ _ _ _ (F)
  refine Wc.seq ?_
  refine Wc.region ?_
  refine Wl.q (v := Value.bool false) (q_assign rfl) ?_
  refine Wl.done ?_
  refine Wx.go ?_
  refine Wc.seq ?_
  refine Wc.seq ?_
  refine Wc.region ?_
  refine Wl.q (v := Value.pointer none) (q_move rfl) ?_
  refine Wl.q (v := Value.bool true) (q_eql_nil (r := true) rfl rfl Try.underlying38 rfl) ?_
  refine Wl.q (v := Value.bool true) (q_move rfl) ?_
  refine Wl.no ?_
  refine Wl.no ?_
  refine Wl.no ?_
  refine Wl.no ?_
  refine Wl.no ?_
  refine Wl.q (v := Value.bool true) (q_pick (t := true) rfl rfl) ?_
  refine Wl.done ?_
  refine Wx.go ?_
  refine Wc.yes rfl ?_
  refine Wc.seq ?_
  refine Wc.region ?_
  refine Wl.q (v := Value.bool false) (q_assign rfl) ?_
  refine Wl.done ?_
  refine Wx.go ?_
  refine Wc.ret ?_
  refine Wx.thenRet ?_
  refine Wx.fin1 rfl (.inl rfl) (fun w hs => ?_)
  exact ⟨(), trivial, rfl, hs⟩

theorem klearn_nil (W0 : World) (x : Int) :
    Con Try.prog W0 22 #[Value.pointer none, Value.int .i64 x] [] (X := Unit) (fun _ => True) (fun _ => .int .i64 2) (fun _ => []) := by
  refine Con.of (args := [Value.pointer none, Value.int .i64 x]) Try.func22 rfl Try.ntmps22 rfl (fun F => ?_)
  show Wc _ W0 _ _ _ _ _ (F)
  refine Wc.seq ?_
  refine Wc.region ?_
  refine Wl.q (v := Value.int .i64 0) (q_assign rfl) ?_
  refine Wl.done ?_
  refine Wx.go ?_
  refine Wc.seq ?_
  refine Wc.seq ?_
  refine Wc.region ?_
  refine Wl.q (v := Value.pointer none) (q_move rfl) ?_
  refine Wl.q (v := Value.bool true) (q_eql_nil (r := true) rfl rfl Try.underlying38 rfl) ?_
  refine Wl.q (v := Value.bool true) (q_move rfl) ?_
  refine Wl.no ?_
  refine Wl.no ?_
  refine Wl.no ?_
  refine Wl.no ?_
  refine Wl.no ?_
  refine Wl.q (v := Value.bool true) (q_pick (t := true) rfl rfl) ?_
  refine Wl.done ?_
  refine Wx.go ?_
  refine Wc.yes rfl ?_
  refine Wc.seq ?_
  refine Wc.region ?_
  refine Wl.q (v := Value.int .i64 2) (q_assign rfl) ?_
  refine Wl.done ?_
  refine Wx.go ?_
  refine Wc.ret ?_
  refine Wx.thenRet ?_
  refine Wx.fin1 rfl (.inl rfl) (fun w hs => ?_)
  exact ⟨(), trivial, rfl, hs⟩

theorem tells_big (W0 : World) (vl : Value) (l : List TermR) (hl : Rd W0 vl l.length (l.flatMap termCells)) (hlm : l.length ≤ 9223372036854775807) (hlo : ∀ x ∈ l, okT x) (vk : Value) (kn : List Int) (hk : Rd W0 vk kn.length (kn.flatMap int1)) (hkm : kn.length ≤ 9223372036854775807) (vj : Value) (la : List TermR) (hja : Rd W0 vj la.length (la.flatMap termCells)) (hjam : la.length ≤ 9223372036854775807) (hlao : ∀ x ∈ la, okT x) (hbig : 600 < l.length ∨ 1000 < kn.length ∨ 100 < la.length) :
    Con Try.prog W0 6 #[vl, vk, vj] [] (X := Unit) (fun _ => True) (fun _ => .bool true) (fun _ => []) := by
  refine Con.of (args := [vl, vk, vj]) Try.func6 rfl Try.ntmps6 rfl (fun F => ?_)
  show Wc _ W0 _ _ _ _ _ (F)
  refine Wc.seq ?_
  refine Wc.region ?_
  refine Wl.q (v := Value.bool false) (q_assign rfl) ?_
  refine Wl.done ?_
  refine Wx.go ?_
  refine Wc.seq ?_
  refine Wc.seq ?_
  refine Wc.region ?_
  refine Wl.q (v := vl) (q_move rfl) ?_
  refine Wl.q (v := Value.int .i64 ((l.length : Nat) : Int)) (q_len_is Try.underlying22 rfl hl.shape) ?_
  by_cases hb1 : ((l.length : Nat) : Int) > 600
  ·
    refine Wl.q (v := Value.bool true) (q_gtr (r := true) rfl rfl (decide_eq_true hb1)) ?_
    refine Wl.q (v := Value.bool true) (q_move rfl) ?_
    refine Wl.no ?_
    refine Wl.no ?_
    refine Wl.no ?_
    refine Wl.q (v := Value.bool true) (q_pick (t := true) rfl rfl) ?_
    refine Wl.q (v := Value.bool true) (q_move rfl) ?_
    refine Wl.no ?_
    refine Wl.no ?_
    refine Wl.no ?_
    refine Wl.q (v := Value.bool true) (q_pick (t := true) rfl rfl) ?_
    refine Wl.done ?_
    refine Wx.go ?_
    refine Wc.yes rfl ?_
    refine Wc.seq ?_
    refine Wc.region ?_
    refine Wl.q (v := Value.bool true) (q_assign rfl) ?_
    refine Wl.done ?_
    refine Wx.go ?_
    refine Wc.ret ?_
    refine Wx.thenRet ?_
    refine Wx.fin1 rfl (.inl rfl) (fun w hs => ?_)
    exact ⟨(), trivial, rfl, hs⟩
  ·
    refine Wl.q (v := Value.bool false) (q_gtr (r := false) rfl rfl (decide_eq_false hb1)) ?_
    refine Wl.q (v := Value.bool false) (q_move rfl) ?_
    refine Wl.q (v := vk) (q_move rfl) ?_
    refine Wl.q (v := Value.int .i64 ((kn.length : Nat) : Int)) (q_len_is Try.underlying23 rfl hk.shape) ?_
    by_cases hb2 : ((kn.length : Nat) : Int) > 1000
    ·
      refine Wl.q (v := Value.bool true) (q_gtr (r := true) rfl rfl (decide_eq_true hb2)) ?_
      refine Wl.q (v := Value.bool true) (q_pick (t := false) rfl rfl) ?_
      refine Wl.q (v := Value.bool true) (q_move rfl) ?_
      refine Wl.no ?_
      refine Wl.no ?_
      refine Wl.no ?_
      refine Wl.q (v := Value.bool true) (q_pick (t := true) rfl rfl) ?_
      refine Wl.done ?_
      refine Wx.go ?_
      refine Wc.yes rfl ?_
      refine Wc.seq ?_
      refine Wc.region ?_
      refine Wl.q (v := Value.bool true) (q_assign rfl) ?_
      refine Wl.done ?_
      refine Wx.go ?_
      refine Wc.ret ?_
      refine Wx.thenRet ?_
      refine Wx.fin1 rfl (.inl rfl) (fun w hs => ?_)
      exact ⟨(), trivial, rfl, hs⟩
    ·
      refine Wl.q (v := Value.bool false) (q_gtr (r := false) rfl rfl (decide_eq_false hb2)) ?_
      refine Wl.q (v := Value.bool false) (q_pick (t := false) rfl rfl) ?_
      refine Wl.q (v := Value.bool false) (q_move rfl) ?_
      refine Wl.q (v := vj) (q_move rfl) ?_
      refine Wl.q (v := Value.int .i64 ((la.length : Nat) : Int)) (q_len_is Try.underlying22 rfl hja.shape) ?_
      by_cases hb3 : ((la.length : Nat) : Int) > 100
      ·
        refine Wl.q (v := Value.bool true) (q_gtr (r := true) rfl rfl (decide_eq_true hb3)) ?_
        refine Wl.q (v := Value.bool true) (q_pick (t := false) rfl rfl) ?_
        refine Wl.done ?_
        refine Wx.go ?_
        refine Wc.yes rfl ?_
        refine Wc.seq ?_
        refine Wc.region ?_
        refine Wl.q (v := Value.bool true) (q_assign rfl) ?_
        refine Wl.done ?_
        refine Wx.go ?_
        refine Wc.ret ?_
        refine Wx.thenRet ?_
        refine Wx.fin1 rfl (.inl rfl) (fun w hs => ?_)
        exact ⟨(), trivial, rfl, hs⟩
      ·
        exfalso; omega

theorem tells_bad (W0 : World) (vl : Value) (l : List TermR) (hl : Rd W0 vl l.length (l.flatMap termCells)) (hlm : l.length ≤ 9223372036854775807) (hlo : ∀ x ∈ l, okT x) (vk : Value) (kn : List Int) (hk : Rd W0 vk kn.length (kn.flatMap int1)) (hkm : kn.length ≤ 9223372036854775807) (vj : Value) (la : List TermR) (hja : Rd W0 vj la.length (la.flatMap termCells)) (hjam : la.length ≤ 9223372036854775807) (hlao : ∀ x ∈ la, okT x) (hs1 : l.length ≤ 600) (hks : kn.length ≤ 1000) (hs3 : la.length ≤ 100) (hbad : ∃ x ∈ kn, ¬ (1 ≤ x ∧ x ≤ ((build [] l).length : Int))) :
    Con Try.prog W0 6 #[vl, vk, vj] [] (X := Unit) (fun _ => True) (fun _ => .bool true) (fun _ => []) := by
  refine Con.of (args := [vl, vk, vj]) Try.func6 rfl Try.ntmps6 rfl (fun F => ?_)
  show Wc _ W0 _ _ _ _ _ (F)
  refine Wc.seq ?_
  refine Wc.region ?_
  refine Wl.q (v := Value.bool false) (q_assign rfl) ?_
  refine Wl.done ?_
  refine Wx.go ?_
  refine Wc.seq ?_
  refine Wc.seq ?_
  refine Wc.region ?_
  refine Wl.q (v := vl) (q_move rfl) ?_
  refine Wl.q (v := Value.int .i64 ((l.length : Nat) : Int)) (q_len_is Try.underlying22 rfl hl.shape) ?_
  refine Wl.q (v := Value.bool false) (q_gtr (r := false) rfl rfl (decide_eq_false (by omega))) ?_
  refine Wl.q (v := Value.bool false) (q_move rfl) ?_
  refine Wl.q (v := vk) (q_move rfl) ?_
  refine Wl.q (v := Value.int .i64 ((kn.length : Nat) : Int)) (q_len_is Try.underlying23 rfl hk.shape) ?_
  refine Wl.q (v := Value.bool false) (q_gtr (r := false) rfl rfl (decide_eq_false (by omega))) ?_
  refine Wl.q (v := Value.bool false) (q_pick (t := false) rfl rfl) ?_
  refine Wl.q (v := Value.bool false) (q_move rfl) ?_
  refine Wl.q (v := vj) (q_move rfl) ?_
  refine Wl.q (v := Value.int .i64 ((la.length : Nat) : Int)) (q_len_is Try.underlying22 rfl hja.shape) ?_
  refine Wl.q (v := Value.bool false) (q_gtr (r := false) rfl rfl (decide_eq_false (by omega))) ?_
  refine Wl.q (v := Value.bool false) (q_pick (t := false) rfl rfl) ?_
  refine Wl.done ?_
  refine Wx.go ?_
  refine Wc.no rfl ?_
  refine Wc.skip ?_
  refine Wx.go ?_
  refine Wc.seq ?_
  refine Wc.region ?_
  refine Wl.q (v := vl) (q_move rfl) ?_
  refine Wl.e (e_call (F := F) (args := [vl]) Try.call9 rfl (build_c W0 vl l hl (by omega) hlo)) (fun ⟨s, r⟩ _ => ?_)
  refine Wl.imp (L' := (storeI s (build [] l)) :: (refI r (build [] l)) :: F) (fun _ h => h) ?_
  have hw := build_all hlo
  have hT := build_all_le l
  refine Wl.q (v := Value.tuple #[Value.pointer (some ⟨s, 0, none⟩), Value.pointer (some ⟨r, 0, none⟩), Value.bool true]) (q_move rfl) ?_
  refine Wl.q (v := Value.pointer (some ⟨s, 0, none⟩)) (q_extract (i := 0) rfl rfl) ?_
  refine Wl.q (v := Value.pointer (some ⟨r, 0, none⟩)) (q_extract (i := 1) rfl rfl) ?_
  refine Wl.q (v := Value.bool true) (q_extract (i := 2) rfl rfl) ?_
  refine Wl.q (v := Value.pointer (some ⟨s, 0, none⟩)) (q_assign rfl) ?_
  refine Wl.q (v := Value.pointer (some ⟨r, 0, none⟩)) (q_assign rfl) ?_
  refine Wl.q (v := Value.bool true) (q_assign rfl) ?_
  refine Wl.done ?_
  refine Wx.go ?_
  refine Wc.seq ?_
  refine Wc.seq ?_
  refine Wc.region ?_
  refine Wl.q (v := Value.bool true) (q_move rfl) ?_
  refine Wl.q (v := Value.bool false) (q_not rfl rfl) ?_
  refine Wl.done ?_
  refine Wx.go ?_
  refine Wc.no rfl ?_
  refine Wc.skip ?_
  refine Wx.go ?_
  refine Wc.seq ?_
  refine Wc.region ?_
  refine Wl.q (v := vk) (q_move rfl) ?_
  refine Wl.e (e_call (F := (storeI s (build [] l)) :: (refI r (build [] l)) :: F) (args := [vk]) Try.call20 rfl (twin_c W0 vk kn hk hkm hks)) (fun qb _ => ?_)
  refine Wl.imp (L' := (pt qb 3 (kn.map intV ++ mkT kn.length 2)) :: (storeI s (build [] l)) :: (refI r (build [] l)) :: F) (fun _ h => h) ?_
  refine Wl.q (v := Value.slice (some ⟨qb, 0, none⟩) kn.length (kn.length + 2)) (q_assign rfl) ?_
  refine Wl.done ?_
  refine Wx.go ?_
  refine Wc.seq ?_
  refine Wc.region ?_
  refine Wl.q (v := Value.pointer (some ⟨s, 0, none⟩)) (q_move rfl) ?_
  refine Wl.q (v := Value.slice (some ⟨qb, 0, none⟩) kn.length (kn.length + 2)) (q_move rfl) ?_
  refine Wl.imp (L' := (storeI s (build [] l)) :: (pt qb 3 (kn.map intV ++ mkT kn.length 2)) :: (refI r (build [] l)) :: F) (fun _ h => st_pull [1, 0] h) ?_
  refine Wl.e (e_call (F := (refI r (build [] l)) :: F) (args := [Value.pointer (some ⟨s, 0, none⟩), Value.slice (some ⟨qb, 0, none⟩) kn.length (kn.length + 2)]) Try.call15 rfl (new_bad_pt W0 s (build [] l) hw (by omega) qb (kn.length + 2) kn (mkT kn.length 2) (by omega) (by omega) hbad)) (fun _ _ => ?_)
  refine Wl.imp (L' := (storeI s (build [] l)) :: (pt qb 3 (kn.map intV ++ mkT kn.length 2)) :: (refI r (build [] l)) :: F) (fun _ h => h) ?_
  refine Wl.q (v := Value.tuple #[Value.pointer none, Value.int .i64 1]) (q_move rfl) ?_
  refine Wl.q (v := Value.pointer none) (q_extract (i := 0) rfl rfl) ?_
  refine Wl.q (v := Value.int .i64 1) (q_extract (i := 1) rfl rfl) ?_
  refine Wl.q (v := Value.pointer none) (q_assign rfl) ?_
  refine Wl.q (v := Value.int .i64 1) (q_assign rfl) ?_
  refine Wl.done ?_
  refine Wx.go ?_
  refine Wc.seq ?_
  refine Wc.region ?_
  refine Wl.q (v := Value.pointer (some ⟨r, 0, none⟩)) (q_move rfl) ?_
  refine Wl.q (v := vk) (q_move rfl) ?_
  refine Wl.imp (L' := (refI r (build [] l)) :: (storeI s (build [] l)) :: (pt qb 3 (kn.map intV ++ mkT kn.length 2)) :: F) (fun _ h => st_pull [2] h) ?_
  refine Wl.e (e_call (F := (storeI s (build [] l)) :: (pt qb 3 (kn.map intV ++ mkT kn.length 2)) :: F) (args := [Value.pointer (some ⟨r, 0, none⟩), vk]) Try.call11 rfl (rnew_badc W0 r (build [] l) hw (by omega) vk kn hk (by omega) (by omega) hbad)) (fun _ _ => ?_)
  refine Wl.imp (L' := (refI r (build [] l)) :: (storeI s (build [] l)) :: (pt qb 3 (kn.map intV ++ mkT kn.length 2)) :: F) (fun _ h => h) ?_
  refine Wl.q (v := Value.tuple #[Value.pointer none, Value.int .i64 1]) (q_move rfl) ?_
  refine Wl.q (v := Value.pointer none) (q_extract (i := 0) rfl rfl) ?_
  refine Wl.q (v := Value.int .i64 1) (q_extract (i := 1) rfl rfl) ?_
  refine Wl.q (v := Value.pointer none) (q_assign rfl) ?_
  refine Wl.q (v := Value.int .i64 1) (q_assign rfl) ?_
  refine Wl.done ?_
  refine Wx.go ?_
  refine Wc.seq ?_
  refine Wc.seq ?_
  refine Wc.region ?_
  refine Wl.q (v := Value.int .i64 1) (q_move rfl) ?_
  refine Wl.q (v := Value.int .i64 1) (q_move rfl) ?_
  refine Wl.q (v := Value.bool false) (q_neq (r := true) rfl rfl (decide_eq_true (by decide))) ?_
  refine Wl.q (v := Value.bool false) (q_move rfl) ?_
  refine Wl.q (v := Value.pointer none) (q_move rfl) ?_
  refine Wl.q (v := Value.bool true) (q_eql_nil (r := true) rfl rfl Try.underlying38 rfl) ?_
  refine Wl.q (v := Value.int .i64 1) (q_move rfl) ?_
  refine Wl.q (v := Value.bool true) (q_neq (r := false) rfl rfl (decide_eq_false (by decide))) ?_
  refine Wl.q (v := Value.bool false) (q_neq_bool (r := true) rfl rfl Try.underlying4 rfl) ?_
  refine Wl.q (v := Value.bool false) (q_pick (t := false) rfl rfl) ?_
  refine Wl.q (v := Value.bool false) (q_move rfl) ?_
  refine Wl.q (v := Value.slice (some ⟨qb, 0, none⟩) kn.length (kn.length + 2)) (q_move rfl) ?_
  refine Wl.q (v := vk) (q_move rfl) ?_
  refine Wl.imp (L' := (pt qb 3 (kn.map intV ++ mkT kn.length 2)) :: (refI r (build [] l)) :: (storeI s (build [] l)) :: F) (fun _ h => st_pull [2] h) ?_
  refine Wl.e (e_call (F := (refI r (build [] l)) :: (storeI s (build [] l)) :: F) (args := [Value.slice (some ⟨qb, 0, none⟩) kn.length (kn.length + 2), vk]) Try.call21 rfl (left_c W0 qb vk kn hk hkm hks)) (fun _ _ => ?_)
  refine Wl.imp (L' := (pt qb 3 (kn.map intV ++ mkT kn.length 2)) :: (refI r (build [] l)) :: (storeI s (build [] l)) :: F) (fun _ h => h) ?_
  refine Wl.q (v := Value.bool false) (q_not rfl rfl) ?_
  refine Wl.q (v := Value.bool false) (q_pick (t := false) rfl rfl) ?_
  refine Wl.done ?_
  refine Wx.go ?_
  refine Wc.no rfl ?_
  refine Wc.skip ?_
  refine Wx.go ?_
  refine Wc.seq ?_
  refine Wc.seq ?_
  refine Wc.region ?_
  refine Wl.q (v := Value.pointer none) (q_move rfl) ?_
  refine Wl.q (v := Value.bool true) (q_eql_nil (r := true) rfl rfl Try.underlying38 rfl) ?_
  refine Wl.done ?_
  refine Wx.go ?_
  refine Wc.yes rfl ?_
  refine Wc.seq ?_
  refine Wc.region ?_
  refine Wl.q (v := Value.pointer (some ⟨s, 0, none⟩)) (q_move rfl) ?_
  refine Wl.q (v := vk) (q_move rfl) ?_
  refine Wl.imp (L' := (storeI s (build [] l)) :: (pt qb 3 (kn.map intV ++ mkT kn.length 2)) :: (refI r (build [] l)) :: F) (fun _ h => st_pull [2] h) ?_
  refine Wl.e (e_call (F := (pt qb 3 (kn.map intV ++ mkT kn.length 2)) :: (refI r (build [] l)) :: F) (args := [Value.pointer (some ⟨s, 0, none⟩), vk, Value.int .i64 1]) Try.call10 rfl (fol_bad_ro W0 s (build [] l) hw (by omega) vk kn hk (by omega) 1 (by omega) hbad)) (fun _ _ => ?_)
  refine Wl.imp (L' := (storeI s (build [] l)) :: (pt qb 3 (kn.map intV ++ mkT kn.length 2)) :: (refI r (build [] l)) :: F) (fun _ h => h) ?_
  refine Wl.q (v := Value.tuple #[Value.bool false, Value.int .i64 1]) (q_move rfl) ?_
  refine Wl.q (v := Value.bool false) (q_extract (i := 0) rfl rfl) ?_
  refine Wl.q (v := Value.int .i64 1) (q_extract (i := 1) rfl rfl) ?_
  refine Wl.q (v := Value.bool false) (q_assign rfl) ?_
  refine Wl.q (v := Value.int .i64 1) (q_assign rfl) ?_
  refine Wl.done ?_
  refine Wx.go ?_
  refine Wc.seq ?_
  refine Wc.region ?_
  refine Wl.q (v := Value.bool false) (q_move rfl) ?_
  refine Wl.q (v := Value.bool true) (q_not rfl rfl) ?_
  refine Wl.q (v := Value.bool true) (q_move rfl) ?_
  refine Wl.q (v := Value.int .i64 1) (q_move rfl) ?_
  refine Wl.q (v := Value.int .i64 1) (q_move rfl) ?_
  refine Wl.q (v := Value.bool true) (q_eql (r := true) rfl rfl (decide_eq_true (by decide))) ?_
  refine Wl.q (v := Value.bool true) (q_pick (t := true) rfl rfl) ?_
  refine Wl.q (v := Value.bool true) (q_move rfl) ?_
  refine Wl.q (v := Value.pointer none) (q_move rfl) ?_
  refine Wl.e (e_call (F := (storeI s (build [] l)) :: (pt qb 3 (kn.map intV ++ mkT kn.length 2)) :: (refI r (build [] l)) :: F) (args := [Value.pointer none, Value.int .i64 1]) Try.call17 rfl (khas_nil W0 1)) (fun _ _ => ?_)
  refine Wl.imp (L' := (storeI s (build [] l)) :: (pt qb 3 (kn.map intV ++ mkT kn.length 2)) :: (refI r (build [] l)) :: F) (fun _ h => h) ?_
  refine Wl.q (v := Value.bool true) (q_not rfl rfl) ?_
  refine Wl.q (v := Value.bool true) (q_pick (t := true) rfl rfl) ?_
  refine Wl.q (v := Value.bool true) (q_move rfl) ?_
  refine Wl.q (v := Value.pointer none) (q_move rfl) ?_
  refine Wl.e (e_call (F := (storeI s (build [] l)) :: (pt qb 3 (kn.map intV ++ mkT kn.length 2)) :: (refI r (build [] l)) :: F) (args := [Value.pointer none, Value.int .i64 1]) Try.call22 rfl (klearn_nil W0 1)) (fun _ _ => ?_)
  refine Wl.imp (L' := (storeI s (build [] l)) :: (pt qb 3 (kn.map intV ++ mkT kn.length 2)) :: (refI r (build [] l)) :: F) (fun _ h => h) ?_
  refine Wl.q (v := Value.bool true) (q_eql (r := true) rfl rfl (decide_eq_true (by decide))) ?_
  refine Wl.q (v := Value.bool true) (q_pick (t := true) rfl rfl) ?_
  refine Wl.q (v := Value.bool true) (q_move rfl) ?_
  refine Wl.e (e_call (F := (storeI s (build [] l)) :: (pt qb 3 (kn.map intV ++ mkT kn.length 2)) :: (refI r (build [] l)) :: F) (args := []) Try.call12 rfl (lives_c W0)) (fun _ _ => ?_)
  refine Wl.imp (L' := (storeI s (build [] l)) :: (pt qb 3 (kn.map intV ++ mkT kn.length 2)) :: (refI r (build [] l)) :: F) (fun _ h => h) ?_
  refine Wl.q (v := Value.bool true) (q_pick (t := true) rfl rfl) ?_
  refine Wl.q (v := Value.bool true) (q_assign rfl) ?_
  refine Wl.done ?_
  refine Wx.go ?_
  refine Wc.ret ?_
  refine Wx.thenRet ?_
  refine Wx.fin1 rfl (.inl rfl) (fun w hs => ?_)
  exact ⟨(), trivial, rfl, (st_drop (st_drop (st_drop (st_pull [0, 0, 0] hs))))⟩

set_option maxRecDepth 4000 in
theorem tells_ok (W0 : World) (vl : Value) (l : List TermR) (hl : Rd W0 vl l.length (l.flatMap termCells)) (hlm : l.length ≤ 9223372036854775807) (hlo : ∀ x ∈ l, okT x) (vk : Value) (kn : List Int) (hk : Rd W0 vk kn.length (kn.flatMap int1)) (hkm : kn.length ≤ 9223372036854775807) (vj : Value) (la : List TermR) (hja : Rd W0 vj la.length (la.flatMap termCells)) (hjam : la.length ≤ 9223372036854775807) (hlao : ∀ x ∈ la, okT x) (hs1 : l.length ≤ 600) (hks : kn.length ≤ 1000) (hs3 : la.length ≤ 100) (hall0 : ∀ x ∈ kn, (1 ≤ x ∧ x ≤ ((build [] l).length : Int))) :
    Con Try.prog W0 6 #[vl, vk, vj] [] (X := Unit) (fun _ => True) (fun _ => .bool true) (fun _ => []) := by
  refine Con.of (args := [vl, vk, vj]) Try.func6 rfl Try.ntmps6 rfl (fun F => ?_)
  show Wc _ W0 _ _ _ _ _ (F)
  refine Wc.seq ?_
  refine Wc.region ?_
  refine Wl.q (v := Value.bool false) (q_assign rfl) ?_
  refine Wl.done ?_
  refine Wx.go ?_
  refine Wc.seq ?_
  refine Wc.seq ?_
  refine Wc.region ?_
  refine Wl.q (v := vl) (q_move rfl) ?_
  refine Wl.q (v := Value.int .i64 ((l.length : Nat) : Int)) (q_len_is Try.underlying22 rfl hl.shape) ?_
  refine Wl.q (v := Value.bool false) (q_gtr (r := false) rfl rfl (decide_eq_false (by omega))) ?_
  refine Wl.q (v := Value.bool false) (q_move rfl) ?_
  refine Wl.q (v := vk) (q_move rfl) ?_
  refine Wl.q (v := Value.int .i64 ((kn.length : Nat) : Int)) (q_len_is Try.underlying23 rfl hk.shape) ?_
  refine Wl.q (v := Value.bool false) (q_gtr (r := false) rfl rfl (decide_eq_false (by omega))) ?_
  refine Wl.q (v := Value.bool false) (q_pick (t := false) rfl rfl) ?_
  refine Wl.q (v := Value.bool false) (q_move rfl) ?_
  refine Wl.q (v := vj) (q_move rfl) ?_
  refine Wl.q (v := Value.int .i64 ((la.length : Nat) : Int)) (q_len_is Try.underlying22 rfl hja.shape) ?_
  refine Wl.q (v := Value.bool false) (q_gtr (r := false) rfl rfl (decide_eq_false (by omega))) ?_
  refine Wl.q (v := Value.bool false) (q_pick (t := false) rfl rfl) ?_
  refine Wl.done ?_
  refine Wx.go ?_
  refine Wc.no rfl ?_
  refine Wc.skip ?_
  refine Wx.go ?_
  refine Wc.seq ?_
  refine Wc.region ?_
  refine Wl.q (v := vl) (q_move rfl) ?_
  refine Wl.e (e_call (F := F) (args := [vl]) Try.call9 rfl (build_c W0 vl l hl (by omega) hlo)) (fun ⟨s, r⟩ _ => ?_)
  refine Wl.imp (L' := (storeI s (build [] l)) :: (refI r (build [] l)) :: F) (fun _ h => h) ?_
  have hw := build_all hlo
  have hT := build_all_le l
  refine Wl.q (v := Value.tuple #[Value.pointer (some ⟨s, 0, none⟩), Value.pointer (some ⟨r, 0, none⟩), Value.bool true]) (q_move rfl) ?_
  refine Wl.q (v := Value.pointer (some ⟨s, 0, none⟩)) (q_extract (i := 0) rfl rfl) ?_
  refine Wl.q (v := Value.pointer (some ⟨r, 0, none⟩)) (q_extract (i := 1) rfl rfl) ?_
  refine Wl.q (v := Value.bool true) (q_extract (i := 2) rfl rfl) ?_
  refine Wl.q (v := Value.pointer (some ⟨s, 0, none⟩)) (q_assign rfl) ?_
  refine Wl.q (v := Value.pointer (some ⟨r, 0, none⟩)) (q_assign rfl) ?_
  refine Wl.q (v := Value.bool true) (q_assign rfl) ?_
  refine Wl.done ?_
  refine Wx.go ?_
  refine Wc.seq ?_
  refine Wc.seq ?_
  refine Wc.region ?_
  refine Wl.q (v := Value.bool true) (q_move rfl) ?_
  refine Wl.q (v := Value.bool false) (q_not rfl rfl) ?_
  refine Wl.done ?_
  refine Wx.go ?_
  refine Wc.no rfl ?_
  refine Wc.skip ?_
  refine Wx.go ?_
  refine Wc.seq ?_
  refine Wc.region ?_
  refine Wl.q (v := vk) (q_move rfl) ?_
  refine Wl.e (e_call (F := (storeI s (build [] l)) :: (refI r (build [] l)) :: F) (args := [vk]) Try.call20 rfl (twin_c W0 vk kn hk hkm hks)) (fun qb _ => ?_)
  refine Wl.imp (L' := (pt qb 3 (kn.map intV ++ mkT kn.length 2)) :: (storeI s (build [] l)) :: (refI r (build [] l)) :: F) (fun _ h => h) ?_
  refine Wl.q (v := Value.slice (some ⟨qb, 0, none⟩) kn.length (kn.length + 2)) (q_assign rfl) ?_
  refine Wl.done ?_
  refine Wx.go ?_
  refine Wc.seq ?_
  refine Wc.region ?_
  refine Wl.q (v := Value.pointer (some ⟨s, 0, none⟩)) (q_move rfl) ?_
  refine Wl.q (v := Value.slice (some ⟨qb, 0, none⟩) kn.length (kn.length + 2)) (q_move rfl) ?_
  refine Wl.imp (L' := (storeI s (build [] l)) :: (pt qb 3 (kn.map intV ++ mkT kn.length 2)) :: (refI r (build [] l)) :: F) (fun _ h => st_pull [1, 0] h) ?_
  refine Wl.e (e_call (F := (refI r (build [] l)) :: F) (args := [Value.pointer (some ⟨s, 0, none⟩), Value.slice (some ⟨qb, 0, none⟩) kn.length (kn.length + 2)]) Try.call15 rfl (new_ok_pt W0 s (build [] l) hw (by omega) qb (kn.length + 2) kn (mkT kn.length 2) (by omega) (by omega) hall0)) (fun k _ => ?_)
  refine Wl.imp (L' := (knowK k s (build [] l) (KL kn)) :: (storeI s (build [] l)) :: (pt qb 3 (kn.map intV ++ mkT kn.length 2)) :: (refI r (build [] l)) :: F) (fun _ h => h) ?_
  refine Wl.q (v := Value.tuple #[Value.pointer (some ⟨k, 0, none⟩), Value.int .i64 0]) (q_move rfl) ?_
  refine Wl.q (v := Value.pointer (some ⟨k, 0, none⟩)) (q_extract (i := 0) rfl rfl) ?_
  refine Wl.q (v := Value.int .i64 0) (q_extract (i := 1) rfl rfl) ?_
  refine Wl.q (v := Value.pointer (some ⟨k, 0, none⟩)) (q_assign rfl) ?_
  refine Wl.q (v := Value.int .i64 0) (q_assign rfl) ?_
  refine Wl.done ?_
  refine Wx.go ?_
  refine Wc.seq ?_
  refine Wc.region ?_
  refine Wl.q (v := Value.pointer (some ⟨r, 0, none⟩)) (q_move rfl) ?_
  refine Wl.q (v := vk) (q_move rfl) ?_
  refine Wl.imp (L' := (refI r (build [] l)) :: (knowK k s (build [] l) (KL kn)) :: (storeI s (build [] l)) :: (pt qb 3 (kn.map intV ++ mkT kn.length 2)) :: F) (fun _ h => st_pull [3] h) ?_
  refine Wl.e (e_call (F := (knowK k s (build [] l) (KL kn)) :: (storeI s (build [] l)) :: (pt qb 3 (kn.map intV ++ mkT kn.length 2)) :: F) (args := [Value.pointer (some ⟨r, 0, none⟩), vk]) Try.call11 rfl (rnew_okc W0 r (build [] l) hw (by omega) vk kn hk (by omega) (by omega) hall0)) (fun w _ => ?_)
  refine Wl.imp (L' := (refK w r (build [] l) (KL kn)) :: (refI r (build [] l)) :: (knowK k s (build [] l) (KL kn)) :: (storeI s (build [] l)) :: (pt qb 3 (kn.map intV ++ mkT kn.length 2)) :: F) (fun _ h => h) ?_
  refine Wl.q (v := Value.tuple #[Value.pointer (some ⟨w, 0, none⟩), Value.int .i64 0]) (q_move rfl) ?_
  refine Wl.q (v := Value.pointer (some ⟨w, 0, none⟩)) (q_extract (i := 0) rfl rfl) ?_
  refine Wl.q (v := Value.int .i64 0) (q_extract (i := 1) rfl rfl) ?_
  refine Wl.q (v := Value.pointer (some ⟨w, 0, none⟩)) (q_assign rfl) ?_
  refine Wl.q (v := Value.int .i64 0) (q_assign rfl) ?_
  refine Wl.done ?_
  refine Wx.go ?_
  refine Wc.seq ?_
  refine Wc.seq ?_
  refine Wc.region ?_
  refine Wl.q (v := Value.int .i64 0) (q_move rfl) ?_
  refine Wl.q (v := Value.int .i64 0) (q_move rfl) ?_
  refine Wl.q (v := Value.bool false) (q_neq (r := true) rfl rfl (decide_eq_true (by decide))) ?_
  refine Wl.q (v := Value.bool false) (q_move rfl) ?_
  refine Wl.q (v := Value.pointer (some ⟨k, 0, none⟩)) (q_move rfl) ?_
  refine Wl.q (v := Value.bool false) (q_eql_nil (r := false) rfl rfl Try.underlying38 rfl) ?_
  refine Wl.q (v := Value.int .i64 0) (q_move rfl) ?_
  refine Wl.q (v := Value.bool false) (q_neq (r := true) rfl rfl (decide_eq_true (by decide))) ?_
  refine Wl.q (v := Value.bool false) (q_neq_bool (r := true) rfl rfl Try.underlying4 rfl) ?_
  refine Wl.q (v := Value.bool false) (q_pick (t := false) rfl rfl) ?_
  refine Wl.q (v := Value.bool false) (q_move rfl) ?_
  refine Wl.q (v := Value.slice (some ⟨qb, 0, none⟩) kn.length (kn.length + 2)) (q_move rfl) ?_
  refine Wl.q (v := vk) (q_move rfl) ?_
  refine Wl.imp (L' := (pt qb 3 (kn.map intV ++ mkT kn.length 2)) :: (refK w r (build [] l) (KL kn)) :: (refI r (build [] l)) :: (knowK k s (build [] l) (KL kn)) :: (storeI s (build [] l)) :: F) (fun _ h => st_pull [4] h) ?_
  refine Wl.e (e_call (F := (refK w r (build [] l) (KL kn)) :: (refI r (build [] l)) :: (knowK k s (build [] l) (KL kn)) :: (storeI s (build [] l)) :: F) (args := [Value.slice (some ⟨qb, 0, none⟩) kn.length (kn.length + 2), vk]) Try.call21 rfl (left_c W0 qb vk kn hk hkm hks)) (fun _ _ => ?_)
  refine Wl.imp (L' := (pt qb 3 (kn.map intV ++ mkT kn.length 2)) :: (refK w r (build [] l) (KL kn)) :: (refI r (build [] l)) :: (knowK k s (build [] l) (KL kn)) :: (storeI s (build [] l)) :: F) (fun _ h => h) ?_
  refine Wl.q (v := Value.bool false) (q_not rfl rfl) ?_
  refine Wl.q (v := Value.bool false) (q_pick (t := false) rfl rfl) ?_
  refine Wl.done ?_
  refine Wx.go ?_
  refine Wc.no rfl ?_
  refine Wc.skip ?_
  refine Wx.go ?_
  refine Wc.seq ?_
  refine Wc.seq ?_
  refine Wc.region ?_
  refine Wl.q (v := Value.pointer (some ⟨k, 0, none⟩)) (q_move rfl) ?_
  refine Wl.q (v := Value.bool false) (q_eql_nil (r := false) rfl rfl Try.underlying38 rfl) ?_
  refine Wl.done ?_
  refine Wx.go ?_
  refine Wc.no rfl ?_
  refine Wc.skip ?_
  refine Wx.go ?_
  refine Wc.seq ?_
  refine Wc.seq ?_
  refine Wc.region ?_
  refine Wl.q (v := Value.int .i64 0) (q_assign rfl) ?_
  refine Wl.done ?_
  refine Wx.go ?_
  refine Wc.block ?_
  refine Wc.loop (X := Nat) (fun j E => E 17 = Value.int .i64 ((j : Nat) : Int) ∧ E 2 = vj ∧ E 7 = Value.pointer (some ⟨s, 0, none⟩) ∧ E 8 = Value.pointer (some ⟨r, 0, none⟩) ∧ E 11 = Value.pointer (some ⟨k, 0, none⟩) ∧ E 13 = Value.pointer (some ⟨w, 0, none⟩) ∧ j ≤ la.length) (fun j => (storeI s (build (build [] l) (la.take j))) :: (refI r (build (build [] l) (la.take j))) :: (knowK k s (build [] l) (KL kn)) :: (refK w r (build [] l) (KL kn)) :: F) (fun j => la.length - j) 0 ?_ ?_ ?_
  · exact ⟨rfl, rfl, rfl, rfl, rfl, rfl, (by omega)⟩
  · exact fun w hs => (st_pull [3, 1, 1, 0] (st_drop (st_pull [0] hs)))
  · rintro j E2 ⟨hE17_0, hE2_0, hE7_0, hE8_0, hE11_0, hE13_0, hj⟩
    refine Wc.seq ?_
    refine Wc.seq ?_
    refine Wc.region ?_
    refine Wl.q (v := Value.int .i64 ((j : Nat) : Int)) (q_move hE17_0) ?_
    refine Wl.q (v := vj) (q_move hE2_0) ?_
    refine Wl.q (v := Value.int .i64 ((la.length : Nat) : Int)) (q_len_is Try.underlying22 rfl hja.shape) ?_
    by_cases hlt : ((j : Nat) : Int) < ((la.length : Nat) : Int)
    ·
      obtain ⟨o, hget⟩ : ∃ o, la[j]? = some o := ⟨la[j]'(by omega), List.getElem?_eq_getElem (by omega)⟩
      have hok := hlao o (List.mem_of_getElem? hget)
      have hl2 := build2_le (build [] l) la j
      refine Wl.q (v := Value.bool true) (q_lss (r := true) rfl rfl (decide_eq_true hlt)) ?_
      refine Wl.done ?_
      refine Wx.go ?_
      refine Wc.yes rfl ?_
      refine Wc.skip ?_
      refine Wx.go ?_
      refine Wc.seq ?_
      refine Wc.block ?_
      refine Wc.seq ?_
      refine Wc.region ?_
      refine Wl.q (v := Value.pointer (some ⟨s, 0, none⟩)) (q_move hE7_0) ?_
      refine Wl.q (v := vj) (q_move hE2_0) ?_
      refine Wl.q (v := Value.int .i64 ((j : Nat) : Int)) (q_move hE17_0) ?_
      refine Wl.q (v := Value.pointer (some ⟨(rb vj), ro vj + j * 4, none⟩)) (q_idx_is (m := ro vj + j * 4) se_22 rfl (hja.some_ (by omega)) rfl (by omega) (by omega) rfl) ?_
      refine Wl.q (v := Value.agg #[Value.int .u8 ((o.kind : Nat) : Int), Value.int .i64 o.n, Value.int .i64 o.a, Value.int .i64 o.b]) (q_loadAgg (vs := [Value.int .u8 ((o.kind : Nat) : Int), Value.int .i64 o.n, Value.int .i64 o.a, Value.int .i64 o.b]) ag_46 rfl (fun j u hj => .old (rdT hja hget j hj))) ?_
      refine Wl.e (e_call (F := (refI r (build (build [] l) (la.take j))) :: (knowK k s (build [] l) (KL kn)) :: (refK w r (build [] l) (KL kn)) :: F) (args := [Value.pointer (some ⟨s, 0, none⟩), Value.agg #[Value.int .u8 ((o.kind : Nat) : Int), Value.int .i64 o.n, Value.int .i64 o.a, Value.int .i64 o.b]]) Try.call19 rfl (make_c W0 s (build (build [] l) (la.take j)) o (build2_wf hw hlao j) (by omega) hok)) (fun _ _ => ?_)
      refine Wl.imp (L' := (storeI s ((mk (build (build [] l) (la.take j)) o).1)) :: (refI r (build (build [] l) (la.take j))) :: (knowK k s (build [] l) (KL kn)) :: (refK w r (build [] l) (KL kn)) :: F) (fun _ h => h) ?_
      refine Wl.q (v := Value.tuple #[Value.int .i64 (((mk (build (build [] l) (la.take j)) o).2.1 : Nat) : Int), Value.int .i64 ((mk (build (build [] l) (la.take j)) o).2.2)]) (q_move rfl) ?_
      refine Wl.q (v := Value.int .i64 (((mk (build (build [] l) (la.take j)) o).2.1 : Nat) : Int)) (q_extract (i := 0) rfl rfl) ?_
      refine Wl.q (v := Value.int .i64 ((mk (build (build [] l) (la.take j)) o).2.2)) (q_extract (i := 1) rfl rfl) ?_
      refine Wl.q (v := Value.int .i64 (((mk (build (build [] l) (la.take j)) o).2.1 : Nat) : Int)) (q_assign rfl) ?_
      refine Wl.q (v := Value.int .i64 ((mk (build (build [] l) (la.take j)) o).2.2)) (q_assign rfl) ?_
      refine Wl.done ?_
      refine Wx.go ?_
      refine Wc.seq ?_
      refine Wc.region ?_
      refine Wl.q (v := Value.pointer (some ⟨r, 0, none⟩)) (q_move hE8_0) ?_
      refine Wl.q (v := vj) (q_move hE2_0) ?_
      refine Wl.q (v := Value.int .i64 ((j : Nat) : Int)) (q_move hE17_0) ?_
      refine Wl.q (v := Value.pointer (some ⟨(rb vj), ro vj + j * 4, none⟩)) (q_idx_is (m := ro vj + j * 4) se_22 rfl (hja.some_ (by omega)) rfl (by omega) (by omega) rfl) ?_
      refine Wl.q (v := Value.agg #[Value.int .u8 ((o.kind : Nat) : Int), Value.int .i64 o.n, Value.int .i64 o.a, Value.int .i64 o.b]) (q_loadAgg (vs := [Value.int .u8 ((o.kind : Nat) : Int), Value.int .i64 o.n, Value.int .i64 o.a, Value.int .i64 o.b]) ag_46 rfl (fun j u hj => .old (rdT hja hget j hj))) ?_
      refine Wl.imp (L' := (refI r (build (build [] l) (la.take j))) :: (storeI s ((mk (build (build [] l) (la.take j)) o).1)) :: (knowK k s (build [] l) (KL kn)) :: (refK w r (build [] l) (KL kn)) :: F) (fun _ h => st_pull [1] h) ?_
      refine Wl.e (e_call (F := (storeI s ((mk (build (build [] l) (la.take j)) o).1)) :: (knowK k s (build [] l) (KL kn)) :: (refK w r (build [] l) (KL kn)) :: F) (args := [Value.pointer (some ⟨r, 0, none⟩), Value.agg #[Value.int .u8 ((o.kind : Nat) : Int), Value.int .i64 o.n, Value.int .i64 o.a, Value.int .i64 o.b]]) Try.call23 rfl (rmake_c W0 r (build (build [] l) (la.take j)) o (build2_wf hw hlao j) (by omega) hok)) (fun _ _ => ?_)
      refine Wl.imp (L' := (refI r ((mk (build (build [] l) (la.take j)) o).1)) :: (storeI s ((mk (build (build [] l) (la.take j)) o).1)) :: (knowK k s (build [] l) (KL kn)) :: (refK w r (build [] l) (KL kn)) :: F) (fun _ h => h) ?_
      refine Wl.q (v := Value.tuple #[Value.int .i64 (((mk (build (build [] l) (la.take j)) o).2.1 : Nat) : Int), Value.int .i64 ((mk (build (build [] l) (la.take j)) o).2.2)]) (q_move rfl) ?_
      refine Wl.q (v := Value.int .i64 (((mk (build (build [] l) (la.take j)) o).2.1 : Nat) : Int)) (q_extract (i := 0) rfl rfl) ?_
      refine Wl.q (v := Value.int .i64 ((mk (build (build [] l) (la.take j)) o).2.2)) (q_extract (i := 1) rfl rfl) ?_
      refine Wl.q (v := Value.int .i64 (((mk (build (build [] l) (la.take j)) o).2.1 : Nat) : Int)) (q_assign rfl) ?_
      refine Wl.q (v := Value.int .i64 ((mk (build (build [] l) (la.take j)) o).2.2)) (q_assign rfl) ?_
      refine Wl.done ?_
      refine Wx.go ?_
      refine Wc.seq ?_
      refine Wc.region ?_
      refine Wl.q (v := Value.int .i64 (((mk (build (build [] l) (la.take j)) o).2.1 : Nat) : Int)) (q_move rfl) ?_
      refine Wl.q (v := Value.int .i64 (((mk (build (build [] l) (la.take j)) o).2.1 : Nat) : Int)) (q_move rfl) ?_
      refine Wl.q (v := Value.bool false) (q_neq (r := true) rfl rfl (decide_eq_true (rfl))) ?_
      refine Wl.q (v := Value.bool false) (q_move rfl) ?_
      refine Wl.q (v := Value.int .i64 ((mk (build (build [] l) (la.take j)) o).2.2)) (q_move rfl) ?_
      refine Wl.q (v := Value.int .i64 ((mk (build (build [] l) (la.take j)) o).2.2)) (q_move rfl) ?_
      refine Wl.q (v := Value.bool false) (q_neq (r := true) rfl rfl (decide_eq_true (rfl))) ?_
      refine Wl.q (v := Value.bool false) (q_pick (t := false) rfl rfl) ?_
      refine Wl.done ?_
      refine Wx.go ?_
      refine Wc.no rfl ?_
      refine Wc.skip ?_
      refine Wx.blockEnd ?_
      refine Wx.go ?_
      refine Wc.region ?_
      refine Wl.q (v := Value.int .i64 ((j : Nat) : Int)) (q_move hE17_0) ?_
      refine Wl.q (v := Value.int .i64 ((j + 1 : Nat) : Int)) (q_add (c := ((j + 1 : Nat) : Int)) rfl rfl (by rw [wrap_i64] <;> omega)) ?_
      refine Wl.q (v := Value.int .i64 ((j + 1 : Nat) : Int)) (q_assign rfl) ?_
      refine Wl.done ?_
      refine Wx.at (j + 1) ⟨(by omega), rfl, hE2_0, hE7_0, hE8_0, hE11_0, hE13_0, (by omega)⟩ (fun w hs => by rw [build2_take hget]; exact (st_pull [1, 0, 0, 0] (hs)))
    ·
      have hje : j = la.length := by omega
      have hw2 := build2_wf hw hlao la.length
      have hl2 := build2_le (build [] l) la la.length
      rw [List.take_length] at hw2 hl2
      obtain ⟨xs, hxs⟩ := build_ext la (build [] l)
      refine Wl.q (v := Value.bool false) (q_lss (r := false) rfl rfl (decide_eq_false hlt)) ?_
      refine Wl.done ?_
      refine Wx.go ?_
      refine Wc.no rfl ?_
      refine Wc.exit ?_
      refine Wx.thenExit ?_
      refine Wx.thenExit ?_
      refine Wx.out ?_
      refine Wx.go ?_
      refine Wc.seq ?_
      refine Wc.seq ?_
      refine Wc.region ?_
      refine Wl.imp (L' := (knowK k s (build (build [] l) la) (KL kn)) :: (refK w r (build (build [] l) la) (KL kn)) :: (storeI s (build (build [] l) la)) :: (refI r (build (build [] l) la)) :: F) (fun w hs => by have hs := (st_pull [2, 2, 0, 0] (hs)); rw [hje, List.take_length] at hs; have h2 := knowK_ext (xs := xs) (hxs ▸ hw2) hs; have h3 := refK_ext (xs := xs) (st_swap h2); rw [← hxs] at h3; exact st_swap h3) ?_
      refine Wl.q (v := Value.int .i64 (-1)) (q_assign rfl) ?_
      refine Wl.done ?_
      refine Wx.go ?_
      refine Wc.block ?_
      refine Wc.loop (X := Nat) (fun i E => E 22 = Value.int .i64 (((i : Nat) : Int) - 1) ∧ E 7 = Value.pointer (some ⟨s, 0, none⟩) ∧ E 11 = Value.pointer (some ⟨k, 0, none⟩) ∧ E 13 = Value.pointer (some ⟨w, 0, none⟩) ∧ i ≤ (build (build [] l) la).length + 3) (fun i => (knowK k s (build (build [] l) la) (KL kn)) :: (refK w r (build (build [] l) la) (KL kn)) :: (storeI s (build (build [] l) la)) :: (refI r (build (build [] l) la)) :: F) (fun i => (build (build [] l) la).length + 3 - i) 0 ?_ ?_ ?_
      · exact ⟨rfl, hE7_0, hE11_0, hE13_0, (by omega)⟩
      · exact fun w hs => hs
      · rintro i E4 ⟨hE22_2, hE7_2, hE11_2, hE13_2, hi⟩
        refine Wc.seq ?_
        refine Wc.seq ?_
        refine Wc.region ?_
        refine Wl.q (v := Value.int .i64 (((i : Nat) : Int) - 1)) (q_move hE22_2) ?_
        refine Wl.q (v := Value.pointer (some ⟨s, 0, none⟩)) (q_move hE7_2) ?_
        refine Wl.imp (L' := (storeI s (build (build [] l) la)) :: (knowK k s (build (build [] l) la) (KL kn)) :: (refK w r (build (build [] l) la) (KL kn)) :: (refI r (build (build [] l) la)) :: F) (fun _ h => st_pull [2] h) ?_
        refine Wl.e (e_call (F := (knowK k s (build (build [] l) la) (KL kn)) :: (refK w r (build (build [] l) la) (KL kn)) :: (refI r (build (build [] l) la)) :: F) (args := [Value.pointer (some ⟨s, 0, none⟩)]) Try.call13 rfl (len_c W0 s (build (build [] l) la))) (fun _ _ => ?_)
        refine Wl.imp (L' := (storeI s (build (build [] l) la)) :: (knowK k s (build (build [] l) la) (KL kn)) :: (refK w r (build (build [] l) la) (KL kn)) :: (refI r (build (build [] l) la)) :: F) (fun _ h => h) ?_
        refine Wl.q (v := Value.int .i64 ((((build (build [] l) la).length) + 1 : Nat) : Int)) (q_add (c := ((((build (build [] l) la).length) + 1 : Nat) : Int)) rfl rfl (by rw [wrap_i64] <;> omega)) ?_
        by_cases hlt2 : (((i : Nat) : Int) - 1) ≤ ((((build (build [] l) la).length) + 1 : Nat) : Int)
        ·
          refine Wl.q (v := Value.bool true) (q_leq (r := true) rfl rfl (decide_eq_true hlt2)) ?_
          refine Wl.done ?_
          refine Wx.go ?_
          refine Wc.yes rfl ?_
          refine Wc.skip ?_
          refine Wx.go ?_
          refine Wc.seq ?_
          refine Wc.block ?_
          refine Wc.seq ?_
          refine Wc.region ?_
          refine Wl.q (v := Value.pointer (some ⟨k, 0, none⟩)) (q_move hE11_2) ?_
          refine Wl.q (v := Value.int .i64 (((i : Nat) : Int) - 1)) (q_move hE22_2) ?_
          refine Wl.imp (L' := (knowK k s (build (build [] l) la) (KL kn)) :: (storeI s (build (build [] l) la)) :: (refK w r (build (build [] l) la) (KL kn)) :: (refI r (build (build [] l) la)) :: F) (fun _ h => st_pull [1, 0] h) ?_
          refine Wl.e (e_call (F := (refK w r (build (build [] l) la) (KL kn)) :: (refI r (build (build [] l) la)) :: F) (args := [Value.pointer (some ⟨k, 0, none⟩), Value.int .i64 (((i : Nat) : Int) - 1)]) Try.call17 rfl (khas_c W0 k s (build (build [] l) la) (KL kn) (((i : Nat) : Int) - 1) (by omega))) (fun _ _ => ?_)
          refine Wl.imp (L' := (knowK k s (build (build [] l) la) (KL kn)) :: (storeI s (build (build [] l) la)) :: (refK w r (build (build [] l) la) (KL kn)) :: (refI r (build (build [] l) la)) :: F) (fun _ h => h) ?_
          refine Wl.q (v := Value.pointer (some ⟨w, 0, none⟩)) (q_move hE13_2) ?_
          refine Wl.q (v := Value.int .i64 (((i : Nat) : Int) - 1)) (q_move hE22_2) ?_
          refine Wl.imp (L' := (refK w r (build (build [] l) la) (KL kn)) :: (refI r (build (build [] l) la)) :: (knowK k s (build (build [] l) la) (KL kn)) :: (storeI s (build (build [] l) la)) :: F) (fun _ h => st_pull [2, 2] h) ?_
          refine Wl.e (e_call (F := (knowK k s (build (build [] l) la) (KL kn)) :: (storeI s (build (build [] l) la)) :: F) (args := [Value.pointer (some ⟨w, 0, none⟩), Value.int .i64 (((i : Nat) : Int) - 1)]) Try.call14 rfl (rhas4_c W0 w r (build (build [] l) la) (KL kn) (((i : Nat) : Int) - 1) hw2 (by omega))) (fun _ _ => ?_)
          refine Wl.imp (L' := (refI r (build (build [] l) la)) :: (refK w r (build (build [] l) la) (KL kn)) :: (knowK k s (build (build [] l) la) (KL kn)) :: (storeI s (build (build [] l) la)) :: F) (fun _ h => h) ?_
          refine Wl.q (v := Value.bool false) (q_neq_bool (r := true) rfl rfl Try.underlying4 (beq_iff_eq.2 (rfl))) ?_
          refine Wl.done ?_
          refine Wx.go ?_
          refine Wc.no rfl ?_
          refine Wc.skip ?_
          refine Wx.blockEnd ?_
          refine Wx.go ?_
          refine Wc.region ?_
          refine Wl.q (v := Value.int .i64 (((i : Nat) : Int) - 1)) (q_move hE22_2) ?_
          refine Wl.q (v := Value.int .i64 (((i + 1 : Nat) : Int) - 1)) (q_add (c := (((i + 1 : Nat) : Int) - 1)) rfl rfl (by rw [wrap_i64 (by omega) (by omega)]; omega)) ?_
          refine Wl.q (v := Value.int .i64 (((i + 1 : Nat) : Int) - 1)) (q_assign rfl) ?_
          refine Wl.done ?_
          refine Wx.at (i + 1) ⟨(by omega), rfl, hE7_2, hE11_2, hE13_2, (by omega)⟩ (fun w hs => (st_pull [2, 1, 1, 0] (hs)))
        ·
          refine Wl.q (v := Value.bool false) (q_leq (r := false) rfl rfl (decide_eq_false hlt2)) ?_
          refine Wl.done ?_
          refine Wx.go ?_
          refine Wc.no rfl ?_
          refine Wc.exit ?_
          refine Wx.thenExit ?_
          refine Wx.thenExit ?_
          refine Wx.out ?_
          refine Wx.go ?_
          refine Wc.seq ?_
          refine Wc.region ?_
          refine Wl.e (e_call (F := (storeI s (build (build [] l) la)) :: (knowK k s (build (build [] l) la) (KL kn)) :: (refK w r (build (build [] l) la) (KL kn)) :: (refI r (build (build [] l) la)) :: F) (args := []) Try.call12 rfl (lives_c W0)) (fun _ _ => ?_)
          refine Wl.imp (L' := (storeI s (build (build [] l) la)) :: (knowK k s (build (build [] l) la) (KL kn)) :: (refK w r (build (build [] l) la) (KL kn)) :: (refI r (build (build [] l) la)) :: F) (fun _ h => h) ?_
          refine Wl.q (v := Value.bool true) (q_assign rfl) ?_
          refine Wl.done ?_
          refine Wx.go ?_
          refine Wc.ret ?_
          refine Wx.fin1 rfl (.inl rfl) (fun w hs => ?_)
          exact ⟨(), trivial, rfl, (st_drop (st_drop (st_drop (st_drop (st_pull [0, 0, 0, 0] hs)))))⟩

theorem tells_law (W0 : World) (vl : Value) (l : List TermR) (hl : Rd W0 vl l.length (l.flatMap termCells)) (hlm : l.length ≤ 9223372036854775807) (hlo : ∀ x ∈ l, okT x) (vk : Value) (kn : List Int) (hk : Rd W0 vk kn.length (kn.flatMap int1)) (hkm : kn.length ≤ 9223372036854775807) (vj : Value) (la : List TermR) (hja : Rd W0 vj la.length (la.flatMap termCells)) (hjam : la.length ≤ 9223372036854775807) (hlao : ∀ x ∈ la, okT x)  : Con Try.prog W0 6 #[vl, vk, vj] [] (X := Unit) (fun _ => True) (fun _ => .bool true) (fun _ => []) := by
  by_cases hbig : 600 < l.length ∨ 1000 < kn.length ∨ 100 < la.length
  · exact tells_big W0 vl l hl hlm hlo vk kn hk hkm vj la hja hjam hlao hbig
  rcases all_or_bad kn ((build [] l).length : Int) with hall | hbad
  · exact tells_ok W0 vl l hl hlm hlo vk kn hk hkm vj la hja hjam hlao (by omega) (by omega) (by omega) hall
  · exact tells_bad W0 vl l hl hlm hlo vk kn hk hkm vj la hja hjam hlao (by omega) (by omega) (by omega) hbad

end Go.Proofs.Ytmghnmfhniohkaa
