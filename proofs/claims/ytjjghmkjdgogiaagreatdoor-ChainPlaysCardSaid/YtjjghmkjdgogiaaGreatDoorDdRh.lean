/- What follows: contracts of the calls. -/
import Derived.Test.YtjjghmkjdgogiaaGreatDoorDdRc
namespace Go.Proofs.YtjjghmkjdgogiaaGreatDoor
open Go Go.SL Go.Dd Go.RowKit
set_option linter.unusedVariables false
set_option maxRecDepth 8000

theorem lK_snoc (l : List (Nat × Nat)) (o : Nat × Nat) : lK (l ++ [o]) = lK l ++ [o.2] := by unfold lK; rw [List.map_append]; rfl

theorem rhas_w (W0 : World) (wc r : Nat) (v : Value) (S : ChS) (hS : OkS S) (hll : S.left.length ≤ 1000) (hx : S.nx < 4611686018427387904) :
    Con Tryz.prog W0 13 #[Value.pointer (some ⟨wc, 0, none⟩)] [pt wc 96 [Value.pointer (some ⟨r, 0, none⟩), Value.int .i64 ((S.z : Nat) : Int), Value.int .i64 ((S.nx : Nat) : Int), v], sl 105 2 v S.left.length (leftC S.left), refW r S.ts] (X := Value) (fun _ => True) (fun y => y) (fun y => [sl 3 1 y ((hasN S).length) ((hasN S).map natV), pt wc 96 [Value.pointer (some ⟨r, 0, none⟩), Value.int .i64 ((S.z : Nat) : Int), Value.int .i64 ((S.nx : Nat) : Int), v], sl 105 2 v S.left.length (leftC S.left), refW r S.ts]) := by
  refine Con.of (args := [Value.pointer (some ⟨wc, 0, none⟩)]) Tryz.func13 rfl Tryz.ntmps13 rfl (fun F => ?_)
  show Wc _ W0 _ _ _ _ _ ((pt wc 96 [Value.pointer (some ⟨r, 0, none⟩), Value.int .i64 ((S.z : Nat) : Int), Value.int .i64 ((S.nx : Nat) : Int), v]) :: (sl 105 2 v S.left.length (leftC S.left)) :: (refW r S.ts) :: F)
  refine Wc.seq ?_
  refine Wc.region ?_
  refine Wl.q (v := Value.slice none 0 0) (q_assign rfl) ?_
  refine Wl.done ?_
  refine Wx.go ?_
  refine Wc.seq ?_
  refine Wc.region ?_
  refine Wl.q (v := Value.slice none 0 0) (q_assign rfl) ?_
  refine Wl.done ?_
  refine Wx.go ?_
  refine Wc.seq ?_
  refine Wc.seq ?_
  refine Wc.region ?_
  refine Wl.q (v := Value.int .i64 0) (q_assign rfl) ?_
  refine Wl.done ?_
  refine Wx.go ?_
  refine Wc.block ?_
  refine Wc.loop (X := Nat × Value) (fun (i, u) E => E 4 = Value.int .i64 ((i : Nat) : Int) ∧ E 3 = u ∧ E 0 = Value.pointer (some ⟨wc, 0, none⟩) ∧ i ≤ S.nx) (fun (i, u) => (sl 3 1 u ((lK (below S.left i)).length) ((lK (below S.left i)).map natV)) :: (pt wc 96 [Value.pointer (some ⟨r, 0, none⟩), Value.int .i64 ((S.z : Nat) : Int), Value.int .i64 ((S.nx : Nat) : Int), v]) :: (sl 105 2 v S.left.length (leftC S.left)) :: (refW r S.ts) :: F) (fun (i, u) => S.nx - i) (0, Value.slice none 0 0) ?_ ?_ ?_
  · exact ⟨rfl, rfl, rfl, (Nat.zero_le _)⟩
  · exact fun w hs => by dsimp only; rw [below_zero]; exact st_sl_nil hs
  · rintro ⟨i, u⟩ E2 ⟨hE4_0, hE3_0, hE0_0, hi⟩
    dsimp only at *
    refine Wc.seq ?_
    refine Wc.seq ?_
    refine Wc.region ?_
    refine Wl.q (v := Value.int .i64 ((i : Nat) : Int)) (q_move hE4_0) ?_
    refine Wl.q (v := Value.pointer (some ⟨wc, 0, none⟩)) (q_move hE0_0) ?_
    refine Wl.q (v := Value.pointer (some ⟨wc, 0, none⟩)) (q_nil_ptr rfl) ?_
    refine Wl.q (v := Value.pointer (some ⟨wc, 2, none⟩)) (q_field (m := 2) fo_96_2 rfl rfl) ?_
    refine Wl.q (v := Value.int .i64 ((S.nx : Nat) : Int)) (q_load sc_3 rfl (.cel (i := 1) rfl rfl)) ?_
    by_cases hli : ((i : Nat) : Int) < ((S.nx : Nat) : Int)
    ·
      refine Wl.q (v := Value.bool true) (q_lss (r := true) rfl rfl (decide_eq_true hli)) ?_
      refine Wl.done ?_
      refine Wx.go ?_
      refine Wc.yes rfl ?_
      refine Wc.skip ?_
      refine Wx.go ?_
      refine Wc.seq ?_
      refine Wc.block ?_
      refine Wc.seq ?_
      refine Wc.region ?_
      refine Wl.q (v := Value.int .i64 0) (q_assign rfl) ?_
      refine Wl.done ?_
      refine Wx.go ?_
      refine Wc.block ?_
      refine Wc.loop (X := Nat × Value) (fun (j, u) E => E 5 = Value.int .i64 ((j : Nat) : Int) ∧ E 3 = u ∧ E 0 = Value.pointer (some ⟨wc, 0, none⟩) ∧ E 4 = Value.int .i64 ((i : Nat) : Int) ∧ j ≤ S.left.length) (fun (j, u) => (sl 3 1 u ((lK ((below S.left i) ++ (atNum (S.left.take j) i))).length) ((lK ((below S.left i) ++ (atNum (S.left.take j) i))).map natV)) :: (pt wc 96 [Value.pointer (some ⟨r, 0, none⟩), Value.int .i64 ((S.z : Nat) : Int), Value.int .i64 ((S.nx : Nat) : Int), v]) :: (sl 105 2 v S.left.length (leftC S.left)) :: (refW r S.ts) :: F) (fun (j, u) => S.left.length - j) (0, u) ?_ ?_ ?_
      · exact ⟨rfl, hE3_0, hE0_0, hE4_0, (Nat.zero_le _)⟩
      · exact fun w hs => by dsimp only; rw [show ((below S.left i) ++ (atNum (S.left.take 0) i)) = (below S.left i) from by simp [atNum]]; exact hs
      · rintro ⟨j, u⟩ E4 ⟨hE5_2, hE3_2, hE0_2, hE4_2, hj⟩
        dsimp only at *
        have hlk : (lK ((below S.left i) ++ (atNum (S.left.take j) i))).length ≤ 2000 := by rw [lK_len, List.length_append]; have h1 := List.length_filter_le (fun p => decide (p.1 < i)) S.left; have h2 := List.length_filter_le (fun p => decide (p.1 = i)) (S.left.take j); have h3 := List.length_take (i := j) (l := S.left); unfold below atNum; omega
        refine Wc.seq ?_
        refine Wc.seq ?_
        refine Wc.region ?_
        refine Wl.q (v := Value.int .i64 ((j : Nat) : Int)) (q_move hE5_2) ?_
        refine Wl.q (v := Value.pointer (some ⟨wc, 0, none⟩)) (q_move hE0_2) ?_
        refine Wl.q (v := Value.pointer (some ⟨wc, 0, none⟩)) (q_nil_ptr rfl) ?_
        refine Wl.q (v := Value.pointer (some ⟨wc, 3, none⟩)) (q_field (m := 3) fo_96_3 rfl rfl) ?_
        refine Wl.q (v := v) (q_load sc_94 rfl (.cel (i := 1) rfl rfl)) ?_
        refine Wl.q (v := Value.int .i64 ((S.left.length : Nat) : Int)) (q_len_sl (i := 2) Tryz.underlying94 rfl rfl) ?_
        by_cases hlj : ((j : Nat) : Int) < ((S.left.length : Nat) : Int)
        ·
          obtain ⟨o, hget⟩ : ∃ o, S.left[j]? = some o := ⟨S.left[j]'(by omega), List.getElem?_eq_getElem (by omega)⟩
          refine Wl.sl (i := 2) (m := S.left.length) rfl (by omega) (fun vb vc hv hcl => ?_)
          subst hv
          refine Wl.q (v := Value.bool true) (q_lss (r := true) rfl rfl (decide_eq_true hlj)) ?_
          refine Wl.done ?_
          refine Wx.go ?_
          refine Wc.yes rfl ?_
          refine Wc.skip ?_
          refine Wx.go ?_
          refine Wc.seq ?_
          refine Wc.block ?_
          refine Wc.seq ?_
          refine Wc.region ?_
          refine Wl.q (v := Value.pointer (some ⟨wc, 0, none⟩)) (q_move hE0_2) ?_
          refine Wl.q (v := Value.pointer (some ⟨wc, 0, none⟩)) (q_nil_ptr rfl) ?_
          refine Wl.q (v := Value.pointer (some ⟨wc, 3, none⟩)) (q_field (m := 3) fo_96_3 rfl rfl) ?_
          refine Wl.q (v := Value.slice (some ⟨vb, 0, none⟩) S.left.length vc) (q_load sc_94 rfl (.cel (i := 1) rfl rfl)) ?_
          refine Wl.q (v := Value.int .i64 ((j : Nat) : Int)) (q_move hE5_2) ?_
          refine Wl.q (v := Value.pointer (some ⟨vb, j * 2, none⟩)) (q_idx (m := j * 2) se_94 rfl rfl (by omega) (by omega) (by simp)) ?_
          refine Wl.q (v := Value.pointer (some ⟨vb, j * 2, none⟩)) (q_field (m := j * 2) fo_105_0 rfl rfl) ?_
          refine Wl.q (v := Value.int .i64 ((o.1 : Nat) : Int)) (q_load sc_3 rfl (.row (i := 2) rfl (leftC_0 hget))) ?_
          refine Wl.q (v := Value.int .i64 ((i : Nat) : Int)) (q_move hE4_2) ?_
          by_cases hom : ((o.1 : Nat) : Int) = ((i : Nat) : Int)
          ·
            refine Wl.q (v := Value.bool true) (q_eql (r := true) rfl rfl (decide_eq_true hom)) ?_
            refine Wl.done ?_
            refine Wx.go ?_
            refine Wc.yes rfl ?_
            refine Wc.region ?_
            refine Wl.q (v := u) (q_move hE3_2) ?_
            refine Wl.q (v := Value.pointer (some ⟨wc, 0, none⟩)) (q_move hE0_2) ?_
            refine Wl.q (v := Value.pointer (some ⟨wc, 0, none⟩)) (q_nil_ptr rfl) ?_
            refine Wl.q (v := Value.pointer (some ⟨wc, 3, none⟩)) (q_field (m := 3) fo_96_3 rfl rfl) ?_
            refine Wl.q (v := Value.slice (some ⟨vb, 0, none⟩) S.left.length vc) (q_load sc_94 rfl (.cel (i := 1) rfl rfl)) ?_
            refine Wl.q (v := Value.int .i64 ((j : Nat) : Int)) (q_move hE5_2) ?_
            refine Wl.q (v := Value.pointer (some ⟨vb, j * 2, none⟩)) (q_idx (m := j * 2) se_94 rfl rfl (by omega) (by omega) (by simp)) ?_
            refine Wl.q (v := Value.pointer (some ⟨vb, j * 2 + 1, none⟩)) (q_field (m := j * 2 + 1) fo_105_1 rfl rfl) ?_
            refine Wl.q (v := Value.int .i64 ((o.2 : Nat) : Int)) (q_load sc_3 rfl (.row (i := 2) rfl (leftC_1 hget))) ?_
            refine Wl.e (e_buildSlice (cs := [Value.int .i64 ((o.2 : Nat) : Int)]) se_23 zo_3 (by decide) (by decide) (by kernel_rfl)) (fun b5 _ => ?_)
            refine Wl.imp (L' := (pt b5 3 [Value.int .i64 ((o.2 : Nat) : Int)]) :: (sl 3 1 u ((lK ((below S.left i) ++ (atNum (S.left.take j) i))).length) ((lK ((below S.left i) ++ (atNum (S.left.take j) i))).map natV)) :: (pt wc 96 [Value.pointer (some ⟨r, 0, none⟩), Value.int .i64 ((S.z : Nat) : Int), Value.int .i64 ((S.nx : Nat) : Int), Value.slice (some ⟨vb, 0, none⟩) S.left.length vc]) :: (slp 105 2 vb vc (leftC S.left)) :: (refW r S.ts) :: F) (fun _ h => h) ?_
            refine Wl.e (e_append (i := 1) (k := 1) (m := 1) (off := 0) (news := [Value.int .i64 ((o.2 : Nat) : Int)]) Tryz.underlying23 sz_3 by_3 zo_3 rfl rfl rfl rfl rfl (Has.of_pt (i := 0) rfl rfl) rfl (by decide) (by simp only [maxLen]; omega) (by omega)) (fun u2 _ => ?_)
            refine Wl.imp (L' := (pt b5 3 [Value.int .i64 ((o.2 : Nat) : Int)]) :: (sl 3 1 u2 (((lK ((below S.left i) ++ (atNum (S.left.take j) i))).length) + 1) (((lK ((below S.left i) ++ (atNum (S.left.take j) i))).map natV) ++ [Value.int .i64 ((o.2 : Nat) : Int)])) :: (pt wc 96 [Value.pointer (some ⟨r, 0, none⟩), Value.int .i64 ((S.z : Nat) : Int), Value.int .i64 ((S.nx : Nat) : Int), Value.slice (some ⟨vb, 0, none⟩) S.left.length vc]) :: (slp 105 2 vb vc (leftC S.left)) :: (refW r S.ts) :: F) (fun _ h => h) ?_
            refine Wl.q (v := u2) (q_assign rfl) ?_
            refine Wl.done ?_
            refine Wx.blockEnd ?_
            refine Wx.go ?_
            refine Wc.region ?_
            refine Wl.q (v := Value.int .i64 ((j : Nat) : Int)) (q_move hE5_2) ?_
            refine Wl.q (v := Value.int .i64 ((j + 1 : Nat) : Int)) (q_add (c := ((j + 1 : Nat) : Int)) rfl rfl (by rw [wrap_i64] <;> omega)) ?_
            refine Wl.q (v := Value.int .i64 ((j + 1 : Nat) : Int)) (q_assign rfl) ?_
            refine Wl.done ?_
            refine Wx.at (j + 1, u2) ⟨(by simp only; omega), rfl, rfl, hE0_2, hE4_2, (by simp only; omega)⟩ (fun w hs => by rw [atNum_take hget, if_pos (Int.ofNat.inj hom), ← List.append_assoc, lK_snoc, List.length_append, List.map_append]; exact (fun hs => st_pull [1, 1, 0] (st_sl_mk (e := 105) (leftC_len _) hcl hs)) (st_pull [2, 0, 0, 0] (st_drop (st_pull [0] hs))))
          ·
            refine Wl.q (v := Value.bool false) (q_eql (r := false) rfl rfl (decide_eq_false hom)) ?_
            refine Wl.done ?_
            refine Wx.go ?_
            refine Wc.no rfl ?_
            refine Wc.skip ?_
            refine Wx.blockEnd ?_
            refine Wx.go ?_
            refine Wc.region ?_
            refine Wl.q (v := Value.int .i64 ((j : Nat) : Int)) (q_move hE5_2) ?_
            refine Wl.q (v := Value.int .i64 ((j + 1 : Nat) : Int)) (q_add (c := ((j + 1 : Nat) : Int)) rfl rfl (by rw [wrap_i64] <;> omega)) ?_
            refine Wl.q (v := Value.int .i64 ((j + 1 : Nat) : Int)) (q_assign rfl) ?_
            refine Wl.done ?_
            refine Wx.at (j + 1, u) ⟨(by simp only; omega), rfl, hE3_2, hE0_2, hE4_2, (by simp only; omega)⟩ (fun w hs => by rw [atNum_take hget, if_neg (fun h => hom (congrArg Int.ofNat h))]; exact (fun hs => st_pull [1, 1, 0] (st_sl_mk (e := 105) (leftC_len _) hcl hs)) (st_pull [2, 0, 0, 0] (hs)))
        ·
          have hje : j = S.left.length := by omega
          refine Wl.q (v := Value.bool false) (q_lss (r := false) rfl rfl (decide_eq_false hlj)) ?_
          refine Wl.done ?_
          refine Wx.go ?_
          refine Wc.no rfl ?_
          refine Wc.exit ?_
          refine Wx.thenExit ?_
          refine Wx.thenExit ?_
          refine Wx.out ?_
          refine Wx.blockEnd ?_
          refine Wx.go ?_
          refine Wc.region ?_
          refine Wl.q (v := Value.int .i64 ((i : Nat) : Int)) (q_move hE4_2) ?_
          refine Wl.q (v := Value.int .i64 ((i + 1 : Nat) : Int)) (q_add (c := ((i + 1 : Nat) : Int)) rfl rfl (by rw [wrap_i64] <;> omega)) ?_
          refine Wl.q (v := Value.int .i64 ((i + 1 : Nat) : Int)) (q_assign rfl) ?_
          refine Wl.done ?_
          refine Wx.at (i + 1, u) ⟨(by simp only; omega), rfl, hE3_2, hE0_2, (by simp only; omega)⟩ (fun w hs => by rw [hje, List.take_length] at hs; rw [below_succ i hS.srt]; exact hs)
    ·
      have hie : i = S.nx := by omega
      have hlk : (lK (below S.left i)).length ≤ 1000 := by rw [lK_len]; have h1 := List.length_filter_le (fun p => decide (p.1 < i)) S.left; unfold below; omega
      refine Wl.q (v := Value.bool false) (q_lss (r := false) rfl rfl (decide_eq_false hli)) ?_
      refine Wl.done ?_
      refine Wx.go ?_
      refine Wc.no rfl ?_
      refine Wc.exit ?_
      refine Wx.thenExit ?_
      refine Wx.thenExit ?_
      refine Wx.out ?_
      refine Wx.go ?_
      refine Wc.seq ?_
      refine Wc.region ?_
      refine Wl.q (v := u) (q_move hE3_0) ?_
      refine Wl.q (v := Value.pointer (some ⟨wc, 0, none⟩)) (q_move hE0_0) ?_
      refine Wl.q (v := Value.pointer (some ⟨wc, 0, none⟩)) (q_nil_ptr rfl) ?_
      refine Wl.q (v := Value.pointer (some ⟨wc, 1, none⟩)) (q_field (m := 1) fo_96_1 rfl rfl) ?_
      refine Wl.q (v := Value.int .i64 ((S.z : Nat) : Int)) (q_load sc_3 rfl (.cel (i := 1) rfl rfl)) ?_
      refine Wl.e (e_buildSlice (cs := [Value.int .i64 ((S.z : Nat) : Int)]) se_23 zo_3 (by decide) (by decide) (by kernel_rfl)) (fun b6 _ => ?_)
      refine Wl.imp (L' := (pt b6 3 [Value.int .i64 ((S.z : Nat) : Int)]) :: (sl 3 1 u ((lK (below S.left i)).length) ((lK (below S.left i)).map natV)) :: (pt wc 96 [Value.pointer (some ⟨r, 0, none⟩), Value.int .i64 ((S.z : Nat) : Int), Value.int .i64 ((S.nx : Nat) : Int), v]) :: (sl 105 2 v S.left.length (leftC S.left)) :: (refW r S.ts) :: F) (fun _ h => h) ?_
      refine Wl.e (e_append (i := 1) (k := 1) (m := 1) (off := 0) (news := [Value.int .i64 ((S.z : Nat) : Int)]) Tryz.underlying23 sz_3 by_3 zo_3 rfl rfl rfl rfl rfl (Has.of_pt (i := 0) rfl rfl) rfl (by decide) (by simp only [maxLen]; omega) (by omega)) (fun u3 _ => ?_)
      refine Wl.imp (L' := (pt b6 3 [Value.int .i64 ((S.z : Nat) : Int)]) :: (sl 3 1 u3 (((lK (below S.left i)).length) + 1) (((lK (below S.left i)).map natV) ++ [Value.int .i64 ((S.z : Nat) : Int)])) :: (pt wc 96 [Value.pointer (some ⟨r, 0, none⟩), Value.int .i64 ((S.z : Nat) : Int), Value.int .i64 ((S.nx : Nat) : Int), v]) :: (sl 105 2 v S.left.length (leftC S.left)) :: (refW r S.ts) :: F) (fun _ h => h) ?_
      refine Wl.q (v := u3) (q_assign rfl) ?_
      refine Wl.done ?_
      refine Wx.go ?_
      refine Wc.ret ?_
      refine Wx.fin1 rfl (.inl rfl) (fun w hs => ?_)
      subst hie
      rw [below_all hS.keys] at hs
      have hV := hasN_V S
      have hL := hasN_len S
      refine ⟨u3, trivial, rfl, ?_⟩
      rw [← hV, ← hL]
      exact (st_drop (st_pull [0] hs))

end Go.Proofs.YtjjghmkjdgogiaaGreatDoor
