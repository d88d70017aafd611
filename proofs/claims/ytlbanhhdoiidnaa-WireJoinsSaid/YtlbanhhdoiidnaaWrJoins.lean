/- The wire: contracts of its calls. -/
import Derived.Test.YtlbanhhdoiidnaaWrG
namespace Go.Proofs.Ytlbanhhdoiidnaa
open Go Go.SL Go.Wr Go.RowKit
open Go.Dk (beyondF beyondB beyond_step beyond_le beyond_one beyond_two)
set_option linter.unusedVariables false
theorem ag_44 : aggSize Try.prog 44 = some 3 := by kernel_rfl
theorem joins_law (W0 : World) (va : Value) (a : List ItemR) (ha : Rd W0 va a.length (a.flatMap itemCells)) (ham : a.length ≤ 9223372036854775807) (hna : ∀ x ∈ a, -9223372036854775808 ≤ x.n ∧ x.n ≤ 9223372036854775807) (vb : Value) (b : List ItemR) (hb : Rd W0 vb b.length (b.flatMap itemCells)) (hbm : b.length ≤ 9223372036854775807) (hnb : ∀ x ∈ b, -9223372036854775808 ≤ x.n ∧ x.n ≤ 9223372036854775807) :
    Con Try.prog W0 6 #[va, vb] [] (X := Unit) (fun _ => True) (fun _ => .bool true) (fun _ => []) := by
  refine Con.of (args := [va, vb]) Try.func6 rfl Try.ntmps6 rfl (fun F => ?_)
  show Wc _ W0 _ _ _ _ _ (F)
  refine Wc.seq ?_
  refine Wc.region ?_
  refine Wl.q (v := Value.bool false) (q_assign rfl) ?_
  refine Wl.done ?_
  refine Wx.go ?_
  refine Wc.seq ?_
  refine Wc.seq ?_
  refine Wc.region ?_
  refine Wl.q (v := va) (q_move rfl) ?_
  refine Wl.e (e_call (F := F) (args := [va]) Try.call19 rfl (isize_c W0 va a ha ham)) (fun sa ⟨hsa, isa⟩ => ?_)
  refine Wl.imp (L' := F) (fun _ h => h) ?_
  refine Wl.q (v := vb) (q_move rfl) ?_
  refine Wl.e (e_call (F := F) (args := [vb]) Try.call19 rfl (isize_c W0 vb b hb hbm)) (fun sb ⟨hsb, isb⟩ => ?_)
  refine Wl.imp (L' := F) (fun _ h => h) ?_
  refine Wl.e (e_buildSlice (cs := [Value.int .i64 sa, Value.int .i64 sb]) se_29 zo_3 (by decide) (by decide) (by kernel_rfl)) (fun b1 _ => ?_)
  refine Wl.imp (L' := (pt b1 3 [Value.int .i64 sa, Value.int .i64 sb]) :: F) (fun _ h => h) ?_
  refine Wl.e (e_call (F := F) (args := [Value.slice (some ⟨b1, 0, none⟩) 2 2]) Try.call14 rfl (beyond_c W0 b1 ([sa, sb] : List Int) (by simp) (by simp; omega))) (fun _ _ => ?_)
  refine Wl.imp (L' := (pt b1 3 [Value.int .i64 sa, Value.int .i64 sb]) :: F) (fun _ h => h) ?_
  refine Wl.done ?_
  refine Wx.go ?_
  refine Wc.both (b := beyondB ([sa, sb] : List Int)) rfl (fun hb2 => ?_) (fun hb2 => ?_)
  ·
    refine Wc.seq ?_
    refine Wc.region ?_
    refine Wl.q (v := Value.bool true) (q_assign rfl) ?_
    refine Wl.done ?_
    refine Wx.go ?_
    refine Wc.ret ?_
    refine Wx.thenRet ?_
    refine Wx.fin1 rfl (.inl rfl) (fun w hs => ?_)
    exact ⟨(), trivial, rfl, (st_drop (st_pull [0] hs))⟩
  ·
    obtain ⟨hfa, hfb⟩ := few hb2 isa isb
    refine Wc.skip ?_
    refine Wx.go ?_
    refine Wc.seq ?_
    refine Wc.region ?_
    refine Wl.e (e_call (F := (pt b1 3 [Value.int .i64 sa, Value.int .i64 sb]) :: F) (args := []) Try.call10 rfl (wnew_c W0)) (fun x _ => ?_)
    refine Wl.imp (L' := (isW x []) :: (pt b1 3 [Value.int .i64 sa, Value.int .i64 sb]) :: F) (fun _ h => h) ?_
    refine Wl.e (e_call (F := (isW x []) :: (pt b1 3 [Value.int .i64 sa, Value.int .i64 sb]) :: F) (args := []) Try.call10 rfl (wnew_c W0)) (fun y _ => ?_)
    refine Wl.imp (L' := (isW y []) :: (isW x []) :: (pt b1 3 [Value.int .i64 sa, Value.int .i64 sb]) :: F) (fun _ h => h) ?_
    refine Wl.e (e_call (F := (isW y []) :: (isW x []) :: (pt b1 3 [Value.int .i64 sa, Value.int .i64 sb]) :: F) (args := []) Try.call10 rfl (wnew_c W0)) (fun z _ => ?_)
    refine Wl.imp (L' := (isW z []) :: (isW y []) :: (isW x []) :: (pt b1 3 [Value.int .i64 sa, Value.int .i64 sb]) :: F) (fun _ h => h) ?_
    refine Wl.q (v := Value.pointer (some ⟨x, 0, none⟩)) (q_assign rfl) ?_
    refine Wl.q (v := Value.pointer (some ⟨y, 0, none⟩)) (q_assign rfl) ?_
    refine Wl.q (v := Value.pointer (some ⟨z, 0, none⟩)) (q_assign rfl) ?_
    refine Wl.done ?_
    refine Wx.go ?_
    refine Wc.seq ?_
    refine Wc.seq ?_
    refine Wc.region ?_
    refine Wl.q (v := Value.pointer (some ⟨x, 0, none⟩)) (q_move rfl) ?_
    refine Wl.q (v := Value.bool false) (q_eql_nil (r := false) rfl rfl Try.underlying22 rfl) ?_
    refine Wl.q (v := Value.bool false) (q_move rfl) ?_
    refine Wl.q (v := Value.pointer (some ⟨y, 0, none⟩)) (q_move rfl) ?_
    refine Wl.q (v := Value.bool false) (q_eql_nil (r := false) rfl rfl Try.underlying22 rfl) ?_
    refine Wl.q (v := Value.bool false) (q_pick (t := false) rfl rfl) ?_
    refine Wl.q (v := Value.bool false) (q_move rfl) ?_
    refine Wl.q (v := Value.pointer (some ⟨z, 0, none⟩)) (q_move rfl) ?_
    refine Wl.q (v := Value.bool false) (q_eql_nil (r := false) rfl rfl Try.underlying22 rfl) ?_
    refine Wl.q (v := Value.bool false) (q_pick (t := false) rfl rfl) ?_
    refine Wl.done ?_
    refine Wx.go ?_
    refine Wc.no rfl ?_
    refine Wc.skip ?_
    refine Wx.go ?_
    refine Wc.seq ?_
    refine Wc.seq ?_
    refine Wc.region ?_
    refine Wl.q (v := Value.int .i64 0) (q_assign rfl) ?_
    refine Wl.done ?_
    refine Wx.go ?_
    refine Wc.block ?_
    refine Wc.loop (X := Nat) (fun k E => E 8 = Value.int .i64 ((k : Nat) : Int) ∧ E 0 = va ∧ E 1 = vb ∧ E 5 = Value.pointer (some ⟨x, 0, none⟩) ∧ E 6 = Value.pointer (some ⟨y, 0, none⟩) ∧ E 7 = Value.pointer (some ⟨z, 0, none⟩) ∧ k ≤ a.length) (fun k => (isW x (bytesW (a.take k))) :: (isW z (bytesW (a.take k))) :: (isW y []) :: F) (fun k => a.length - k) 0 ?_ ?_ ?_
    · exact ⟨rfl, rfl, rfl, rfl, rfl, rfl, (by omega)⟩
    · exact fun w hs => (st_pull [2, 0, 0] (st_drop (st_pull [3] hs)))
    · rintro k E4 ⟨hE8_2, hE0_2, hE1_2, hE5_2, hE6_2, hE7_2, hp0⟩
      refine Wc.seq ?_
      refine Wc.seq ?_
      refine Wc.region ?_
      refine Wl.q (v := Value.int .i64 ((k : Nat) : Int)) (q_move hE8_2) ?_
      refine Wl.q (v := va) (q_move hE0_2) ?_
      refine Wl.q (v := Value.int .i64 ((a.length : Nat) : Int)) (q_len_is Try.underlying38 rfl ha.shape) ?_
      by_cases hlt : ((k : Nat) : Int) < ((a.length : Nat) : Int)
      ·
        obtain ⟨o, hget⟩ : ∃ o, a[k]? = some o := ⟨a[k]'(by omega), by simp [List.getElem?_eq_getElem (show k < a.length by omega)]⟩
        have hon := hna o (List.mem_of_getElem? hget)
        have hbt := bytesW_take k hna hfa
        refine Wl.q (v := Value.bool true) (q_lss (r := true) rfl rfl (decide_eq_true hlt)) ?_
        refine Wl.done ?_
        refine Wx.go ?_
        refine Wc.yes rfl ?_
        refine Wc.skip ?_
        refine Wx.go ?_
        refine Wc.seq ?_
        refine Wc.block ?_
        refine Wc.seq ?_
        refine Wc.drawsS [] ([]) (by kernel_rfl) ?_
        refine Wr.pure (v := Value.pointer (some ⟨x, 0, none⟩)) 0 rfl (by kernel_rfl) (.inr (fun _ h => st_take [] h)) (.inl ⟨rfl, fun _ => q_move hE5_2⟩) ?_
        refine Wr.pure (v := va) 1 rfl (by kernel_rfl) (.inr (fun _ h => st_take [] h)) (.inl ⟨rfl, fun _ => q_move hE0_2⟩) ?_
        refine Wr.pure (v := Value.int .i64 ((k : Nat) : Int)) 2 rfl (by kernel_rfl) (.inr (fun _ h => st_take [] h)) (.inl ⟨rfl, fun _ => q_move hE8_2⟩) ?_
        refine Wr.pure (v := Value.pointer (some ⟨(rb va), ro va + k * 3, none⟩)) 3 rfl (by kernel_rfl) (.inr (fun _ h => st_take [] h)) (.inl ⟨rfl, fun _ => q_idx_is (m := ro va + k * 3) se_38 rfl (ha.some_ (by omega)) rfl (by omega) (by omega) rfl⟩) ?_
        refine Wr.take (v := Value.agg #[Value.int .i64 o.kind, Value.int .i64 o.n, Value.string o.s]) 4 rfl (by kernel_rfl) (fun _ h => st_take [] h) (.inl ⟨rfl, q_loadAgg (vs := [Value.int .i64 o.kind, Value.int .i64 o.n, Value.string o.s]) ag_44 rfl (fun j u hj => .old (rdI ha hget j hj))⟩) ?_
        refine Wr.pure (v := Value.pointer (some ⟨z, 0, none⟩)) 6 rfl (by kernel_rfl) (.inr (fun _ h => st_take [] h)) (.inl ⟨rfl, fun _ => q_move hE7_2⟩) ?_
        refine Wr.pure (v := va) 7 rfl (by kernel_rfl) (.inr (fun _ h => st_take [] h)) (.inl ⟨rfl, fun _ => q_move hE0_2⟩) ?_
        refine Wr.pure (v := Value.int .i64 ((k : Nat) : Int)) 8 rfl (by kernel_rfl) (.inr (fun _ h => st_take [] h)) (.inl ⟨rfl, fun _ => q_move hE8_2⟩) ?_
        refine Wr.pure (v := Value.pointer (some ⟨(rb va), ro va + k * 3, none⟩)) 9 rfl (by kernel_rfl) (.inr (fun _ h => st_take [] h)) (.inl ⟨rfl, fun _ => q_idx_is (m := ro va + k * 3) se_38 rfl (ha.some_ (by omega)) rfl (by omega) (by omega) rfl⟩) ?_
        refine Wr.take (v := Value.agg #[Value.int .i64 o.kind, Value.int .i64 o.n, Value.string o.s]) 10 rfl (by kernel_rfl) (fun _ h => st_take [] h) (.inl ⟨rfl, q_loadAgg (vs := [Value.int .i64 o.kind, Value.int .i64 o.n, Value.string o.s]) ag_44 rfl (fun j u hj => .old (rdI ha hget j hj))⟩) ?_
        refine Wr.e 5 (by kernel_rfl) rfl (e_call (F := (isW z (bytesW (a.take k))) :: (isW y []) :: F) (args := [Value.pointer (some ⟨x, 0, none⟩), Value.agg #[Value.int .i64 o.kind, Value.int .i64 o.n, Value.string o.s]]) Try.call21 rfl (write_c W0 x (bytesW (a.take k)) o hon (by first | assumption | omega | (simp only [List.length_append]; omega)))) (.inr fun _ _ _ h => st_take [] h) (fun _ _ => ?_)
        refine Wr.imp (L' := (isW x ((bytesW (a.take k)) ++ (itemW o).2)) :: (isW z (bytesW (a.take k))) :: (isW y []) :: F) (fun _ h => h) ?_
        refine Wr.imp (L' := (isW z (bytesW (a.take k))) :: (isW x ((bytesW (a.take k)) ++ (itemW o).2)) :: (isW y []) :: F) (fun _ h => st_pull [1] h) ?_
        refine Wr.e 11 (by kernel_rfl) rfl (e_call (F := (isW x ((bytesW (a.take k)) ++ (itemW o).2)) :: (isW y []) :: F) (args := [Value.pointer (some ⟨z, 0, none⟩), Value.agg #[Value.int .i64 o.kind, Value.int .i64 o.n, Value.string o.s]]) Try.call21 rfl (write_c W0 z (bytesW (a.take k)) o hon (by first | assumption | omega | (simp only [List.length_append]; omega)))) (.inr fun _ _ _ h => st_take [] h) (fun _ _ => ?_)
        refine Wr.imp (L' := (isW z ((bytesW (a.take k)) ++ (itemW o).2)) :: (isW x ((bytesW (a.take k)) ++ (itemW o).2)) :: (isW y []) :: F) (fun _ h => h) ?_
        refine Wr.pure (v := Value.bool false) 12 rfl (by kernel_rfl) (.inr (fun _ h => st_take [] h)) (.inl ⟨rfl, fun _ => q_neq (r := true) rfl rfl (decide_eq_true (rfl))⟩) ?_
        refine Wr.done (by kernel_rfl) ?_
        refine Wx.go ?_
        refine Wc.no rfl ?_
        refine Wc.skip ?_
        refine Wx.blockEnd ?_
        refine Wx.go ?_
        refine Wc.region ?_
        refine Wl.q (v := Value.int .i64 ((k : Nat) : Int)) (q_move hE8_2) ?_
        refine Wl.q (v := Value.int .i64 ((k + 1 : Nat) : Int)) (q_add (c := ((k + 1 : Nat) : Int)) rfl rfl (by rw [wrap_i64] <;> omega)) ?_
        refine Wl.q (v := Value.int .i64 ((k + 1 : Nat) : Int)) (q_assign rfl) ?_
        refine Wl.done ?_
        refine Wx.at (k + 1) ⟨(by omega), rfl, hE0_2, hE1_2, hE5_2, hE6_2, hE7_2, (by omega)⟩ (fun w hs => by rw [bytesW_snoc hget]; exact (st_pull [1, 0, 0] (hs)))
      ·
        have henda : k = a.length := by omega
        have hwa := bytesW_take k hna hfa
        have hba : (bytesW a).length < 18000000000000 := by have := bytesW_take a.length hna hfa; rwa [List.take_length] at this
        refine Wl.q (v := Value.bool false) (q_lss (r := false) rfl rfl (decide_eq_false hlt)) ?_
        refine Wl.done ?_
        refine Wx.go ?_
        refine Wc.no rfl ?_
        refine Wc.exit ?_
        refine Wx.thenExit ?_
        refine Wx.thenExit ?_
        refine Wx.out ?_
        refine Wx.go ?_
        refine Wc.seq ?_
        refine Wc.seq ?_
        refine Wc.region ?_
        refine Wl.q (v := Value.int .i64 0) (q_assign rfl) ?_
        refine Wl.done ?_
        refine Wx.go ?_
        refine Wc.block ?_
        refine Wc.loop (X := Nat) (fun k E => E 9 = Value.int .i64 ((k : Nat) : Int) ∧ E 1 = vb ∧ E 5 = Value.pointer (some ⟨x, 0, none⟩) ∧ E 6 = Value.pointer (some ⟨y, 0, none⟩) ∧ E 7 = Value.pointer (some ⟨z, 0, none⟩) ∧ k ≤ b.length) (fun k => (isW y (bytesW (b.take k))) :: (isW z (bytesW a ++ bytesW (b.take k))) :: (isW x (bytesW a)) :: F) (fun k => b.length - k) 0 ?_ ?_ ?_
        · exact ⟨rfl, hE1_2, hE5_2, hE6_2, hE7_2, (by omega)⟩
        · exact fun w hs => by rw [show k = a.length by omega, List.take_length] at hs; rw [show bytesW (b.take 0) = [] from rfl, List.append_nil]; exact (st_pull [2, 1, 0] (hs))
        · rintro k E6 ⟨hE9_4, hE1_4, hE5_4, hE6_4, hE7_4, hp0⟩
          refine Wc.seq ?_
          refine Wc.seq ?_
          refine Wc.region ?_
          refine Wl.q (v := Value.int .i64 ((k : Nat) : Int)) (q_move hE9_4) ?_
          refine Wl.q (v := vb) (q_move hE1_4) ?_
          refine Wl.q (v := Value.int .i64 ((b.length : Nat) : Int)) (q_len_is Try.underlying38 rfl hb.shape) ?_
          by_cases hlt2 : ((k : Nat) : Int) < ((b.length : Nat) : Int)
          ·
            obtain ⟨o, hget⟩ : ∃ o, b[k]? = some o := ⟨b[k]'(by omega), by simp [List.getElem?_eq_getElem (show k < b.length by omega)]⟩
            have hon := hnb o (List.mem_of_getElem? hget)
            have hbt := bytesW_take k hnb hfb
            refine Wl.q (v := Value.bool true) (q_lss (r := true) rfl rfl (decide_eq_true hlt2)) ?_
            refine Wl.done ?_
            refine Wx.go ?_
            refine Wc.yes rfl ?_
            refine Wc.skip ?_
            refine Wx.go ?_
            refine Wc.seq ?_
            refine Wc.block ?_
            refine Wc.seq ?_
            refine Wc.drawsS [] ([]) (by kernel_rfl) ?_
            refine Wr.pure (v := Value.pointer (some ⟨y, 0, none⟩)) 0 rfl (by kernel_rfl) (.inr (fun _ h => st_take [] h)) (.inl ⟨rfl, fun _ => q_move hE6_4⟩) ?_
            refine Wr.pure (v := vb) 1 rfl (by kernel_rfl) (.inr (fun _ h => st_take [] h)) (.inl ⟨rfl, fun _ => q_move hE1_4⟩) ?_
            refine Wr.pure (v := Value.int .i64 ((k : Nat) : Int)) 2 rfl (by kernel_rfl) (.inr (fun _ h => st_take [] h)) (.inl ⟨rfl, fun _ => q_move hE9_4⟩) ?_
            refine Wr.pure (v := Value.pointer (some ⟨(rb vb), ro vb + k * 3, none⟩)) 3 rfl (by kernel_rfl) (.inr (fun _ h => st_take [] h)) (.inl ⟨rfl, fun _ => q_idx_is (m := ro vb + k * 3) se_38 rfl (hb.some_ (by omega)) rfl (by omega) (by omega) rfl⟩) ?_
            refine Wr.take (v := Value.agg #[Value.int .i64 o.kind, Value.int .i64 o.n, Value.string o.s]) 4 rfl (by kernel_rfl) (fun _ h => st_take [] h) (.inl ⟨rfl, q_loadAgg (vs := [Value.int .i64 o.kind, Value.int .i64 o.n, Value.string o.s]) ag_44 rfl (fun j u hj => .old (rdI hb hget j hj))⟩) ?_
            refine Wr.pure (v := Value.pointer (some ⟨z, 0, none⟩)) 6 rfl (by kernel_rfl) (.inr (fun _ h => st_take [] h)) (.inl ⟨rfl, fun _ => q_move hE7_4⟩) ?_
            refine Wr.pure (v := vb) 7 rfl (by kernel_rfl) (.inr (fun _ h => st_take [] h)) (.inl ⟨rfl, fun _ => q_move hE1_4⟩) ?_
            refine Wr.pure (v := Value.int .i64 ((k : Nat) : Int)) 8 rfl (by kernel_rfl) (.inr (fun _ h => st_take [] h)) (.inl ⟨rfl, fun _ => q_move hE9_4⟩) ?_
            refine Wr.pure (v := Value.pointer (some ⟨(rb vb), ro vb + k * 3, none⟩)) 9 rfl (by kernel_rfl) (.inr (fun _ h => st_take [] h)) (.inl ⟨rfl, fun _ => q_idx_is (m := ro vb + k * 3) se_38 rfl (hb.some_ (by omega)) rfl (by omega) (by omega) rfl⟩) ?_
            refine Wr.take (v := Value.agg #[Value.int .i64 o.kind, Value.int .i64 o.n, Value.string o.s]) 10 rfl (by kernel_rfl) (fun _ h => st_take [] h) (.inl ⟨rfl, q_loadAgg (vs := [Value.int .i64 o.kind, Value.int .i64 o.n, Value.string o.s]) ag_44 rfl (fun j u hj => .old (rdI hb hget j hj))⟩) ?_
            refine Wr.e 5 (by kernel_rfl) rfl (e_call (F := (isW z (bytesW a ++ bytesW (b.take k))) :: (isW x (bytesW a)) :: F) (args := [Value.pointer (some ⟨y, 0, none⟩), Value.agg #[Value.int .i64 o.kind, Value.int .i64 o.n, Value.string o.s]]) Try.call21 rfl (write_c W0 y (bytesW (b.take k)) o hon (by first | assumption | omega | (simp only [List.length_append]; omega)))) (.inr fun _ _ _ h => st_take [] h) (fun _ _ => ?_)
            refine Wr.imp (L' := (isW y ((bytesW (b.take k)) ++ (itemW o).2)) :: (isW z (bytesW a ++ bytesW (b.take k))) :: (isW x (bytesW a)) :: F) (fun _ h => h) ?_
            refine Wr.imp (L' := (isW z (bytesW a ++ bytesW (b.take k))) :: (isW y ((bytesW (b.take k)) ++ (itemW o).2)) :: (isW x (bytesW a)) :: F) (fun _ h => st_pull [1] h) ?_
            refine Wr.e 11 (by kernel_rfl) rfl (e_call (F := (isW y ((bytesW (b.take k)) ++ (itemW o).2)) :: (isW x (bytesW a)) :: F) (args := [Value.pointer (some ⟨z, 0, none⟩), Value.agg #[Value.int .i64 o.kind, Value.int .i64 o.n, Value.string o.s]]) Try.call21 rfl (write_c W0 z (bytesW a ++ bytesW (b.take k)) o hon (by first | assumption | omega | (simp only [List.length_append]; omega)))) (.inr fun _ _ _ h => st_take [] h) (fun _ _ => ?_)
            refine Wr.imp (L' := (isW z ((bytesW a ++ bytesW (b.take k)) ++ (itemW o).2)) :: (isW y ((bytesW (b.take k)) ++ (itemW o).2)) :: (isW x (bytesW a)) :: F) (fun _ h => h) ?_
            refine Wr.pure (v := Value.bool false) 12 rfl (by kernel_rfl) (.inr (fun _ h => st_take [] h)) (.inl ⟨rfl, fun _ => q_neq (r := true) rfl rfl (decide_eq_true (rfl))⟩) ?_
            refine Wr.done (by kernel_rfl) ?_
            refine Wx.go ?_
            refine Wc.no rfl ?_
            refine Wc.skip ?_
            refine Wx.blockEnd ?_
            refine Wx.go ?_
            refine Wc.region ?_
            refine Wl.q (v := Value.int .i64 ((k : Nat) : Int)) (q_move hE9_4) ?_
            refine Wl.q (v := Value.int .i64 ((k + 1 : Nat) : Int)) (q_add (c := ((k + 1 : Nat) : Int)) rfl rfl (by rw [wrap_i64] <;> omega)) ?_
            refine Wl.q (v := Value.int .i64 ((k + 1 : Nat) : Int)) (q_assign rfl) ?_
            refine Wl.done ?_
            refine Wx.at (k + 1) ⟨(by omega), rfl, hE1_4, hE5_4, hE6_4, hE7_4, (by omega)⟩ (fun w hs => by rw [bytesW_snoc hget, ← List.append_assoc]; exact (st_pull [1, 0, 0] (hs)))
          ·
            have hendb : k = b.length := by omega
            have hwb := bytesW_take k hnb hfb
            have hba : (bytesW a).length < 18000000000000 := by have := bytesW_take a.length hna hfa; rwa [List.take_length] at this
            refine Wl.q (v := Value.bool false) (q_lss (r := false) rfl rfl (decide_eq_false hlt2)) ?_
            refine Wl.done ?_
            refine Wx.go ?_
            refine Wc.no rfl ?_
            refine Wc.exit ?_
            refine Wx.thenExit ?_
            refine Wx.thenExit ?_
            refine Wx.out ?_
            refine Wx.go ?_
            refine Wc.seq ?_
            refine Wc.region ?_
            refine Wl.q (v := Value.pointer (some ⟨x, 0, none⟩)) (q_move hE5_4) ?_
            refine Wl.imp (L' := (isW x (bytesW a)) :: (isW y (bytesW (b.take k))) :: (isW z (bytesW a ++ bytesW (b.take k))) :: F) (fun _ h => st_pull [2] h) ?_
            refine Wl.e (e_call (F := (isW y (bytesW (b.take k))) :: (isW z (bytesW a ++ bytesW (b.take k))) :: F) (args := [Value.pointer (some ⟨x, 0, none⟩)]) Try.call12 rfl (Con.eqs (val' := fun _ => .string (ba ((bytesW a)))) (wbytes_c W0 x ((bytesW a))) (fun _ => rfl) (fun _ => rfl))) (fun _ _ => ?_)
            refine Wl.imp (L' := (isW x (bytesW a)) :: (isW y (bytesW (b.take k))) :: (isW z (bytesW a ++ bytesW (b.take k))) :: F) (fun _ h => h) ?_
            refine Wl.q (v := Value.pointer (some ⟨y, 0, none⟩)) (q_move hE6_4) ?_
            refine Wl.imp (L' := (isW y (bytesW (b.take k))) :: (isW x (bytesW a)) :: (isW z (bytesW a ++ bytesW (b.take k))) :: F) (fun _ h => st_pull [1] h) ?_
            refine Wl.e (e_call (F := (isW x (bytesW a)) :: (isW z (bytesW a ++ bytesW (b.take k))) :: F) (args := [Value.pointer (some ⟨y, 0, none⟩)]) Try.call12 rfl (Con.eqs (val' := fun _ => .string (ba ((bytesW (b.take k))))) (wbytes_c W0 y ((bytesW (b.take k)))) (fun _ => rfl) (fun _ => rfl))) (fun _ _ => ?_)
            refine Wl.imp (L' := (isW y (bytesW (b.take k))) :: (isW x (bytesW a)) :: (isW z (bytesW a ++ bytesW (b.take k))) :: F) (fun _ h => h) ?_
            refine Wl.q (v := Value.string ((ba ((bytesW a))) ++ (ba ((bytesW (b.take k)))))) (q_cat rfl rfl (by (rw [ba_size, ba_size]; omega)) rfl) ?_
            refine Wl.q (v := Value.pointer (some ⟨z, 0, none⟩)) (q_move hE7_4) ?_
            refine Wl.imp (L' := (isW z (bytesW a ++ bytesW (b.take k))) :: (isW y (bytesW (b.take k))) :: (isW x (bytesW a)) :: F) (fun _ h => st_pull [2] h) ?_
            refine Wl.e (e_call (F := (isW y (bytesW (b.take k))) :: (isW x (bytesW a)) :: F) (args := [Value.pointer (some ⟨z, 0, none⟩)]) Try.call12 rfl (Con.eqs (val' := fun _ => .string (ba ((bytesW a ++ bytesW (b.take k))))) (wbytes_c W0 z ((bytesW a ++ bytesW (b.take k)))) (fun _ => rfl) (fun _ => rfl))) (fun _ _ => ?_)
            refine Wl.imp (L' := (isW z (bytesW a ++ bytesW (b.take k))) :: (isW y (bytesW (b.take k))) :: (isW x (bytesW a)) :: F) (fun _ h => h) ?_
            refine Wl.q (v := Value.bool true) (q_eql_str (r := true) rfl rfl (text_true (ba_cat _ _))) ?_
            refine Wl.q (v := Value.bool true) (q_move rfl) ?_
            refine Wl.e (e_call (F := (isW z (bytesW a ++ bytesW (b.take k))) :: (isW y (bytesW (b.take k))) :: (isW x (bytesW a)) :: F) (args := []) Try.call13 rfl (alive_c W0)) (fun _ _ => ?_)
            refine Wl.imp (L' := (isW z (bytesW a ++ bytesW (b.take k))) :: (isW y (bytesW (b.take k))) :: (isW x (bytesW a)) :: F) (fun _ h => h) ?_
            refine Wl.q (v := Value.bool true) (q_pick (t := true) rfl rfl) ?_
            refine Wl.q (v := Value.bool true) (q_assign rfl) ?_
            refine Wl.done ?_
            refine Wx.go ?_
            refine Wc.ret ?_
            refine Wx.fin1 rfl (.inl rfl) (fun w hs => ?_)
            exact ⟨(), trivial, rfl, (st_drop (st_drop (st_drop (st_pull [0, 0, 0] hs))))⟩

end Go.Proofs.Ytlbanhhdoiidnaa
