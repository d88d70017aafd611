/- The wire: contracts of its calls. -/
import Derived.Test.YtlbanhhdoiidnaaWrH
namespace Go.Proofs.Ytlbanhhdoiidnaa
open Go Go.SL Go.Wr Go.RowKit
open Go.Dk (beyondF beyondB beyond_step beyond_le beyond_one beyond_two)
set_option linter.unusedVariables false
theorem ag_44 : aggSize Try.prog 44 = some 3 := by kernel_rfl
theorem writes_law (W0 : World) (vl : Value) (l : List ItemR) (hl : Rd W0 vl l.length (l.flatMap itemCells)) (hlm : l.length ≤ 9223372036854775807) (hnl : ∀ x ∈ l, -9223372036854775808 ≤ x.n ∧ x.n ≤ 9223372036854775807) :
    Con Try.prog W0 5 #[vl] [] (X := Unit) (fun _ => True) (fun _ => .bool true) (fun _ => []) := by
  refine Con.of (args := [vl]) Try.func5 rfl Try.ntmps5 rfl (fun F => ?_)
  show Wc _ W0 _ _ _ _ _ (F)
  refine Wc.seq ?_
  refine Wc.region ?_
  refine Wl.q (v := Value.bool false) (q_assign rfl) ?_
  refine Wl.done ?_
  refine Wx.go ?_
  refine Wc.seq ?_
  refine Wc.seq ?_
  refine Wc.region ?_
  refine Wl.q (v := vl) (q_move rfl) ?_
  refine Wl.e (e_call (F := F) (args := [vl]) Try.call19 rfl (isize_c W0 vl l hl hlm)) (fun sa ⟨hsa, isa⟩ => ?_)
  refine Wl.imp (L' := F) (fun _ h => h) ?_
  refine Wl.e (e_buildSlice (cs := [Value.int .i64 sa]) se_29 zo_3 (by decide) (by decide) (by kernel_rfl)) (fun b1 _ => ?_)
  refine Wl.imp (L' := (pt b1 3 [Value.int .i64 sa]) :: F) (fun _ h => h) ?_
  refine Wl.e (e_call (F := F) (args := [Value.slice (some ⟨b1, 0, none⟩) 1 1]) Try.call14 rfl (beyond_c W0 b1 ([sa] : List Int) (by simp) (by simp; omega))) (fun _ _ => ?_)
  refine Wl.imp (L' := (pt b1 3 [Value.int .i64 sa]) :: F) (fun _ h => h) ?_
  refine Wl.done ?_
  refine Wx.go ?_
  refine Wc.both (b := beyondB ([sa] : List Int)) rfl (fun hb2 => ?_) (fun hb2 => ?_)
  ·
    refine Wc.seq ?_
    refine Wc.region ?_
    refine Wl.q (v := Value.bool true) (q_assign rfl) ?_
    refine Wl.done ?_
    refine Wx.go ?_
    refine Wc.ret ?_
    refine Wx.thenRet ?_
    refine Wx.fin1 rfl (.inl rfl) (fun w hs => ?_)
    exact ⟨(), trivial, rfl, (st_drop (st_pull [0] hs))⟩
  ·
    have hf : l.length < 268435456 := (few1 hb2 isa)
    refine Wc.skip ?_
    refine Wx.go ?_
    refine Wc.seq ?_
    refine Wc.region ?_
    refine Wl.e (e_call (F := (pt b1 3 [Value.int .i64 sa]) :: F) (args := []) Try.call10 rfl (wnew_c W0)) (fun q _ => ?_)
    refine Wl.imp (L' := (isW q []) :: (pt b1 3 [Value.int .i64 sa]) :: F) (fun _ h => h) ?_
    refine Wl.q (v := Value.pointer (some ⟨q, 0, none⟩)) (q_assign rfl) ?_
    refine Wl.done ?_
    refine Wx.go ?_
    refine Wc.seq ?_
    refine Wc.seq ?_
    refine Wc.region ?_
    refine Wl.q (v := Value.pointer (some ⟨q, 0, none⟩)) (q_move rfl) ?_
    refine Wl.q (v := Value.bool false) (q_eql_nil (r := false) rfl rfl Try.underlying22 rfl) ?_
    refine Wl.done ?_
    refine Wx.go ?_
    refine Wc.no rfl ?_
    refine Wc.skip ?_
    refine Wx.go ?_
    refine Wc.seq ?_
    refine Wc.region ?_
    refine Wl.q (v := Value.slice none 0 0) (q_assign rfl) ?_
    refine Wl.done ?_
    refine Wx.go ?_
    refine Wc.seq ?_
    refine Wc.seq ?_
    refine Wc.region ?_
    refine Wl.q (v := Value.int .i64 0) (q_assign rfl) ?_
    refine Wl.done ?_
    refine Wx.go ?_
    refine Wc.block ?_
    refine Wc.loop (X := Nat × Value) (fun (k, v) E => E 5 = Value.int .i64 ((k : Nat) : Int) ∧ E 4 = v ∧ E 0 = vl ∧ E 3 = Value.pointer (some ⟨q, 0, none⟩) ∧ k ≤ l.length) (fun (k, v) => (isW q (bytesW (l.take k))) :: (sl 5 1 v ((bytesW (l.take k)).length) ((bytesW (l.take k)).map u8v)) :: F) (fun (k, v) => l.length - k) (0, Value.slice none 0 0) ?_ ?_ ?_
    · exact ⟨rfl, rfl, rfl, rfl, (by omega)⟩
    · exact fun w hs => st_swap (st_sl_nil (st_drop (st_pull [1] hs)))
    · rintro ⟨k, v⟩ E4 ⟨hE5_2, hE4_2, hE0_2, hE3_2, hp0⟩
      dsimp only at *
      refine Wc.seq ?_
      refine Wc.seq ?_
      refine Wc.region ?_
      refine Wl.q (v := Value.int .i64 ((k : Nat) : Int)) (q_move hE5_2) ?_
      refine Wl.q (v := vl) (q_move hE0_2) ?_
      refine Wl.q (v := Value.int .i64 ((l.length : Nat) : Int)) (q_len_is Try.underlying38 rfl hl.shape) ?_
      by_cases hlt : ((k : Nat) : Int) < ((l.length : Nat) : Int)
      ·
        obtain ⟨o, hget⟩ : ∃ o, l[k]? = some o := ⟨l[k]'(by omega), by simp [List.getElem?_eq_getElem (show k < l.length by omega)]⟩
        have hon := hnl o (List.mem_of_getElem? hget)
        have hbt := bytesW_take k hnl hf
        refine Wl.q (v := Value.bool true) (q_lss (r := true) rfl rfl (decide_eq_true hlt)) ?_
        refine Wl.done ?_
        refine Wx.go ?_
        refine Wc.yes rfl ?_
        refine Wc.skip ?_
        refine Wx.go ?_
        refine Wc.seq ?_
        refine Wc.block ?_
        refine Wc.seq ?_
        refine Wc.region ?_
        refine Wl.q (v := vl) (q_move hE0_2) ?_
        refine Wl.q (v := Value.int .i64 ((k : Nat) : Int)) (q_move hE5_2) ?_
        refine Wl.q (v := Value.pointer (some ⟨(rb vl), ro vl + k * 3, none⟩)) (q_idx_is (m := ro vl + k * 3) se_38 rfl (hl.some_ (by omega)) rfl (by omega) (by omega) rfl) ?_
        refine Wl.q (v := Value.agg #[Value.int .i64 o.kind, Value.int .i64 o.n, Value.string o.s]) (q_loadAgg (vs := [Value.int .i64 o.kind, Value.int .i64 o.n, Value.string o.s]) ag_44 rfl (fun j u hj => .old (rdI hl hget j hj))) ?_
        refine Wl.e (e_call (F := (isW q (bytesW (l.take k))) :: (sl 5 1 v ((bytesW (l.take k)).length) ((bytesW (l.take k)).map u8v)) :: F) (args := [Value.string (⟨#[]⟩), Value.agg #[Value.int .i64 o.kind, Value.int .i64 o.n, Value.string o.s]]) Try.call20 rfl (written_c W0 o hon)) (fun _ _ => ?_)
        refine Wl.imp (L' := (isW q (bytesW (l.take k))) :: (sl 5 1 v ((bytesW (l.take k)).length) ((bytesW (l.take k)).map u8v)) :: F) (fun _ h => h) ?_
        refine Wl.q (v := Value.tuple #[Value.string (ba (itemW o).2), Value.int .i64 ((itemW o).1)]) (q_move rfl) ?_
        refine Wl.q (v := Value.string (ba (itemW o).2)) (q_extract (i := 0) rfl rfl) ?_
        refine Wl.q (v := Value.int .i64 ((itemW o).1)) (q_extract (i := 1) rfl rfl) ?_
        refine Wl.q (v := Value.string (ba (itemW o).2)) (q_assign rfl) ?_
        refine Wl.q (v := Value.int .i64 ((itemW o).1)) (q_assign rfl) ?_
        refine Wl.done ?_
        refine Wx.go ?_
        refine Wc.seq ?_
        refine Wc.seq ?_
        refine Wc.region ?_
        refine Wl.q (v := Value.pointer (some ⟨q, 0, none⟩)) (q_move hE3_2) ?_
        refine Wl.q (v := vl) (q_move hE0_2) ?_
        refine Wl.q (v := Value.int .i64 ((k : Nat) : Int)) (q_move hE5_2) ?_
        refine Wl.q (v := Value.pointer (some ⟨(rb vl), ro vl + k * 3, none⟩)) (q_idx_is (m := ro vl + k * 3) se_38 rfl (hl.some_ (by omega)) rfl (by omega) (by omega) rfl) ?_
        refine Wl.q (v := Value.agg #[Value.int .i64 o.kind, Value.int .i64 o.n, Value.string o.s]) (q_loadAgg (vs := [Value.int .i64 o.kind, Value.int .i64 o.n, Value.string o.s]) ag_44 rfl (fun j u hj => .old (rdI hl hget j hj))) ?_
        refine Wl.e (e_call (F := (sl 5 1 v ((bytesW (l.take k)).length) ((bytesW (l.take k)).map u8v)) :: F) (args := [Value.pointer (some ⟨q, 0, none⟩), Value.agg #[Value.int .i64 o.kind, Value.int .i64 o.n, Value.string o.s]]) Try.call21 rfl (write_c W0 q (bytesW (l.take k)) o hon (by first | assumption | omega | (simp only [List.length_append]; omega)))) (fun _ _ => ?_)
        refine Wl.imp (L' := (isW q ((bytesW (l.take k)) ++ (itemW o).2)) :: (sl 5 1 v ((bytesW (l.take k)).length) ((bytesW (l.take k)).map u8v)) :: F) (fun _ h => h) ?_
        refine Wl.q (v := Value.int .i64 ((itemW o).1)) (q_move rfl) ?_
        refine Wl.q (v := Value.bool false) (q_neq (r := true) rfl rfl (decide_eq_true (rfl))) ?_
        refine Wl.done ?_
        refine Wx.go ?_
        refine Wc.no rfl ?_
        refine Wc.skip ?_
        refine Wx.go ?_
        refine Wc.seq ?_
        refine Wc.region ?_
        refine Wl.q (v := Value.int .i64 ((itemW o).1)) (q_move rfl) ?_
        by_cases hok : (itemW o).1 = 0
        ·
          refine Wl.q (v := Value.bool true) (q_eql (r := true) rfl rfl (decide_eq_true hok)) ?_
          refine Wl.done ?_
          refine Wx.go ?_
          refine Wc.yes rfl ?_
          refine Wc.region ?_
          refine Wl.q (v := v) (q_move hE4_2) ?_
          refine Wl.q (v := Value.string (ba (itemW o).2)) (q_move rfl) ?_
          refine Wl.e (e_appendStr (i := 1) (s := (ba (itemW o).2)) Try.underlying40 Try.underlying9 sz_5 by_5 zo_5 rfl rfl rfl (by have := itemW_len o hon; simp only [maxLen, ba_size]; omega) (by have := itemW_len o hon; rw [ba_size]; omega)) (fun v2 _ => ?_)
          refine Wl.imp (L' := (isW q ((bytesW (l.take k)) ++ (itemW o).2)) :: (sl 5 1 v2 (((bytesW (l.take k)).length) + (ba (itemW o).2).size) (((bytesW (l.take k)).map u8v) ++ Lib.strCells (ba (itemW o).2))) :: F) (fun _ h => h) ?_
          refine Wl.q (v := v2) (q_assign rfl) ?_
          refine Wl.done ?_
          refine Wx.blockEnd ?_
          refine Wx.go ?_
          refine Wc.region ?_
          refine Wl.q (v := Value.int .i64 ((k : Nat) : Int)) (q_move hE5_2) ?_
          refine Wl.q (v := Value.int .i64 ((k + 1 : Nat) : Int)) (q_add (c := ((k + 1 : Nat) : Int)) rfl rfl (by rw [wrap_i64] <;> omega)) ?_
          refine Wl.q (v := Value.int .i64 ((k + 1 : Nat) : Int)) (q_assign rfl) ?_
          refine Wl.done ?_
          refine Wx.at (k + 1, v2) ⟨(by simp only; omega), rfl, rfl, hE0_2, hE3_2, (by simp only; omega)⟩ (fun w hs => by rw [bytesW_snoc hget]; have hs := hs; rw [strCells_ba, ← List.map_append, ba_size, ← List.length_append] at hs; exact hs)
        ·
          refine Wl.q (v := Value.bool false) (q_eql (r := false) rfl rfl (decide_eq_false hok)) ?_
          refine Wl.done ?_
          refine Wx.go ?_
          refine Wc.no rfl ?_
          refine Wc.skip ?_
          refine Wx.blockEnd ?_
          refine Wx.go ?_
          refine Wc.region ?_
          refine Wl.q (v := Value.int .i64 ((k : Nat) : Int)) (q_move hE5_2) ?_
          refine Wl.q (v := Value.int .i64 ((k + 1 : Nat) : Int)) (q_add (c := ((k + 1 : Nat) : Int)) rfl rfl (by rw [wrap_i64] <;> omega)) ?_
          refine Wl.q (v := Value.int .i64 ((k + 1 : Nat) : Int)) (q_assign rfl) ?_
          refine Wl.done ?_
          refine Wx.at (k + 1, v) ⟨(by simp only; omega), rfl, hE4_2, hE0_2, hE3_2, (by simp only; omega)⟩ (fun w hs => by rw [bytesW_snoc hget]; have hs := hs; rw [itemW_bad hok, List.append_nil] at hs ⊢; exact hs)
      ·
        have hend : k = l.length := by omega
        have hbt := bytesW_take k hnl hf
        refine Wl.q (v := Value.bool false) (q_lss (r := false) rfl rfl (decide_eq_false hlt)) ?_
        refine Wl.done ?_
        refine Wx.go ?_
        refine Wc.no rfl ?_
        refine Wc.exit ?_
        refine Wx.thenExit ?_
        refine Wx.thenExit ?_
        refine Wx.out ?_
        refine Wx.go ?_
        refine Wc.seq ?_
        refine Wc.drawsS [6] ((isW q (bytesW (l.take k))) :: (sl 5 1 v ((bytesW (l.take k)).length) ((bytesW (l.take k)).map u8v)) :: []) (by kernel_rfl) ?_
        refine Wr.pure (v := Value.pointer (some ⟨q, 0, none⟩)) 0 rfl (by kernel_rfl) (.inr (fun _ h => st_take [0, 0] h)) (.inl ⟨rfl, fun _ => q_move hE3_2⟩) ?_
        refine Wr.pure (v := v) 2 rfl (by kernel_rfl) (.inr (fun _ h => st_take [0, 0] h)) (.inl ⟨rfl, fun _ => q_move hE4_2⟩) ?_
        refine Wr.take (v := Value.string (⟨(bytesW (l.take k)).toArray⟩)) 3 rfl (by kernel_rfl) (fun _ h => st_take [0, 0] h) (.inl ⟨rfl, q_str_sl (i := 1) (l := bytesW (l.take k)) Try.underlying40 Try.underlying5 Try.underlying9 rfl rfl rfl⟩) ?_
        refine Wr.e 1 (by kernel_rfl) rfl (e_call (F := (sl 5 1 v ((bytesW (l.take k)).length) ((bytesW (l.take k)).map u8v)) :: F) (args := [Value.pointer (some ⟨q, 0, none⟩)]) Try.call12 rfl (wbytes_c W0 q (bytesW (l.take k)))) (.inr fun _ _ _ h => st_take [0, 0] h) (fun _ _ => ?_)
        refine Wr.imp (L' := (isW q (bytesW (l.take k))) :: (sl 5 1 v ((bytesW (l.take k)).length) ((bytesW (l.take k)).map u8v)) :: F) (fun _ h => h) ?_
        refine Wr.pure (v := Value.bool true) 4 rfl (by kernel_rfl) (.inr (fun _ h => st_take [0, 0] h)) (.inl ⟨rfl, fun _ => q_eql_str (r := true) rfl rfl (text_true (rfl))⟩) ?_
        refine Wr.pure (v := Value.bool true) 5 rfl (by kernel_rfl) (.inr (fun _ h => st_take [0, 0] h)) (.inl ⟨rfl, fun _ => q_move rfl⟩) ?_
        refine Wr.e 6 (by kernel_rfl) rfl (e_call (F := (isW q (bytesW (l.take k))) :: (sl 5 1 v ((bytesW (l.take k)).length) ((bytesW (l.take k)).map u8v)) :: F) (args := []) Try.call13 rfl (alive_c W0)) (.inl (by kernel_rfl)) (fun _ _ => ?_)
        refine Wr.imp (L' := (isW q (bytesW (l.take k))) :: (sl 5 1 v ((bytesW (l.take k)).length) ((bytesW (l.take k)).map u8v)) :: F) (fun _ h => h) ?_
        refine Wr.rebaseS [] ((isW q (bytesW (l.take k))) :: (sl 5 1 v ((bytesW (l.take k)).length) ((bytesW (l.take k)).map u8v)) :: []) (by kernel_rfl) ?_
        refine Wr.pure (v := Value.bool true) 7 rfl (by kernel_rfl) (.inr (fun _ h => st_take [0, 0] h)) (.inl ⟨rfl, fun _ => q_pick (t := true) rfl rfl⟩) ?_
        refine Wr.pure (v := Value.bool true) 8 rfl (by kernel_rfl) (.inr (fun _ h => st_take [0, 0] h)) (.inl ⟨rfl, fun _ => q_assign rfl⟩) ?_
        refine Wr.done (by kernel_rfl) ?_
        refine Wx.go ?_
        refine Wc.ret ?_
        refine Wx.fin1 rfl (.inl rfl) (fun w hs => ?_)
        exact ⟨(), trivial, rfl, (st_drop (st_drop (st_pull [0, 0] hs)))⟩

end Go.Proofs.Ytlbanhhdoiidnaa
