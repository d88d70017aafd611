/- The wire: contracts of its calls. -/
import Derived.Test.YtlbanhhdoiidnaaWrI
import Derived.Test.YtlbanhhdoiidnaaWrO
namespace Go.Proofs.Ytlbanhhdoiidnaa
open Go Go.SL Go.Wr Go.RowKit
open Go.Dk (beyondF beyondB beyond_step beyond_le beyond_one beyond_two)
set_option linter.unusedVariables false
theorem ag_44 : aggSize Try.prog 44 = some 3 := by kernel_rfl
theorem zo_44 : zeroOf Try.prog 44 = some (Value.agg #[Value.int .i64 0, Value.int .i64 0, Value.string (⟨#[]⟩)]) := by kernel_rfl
theorem sz_44 : sizeIs Try.prog 44 = some 3 := by kernel_rfl
theorem by_44 : (Try.prog.info? 44).map (·.bytes) = some 32 := by kernel_rfl
set_option maxRecDepth 4000 in
theorem back_law (W0 : World) (vl : Value) (l : List ItemR) (hl : Rd W0 vl l.length (l.flatMap itemCells)) (hlm : l.length ≤ 9223372036854775807) (hnl : ∀ x ∈ l, -9223372036854775808 ≤ x.n ∧ x.n ≤ 9223372036854775807) :
    Con Try.prog W0 7 #[vl] [] (X := Unit) (fun _ => True) (fun _ => .bool true) (fun _ => []) := by
  refine Con.of (args := [vl]) Try.func7 rfl Try.ntmps7 rfl (fun F => ?_)
  show Wc _ W0 _ _ _ _ _ (F)
  refine Wc.seq ?_
  refine Wc.region ?_
  refine Wl.q (v := Value.bool false) (q_assign rfl) ?_
  refine Wl.done ?_
  refine Wx.go ?_
  refine Wc.seq ?_
  refine Wc.seq ?_
  refine Wc.region ?_
  refine Wl.q (v := vl) (q_move rfl) ?_
  refine Wl.e (e_call (F := F) (args := [vl]) Try.call19 rfl (isize_c W0 vl l hl hlm)) (fun sa ⟨hsa, isa⟩ => ?_)
  refine Wl.imp (L' := F) (fun _ h => h) ?_
  refine Wl.e (e_buildSlice (cs := [Value.int .i64 sa]) se_29 zo_3 (by decide) (by decide) (by kernel_rfl)) (fun b1 _ => ?_)
  refine Wl.imp (L' := (pt b1 3 [Value.int .i64 sa]) :: F) (fun _ h => h) ?_
  refine Wl.e (e_call (F := F) (args := [Value.slice (some ⟨b1, 0, none⟩) 1 1]) Try.call14 rfl (beyond_c W0 b1 ([sa] : List Int) (by simp) (by simp; omega))) (fun _ _ => ?_)
  refine Wl.imp (L' := (pt b1 3 [Value.int .i64 sa]) :: F) (fun _ h => h) ?_
  refine Wl.done ?_
  refine Wx.go ?_
  refine Wc.both (b := beyondB ([sa] : List Int)) rfl (fun hb2 => ?_) (fun hb2 => ?_)
  ·
    refine Wc.seq ?_
    refine Wc.region ?_
    refine Wl.q (v := Value.bool true) (q_assign rfl) ?_
    refine Wl.done ?_
    refine Wx.go ?_
    refine Wc.ret ?_
    refine Wx.thenRet ?_
    refine Wx.fin1 rfl (.inl rfl) (fun w hs => ?_)
    exact ⟨(), trivial, rfl, (st_drop (st_pull [0] hs))⟩
  ·
    have hf : l.length < 268435456 := (few1 hb2 isa)
    refine Wc.skip ?_
    refine Wx.go ?_
    refine Wc.seq ?_
    refine Wc.region ?_
    refine Wl.e (e_call (F := (pt b1 3 [Value.int .i64 sa]) :: F) (args := []) Try.call10 rfl (wnew_c W0)) (fun q _ => ?_)
    refine Wl.imp (L' := (isW q []) :: (pt b1 3 [Value.int .i64 sa]) :: F) (fun _ h => h) ?_
    refine Wl.q (v := Value.pointer (some ⟨q, 0, none⟩)) (q_assign rfl) ?_
    refine Wl.done ?_
    refine Wx.go ?_
    refine Wc.seq ?_
    refine Wc.seq ?_
    refine Wc.region ?_
    refine Wl.q (v := Value.pointer (some ⟨q, 0, none⟩)) (q_move rfl) ?_
    refine Wl.q (v := Value.bool false) (q_eql_nil (r := false) rfl rfl Try.underlying22 rfl) ?_
    refine Wl.done ?_
    refine Wx.go ?_
    refine Wc.no rfl ?_
    refine Wc.skip ?_
    refine Wx.go ?_
    refine Wc.seq ?_
    refine Wc.region ?_
    refine Wl.q (v := Value.slice none 0 0) (q_assign rfl) ?_
    refine Wl.done ?_
    refine Wx.go ?_
    refine Wc.seq ?_
    refine Wc.seq ?_
    refine Wc.region ?_
    refine Wl.q (v := Value.int .i64 0) (q_assign rfl) ?_
    refine Wl.done ?_
    refine Wx.go ?_
    refine Wc.block ?_
    refine Wc.loop (X := Nat × Value) (fun (k, v) E => E 5 = Value.int .i64 ((k : Nat) : Int) ∧ E 4 = v ∧ E 0 = vl ∧ E 3 = Value.pointer (some ⟨q, 0, none⟩) ∧ k ≤ l.length) (fun (k, v) => (isW q (bytesW (l.take k))) :: (sl 44 3 v (((l.take k).filter okI).length) (((l.take k).filter okI).flatMap itemCells)) :: F) (fun (k, v) => l.length - k) (0, Value.slice none 0 0) ?_ ?_ ?_
    · exact ⟨rfl, rfl, rfl, rfl, (by omega)⟩
    · exact fun w hs => st_swap (st_sl_nil (st_drop (st_pull [1] hs)))
    · rintro ⟨k, v⟩ E4 ⟨hE5_2, hE4_2, hE0_2, hE3_2, hp0⟩
      dsimp only at *
      refine Wc.seq ?_
      refine Wc.seq ?_
      refine Wc.region ?_
      refine Wl.q (v := Value.int .i64 ((k : Nat) : Int)) (q_move hE5_2) ?_
      refine Wl.q (v := vl) (q_move hE0_2) ?_
      refine Wl.q (v := Value.int .i64 ((l.length : Nat) : Int)) (q_len_is Try.underlying38 rfl hl.shape) ?_
      by_cases hlt : ((k : Nat) : Int) < ((l.length : Nat) : Int)
      ·
        obtain ⟨o, hget⟩ : ∃ o, l[k]? = some o := ⟨l[k]'(by omega), by simp [List.getElem?_eq_getElem (show k < l.length by omega)]⟩
        have hon := hnl o (List.mem_of_getElem? hget)
        have hbt := bytesW_take k hnl hf
        have hTl := filt_len (l := l) (k := k)
        refine Wl.q (v := Value.bool true) (q_lss (r := true) rfl rfl (decide_eq_true hlt)) ?_
        refine Wl.done ?_
        refine Wx.go ?_
        refine Wc.yes rfl ?_
        refine Wc.skip ?_
        refine Wx.go ?_
        refine Wc.seq ?_
        refine Wc.block ?_
        refine Wc.seq ?_
        refine Wc.region ?_
        refine Wl.q (v := Value.pointer (some ⟨q, 0, none⟩)) (q_move hE3_2) ?_
        refine Wl.q (v := vl) (q_move hE0_2) ?_
        refine Wl.q (v := Value.int .i64 ((k : Nat) : Int)) (q_move hE5_2) ?_
        refine Wl.q (v := Value.pointer (some ⟨(rb vl), ro vl + k * 3, none⟩)) (q_idx_is (m := ro vl + k * 3) se_38 rfl (hl.some_ (by omega)) rfl (by omega) (by omega) rfl) ?_
        refine Wl.q (v := Value.agg #[Value.int .i64 o.kind, Value.int .i64 o.n, Value.string o.s]) (q_loadAgg (vs := [Value.int .i64 o.kind, Value.int .i64 o.n, Value.string o.s]) ag_44 rfl (fun j u hj => .old (rdI hl hget j hj))) ?_
        refine Wl.e (e_call (F := (sl 44 3 v (((l.take k).filter okI).length) (((l.take k).filter okI).flatMap itemCells)) :: F) (args := [Value.pointer (some ⟨q, 0, none⟩), Value.agg #[Value.int .i64 o.kind, Value.int .i64 o.n, Value.string o.s]]) Try.call21 rfl (write_c W0 q (bytesW (l.take k)) o hon (by first | assumption | omega | (simp only [List.length_append]; omega)))) (fun _ _ => ?_)
        refine Wl.imp (L' := (isW q ((bytesW (l.take k)) ++ (itemW o).2)) :: (sl 44 3 v (((l.take k).filter okI).length) (((l.take k).filter okI).flatMap itemCells)) :: F) (fun _ h => h) ?_
        by_cases hok : (itemW o).1 = 0
        ·
          refine Wl.q (v := Value.bool true) (q_eql (r := true) rfl rfl (decide_eq_true hok)) ?_
          refine Wl.done ?_
          refine Wx.go ?_
          refine Wc.yes rfl ?_
          refine Wc.region ?_
          refine Wl.q (v := v) (q_move hE4_2) ?_
          refine Wl.q (v := vl) (q_move hE0_2) ?_
          refine Wl.q (v := Value.int .i64 ((k : Nat) : Int)) (q_move hE5_2) ?_
          refine Wl.q (v := Value.pointer (some ⟨(rb vl), ro vl + k * 3, none⟩)) (q_idx_is (m := ro vl + k * 3) se_38 rfl (hl.some_ (by omega)) rfl (by omega) (by omega) rfl) ?_
          refine Wl.q (v := Value.agg #[Value.int .i64 o.kind, Value.int .i64 o.n, Value.string o.s]) (q_loadAgg (vs := [Value.int .i64 o.kind, Value.int .i64 o.n, Value.string o.s]) ag_44 rfl (fun j u hj => .old (rdI hl hget j hj))) ?_
          refine Wl.e (e_buildSlice (cs := [Value.int .i64 o.kind, Value.int .i64 o.n, Value.string o.s]) se_38 zo_44 (by decide) (by decide) (by kernel_rfl)) (fun b5 _ => ?_)
          refine Wl.imp (L' := (pt b5 44 [Value.int .i64 o.kind, Value.int .i64 o.n, Value.string o.s]) :: (isW q ((bytesW (l.take k)) ++ (itemW o).2)) :: (sl 44 3 v (((l.take k).filter okI).length) (((l.take k).filter okI).flatMap itemCells)) :: F) (fun _ h => h) ?_
          refine Wl.e (e_append (i := 2) (k := 3) (m := 1) (off := 0) (news := [Value.int .i64 o.kind, Value.int .i64 o.n, Value.string o.s]) Try.underlying38 sz_44 by_44 zo_44 rfl rfl rfl rfl rfl (Has.of_pt (i := 0) rfl rfl) rfl (by decide) (by simp only [maxLen]; omega) (by omega)) (fun v2 _ => ?_)
          refine Wl.imp (L' := (pt b5 44 [Value.int .i64 o.kind, Value.int .i64 o.n, Value.string o.s]) :: (isW q ((bytesW (l.take k)) ++ (itemW o).2)) :: (sl 44 3 v2 ((((l.take k).filter okI).length) + 1) ((((l.take k).filter okI).flatMap itemCells) ++ [Value.int .i64 o.kind, Value.int .i64 o.n, Value.string o.s])) :: F) (fun _ h => h) ?_
          refine Wl.q (v := v2) (q_assign rfl) ?_
          refine Wl.done ?_
          refine Wx.blockEnd ?_
          refine Wx.go ?_
          refine Wc.region ?_
          refine Wl.q (v := Value.int .i64 ((k : Nat) : Int)) (q_move hE5_2) ?_
          refine Wl.q (v := Value.int .i64 ((k + 1 : Nat) : Int)) (q_add (c := ((k + 1 : Nat) : Int)) rfl rfl (by rw [wrap_i64] <;> omega)) ?_
          refine Wl.q (v := Value.int .i64 ((k + 1 : Nat) : Int)) (q_assign rfl) ?_
          refine Wl.done ?_
          refine Wx.at (k + 1, v2) ⟨(by simp only; omega), rfl, rfl, hE0_2, hE3_2, (by simp only; omega)⟩ (fun w hs => by have hs := (st_drop (st_pull [0] hs)); rw [bytesW_snoc hget]; rw [filt_snoc hget hok, List.length_append, List.flatMap_append]; exact hs)
        ·
          refine Wl.q (v := Value.bool false) (q_eql (r := false) rfl rfl (decide_eq_false hok)) ?_
          refine Wl.done ?_
          refine Wx.go ?_
          refine Wc.no rfl ?_
          refine Wc.skip ?_
          refine Wx.blockEnd ?_
          refine Wx.go ?_
          refine Wc.region ?_
          refine Wl.q (v := Value.int .i64 ((k : Nat) : Int)) (q_move hE5_2) ?_
          refine Wl.q (v := Value.int .i64 ((k + 1 : Nat) : Int)) (q_add (c := ((k + 1 : Nat) : Int)) rfl rfl (by rw [wrap_i64] <;> omega)) ?_
          refine Wl.q (v := Value.int .i64 ((k + 1 : Nat) : Int)) (q_assign rfl) ?_
          refine Wl.done ?_
          refine Wx.at (k + 1, v) ⟨(by simp only; omega), rfl, hE4_2, hE0_2, hE3_2, (by simp only; omega)⟩ (fun w hs => by have hs := hs; rw [bytesW_snoc hget]; rw [filt_same hget hok]; rw [itemW_bad hok] at hs ⊢; exact hs)
      ·
        have hend : k = l.length := by omega
        have hbt := bytesW_take k hnl hf
        have hwT := (bytesW_filter (l.take k)).symm
        have hTn : ∀ x ∈ (l.take k).filter okI, (itemW x).1 = 0 ∧ -9223372036854775808 ≤ x.n ∧ x.n ≤ 9223372036854775807 := fun x hx => ⟨by simpa [okI] using (List.mem_filter.1 hx).2, hnl x (List.mem_of_mem_take (List.mem_filter.1 hx).1)⟩
        have hTl := filt_len (l := l) (k := k)
        generalize (l.take k).filter okI = T at hwT hTn hTl ⊢
        rw [hwT] at hbt ⊢
        have hsT : (ba (bytesW T)).size = (bytesW T).length := ba_size _
        refine Wl.q (v := Value.bool false) (q_lss (r := false) rfl rfl (decide_eq_false hlt)) ?_
        refine Wl.done ?_
        refine Wx.go ?_
        refine Wc.no rfl ?_
        refine Wc.exit ?_
        refine Wx.thenExit ?_
        refine Wx.thenExit ?_
        refine Wx.out ?_
        refine Wx.go ?_
        refine Wc.seq ?_
        refine Wc.region ?_
        refine Wl.q (v := Value.pointer (some ⟨q, 0, none⟩)) (q_move hE3_2) ?_
        refine Wl.e (e_call (F := (sl 44 3 v T.length (T.flatMap itemCells)) :: F) (args := [Value.pointer (some ⟨q, 0, none⟩)]) Try.call12 rfl (Con.eqs (val' := fun _ => .string (ba (bytesW T))) (wbytes_c W0 q (bytesW T)) (fun _ => rfl) (fun _ => rfl))) (fun _ _ => ?_)
        refine Wl.imp (L' := (isW q (bytesW T)) :: (sl 44 3 v T.length (T.flatMap itemCells)) :: F) (fun _ h => h) ?_
        refine Wl.q (v := Value.string (ba (bytesW T))) (q_assign rfl) ?_
        refine Wl.done ?_
        refine Wx.go ?_
        refine Wc.seq ?_
        refine Wc.region ?_
        refine Wl.q (v := Value.string (ba (bytesW T))) (q_move rfl) ?_
        refine Wl.e (e_call (F := (isW q (bytesW T)) :: (sl 44 3 v T.length (T.flatMap itemCells)) :: F) (args := [Value.string (ba (bytesW T))]) Try.call15 rfl (rnew_c W0 (ba (bytesW T)))) (fun r _ => ?_)
        refine Wl.imp (L' := (pt r 59 [Value.bool true, Value.string (ba (bytesW T)), Value.int .i64 0]) :: (isW q (bytesW T)) :: (sl 44 3 v T.length (T.flatMap itemCells)) :: F) (fun _ h => h) ?_
        refine Wl.q (v := Value.pointer (some ⟨r, 0, none⟩)) (q_assign rfl) ?_
        refine Wl.done ?_
        refine Wx.go ?_
        refine Wc.seq ?_
        refine Wc.seq ?_
        refine Wc.region ?_
        refine Wl.q (v := Value.pointer (some ⟨r, 0, none⟩)) (q_move rfl) ?_
        refine Wl.q (v := Value.bool false) (q_eql_nil (r := false) rfl rfl Try.underlying31 rfl) ?_
        refine Wl.done ?_
        refine Wx.go ?_
        refine Wc.no rfl ?_
        refine Wc.skip ?_
        refine Wx.go ?_
        refine Wc.seq ?_
        refine Wc.seq ?_
        refine Wc.region ?_
        refine Wl.q (v := Value.int .i64 0) (q_assign rfl) ?_
        refine Wl.done ?_
        refine Wx.go ?_
        refine Wc.block ?_
        refine Wc.loop (X := Nat) (fun k2 E => E 8 = Value.int .i64 ((k2 : Nat) : Int) ∧ E 4 = v ∧ E 6 = Value.string (ba (bytesW T)) ∧ E 7 = Value.pointer (some ⟨r, 0, none⟩) ∧ k2 ≤ T.length) (fun k2 => (pt r 59 [Value.bool true, Value.string (ba (bytesW T)), Value.int .i64 (((bytesW (T.take k2)).length : Nat) : Int)]) :: (sl 44 3 v T.length (T.flatMap itemCells)) :: (isW q (bytesW T)) :: F) (fun k2 => T.length - k2) 0 ?_ ?_ ?_
        · exact ⟨rfl, hE4_2, rfl, rfl, (by omega)⟩
        · exact fun w hs => (st_pull [0, 1, 0] (hs))
        · rintro k2 E7 ⟨hE8_5, hE4_5, hE6_5, hE7_5, hp1⟩
          refine Wc.seq ?_
          refine Wc.seq ?_
          refine Wc.region ?_
          refine Wl.q (v := Value.int .i64 ((k2 : Nat) : Int)) (q_move hE8_5) ?_
          refine Wl.q (v := v) (q_move hE4_5) ?_
          refine Wl.q (v := Value.int .i64 ((T.length : Nat) : Int)) (q_len_sl (i := 1) Try.underlying38 rfl rfl) ?_
          by_cases hlt2 : ((k2 : Nat) : Int) < ((T.length : Nat) : Int)
          ·
            obtain ⟨o, hget⟩ : ∃ o, T[k2]? = some o := ⟨T[k2]'(by omega), by simp [List.getElem?_eq_getElem (show k2 < T.length by omega)]⟩
            have hoT := hTn o (List.mem_of_getElem? hget)
            have hat := bytes_at hget
            have hal : (bytesW (T.take k2)).length ≤ (ba (bytesW T)).size := by rw [hsT]; exact bytesW_le T k2
            refine Wl.sl (i := 1) (m := T.length) rfl (by omega) (fun bw cw hv hcw => ?_)
            subst hv
            refine Wl.q (v := Value.bool true) (q_lss (r := true) rfl rfl (decide_eq_true hlt2)) ?_
            refine Wl.done ?_
            refine Wx.go ?_
            refine Wc.yes rfl ?_
            refine Wc.skip ?_
            refine Wx.go ?_
            refine Wc.seq ?_
            refine Wc.block ?_
            refine Wc.seq ?_
            refine Wc.region ?_
            refine Wl.q (v := Value.slice (some ⟨bw, 0, none⟩) T.length cw) (q_move hE4_5) ?_
            refine Wl.q (v := Value.int .i64 ((k2 : Nat) : Int)) (q_move hE8_5) ?_
            refine Wl.q (v := Value.pointer (some ⟨bw, k2 * 3, none⟩)) (q_idx (m := k2 * 3) se_38 rfl rfl (by omega) (by omega) (by simp)) ?_
            refine Wl.q (v := Value.agg #[Value.int .i64 o.kind, Value.int .i64 o.n, Value.string o.s]) (q_loadAgg (vs := [Value.int .i64 o.kind, Value.int .i64 o.n, Value.string o.s]) ag_44 rfl (fun j u hj => .row (i := 1) rfl (flat3 hget j u hj))) ?_
            refine Wl.e (e_alloc (vs := [Value.int .i64 0, Value.int .i64 0, Value.string (⟨#[]⟩)]) zo_44 rfl) (fun xb _ => ?_)
            refine Wl.imp (L' := (pt xb 44 ([Value.int .i64 0, Value.int .i64 0, Value.string (⟨#[]⟩)])) :: (pt r 59 [Value.bool true, Value.string (ba (bytesW T)), Value.int .i64 (((bytesW (T.take k2)).length : Nat) : Int)]) :: (slp 44 3 bw cw (T.flatMap itemCells)) :: (isW q (bytesW T)) :: F) (fun _ h => h) ?_
            refine Wl.e (e_storeAgg (i := 0) (vs := [Value.int .i64 o.kind, Value.int .i64 o.n, Value.string o.s]) (c' := [Value.int .i64 o.kind, Value.int .i64 o.n, Value.string o.s]) sz_44 rfl rfl rfl rfl (by simp) rfl) (fun _ _ => ?_)
            refine Wl.imp (L' := (pt xb 44 [Value.int .i64 o.kind, Value.int .i64 o.n, Value.string o.s]) :: (pt r 59 [Value.bool true, Value.string (ba (bytesW T)), Value.int .i64 (((bytesW (T.take k2)).length : Nat) : Int)]) :: (slp 44 3 bw cw (T.flatMap itemCells)) :: (isW q (bytesW T)) :: F) (fun _ h => h) ?_
            refine Wl.done ?_
            refine Wx.go ?_
            refine Wc.seq ?_
            refine Wc.region ?_
            refine Wl.q (v := Value.bool false) (q_assign rfl) ?_
            refine Wl.done ?_
            refine Wx.go ?_
            refine Wc.seq ?_
            refine Wc.seq ?_
            refine Wc.region ?_
            refine Wl.q (v := Value.pointer (some ⟨xb, 0, none⟩)) (q_field (m := 0) fo_44_0 rfl rfl) ?_
            refine Wl.q (v := Value.int .i64 o.kind) (q_load sc_3 rfl (.cel (i := 0) rfl rfl)) ?_
            refine Wl.done ?_
            refine Wx.go ?_
            refine Wc.block ?_
            refine Wc.seq ?_
            refine Wc.region ?_
            by_cases hk0 : o.kind = 0
            ·
              refine Wl.q (v := Value.bool true) (q_eql (r := true) rfl rfl (decide_eq_true hk0)) ?_
              refine Wl.q (v := Value.bool true) (q_assign rfl) ?_
              refine Wl.done ?_
              refine Wx.go ?_
              refine Wc.yes rfl ?_
              refine Wc.seq ?_
              refine Wc.region ?_
              refine Wl.q (v := Value.pointer (some ⟨r, 0, none⟩)) (q_move hE7_5) ?_
              have hbk := back_byte hk0 hoT.1 hat
              refine Wl.imp (L' := (pt r 59 [Value.bool true, Value.string (ba (bytesW T)), Value.int .i64 (((bytesW (T.take k2)).length : Nat) : Int)]) :: (pt xb 44 [Value.int .i64 o.kind, Value.int .i64 o.n, Value.string o.s]) :: (slp 44 3 bw cw (T.flatMap itemCells)) :: (isW q (bytesW T)) :: F) (fun _ h => st_pull [1] h) ?_
              refine Wl.e (e_call (F := (pt xb 44 [Value.int .i64 o.kind, Value.int .i64 o.n, Value.string o.s]) :: (slp 44 3 bw cw (T.flatMap itemCells)) :: (isW q (bytesW T)) :: F) (args := [Value.pointer (some ⟨r, 0, none⟩)]) Try.call22 rfl (rbyte_c W0 r (ba (bytesW T)) ((bytesW (T.take k2)).length) hal (by rw [hsT]; omega))) (fun _ _ => ?_)
              refine Wl.imp (L' := (pt r 59 [Value.bool true, Value.string (ba (bytesW T)), Value.int .i64 (((gn ((bytesW (T.take k2)).length) (takeByte (ba (bytesW T)) ((bytesW (T.take k2)).length))) : Nat) : Int)]) :: (pt xb 44 [Value.int .i64 o.kind, Value.int .i64 o.n, Value.string o.s]) :: (slp 44 3 bw cw (T.flatMap itemCells)) :: (isW q (bytesW T)) :: F) (fun _ h => h) ?_
              refine Wl.q (v := Value.tuple #[Value.int .i64 (((gv 0 (takeByte (ba (bytesW T)) ((bytesW (T.take k2)).length))) : Nat) : Int), Value.int .i64 (ge (takeByte (ba (bytesW T)) ((bytesW (T.take k2)).length)))]) (q_move rfl) ?_
              refine Wl.q (v := Value.int .i64 (((gv 0 (takeByte (ba (bytesW T)) ((bytesW (T.take k2)).length))) : Nat) : Int)) (q_extract (i := 0) rfl rfl) ?_
              refine Wl.q (v := Value.int .i64 (ge (takeByte (ba (bytesW T)) ((bytesW (T.take k2)).length)))) (q_extract (i := 1) rfl rfl) ?_
              refine Wl.q (v := Value.int .i64 (((gv 0 (takeByte (ba (bytesW T)) ((bytesW (T.take k2)).length))) : Nat) : Int)) (q_assign rfl) ?_
              refine Wl.q (v := Value.int .i64 (ge (takeByte (ba (bytesW T)) ((bytesW (T.take k2)).length)))) (q_assign rfl) ?_
              refine Wl.done ?_
              refine Wx.go ?_
              refine Wc.region ?_
              refine Wl.q (v := Value.int .i64 (ge (takeByte (ba (bytesW T)) ((bytesW (T.take k2)).length)))) (q_move rfl) ?_
              refine Wl.q (v := Value.bool true) (q_eql (r := true) rfl rfl (decide_eq_true (hbk.1))) ?_
              refine Wl.q (v := Value.bool true) (q_move rfl) ?_
              refine Wl.q (v := Value.int .i64 (((gv 0 (takeByte (ba (bytesW T)) ((bytesW (T.take k2)).length))) : Nat) : Int)) (q_move rfl) ?_
              refine Wl.q (v := Value.pointer (some ⟨xb, 1, none⟩)) (q_field (m := 1) fo_44_1 rfl rfl) ?_
              refine Wl.q (v := Value.int .i64 o.n) (q_load sc_2 rfl (.cel (i := 1) rfl rfl)) ?_
              refine Wl.q (v := Value.bool true) (q_eql (r := true) rfl rfl (decide_eq_true (hbk.2.1))) ?_
              refine Wl.q (v := Value.bool true) (q_pick (t := true) rfl rfl) ?_
              refine Wl.q (v := Value.bool true) (q_assign rfl) ?_
              refine Wl.done ?_
              refine Wx.blockEnd ?_
              refine Wx.go ?_
              refine Wc.seq ?_
              refine Wc.region ?_
              refine Wl.q (v := Value.bool true) (q_move rfl) ?_
              refine Wl.q (v := Value.bool false) (q_not rfl rfl) ?_
              refine Wl.done ?_
              refine Wx.go ?_
              refine Wc.no rfl ?_
              refine Wc.skip ?_
              refine Wx.blockEnd ?_
              refine Wx.go ?_
              refine Wc.region ?_
              refine Wl.q (v := Value.int .i64 ((k2 : Nat) : Int)) (q_move hE8_5) ?_
              refine Wl.q (v := Value.int .i64 ((k2 + 1 : Nat) : Int)) (q_add (c := ((k2 + 1 : Nat) : Int)) rfl rfl (by rw [wrap_i64] <;> omega)) ?_
              refine Wl.q (v := Value.int .i64 ((k2 + 1 : Nat) : Int)) (q_assign rfl) ?_
              refine Wl.done ?_
              refine Wx.at (k2 + 1) ⟨(by omega), rfl, hE4_5, hE6_5, hE7_5, (by omega)⟩ (fun w hs => by have hs := (st_pull [1, 0, 0] (st_drop (st_pull [1] hs))); rw [hbk.2.2, ← bytes_next hget] at hs; exact st_swap (st_sl_mk (by rw [flat_len3]) hcw hs))
            ·
              refine Wl.q (v := Value.bool false) (q_eql (r := false) rfl rfl (decide_eq_false hk0)) ?_
              refine Wl.q (v := Value.bool false) (q_assign rfl) ?_
              refine Wl.done ?_
              refine Wx.go ?_
              refine Wc.no rfl ?_
              refine Wc.seq ?_
              refine Wc.region ?_
              by_cases hk1 : o.kind = 1
              ·
                refine Wl.q (v := Value.bool true) (q_eql (r := true) rfl rfl (decide_eq_true hk1)) ?_
                refine Wl.q (v := Value.bool true) (q_assign rfl) ?_
                refine Wl.done ?_
                refine Wx.go ?_
                refine Wc.yes rfl ?_
                refine Wc.seq ?_
                refine Wc.region ?_
                refine Wl.q (v := Value.pointer (some ⟨r, 0, none⟩)) (q_move hE7_5) ?_
                have hbk := back_num hk0 hk1 hoT.2 hat
                refine Wl.imp (L' := (pt r 59 [Value.bool true, Value.string (ba (bytesW T)), Value.int .i64 (((bytesW (T.take k2)).length : Nat) : Int)]) :: (pt xb 44 [Value.int .i64 o.kind, Value.int .i64 o.n, Value.string o.s]) :: (slp 44 3 bw cw (T.flatMap itemCells)) :: (isW q (bytesW T)) :: F) (fun _ h => st_pull [1] h) ?_
                refine Wl.e (e_call (F := (pt xb 44 [Value.int .i64 o.kind, Value.int .i64 o.n, Value.string o.s]) :: (slp 44 3 bw cw (T.flatMap itemCells)) :: (isW q (bytesW T)) :: F) (args := [Value.pointer (some ⟨r, 0, none⟩)]) Try.call23 rfl (rnumber_c W0 r (ba (bytesW T)) ((bytesW (T.take k2)).length) hal (by rw [hsT]; omega))) (fun _ _ => ?_)
                refine Wl.imp (L' := (pt r 59 [Value.bool true, Value.string (ba (bytesW T)), Value.int .i64 (((gn ((bytesW (T.take k2)).length) (takeNum (ba (bytesW T)) ((bytesW (T.take k2)).length))) : Nat) : Int)]) :: (pt xb 44 [Value.int .i64 o.kind, Value.int .i64 o.n, Value.string o.s]) :: (slp 44 3 bw cw (T.flatMap itemCells)) :: (isW q (bytesW T)) :: F) (fun _ h => h) ?_
                refine Wl.q (v := Value.tuple #[Value.int .i64 (gv 0 (takeNum (ba (bytesW T)) ((bytesW (T.take k2)).length))), Value.int .i64 (ge (takeNum (ba (bytesW T)) ((bytesW (T.take k2)).length)))]) (q_move rfl) ?_
                refine Wl.q (v := Value.int .i64 (gv 0 (takeNum (ba (bytesW T)) ((bytesW (T.take k2)).length)))) (q_extract (i := 0) rfl rfl) ?_
                refine Wl.q (v := Value.int .i64 (ge (takeNum (ba (bytesW T)) ((bytesW (T.take k2)).length)))) (q_extract (i := 1) rfl rfl) ?_
                refine Wl.q (v := Value.int .i64 (gv 0 (takeNum (ba (bytesW T)) ((bytesW (T.take k2)).length)))) (q_assign rfl) ?_
                refine Wl.q (v := Value.int .i64 (ge (takeNum (ba (bytesW T)) ((bytesW (T.take k2)).length)))) (q_assign rfl) ?_
                refine Wl.done ?_
                refine Wx.go ?_
                refine Wc.region ?_
                refine Wl.q (v := Value.int .i64 (ge (takeNum (ba (bytesW T)) ((bytesW (T.take k2)).length)))) (q_move rfl) ?_
                refine Wl.q (v := Value.bool true) (q_eql (r := true) rfl rfl (decide_eq_true (hbk.1))) ?_
                refine Wl.q (v := Value.bool true) (q_move rfl) ?_
                refine Wl.q (v := Value.int .i64 (gv 0 (takeNum (ba (bytesW T)) ((bytesW (T.take k2)).length)))) (q_move rfl) ?_
                refine Wl.q (v := Value.pointer (some ⟨xb, 1, none⟩)) (q_field (m := 1) fo_44_1 rfl rfl) ?_
                refine Wl.q (v := Value.int .i64 o.n) (q_load sc_2 rfl (.cel (i := 1) rfl rfl)) ?_
                refine Wl.q (v := Value.bool true) (q_eql (r := true) rfl rfl (decide_eq_true (hbk.2.1))) ?_
                refine Wl.q (v := Value.bool true) (q_pick (t := true) rfl rfl) ?_
                refine Wl.q (v := Value.bool true) (q_assign rfl) ?_
                refine Wl.done ?_
                refine Wx.blockEnd ?_
                refine Wx.go ?_
                refine Wc.seq ?_
                refine Wc.region ?_
                refine Wl.q (v := Value.bool true) (q_move rfl) ?_
                refine Wl.q (v := Value.bool false) (q_not rfl rfl) ?_
                refine Wl.done ?_
                refine Wx.go ?_
                refine Wc.no rfl ?_
                refine Wc.skip ?_
                refine Wx.blockEnd ?_
                refine Wx.go ?_
                refine Wc.region ?_
                refine Wl.q (v := Value.int .i64 ((k2 : Nat) : Int)) (q_move hE8_5) ?_
                refine Wl.q (v := Value.int .i64 ((k2 + 1 : Nat) : Int)) (q_add (c := ((k2 + 1 : Nat) : Int)) rfl rfl (by rw [wrap_i64] <;> omega)) ?_
                refine Wl.q (v := Value.int .i64 ((k2 + 1 : Nat) : Int)) (q_assign rfl) ?_
                refine Wl.done ?_
                refine Wx.at (k2 + 1) ⟨(by omega), rfl, hE4_5, hE6_5, hE7_5, (by omega)⟩ (fun w hs => by have hs := (st_pull [1, 0, 0] (st_drop (st_pull [1] hs))); rw [hbk.2.2, ← bytes_next hget] at hs; exact st_swap (st_sl_mk (by rw [flat_len3]) hcw hs))
              ·
                refine Wl.q (v := Value.bool false) (q_eql (r := false) rfl rfl (decide_eq_false hk1)) ?_
                refine Wl.q (v := Value.bool false) (q_assign rfl) ?_
                refine Wl.done ?_
                refine Wx.go ?_
                refine Wc.no rfl ?_
                refine Wc.seq ?_
                refine Wc.region ?_
                by_cases hk2 : o.kind = 2
                ·
                  refine Wl.q (v := Value.bool true) (q_eql (r := true) rfl rfl (decide_eq_true hk2)) ?_
                  refine Wl.q (v := Value.bool true) (q_assign rfl) ?_
                  refine Wl.done ?_
                  refine Wx.go ?_
                  refine Wc.yes rfl ?_
                  refine Wc.seq ?_
                  refine Wc.region ?_
                  refine Wl.q (v := Value.pointer (some ⟨r, 0, none⟩)) (q_move hE7_5) ?_
                  have hbk := back_flag hk0 hk1 hk2 hat
                  refine Wl.imp (L' := (pt r 59 [Value.bool true, Value.string (ba (bytesW T)), Value.int .i64 (((bytesW (T.take k2)).length : Nat) : Int)]) :: (pt xb 44 [Value.int .i64 o.kind, Value.int .i64 o.n, Value.string o.s]) :: (slp 44 3 bw cw (T.flatMap itemCells)) :: (isW q (bytesW T)) :: F) (fun _ h => st_pull [1] h) ?_
                  refine Wl.e (e_call (F := (pt xb 44 [Value.int .i64 o.kind, Value.int .i64 o.n, Value.string o.s]) :: (slp 44 3 bw cw (T.flatMap itemCells)) :: (isW q (bytesW T)) :: F) (args := [Value.pointer (some ⟨r, 0, none⟩)]) Try.call24 rfl (rflag_c W0 r (ba (bytesW T)) ((bytesW (T.take k2)).length) hal (by rw [hsT]; omega))) (fun _ _ => ?_)
                  refine Wl.imp (L' := (pt r 59 [Value.bool true, Value.string (ba (bytesW T)), Value.int .i64 (((gn ((bytesW (T.take k2)).length) (takeFlag (ba (bytesW T)) ((bytesW (T.take k2)).length))) : Nat) : Int)]) :: (pt xb 44 [Value.int .i64 o.kind, Value.int .i64 o.n, Value.string o.s]) :: (slp 44 3 bw cw (T.flatMap itemCells)) :: (isW q (bytesW T)) :: F) (fun _ h => h) ?_
                  refine Wl.q (v := Value.tuple #[Value.bool (gv false (takeFlag (ba (bytesW T)) ((bytesW (T.take k2)).length))), Value.int .i64 (ge (takeFlag (ba (bytesW T)) ((bytesW (T.take k2)).length)))]) (q_move rfl) ?_
                  refine Wl.q (v := Value.bool (gv false (takeFlag (ba (bytesW T)) ((bytesW (T.take k2)).length)))) (q_extract (i := 0) rfl rfl) ?_
                  refine Wl.q (v := Value.int .i64 (ge (takeFlag (ba (bytesW T)) ((bytesW (T.take k2)).length)))) (q_extract (i := 1) rfl rfl) ?_
                  refine Wl.q (v := Value.bool (gv false (takeFlag (ba (bytesW T)) ((bytesW (T.take k2)).length)))) (q_assign rfl) ?_
                  refine Wl.q (v := Value.int .i64 (ge (takeFlag (ba (bytesW T)) ((bytesW (T.take k2)).length)))) (q_assign rfl) ?_
                  refine Wl.done ?_
                  refine Wx.go ?_
                  refine Wc.region ?_
                  refine Wl.q (v := Value.int .i64 (ge (takeFlag (ba (bytesW T)) ((bytesW (T.take k2)).length)))) (q_move rfl) ?_
                  refine Wl.q (v := Value.bool true) (q_eql (r := true) rfl rfl (decide_eq_true (hbk.1))) ?_
                  refine Wl.q (v := Value.bool true) (q_move rfl) ?_
                  refine Wl.q (v := Value.bool (gv false (takeFlag (ba (bytesW T)) ((bytesW (T.take k2)).length)))) (q_move rfl) ?_
                  refine Wl.q (v := Value.pointer (some ⟨xb, 1, none⟩)) (q_field (m := 1) fo_44_1 rfl rfl) ?_
                  refine Wl.q (v := Value.int .i64 o.n) (q_load sc_2 rfl (.cel (i := 1) rfl rfl)) ?_
                  refine Wl.q (v := Value.bool (decide (o.n > 0))) (q_gtr rfl rfl rfl) ?_
                  refine Wl.q (v := Value.bool true) (q_eql_bool (r := true) rfl rfl Try.underlying4 (beq_iff_eq.2 (hbk.2.1))) ?_
                  refine Wl.q (v := Value.bool true) (q_pick (t := true) rfl rfl) ?_
                  refine Wl.q (v := Value.bool true) (q_assign rfl) ?_
                  refine Wl.done ?_
                  refine Wx.blockEnd ?_
                  refine Wx.go ?_
                  refine Wc.seq ?_
                  refine Wc.region ?_
                  refine Wl.q (v := Value.bool true) (q_move rfl) ?_
                  refine Wl.q (v := Value.bool false) (q_not rfl rfl) ?_
                  refine Wl.done ?_
                  refine Wx.go ?_
                  refine Wc.no rfl ?_
                  refine Wc.skip ?_
                  refine Wx.blockEnd ?_
                  refine Wx.go ?_
                  refine Wc.region ?_
                  refine Wl.q (v := Value.int .i64 ((k2 : Nat) : Int)) (q_move hE8_5) ?_
                  refine Wl.q (v := Value.int .i64 ((k2 + 1 : Nat) : Int)) (q_add (c := ((k2 + 1 : Nat) : Int)) rfl rfl (by rw [wrap_i64] <;> omega)) ?_
                  refine Wl.q (v := Value.int .i64 ((k2 + 1 : Nat) : Int)) (q_assign rfl) ?_
                  refine Wl.done ?_
                  refine Wx.at (k2 + 1) ⟨(by omega), rfl, hE4_5, hE6_5, hE7_5, (by omega)⟩ (fun w hs => by have hs := (st_pull [1, 0, 0] (st_drop (st_pull [1] hs))); rw [hbk.2.2, ← bytes_next hget] at hs; exact st_swap (st_sl_mk (by rw [flat_len3]) hcw hs))
                ·
                  refine Wl.q (v := Value.bool false) (q_eql (r := false) rfl rfl (decide_eq_false hk2)) ?_
                  refine Wl.q (v := Value.bool false) (q_assign rfl) ?_
                  refine Wl.done ?_
                  refine Wx.go ?_
                  refine Wc.no rfl ?_
                  refine Wc.seq ?_
                  refine Wc.region ?_
                  by_cases hk3 : o.kind = 3
                  ·
                    refine Wl.q (v := Value.bool true) (q_eql (r := true) rfl rfl (decide_eq_true hk3)) ?_
                    refine Wl.q (v := Value.bool true) (q_assign rfl) ?_
                    refine Wl.done ?_
                    refine Wx.go ?_
                    refine Wc.yes rfl ?_
                    refine Wc.seq ?_
                    refine Wc.region ?_
                    refine Wl.q (v := Value.pointer (some ⟨r, 0, none⟩)) (q_move hE7_5) ?_
                    have hbk := back_text hk0 hk1 hk2 hk3 hoT.1 hat
                    refine Wl.imp (L' := (pt r 59 [Value.bool true, Value.string (ba (bytesW T)), Value.int .i64 (((bytesW (T.take k2)).length : Nat) : Int)]) :: (pt xb 44 [Value.int .i64 o.kind, Value.int .i64 o.n, Value.string o.s]) :: (slp 44 3 bw cw (T.flatMap itemCells)) :: (isW q (bytesW T)) :: F) (fun _ h => st_pull [1] h) ?_
                    refine Wl.e (e_call (F := (pt xb 44 [Value.int .i64 o.kind, Value.int .i64 o.n, Value.string o.s]) :: (slp 44 3 bw cw (T.flatMap itemCells)) :: (isW q (bytesW T)) :: F) (args := [Value.pointer (some ⟨r, 0, none⟩)]) Try.call25 rfl (rtext_c W0 r (ba (bytesW T)) ((bytesW (T.take k2)).length) hal (by rw [hsT]; omega))) (fun _ _ => ?_)
                    refine Wl.imp (L' := (pt r 59 [Value.bool true, Value.string (ba (bytesW T)), Value.int .i64 (((gn ((bytesW (T.take k2)).length) (takeText (ba (bytesW T)) ((bytesW (T.take k2)).length))) : Nat) : Int)]) :: (pt xb 44 [Value.int .i64 o.kind, Value.int .i64 o.n, Value.string o.s]) :: (slp 44 3 bw cw (T.flatMap itemCells)) :: (isW q (bytesW T)) :: F) (fun _ h => h) ?_
                    refine Wl.q (v := Value.tuple #[Value.string (gv ⟨#[]⟩ (takeText (ba (bytesW T)) ((bytesW (T.take k2)).length))), Value.int .i64 (ge (takeText (ba (bytesW T)) ((bytesW (T.take k2)).length)))]) (q_move rfl) ?_
                    refine Wl.q (v := Value.string (gv ⟨#[]⟩ (takeText (ba (bytesW T)) ((bytesW (T.take k2)).length)))) (q_extract (i := 0) rfl rfl) ?_
                    refine Wl.q (v := Value.int .i64 (ge (takeText (ba (bytesW T)) ((bytesW (T.take k2)).length)))) (q_extract (i := 1) rfl rfl) ?_
                    refine Wl.q (v := Value.string (gv ⟨#[]⟩ (takeText (ba (bytesW T)) ((bytesW (T.take k2)).length)))) (q_assign rfl) ?_
                    refine Wl.q (v := Value.int .i64 (ge (takeText (ba (bytesW T)) ((bytesW (T.take k2)).length)))) (q_assign rfl) ?_
                    refine Wl.done ?_
                    refine Wx.go ?_
                    refine Wc.region ?_
                    refine Wl.q (v := Value.int .i64 (ge (takeText (ba (bytesW T)) ((bytesW (T.take k2)).length)))) (q_move rfl) ?_
                    refine Wl.q (v := Value.bool true) (q_eql (r := true) rfl rfl (decide_eq_true (hbk.1))) ?_
                    refine Wl.q (v := Value.bool true) (q_move rfl) ?_
                    refine Wl.q (v := Value.string (gv ⟨#[]⟩ (takeText (ba (bytesW T)) ((bytesW (T.take k2)).length)))) (q_move rfl) ?_
                    refine Wl.q (v := Value.pointer (some ⟨xb, 2, none⟩)) (q_field (m := 2) fo_44_2 rfl rfl) ?_
                    refine Wl.q (v := Value.string o.s) (q_load sc_9 rfl (.cel (i := 1) rfl rfl)) ?_
                    refine Wl.q (v := Value.bool true) (q_eql_str (r := true) rfl rfl (text_true (hbk.2.1))) ?_
                    refine Wl.q (v := Value.bool true) (q_pick (t := true) rfl rfl) ?_
                    refine Wl.q (v := Value.bool true) (q_assign rfl) ?_
                    refine Wl.done ?_
                    refine Wx.blockEnd ?_
                    refine Wx.go ?_
                    refine Wc.seq ?_
                    refine Wc.region ?_
                    refine Wl.q (v := Value.bool true) (q_move rfl) ?_
                    refine Wl.q (v := Value.bool false) (q_not rfl rfl) ?_
                    refine Wl.done ?_
                    refine Wx.go ?_
                    refine Wc.no rfl ?_
                    refine Wc.skip ?_
                    refine Wx.blockEnd ?_
                    refine Wx.go ?_
                    refine Wc.region ?_
                    refine Wl.q (v := Value.int .i64 ((k2 : Nat) : Int)) (q_move hE8_5) ?_
                    refine Wl.q (v := Value.int .i64 ((k2 + 1 : Nat) : Int)) (q_add (c := ((k2 + 1 : Nat) : Int)) rfl rfl (by rw [wrap_i64] <;> omega)) ?_
                    refine Wl.q (v := Value.int .i64 ((k2 + 1 : Nat) : Int)) (q_assign rfl) ?_
                    refine Wl.done ?_
                    refine Wx.at (k2 + 1) ⟨(by omega), rfl, hE4_5, hE6_5, hE7_5, (by omega)⟩ (fun w hs => by have hs := (st_pull [1, 0, 0] (st_drop (st_pull [1] hs))); rw [hbk.2.2, ← bytes_next hget] at hs; exact st_swap (st_sl_mk (by rw [flat_len3]) hcw hs))
                  ·
                    refine Wl.q (v := Value.bool false) (q_eql (r := false) rfl rfl (decide_eq_false hk3)) ?_
                    refine Wl.q (v := Value.bool false) (q_assign rfl) ?_
                    refine Wl.done ?_
                    refine Wx.go ?_
                    refine Wc.no rfl ?_
                    refine Wc.seq ?_
                    refine Wc.region ?_
                    refine Wl.q (v := Value.pointer (some ⟨r, 0, none⟩)) (q_move hE7_5) ?_
                    have hbk := back_list hk0 hk1 hk2 hk3 hoT.1 hat
                    refine Wl.imp (L' := (pt r 59 [Value.bool true, Value.string (ba (bytesW T)), Value.int .i64 (((bytesW (T.take k2)).length : Nat) : Int)]) :: (pt xb 44 [Value.int .i64 o.kind, Value.int .i64 o.n, Value.string o.s]) :: (slp 44 3 bw cw (T.flatMap itemCells)) :: (isW q (bytesW T)) :: F) (fun _ h => st_pull [1] h) ?_
                    refine Wl.e (e_call (F := (pt xb 44 [Value.int .i64 o.kind, Value.int .i64 o.n, Value.string o.s]) :: (slp 44 3 bw cw (T.flatMap itemCells)) :: (isW q (bytesW T)) :: F) (args := [Value.pointer (some ⟨r, 0, none⟩)]) Try.call26 rfl (rlist_c W0 r (ba (bytesW T)) ((bytesW (T.take k2)).length) hal (by rw [hsT]; omega))) (fun _ _ => ?_)
                    refine Wl.imp (L' := (pt r 59 [Value.bool true, Value.string (ba (bytesW T)), Value.int .i64 (((gn ((bytesW (T.take k2)).length) (takeList (ba (bytesW T)) ((bytesW (T.take k2)).length))) : Nat) : Int)]) :: (pt xb 44 [Value.int .i64 o.kind, Value.int .i64 o.n, Value.string o.s]) :: (slp 44 3 bw cw (T.flatMap itemCells)) :: (isW q (bytesW T)) :: F) (fun _ h => h) ?_
                    refine Wl.q (v := Value.tuple #[Value.int .i64 (((gv 0 (takeList (ba (bytesW T)) ((bytesW (T.take k2)).length))) : Nat) : Int), Value.int .i64 (ge (takeList (ba (bytesW T)) ((bytesW (T.take k2)).length)))]) (q_move rfl) ?_
                    refine Wl.q (v := Value.int .i64 (((gv 0 (takeList (ba (bytesW T)) ((bytesW (T.take k2)).length))) : Nat) : Int)) (q_extract (i := 0) rfl rfl) ?_
                    refine Wl.q (v := Value.int .i64 (ge (takeList (ba (bytesW T)) ((bytesW (T.take k2)).length)))) (q_extract (i := 1) rfl rfl) ?_
                    refine Wl.q (v := Value.int .i64 (((gv 0 (takeList (ba (bytesW T)) ((bytesW (T.take k2)).length))) : Nat) : Int)) (q_assign rfl) ?_
                    refine Wl.q (v := Value.int .i64 (ge (takeList (ba (bytesW T)) ((bytesW (T.take k2)).length)))) (q_assign rfl) ?_
                    refine Wl.done ?_
                    refine Wx.go ?_
                    refine Wc.region ?_
                    refine Wl.q (v := Value.int .i64 (ge (takeList (ba (bytesW T)) ((bytesW (T.take k2)).length)))) (q_move rfl) ?_
                    refine Wl.q (v := Value.bool true) (q_eql (r := true) rfl rfl (decide_eq_true (hbk.1))) ?_
                    refine Wl.q (v := Value.bool true) (q_move rfl) ?_
                    refine Wl.q (v := Value.int .i64 (((gv 0 (takeList (ba (bytesW T)) ((bytesW (T.take k2)).length))) : Nat) : Int)) (q_move rfl) ?_
                    refine Wl.q (v := Value.pointer (some ⟨xb, 1, none⟩)) (q_field (m := 1) fo_44_1 rfl rfl) ?_
                    refine Wl.q (v := Value.int .i64 o.n) (q_load sc_2 rfl (.cel (i := 1) rfl rfl)) ?_
                    refine Wl.q (v := Value.bool true) (q_eql (r := true) rfl rfl (decide_eq_true (hbk.2.1))) ?_
                    refine Wl.q (v := Value.bool true) (q_pick (t := true) rfl rfl) ?_
                    refine Wl.q (v := Value.bool true) (q_assign rfl) ?_
                    refine Wl.done ?_
                    refine Wx.blockEnd ?_
                    refine Wx.go ?_
                    refine Wc.seq ?_
                    refine Wc.region ?_
                    refine Wl.q (v := Value.bool true) (q_move rfl) ?_
                    refine Wl.q (v := Value.bool false) (q_not rfl rfl) ?_
                    refine Wl.done ?_
                    refine Wx.go ?_
                    refine Wc.no rfl ?_
                    refine Wc.skip ?_
                    refine Wx.blockEnd ?_
                    refine Wx.go ?_
                    refine Wc.region ?_
                    refine Wl.q (v := Value.int .i64 ((k2 : Nat) : Int)) (q_move hE8_5) ?_
                    refine Wl.q (v := Value.int .i64 ((k2 + 1 : Nat) : Int)) (q_add (c := ((k2 + 1 : Nat) : Int)) rfl rfl (by rw [wrap_i64] <;> omega)) ?_
                    refine Wl.q (v := Value.int .i64 ((k2 + 1 : Nat) : Int)) (q_assign rfl) ?_
                    refine Wl.done ?_
                    refine Wx.at (k2 + 1) ⟨(by omega), rfl, hE4_5, hE6_5, hE7_5, (by omega)⟩ (fun w hs => by have hs := (st_pull [1, 0, 0] (st_drop (st_pull [1] hs))); rw [hbk.2.2, ← bytes_next hget] at hs; exact st_swap (st_sl_mk (by rw [flat_len3]) hcw hs))
          ·
            have hend2 : k2 = T.length := by omega
            have hfin : (bytesW (T.take k2)).length = (ba (bytesW T)).size := by rw [hend2, List.take_length, hsT]
            refine Wl.q (v := Value.bool false) (q_lss (r := false) rfl rfl (decide_eq_false hlt2)) ?_
            refine Wl.done ?_
            refine Wx.go ?_
            refine Wc.no rfl ?_
            refine Wc.exit ?_
            refine Wx.thenExit ?_
            refine Wx.thenExit ?_
            refine Wx.out ?_
            refine Wx.go ?_
            refine Wc.seq ?_
            refine Wc.region ?_
            refine Wl.q (v := Value.pointer (some ⟨r, 0, none⟩)) (q_move hE7_5) ?_
            refine Wl.e (e_call (F := (sl 44 3 v T.length (T.flatMap itemCells)) :: (isW q (bytesW T)) :: F) (args := [Value.pointer (some ⟨r, 0, none⟩)]) Try.call18 rfl (end_c W0 r (ba (bytesW T)) ((bytesW (T.take k2)).length))) (fun _ _ => ?_)
            refine Wl.imp (L' := (pt r 59 [Value.bool true, Value.string (ba (bytesW T)), Value.int .i64 (((bytesW (T.take k2)).length : Nat) : Int)]) :: (sl 44 3 v T.length (T.flatMap itemCells)) :: (isW q (bytesW T)) :: F) (fun _ h => h) ?_
            refine Wl.q (v := Value.bool true) (q_eql (r := true) rfl rfl (decide_eq_true (if_pos hfin))) ?_
            refine Wl.q (v := Value.bool true) (q_move rfl) ?_
            refine Wl.q (v := Value.pointer (some ⟨r, 0, none⟩)) (q_move hE7_5) ?_
            refine Wl.e (e_call (F := (sl 44 3 v T.length (T.flatMap itemCells)) :: (isW q (bytesW T)) :: F) (args := [Value.pointer (some ⟨r, 0, none⟩)]) Try.call17 rfl (at_c W0 r (ba (bytesW T)) ((bytesW (T.take k2)).length))) (fun _ _ => ?_)
            refine Wl.imp (L' := (pt r 59 [Value.bool true, Value.string (ba (bytesW T)), Value.int .i64 (((bytesW (T.take k2)).length : Nat) : Int)]) :: (sl 44 3 v T.length (T.flatMap itemCells)) :: (isW q (bytesW T)) :: F) (fun _ h => h) ?_
            refine Wl.q (v := Value.string (ba (bytesW T))) (q_move hE6_5) ?_
            refine Wl.q (v := Value.int .i64 (((ba (bytesW T)).size : Nat) : Int)) (q_len_str Try.underlying9 rfl) ?_
            refine Wl.q (v := Value.bool true) (q_eql (r := true) rfl rfl (decide_eq_true (by omega))) ?_
            refine Wl.q (v := Value.bool true) (q_pick (t := true) rfl rfl) ?_
            refine Wl.q (v := Value.bool true) (q_move rfl) ?_
            refine Wl.e (e_call (F := (pt r 59 [Value.bool true, Value.string (ba (bytesW T)), Value.int .i64 (((bytesW (T.take k2)).length : Nat) : Int)]) :: (sl 44 3 v T.length (T.flatMap itemCells)) :: (isW q (bytesW T)) :: F) (args := []) Try.call13 rfl (alive_c W0)) (fun _ _ => ?_)
            refine Wl.imp (L' := (pt r 59 [Value.bool true, Value.string (ba (bytesW T)), Value.int .i64 (((bytesW (T.take k2)).length : Nat) : Int)]) :: (sl 44 3 v T.length (T.flatMap itemCells)) :: (isW q (bytesW T)) :: F) (fun _ h => h) ?_
            refine Wl.q (v := Value.bool true) (q_pick (t := true) rfl rfl) ?_
            refine Wl.q (v := Value.bool true) (q_assign rfl) ?_
            refine Wl.done ?_
            refine Wx.go ?_
            refine Wc.ret ?_
            refine Wx.fin1 rfl (.inl rfl) (fun w hs => ?_)
            exact ⟨(), trivial, rfl, (st_drop (st_drop (st_drop (st_pull [0, 0, 0] hs))))⟩

end Go.Proofs.Ytlbanhhdoiidnaa
