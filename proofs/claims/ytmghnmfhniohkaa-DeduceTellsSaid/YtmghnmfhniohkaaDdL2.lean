/- What follows: contracts of the calls. -/
import Derived.Test.YtmghnmfhniohkaaDdK
namespace Go.Proofs.Ytmghnmfhniohkaa
open Go Go.SL Go.Dd Go.RowKit
set_option linter.unusedVariables false
theorem zo_61 : zeroOf Try.prog 61 = some (Value.agg #[Value.pointer none, Value.slice none 0 0]) := by kernel_rfl
theorem RKn.full {t0 xs : List TermR} {K : Nat → Prop} {L : List Bool} (I : InvR t0 K L) (h : L.length = (t0 ++ xs).length + 1) : xs = [] := by
  have := I.len
  rw [List.length_append] at h
  exact List.eq_nil_of_length_eq_zero (by omega)
def refK (w r : Nat) (ts : List TermR) (K : Nat → Prop) : HP := ex fun L : List Bool => ex fun lb : Nat => ex fun lc : Nat => grp [pr (RKn ts K L), pt w 61 [.pointer (some ⟨r, 0, none⟩), .slice (some ⟨lb, 0, none⟩) L.length lc], slp 4 1 lb lc (L.map Value.bool)]
theorem refK_mk {W0 w' : World} {M : List HP} {w r lb lc : Nat} {ts : List TermR} {K : Nat → Prop} {L : List Bool} (hk : RKn ts K L) (hs : st W0 w' (pt w 61 [.pointer (some ⟨r, 0, none⟩), .slice (some ⟨lb, 0, none⟩) L.length lc] :: slp 4 1 lb lc (L.map Value.bool) :: M)) : st W0 w' (refK w r ts K :: M) :=
  st_ex.2 ⟨L, st_ex.2 ⟨lb, st_ex.2 ⟨lc, st_grp.2 (st_pr.2 ⟨hk, hs⟩)⟩⟩⟩
theorem refK_of {W0 w' : World} {M : List HP} {w r : Nat} {ts : List TermR} {K : Nat → Prop} (hs : st W0 w' (refK w r ts K :: M)) : ∃ L lb lc, RKn ts K L ∧ st W0 w' (pt w 61 [.pointer (some ⟨r, 0, none⟩), .slice (some ⟨lb, 0, none⟩) L.length lc] :: slp 4 1 lb lc (L.map Value.bool) :: M) := by
  obtain ⟨L, hs⟩ := st_ex.1 hs
  obtain ⟨lb, hs⟩ := st_ex.1 hs
  obtain ⟨lc, hs⟩ := st_ex.1 hs
  have hs := st_grp.1 hs
  exact ⟨L, lb, lc, (st_pr.1 hs).1, (st_pr.1 hs).2⟩
theorem refK_ext {W0 w' : World} {M : List HP} {w r : Nat} {ts xs : List TermR} {K : Nat → Prop} (hs : st W0 w' (refK w r ts K :: M)) : st W0 w' (refK w r (ts ++ xs) K :: M) := by
  obtain ⟨L, lb, lc, ⟨t0, ys, ht, I, hc, hK⟩, hs'⟩ := refK_of hs
  exact refK_mk ⟨t0, ys ++ xs, by rw [ht, List.append_assoc], I, hc, hK⟩ hs'

theorem rgrow_o (W0 : World) (w r : Nat) (v : Value) (lb lc : Nat) (t0 xs : List TermR) (ts : List TermR) (hts : ts = t0 ++ xs) (K : Nat → Prop) (L : List Bool) (I : InvR t0 K L) (hc : ∀ n, 0 < n → n ≤ t0.length → ClR t0 L n) (hK : ∀ n, K n → hN L n = true) (hw : Wf ts) (hl : ts.length ≤ 1048576) :
    Con Try.prog W0 29 #[Value.pointer (some ⟨w, 0, none⟩)] [pt r 59 [v], sl 46 4 v ts.length (ts.flatMap termCells), pt w 61 [Value.pointer (some ⟨r, 0, none⟩), Value.slice (some ⟨lb, 0, none⟩) L.length lc], slp 4 1 lb lc (L.map Value.bool)] (X := List Bool × Nat × Nat) (fun y => InvR ts K y.1 ∧ (∀ n, 0 < n → n ≤ ts.length → ClR ts y.1 n) ∧ ∀ n, K n → hN y.1 n = true) (fun _ => .tuple #[]) (fun y => [pt w 61 [Value.pointer (some ⟨r, 0, none⟩), Value.slice (some ⟨y.2.1, 0, none⟩) (ts.length + 1) y.2.2], slp 4 1 y.2.1 y.2.2 (y.1.map Value.bool), refI r ts]) := by
  refine Con.of (args := [Value.pointer (some ⟨w, 0, none⟩)]) Try.func29 rfl Try.ntmps29 rfl (fun F => ?_)
  show Wc _ W0 _ _ _ _ _ ((pt r 59 [v]) :: (sl 46 4 v ts.length (ts.flatMap termCells)) :: (pt w 61 [Value.pointer (some ⟨r, 0, none⟩), Value.slice (some ⟨lb, 0, none⟩) L.length lc]) :: (slp 4 1 lb lc (L.map Value.bool)) :: F)
  refine Wc.seq ?_
  refine Wc.seq ?_
  refine Wc.drawsS [] ((pt r 59 [v]) :: (sl 46 4 v ts.length (ts.flatMap termCells)) :: (pt w 61 [Value.pointer (some ⟨r, 0, none⟩), Value.slice (some ⟨lb, 0, none⟩) L.length lc]) :: (slp 4 1 lb lc (L.map Value.bool)) :: []) (by kernel_rfl) ?_
  refine Wr.pure (v := Value.pointer (some ⟨w, 0, none⟩)) 0 rfl (by kernel_rfl) (.inr (fun _ h => st_take [0, 0, 0, 0] h)) (.inl ⟨rfl, fun _ => q_move rfl⟩) ?_
  refine Wr.pure (v := Value.pointer (some ⟨w, 0, none⟩)) 1 rfl (by kernel_rfl) (.inr (fun _ h => st_take [0, 0, 0, 0] h)) (.inl ⟨rfl, fun _ => q_nil_ptr rfl⟩) ?_
  refine Wr.pure (v := Value.pointer (some ⟨w, 1, none⟩)) 2 rfl (by kernel_rfl) (.inr (fun _ h => st_take [0, 0, 0, 0] h)) (.inl ⟨rfl, fun _ => q_field (m := 1) fo_61_1 rfl rfl⟩) ?_
  refine Wr.take (v := Value.slice (some ⟨lb, 0, none⟩) L.length lc) 3 rfl (by kernel_rfl) (fun _ h => st_take [0, 0, 0, 0] h) (.inl ⟨rfl, q_load sc_57 rfl (.cel (i := 2) rfl rfl)⟩) ?_
  refine Wr.take (v := Value.int .i64 ((L.length : Nat) : Int)) 4 rfl (by kernel_rfl) (fun _ h => st_take [0, 0, 0, 0] h) (.inl ⟨rfl, q_len_slice Try.underlying57 rfl⟩) ?_
  refine Wr.pure (v := Value.pointer (some ⟨w, 0, none⟩)) 5 rfl (by kernel_rfl) (.inr (fun _ h => st_take [0, 0, 0, 0] h)) (.inl ⟨rfl, fun _ => q_move rfl⟩) ?_
  refine Wr.pure (v := Value.pointer (some ⟨w, 0, none⟩)) 6 rfl (by kernel_rfl) (.inr (fun _ h => st_take [0, 0, 0, 0] h)) (.inl ⟨rfl, fun _ => q_nil_ptr rfl⟩) ?_
  refine Wr.pure (v := Value.pointer (some ⟨w, 0, none⟩)) 7 rfl (by kernel_rfl) (.inr (fun _ h => st_take [0, 0, 0, 0] h)) (.inl ⟨rfl, fun _ => q_field (m := 0) fo_61_0 rfl rfl⟩) ?_
  refine Wr.take (v := Value.pointer (some ⟨r, 0, none⟩)) 8 rfl (by kernel_rfl) (fun _ h => st_take [0, 0, 0, 0] h) (.inl ⟨rfl, q_load sc_25 rfl (.cel (i := 2) rfl rfl)⟩) ?_
  refine Wr.pure (v := Value.pointer (some ⟨r, 0, none⟩)) 9 rfl (by kernel_rfl) (.inr (fun _ h => st_take [0, 0, 0, 0] h)) (.inl ⟨rfl, fun _ => q_nil_ptr rfl⟩) ?_
  refine Wr.pure (v := Value.pointer (some ⟨r, 0, none⟩)) 10 rfl (by kernel_rfl) (.inr (fun _ h => st_take [0, 0, 0, 0] h)) (.inl ⟨rfl, fun _ => q_field (m := 0) fo_59_0 rfl rfl⟩) ?_
  refine Wr.take (v := v) 11 rfl (by kernel_rfl) (fun _ h => st_take [0, 0, 0, 0] h) (.inl ⟨rfl, q_load sc_22 rfl (.cel (i := 0) rfl rfl)⟩) ?_
  refine Wr.take (v := Value.int .i64 ((ts.length : Nat) : Int)) 12 rfl (by kernel_rfl) (fun _ h => st_take [0, 0, 0, 0] h) (.inl ⟨rfl, q_len_sl (i := 1) Try.underlying22 rfl rfl⟩) ?_
  refine Wr.pure (v := Value.int .i64 ((ts.length + 1 : Nat) : Int)) 13 rfl (by kernel_rfl) (.inr (fun _ h => st_take [0, 0, 0, 0] h)) (.inl ⟨rfl, fun _ => q_add (c := ((ts.length + 1 : Nat) : Int)) rfl rfl (by rw [wrap_i64] <;> omega)⟩) ?_
  by_cases heq : ((L.length : Nat) : Int) = ((ts.length + 1 : Nat) : Int)
  ·
    refine Wr.pure (v := Value.bool true) 14 rfl (by kernel_rfl) (.inr (fun _ h => st_take [0, 0, 0, 0] h)) (.inl ⟨rfl, fun _ => q_eql (r := true) rfl rfl (decide_eq_true heq)⟩) ?_
    refine Wr.done (by kernel_rfl) ?_
    refine Wx.go ?_
    refine Wc.yes rfl ?_
    refine Wc.ret ?_
    refine Wx.thenRet ?_
    refine Wx.fin0 rfl (.inl rfl) (fun w hs => ?_)
    have hx := RKn.full I (by rw [← hts]; omega)
    subst hx
    rw [List.append_nil] at hts
    subst hts
    exact ⟨(L, lb, lc), ⟨I, hc, hK⟩, rfl, st_pull [1, 1, 0] (refI_mk (by have hs := hs; rw [show L.length = ts.length + 1 from I.len] at hs; exact hs))⟩
  ·
    refine Wr.pure (v := Value.bool false) 14 rfl (by kernel_rfl) (.inr (fun _ h => st_take [0, 0, 0, 0] h)) (.inl ⟨rfl, fun _ => q_eql (r := false) rfl rfl (decide_eq_false heq)⟩) ?_
    refine Wr.done (by kernel_rfl) ?_
    refine Wx.go ?_
    refine Wc.no rfl ?_
    refine Wc.skip ?_
    refine Wx.go ?_
    refine Wc.seq ?_
    refine Wc.block ?_
    refine Wc.loop (X := List Bool × Value) (fun (Lx, lv) E => E 0 = Value.pointer (some ⟨w, 0, none⟩) ∧ (∀ n, hN Lx n = hN L n) ∧ Lx.length ≤ ts.length + 1) (fun (Lx, lv) => (pt r 59 [v]) :: (sl 46 4 v ts.length (ts.flatMap termCells)) :: (pt w 61 [Value.pointer (some ⟨r, 0, none⟩), lv]) :: (sl 4 1 lv Lx.length (Lx.map Value.bool)) :: F) (fun (Lx, lv) => ts.length + 1 - Lx.length) (L, .slice (some ⟨lb, 0, none⟩) L.length lc) ?_ ?_ ?_
    · exact ⟨rfl, (fun _ => rfl), (by have := I.len; rw [hts, List.length_append]; omega)⟩
    · exact fun w hs => st_pull [1, 1, 1, 0] (st_slp_sl (by rw [List.length_map]) (st_pull [3, 0, 0, 0] (hs)))
    · rintro ⟨Lx, lv⟩ E2 ⟨hE0_0, hsame, hle⟩
      dsimp only at *
      refine Wc.seq ?_
      refine Wc.seq ?_
      refine Wc.drawsS [] ((pt r 59 [v]) :: (sl 46 4 v ts.length (ts.flatMap termCells)) :: (pt w 61 [Value.pointer (some ⟨r, 0, none⟩), lv]) :: (sl 4 1 lv Lx.length (Lx.map Value.bool)) :: []) (by kernel_rfl) ?_
      refine Wr.pure (v := Value.pointer (some ⟨w, 0, none⟩)) 0 rfl (by kernel_rfl) (.inr (fun _ h => st_take [0, 0, 0, 0] h)) (.inl ⟨rfl, fun _ => q_move hE0_0⟩) ?_
      refine Wr.pure (v := Value.pointer (some ⟨w, 0, none⟩)) 1 rfl (by kernel_rfl) (.inr (fun _ h => st_take [0, 0, 0, 0] h)) (.inl ⟨rfl, fun _ => q_nil_ptr rfl⟩) ?_
      refine Wr.pure (v := Value.pointer (some ⟨w, 1, none⟩)) 2 rfl (by kernel_rfl) (.inr (fun _ h => st_take [0, 0, 0, 0] h)) (.inl ⟨rfl, fun _ => q_field (m := 1) fo_61_1 rfl rfl⟩) ?_
      refine Wr.take (v := lv) 3 rfl (by kernel_rfl) (fun _ h => st_take [0, 0, 0, 0] h) (.inl ⟨rfl, q_load sc_57 rfl (.cel (i := 2) rfl rfl)⟩) ?_
      refine Wr.take (v := Value.int .i64 ((Lx.length : Nat) : Int)) 4 rfl (by kernel_rfl) (fun _ h => st_take [0, 0, 0, 0] h) (.inl ⟨rfl, q_len_sl (i := 3) Try.underlying57 rfl rfl⟩) ?_
      refine Wr.pure (v := Value.pointer (some ⟨w, 0, none⟩)) 5 rfl (by kernel_rfl) (.inr (fun _ h => st_take [0, 0, 0, 0] h)) (.inl ⟨rfl, fun _ => q_move hE0_0⟩) ?_
      refine Wr.pure (v := Value.pointer (some ⟨w, 0, none⟩)) 6 rfl (by kernel_rfl) (.inr (fun _ h => st_take [0, 0, 0, 0] h)) (.inl ⟨rfl, fun _ => q_nil_ptr rfl⟩) ?_
      refine Wr.pure (v := Value.pointer (some ⟨w, 0, none⟩)) 7 rfl (by kernel_rfl) (.inr (fun _ h => st_take [0, 0, 0, 0] h)) (.inl ⟨rfl, fun _ => q_field (m := 0) fo_61_0 rfl rfl⟩) ?_
      refine Wr.take (v := Value.pointer (some ⟨r, 0, none⟩)) 8 rfl (by kernel_rfl) (fun _ h => st_take [0, 0, 0, 0] h) (.inl ⟨rfl, q_load sc_25 rfl (.cel (i := 2) rfl rfl)⟩) ?_
      refine Wr.pure (v := Value.pointer (some ⟨r, 0, none⟩)) 9 rfl (by kernel_rfl) (.inr (fun _ h => st_take [0, 0, 0, 0] h)) (.inl ⟨rfl, fun _ => q_nil_ptr rfl⟩) ?_
      refine Wr.pure (v := Value.pointer (some ⟨r, 0, none⟩)) 10 rfl (by kernel_rfl) (.inr (fun _ h => st_take [0, 0, 0, 0] h)) (.inl ⟨rfl, fun _ => q_field (m := 0) fo_59_0 rfl rfl⟩) ?_
      refine Wr.take (v := v) 11 rfl (by kernel_rfl) (fun _ h => st_take [0, 0, 0, 0] h) (.inl ⟨rfl, q_load sc_22 rfl (.cel (i := 0) rfl rfl)⟩) ?_
      refine Wr.take (v := Value.int .i64 ((ts.length : Nat) : Int)) 12 rfl (by kernel_rfl) (fun _ h => st_take [0, 0, 0, 0] h) (.inl ⟨rfl, q_len_sl (i := 1) Try.underlying22 rfl rfl⟩) ?_
      refine Wr.pure (v := Value.int .i64 ((ts.length + 1 : Nat) : Int)) 13 rfl (by kernel_rfl) (.inr (fun _ h => st_take [0, 0, 0, 0] h)) (.inl ⟨rfl, fun _ => q_add (c := ((ts.length + 1 : Nat) : Int)) rfl rfl (by rw [wrap_i64] <;> omega)⟩) ?_
      by_cases hmore : ((Lx.length : Nat) : Int) < ((ts.length + 1 : Nat) : Int)
      ·
        refine Wr.pure (v := Value.bool true) 14 rfl (by kernel_rfl) (.inr (fun _ h => st_take [0, 0, 0, 0] h)) (.inl ⟨rfl, fun _ => q_lss (r := true) rfl rfl (decide_eq_true hmore)⟩) ?_
        refine Wr.done (by kernel_rfl) ?_
        refine Wx.go ?_
        refine Wc.yes rfl ?_
        refine Wc.skip ?_
        refine Wx.go ?_
        refine Wc.block ?_
        refine Wc.region ?_
        refine Wl.q (v := Value.pointer (some ⟨w, 0, none⟩)) (q_move hE0_0) ?_
        refine Wl.q (v := Value.pointer (some ⟨w, 0, none⟩)) (q_move hE0_0) ?_
        refine Wl.q (v := Value.pointer (some ⟨w, 0, none⟩)) (q_nil_ptr rfl) ?_
        refine Wl.q (v := Value.pointer (some ⟨w, 1, none⟩)) (q_field (m := 1) fo_61_1 rfl rfl) ?_
        refine Wl.q (v := lv) (q_load sc_57 rfl (.cel (i := 2) rfl rfl)) ?_
        refine Wl.e (e_buildSlice (cs := [Value.bool false]) se_57 zo_4 (by decide) (by decide) (by kernel_rfl)) (fun b3 _ => ?_)
        refine Wl.imp (L' := (pt b3 4 [Value.bool false]) :: (pt r 59 [v]) :: (sl 46 4 v ts.length (ts.flatMap termCells)) :: (pt w 61 [Value.pointer (some ⟨r, 0, none⟩), lv]) :: (sl 4 1 lv Lx.length (Lx.map Value.bool)) :: F) (fun _ h => h) ?_
        refine Wl.e (e_append (i := 4) (k := 1) (m := 1) (off := 0) (news := [Value.bool false]) Try.underlying57 sz_4 by_4 zo_4 rfl rfl rfl rfl rfl (Has.of_pt (i := 0) rfl rfl) rfl (by decide) (by simp only [maxLen]; omega) (by omega)) (fun lv2 _ => ?_)
        refine Wl.imp (L' := (pt b3 4 [Value.bool false]) :: (pt r 59 [v]) :: (sl 46 4 v ts.length (ts.flatMap termCells)) :: (pt w 61 [Value.pointer (some ⟨r, 0, none⟩), lv]) :: (sl 4 1 lv2 (Lx.length + 1) ((Lx.map Value.bool) ++ [Value.bool false])) :: F) (fun _ h => h) ?_
        refine Wl.q (v := Value.pointer (some ⟨w, 0, none⟩)) (q_nil_ptr rfl) ?_
        refine Wl.q (v := Value.pointer (some ⟨w, 1, none⟩)) (q_field (m := 1) fo_61_1 rfl rfl) ?_
        refine Wl.e (e_store (i := 3) (v := lv2) sz_57 rfl rfl (fun _ h => sl_one (i := 4) h rfl) rfl (by simp)) (fun _ _ => ?_)
        refine Wl.imp (L' := (pt b3 4 [Value.bool false]) :: (pt r 59 [v]) :: (sl 46 4 v ts.length (ts.flatMap termCells)) :: (pt w 61 [Value.pointer (some ⟨r, 0, none⟩), lv2]) :: (sl 4 1 lv2 (Lx.length + 1) ((Lx.map Value.bool) ++ [Value.bool false])) :: F) (fun _ h => h) ?_
        refine Wl.done ?_
        refine Wx.blockEnd ?_
        refine Wx.at (Lx ++ [false], lv2) ⟨(by simp only [List.length_append, List.length_singleton]; omega), hE0_0, (fun n => by rw [hN_snoc]; exact hsame n), (by simp only [List.length_append, List.length_singleton]; omega)⟩ (fun w hs => by rw [List.length_append, List.map_append]; exact (st_drop (st_pull [0] hs)))
      ·
        refine Wr.pure (v := Value.bool false) 14 rfl (by kernel_rfl) (.inr (fun _ h => st_take [0, 0, 0, 0] h)) (.inl ⟨rfl, fun _ => q_lss (r := false) rfl rfl (decide_eq_false hmore)⟩) ?_
        refine Wr.done (by kernel_rfl) ?_
        refine Wx.go ?_
        refine Wc.no rfl ?_
        refine Wc.exit ?_
        refine Wx.thenExit ?_
        refine Wx.thenExit ?_
        refine Wx.out ?_
        refine Wx.go ?_
        refine Wc.region ?_
        have hfull : Lx.length = ts.length + 1 := by omega
        refine Wl.sl (i := 3) (m := Lx.length) rfl (by omega) (fun lb2 lc2 hvl hcl => ?_)
        subst hvl
        refine Wl.imp (L' := (pt w 61 [Value.pointer (some ⟨r, 0, none⟩), Value.slice (some ⟨lb2, 0, none⟩) (ts.length + 1) lc2]) :: (slp 4 1 lb2 lc2 (Lx.map Value.bool)) :: (refI r ts) :: F) (fun w hs => by have hs := hs; rw [hfull] at hs; exact st_pull [1, 1, 0] (refI_mk hs)) ?_
        refine Wl.q (v := Value.pointer (some ⟨w, 0, none⟩)) (q_move hE0_0) ?_
        refine Wl.e (e_call (F := F) (args := [Value.pointer (some ⟨w, 0, none⟩)]) Try.call26 rfl (rgoes_c W0 w r lb2 lc2 ts K Lx (by subst hts; exact InvR.ext I hw hfull hsame) hl)) (fun y ⟨hy, hycl, hyup⟩ => ?_)
        refine Wl.imp (L' := (pt w 61 [Value.pointer (some ⟨r, 0, none⟩), Value.slice (some ⟨lb2, 0, none⟩) (ts.length + 1) lc2]) :: (slp 4 1 lb2 lc2 (y.map Value.bool)) :: (refI r ts) :: F) (fun _ h => h) ?_
        refine Wl.done ?_
        refine Wx.fin0 rfl (.inr rfl) (fun w hs => ?_)
        exact ⟨(y, lb2, lc2), ⟨hy, hycl, fun n hn => hyup n (by rw [hsame]; exact hK n hn)⟩, rfl, hs⟩

theorem rgrow_c (W0 : World) (w r lb lc : Nat) (t0 xs : List TermR) (ts : List TermR) (hts : ts = t0 ++ xs) (K : Nat → Prop) (L : List Bool) (I : InvR t0 K L) (hc : ∀ n, 0 < n → n ≤ t0.length → ClR t0 L n) (hK : ∀ n, K n → hN L n = true) (hw : Wf ts) (hl : ts.length ≤ 1048576) :
    Con Try.prog W0 29 #[Value.pointer (some ⟨w, 0, none⟩)] [refI r ts, pt w 61 [Value.pointer (some ⟨r, 0, none⟩), Value.slice (some ⟨lb, 0, none⟩) L.length lc], slp 4 1 lb lc (L.map Value.bool)] (X := List Bool × Nat × Nat) (fun y => InvR ts K y.1 ∧ (∀ n, 0 < n → n ≤ ts.length → ClR ts y.1 n) ∧ ∀ n, K n → hN y.1 n = true) (fun _ => .tuple #[]) (fun y => [pt w 61 [Value.pointer (some ⟨r, 0, none⟩), Value.slice (some ⟨y.2.1, 0, none⟩) (ts.length + 1) y.2.2], slp 4 1 y.2.1 y.2.2 (y.1.map Value.bool), refI r ts]) :=
  Con.ref fun v => rgrow_o W0 w r v lb lc t0 xs ts hts K L I hc hK hw hl

theorem rhas4_o (W0 : World) (w r lb lc : Nat) (t0 xs : List TermR) (ts : List TermR) (hts : ts = t0 ++ xs) (K : Nat → Prop) (L : List Bool) (I : InvR t0 K L) (hc : ∀ n, 0 < n → n ≤ t0.length → ClR t0 L n) (hK : ∀ n, K n → hN L n = true) (hw : Wf ts) (hl : ts.length ≤ 1048576) (x : Int) :
    Con Try.prog W0 14 #[Value.pointer (some ⟨w, 0, none⟩), Value.int .i64 x] [refI r ts, pt w 61 [Value.pointer (some ⟨r, 0, none⟩), Value.slice (some ⟨lb, 0, none⟩) L.length lc], slp 4 1 lb lc (L.map Value.bool)] (X := Unit) (fun _ => True) (fun _ => .bool (derB ts K x)) (fun _ => [refI r ts, refK w r ts K]) := by
  refine Con.of (args := [Value.pointer (some ⟨w, 0, none⟩), Value.int .i64 x]) Try.func14 rfl Try.ntmps14 rfl (fun F => ?_)
  show Wc _ W0 _ _ _ _ _ ((refI r ts) :: (pt w 61 [Value.pointer (some ⟨r, 0, none⟩), Value.slice (some ⟨lb, 0, none⟩) L.length lc]) :: (slp 4 1 lb lc (L.map Value.bool)) :: F)
  refine Wc.seq ?_
  refine Wc.region ?_
  refine Wl.q (v := Value.bool false) (q_assign rfl) ?_
  refine Wl.done ?_
  refine Wx.go ?_
  refine Wc.seq ?_
  refine Wc.region ?_
  refine Wl.q (v := Value.pointer (some ⟨w, 0, none⟩)) (q_move rfl) ?_
  refine Wl.e (e_call (F := F) (args := [Value.pointer (some ⟨w, 0, none⟩)]) Try.call29 rfl (rgrow_c W0 w r lb lc t0 xs ts hts K L I hc hK hw hl)) (fun y ⟨hy, hycl, hyK⟩ => ?_)
  refine Wl.imp (L' := (pt w 61 [Value.pointer (some ⟨r, 0, none⟩), Value.slice (some ⟨y.2.1, 0, none⟩) (ts.length + 1) y.2.2]) :: (slp 4 1 y.2.1 y.2.2 (y.1.map Value.bool)) :: (refI r ts) :: F) (fun _ h => h) ?_
  refine Wl.done ?_
  refine Wx.go ?_
  refine Wc.seq ?_
  refine Wc.region ?_
  have hyl := hy.len
  refine Wl.q (v := Value.int .i64 x) (q_move rfl) ?_
  by_cases hx1 : x ≥ 1
  ·
    refine Wl.q (v := Value.bool true) (q_geq (r := true) rfl rfl (decide_eq_true hx1)) ?_
    refine Wl.q (v := Value.bool true) (q_move rfl) ?_
    refine Wl.q (v := Value.int .i64 x) (q_move rfl) ?_
    refine Wl.q (v := Value.pointer (some ⟨w, 0, none⟩)) (q_move rfl) ?_
    refine Wl.q (v := Value.pointer (some ⟨w, 0, none⟩)) (q_nil_ptr rfl) ?_
    refine Wl.q (v := Value.pointer (some ⟨w, 1, none⟩)) (q_field (m := 1) fo_61_1 rfl rfl) ?_
    refine Wl.q (v := Value.slice (some ⟨y.2.1, 0, none⟩) (ts.length + 1) y.2.2) (q_load sc_57 rfl (.cel (i := 0) rfl rfl)) ?_
    refine Wl.q (v := Value.int .i64 (((ts.length + 1) : Nat) : Int)) (q_len_slice Try.underlying57 rfl) ?_
    by_cases hx2 : x < (((ts.length + 1) : Nat) : Int)
    ·
      refine Wl.q (v := Value.bool true) (q_lss (r := true) rfl rfl (decide_eq_true hx2)) ?_
      refine Wl.q (v := Value.bool true) (q_pick (t := true) rfl rfl) ?_
      refine Wl.q (v := Value.bool true) (q_move rfl) ?_
      refine Wl.q (v := Value.pointer (some ⟨w, 0, none⟩)) (q_move rfl) ?_
      refine Wl.q (v := Value.pointer (some ⟨w, 0, none⟩)) (q_nil_ptr rfl) ?_
      refine Wl.q (v := Value.pointer (some ⟨w, 1, none⟩)) (q_field (m := 1) fo_61_1 rfl rfl) ?_
      refine Wl.q (v := Value.slice (some ⟨y.2.1, 0, none⟩) (ts.length + 1) y.2.2) (q_load sc_57 rfl (.cel (i := 0) rfl rfl)) ?_
      refine Wl.q (v := Value.int .i64 x) (q_move rfl) ?_
      refine Wl.q (v := Value.pointer (some ⟨y.2.1, (x).toNat, none⟩)) (q_idx (m := (x).toNat) se_57 rfl rfl (by omega) (by omega) (by simp)) ?_
      by_cases hhx : hN y.1 ((x).toNat) = true
      ·
        refine Wl.q (v := Value.bool true) (q_load sc_4 rfl (.row (i := 1) rfl (bool_yes hhx))) ?_
        refine Wl.q (v := Value.bool true) (q_pick (t := true) rfl rfl) ?_
        refine Wl.q (v := Value.bool true) (q_assign rfl) ?_
        refine Wl.done ?_
        refine Wx.go ?_
        refine Wc.ret ?_
        refine Wx.fin1 rfl (.inl rfl) (fun w hs => ?_)
        exact ⟨(), trivial, congrArg Value.bool (Eq.symm (derB_iff.2 ⟨by omega, by omega, (hy.done hycl hyK (by omega)).1 hhx⟩)), st_swap (refK_mk (L := y.1) ⟨ts, [], (List.append_nil _).symm, hy, hycl, hyK⟩ (by have hs := hs; rw [show ts.length + 1 = y.1.length from hy.len.symm] at hs; exact hs))⟩
      ·
        refine Wl.q (v := Value.bool false) (q_load sc_4 rfl (.row (i := 1) rfl (bool_no (by first | omega | (simp only [List.length_set]; omega)) hhx))) ?_
        refine Wl.q (v := Value.bool false) (q_pick (t := true) rfl rfl) ?_
        refine Wl.q (v := Value.bool false) (q_assign rfl) ?_
        refine Wl.done ?_
        refine Wx.go ?_
        refine Wc.ret ?_
        refine Wx.fin1 rfl (.inl rfl) (fun w hs => ?_)
        exact ⟨(), trivial, congrArg Value.bool (Eq.symm (Bool.eq_false_iff.2 (fun hd => by have hd := derB_iff.1 hd; exact hhx ((hy.done hycl hyK (by omega)).2 hd.2.2)))), st_swap (refK_mk (L := y.1) ⟨ts, [], (List.append_nil _).symm, hy, hycl, hyK⟩ (by have hs := hs; rw [show ts.length + 1 = y.1.length from hy.len.symm] at hs; exact hs))⟩
    ·
      refine Wl.q (v := Value.bool false) (q_lss (r := false) rfl rfl (decide_eq_false hx2)) ?_
      refine Wl.q (v := Value.bool false) (q_pick (t := true) rfl rfl) ?_
      refine Wl.q (v := Value.bool false) (q_move rfl) ?_
      refine Wl.no ?_
      refine Wl.no ?_
      refine Wl.no ?_
      refine Wl.no ?_
      refine Wl.no ?_
      refine Wl.no ?_
      refine Wl.no ?_
      refine Wl.q (v := Value.bool false) (q_pick (t := false) rfl rfl) ?_
      refine Wl.q (v := Value.bool false) (q_assign rfl) ?_
      refine Wl.done ?_
      refine Wx.go ?_
      refine Wc.ret ?_
      refine Wx.fin1 rfl (.inl rfl) (fun w hs => ?_)
      exact ⟨(), trivial, congrArg Value.bool (Eq.symm (Bool.eq_false_iff.2 (fun hd => by have hd := derB_iff.1 hd; omega))), st_swap (refK_mk (L := y.1) ⟨ts, [], (List.append_nil _).symm, hy, hycl, hyK⟩ (by have hs := hs; rw [show ts.length + 1 = y.1.length from hy.len.symm] at hs; exact hs))⟩
  ·
    refine Wl.q (v := Value.bool false) (q_geq (r := false) rfl rfl (decide_eq_false hx1)) ?_
    refine Wl.q (v := Value.bool false) (q_move rfl) ?_
    refine Wl.no ?_
    refine Wl.no ?_
    refine Wl.no ?_
    refine Wl.no ?_
    refine Wl.no ?_
    refine Wl.no ?_
    refine Wl.no ?_
    refine Wl.q (v := Value.bool false) (q_pick (t := false) rfl rfl) ?_
    refine Wl.q (v := Value.bool false) (q_move rfl) ?_
    refine Wl.no ?_
    refine Wl.no ?_
    refine Wl.no ?_
    refine Wl.no ?_
    refine Wl.no ?_
    refine Wl.no ?_
    refine Wl.no ?_
    refine Wl.q (v := Value.bool false) (q_pick (t := false) rfl rfl) ?_
    refine Wl.q (v := Value.bool false) (q_assign rfl) ?_
    refine Wl.done ?_
    refine Wx.go ?_
    refine Wc.ret ?_
    refine Wx.fin1 rfl (.inl rfl) (fun w hs => ?_)
    exact ⟨(), trivial, congrArg Value.bool (Eq.symm (Bool.eq_false_iff.2 (fun hd => by have hd := derB_iff.1 hd; omega))), st_swap (refK_mk (L := y.1) ⟨ts, [], (List.append_nil _).symm, hy, hycl, hyK⟩ (by have hs := hs; rw [show ts.length + 1 = y.1.length from hy.len.symm] at hs; exact hs))⟩

theorem rhas4_c (W0 : World) (w r : Nat) (ts : List TermR) (K : Nat → Prop) (x : Int) (hw : Wf ts) (hl : ts.length ≤ 1048576) : Con Try.prog W0 14 #[Value.pointer (some ⟨w, 0, none⟩), Value.int .i64 x] [refK w r ts K, refI r ts] (X := Unit) (fun _ => True) (fun _ => .bool (derB ts K x)) (fun _ => [refI r ts, refK w r ts K]) := fun w' F hs => by
  obtain ⟨L, lb, lc, ⟨t0, xs, hts, I, hc, hK⟩, hs⟩ := refK_of hs
  exact rhas4_o W0 w r lb lc t0 xs ts hts K L I hc hK hw hl x w' F (st_pull [2, 0, 0] hs)

theorem rnew_long (W0 : World) (r : Nat) (v : Value) (ts : List TermR) (hw : Wf ts) (hl : ts.length ≤ 1048576) (vl : Value) (l : List Int) (hkl : Rd W0 vl l.length (l.flatMap int1)) (hkm : l.length ≤ 9223372036854775807) (hlong : 65536 < l.length) :
    Con Try.prog W0 11 #[Value.pointer (some ⟨r, 0, none⟩), vl] [pt r 59 [v], sl 46 4 v ts.length (ts.flatMap termCells)] (X := Unit) (fun _ => True) (fun _ => .tuple #[.pointer none, .int .i64 3]) (fun _ => [pt r 59 [v], sl 46 4 v ts.length (ts.flatMap termCells)]) := by
  refine Con.of (args := [Value.pointer (some ⟨r, 0, none⟩), vl]) Try.func11 rfl Try.ntmps11 rfl (fun F => ?_)
  show Wc _ W0 _ _ _ _ _ ((pt r 59 [v]) :: (sl 46 4 v ts.length (ts.flatMap termCells)) :: F)
  refine Wc.seq ?_
  refine Wc.region ?_
  refine Wl.q (v := Value.pointer none) (q_assign rfl) ?_
  refine Wl.q (v := Value.int .i64 0) (q_assign rfl) ?_
  refine Wl.done ?_
  refine Wx.go ?_
  refine Wc.seq ?_
  refine Wc.seq ?_
  refine Wc.region ?_
  refine Wl.q (v := vl) (q_move rfl) ?_
  refine Wl.q (v := Value.int .i64 ((l.length : Nat) : Int)) (q_len_is Try.underlying23 rfl hkl.shape) ?_
  refine Wl.q (v := Value.bool true) (q_gtr (r := true) rfl rfl (decide_eq_true (by omega))) ?_
  refine Wl.done ?_
  refine Wx.go ?_
  refine Wc.yes rfl ?_
  refine Wc.seq ?_
  refine Wc.region ?_
  refine Wl.q (v := Value.pointer none) (q_assign rfl) ?_
  refine Wl.q (v := Value.int .i64 3) (q_assign rfl) ?_
  refine Wl.done ?_
  refine Wx.go ?_
  refine Wc.ret ?_
  refine Wx.thenRet ?_
  refine Wx.fin2 rfl (.inl rfl) (fun w hs => ?_)
  exact ⟨(), trivial, rfl, hs⟩

theorem kl_set {l : List Int} {Lx : List Bool} {o : Int} (h : ∀ n, hN Lx n = true → KL l n) (hl : o.toNat < Lx.length) (hm : o ∈ l) : ∀ n, hN (Lx.set o.toNat true) n = true → KL l n := fun n hn => by
  rw [hN_set hl] at hn
  split at hn
  · rename_i e; exact ⟨o, hm, e.symm⟩
  · exact h n hn
theorem rmark_all {l : List Int} {i : Nat} {o : Int} {Lx : List Bool} (h : l[i]? = some o) (hall : ∀ x ∈ l.take i, hN Lx x.toNat = true) (hl2 : o.toNat < Lx.length) : ∀ x ∈ l.take (i + 1), hN (Lx.set o.toNat true) x.toNat = true := fun x hx => by
  obtain ⟨hl, he⟩ := List.getElem?_eq_some_iff.1 h
  rw [List.take_succ_eq_append_getElem hl, List.mem_append, List.mem_singleton, he] at hx
  rw [hN_set hl2]
  rcases hx with hx | rfl
  · split
    · rfl
    · exact hall x hx
  · simp

theorem rnew_bad (W0 : World) (r : Nat) (v : Value) (ts : List TermR) (hw : Wf ts) (hl : ts.length ≤ 1048576) (vl : Value) (l : List Int) (hkl : Rd W0 vl l.length (l.flatMap int1)) (hkm : l.length ≤ 9223372036854775807) (hshort : l.length ≤ 65536) (hbad : ∃ x ∈ l, ¬ (1 ≤ x ∧ x ≤ (ts.length : Int))) :
    Con Try.prog W0 11 #[Value.pointer (some ⟨r, 0, none⟩), vl] [pt r 59 [v], sl 46 4 v ts.length (ts.flatMap termCells)] (X := Unit) (fun _ => True) (fun _ => .tuple #[.pointer none, .int .i64 1]) (fun _ => [pt r 59 [v], sl 46 4 v ts.length (ts.flatMap termCells)]) := by
  refine Con.of (args := [Value.pointer (some ⟨r, 0, none⟩), vl]) Try.func11 rfl Try.ntmps11 rfl (fun F => ?_)
  show Wc _ W0 _ _ _ _ _ ((pt r 59 [v]) :: (sl 46 4 v ts.length (ts.flatMap termCells)) :: F)
  refine Wc.seq ?_
  refine Wc.region ?_
  refine Wl.q (v := Value.pointer none) (q_assign rfl) ?_
  refine Wl.q (v := Value.int .i64 0) (q_assign rfl) ?_
  refine Wl.done ?_
  refine Wx.go ?_
  refine Wc.seq ?_
  refine Wc.seq ?_
  refine Wc.region ?_
  refine Wl.q (v := vl) (q_move rfl) ?_
  refine Wl.q (v := Value.int .i64 ((l.length : Nat) : Int)) (q_len_is Try.underlying23 rfl hkl.shape) ?_
  refine Wl.q (v := Value.bool false) (q_gtr (r := false) rfl rfl (decide_eq_false (by omega))) ?_
  refine Wl.done ?_
  refine Wx.go ?_
  refine Wc.no rfl ?_
  refine Wc.skip ?_
  refine Wx.go ?_
  refine Wc.seq ?_
  refine Wc.region ?_
  refine Wl.q (v := Value.pointer (some ⟨r, 0, none⟩)) (q_move rfl) ?_
  refine Wl.q (v := Value.pointer (some ⟨r, 0, none⟩)) (q_move rfl) ?_
  refine Wl.q (v := Value.pointer (some ⟨r, 0, none⟩)) (q_nil_ptr rfl) ?_
  refine Wl.q (v := Value.pointer (some ⟨r, 0, none⟩)) (q_field (m := 0) fo_59_0 rfl rfl) ?_
  refine Wl.q (v := v) (q_load sc_22 rfl (.cel (i := 0) rfl rfl)) ?_
  refine Wl.q (v := Value.int .i64 ((ts.length : Nat) : Int)) (q_len_sl (i := 1) Try.underlying22 rfl rfl) ?_
  refine Wl.q (v := Value.int .i64 ((ts.length + 1 : Nat) : Int)) (q_add (c := ((ts.length + 1 : Nat) : Int)) rfl rfl (by rw [wrap_i64] <;> omega)) ?_
  refine Wl.e (e_makeSlice (len := ts.length + 1) Try.underlying57 sz_4 by_4 zo_4 rfl rfl (by omega) (by omega)) (fun lb _ => ?_)
  refine Wl.imp (L' := (pt lb 4 ((madeCells (Value.bool false : Value).cells ((ts.length + 1) * 1)).toList)) :: (pt r 59 [v]) :: (sl 46 4 v ts.length (ts.flatMap termCells)) :: F) (fun _ h => h) ?_
  refine Wl.q (v := Value.agg #[Value.pointer (some ⟨r, 0, none⟩), Value.slice (some ⟨lb, 0, none⟩) (ts.length + 1) (ts.length + 1)]) (q_build (pl := [(0, 1), (1, 1)]) Try.underlying61 zo_61 (by kernel_rfl) (by kernel_rfl)) ?_
  refine Wl.e (e_box (x := .tmp 19) (vs := [Value.pointer (some ⟨r, 0, none⟩), Value.slice (some ⟨lb, 0, none⟩) (ts.length + 1) (ts.length + 1)]) rfl) (fun wk _ => ?_)
  refine Wl.imp (L' := (pt wk 61 [Value.pointer (some ⟨r, 0, none⟩), Value.slice (some ⟨lb, 0, none⟩) (ts.length + 1) (ts.length + 1)]) :: (pt lb 4 ((madeCells (Value.bool false : Value).cells ((ts.length + 1) * 1)).toList)) :: (pt r 59 [v]) :: (sl 46 4 v ts.length (ts.flatMap termCells)) :: F) (fun _ h => h) ?_
  refine Wl.q (v := Value.pointer (some ⟨wk, 0, none⟩)) (q_assign rfl) ?_
  refine Wl.done ?_
  refine Wx.go ?_
  refine Wc.seq ?_
  refine Wc.seq ?_
  refine Wc.region ?_
  refine Wl.q (v := Value.int .i64 0) (q_assign rfl) ?_
  refine Wl.done ?_
  refine Wx.go ?_
  refine Wc.block ?_
  refine Wc.loop (X := Nat × List Bool) (fun (i, Lx) E => E 7 = Value.int .i64 ((i : Nat) : Int) ∧ E 0 = Value.pointer (some ⟨r, 0, none⟩) ∧ E 1 = vl ∧ E 6 = Value.pointer (some ⟨wk, 0, none⟩) ∧ i ≤ l.length ∧ Lx.length = ts.length + 1 ∧ hN Lx 0 = false ∧ (∀ n, hN Lx n = true → KL l n) ∧ (∀ x ∈ l.take i, 1 ≤ x ∧ x ≤ (ts.length : Int)) ∧ (∀ x ∈ l.take i, hN Lx x.toNat = true)) (fun (i, Lx) => (pt r 59 [v]) :: (sl 46 4 v ts.length (ts.flatMap termCells)) :: (pt wk 61 [Value.pointer (some ⟨r, 0, none⟩), Value.slice (some ⟨lb, 0, none⟩) (ts.length + 1) (ts.length + 1)]) :: (slp 4 1 lb (ts.length + 1) (Lx.map Value.bool)) :: F) (fun (i, Lx) => l.length - i) (0, List.replicate (ts.length + 1) false) ?_ ?_ ?_
  · exact ⟨rfl, rfl, rfl, rfl, (by omega), (by simp), (hN_false _ _), (fun n h => by rw [hN_false] at h; cases h), (fun x hx => by simp at hx), (fun x hx => by simp at hx)⟩
  · exact fun w hs => by have hs := (st_pull [1, 1, 1, 0] (hs)); rw [made_bools] at hs; exact st_pull [1, 1, 1, 0] (st_slp_pt (by simp) (by simp only [maxLen]; omega) hs)
  · rintro ⟨i, Lx⟩ E2 ⟨hE7_0, hE0_0, hE1_0, hE6_0, hi, hLl, hz, hsnd, hall, hdone⟩
    dsimp only at *
    refine Wc.seq ?_
    refine Wc.seq ?_
    refine Wc.region ?_
    refine Wl.q (v := Value.int .i64 ((i : Nat) : Int)) (q_move hE7_0) ?_
    refine Wl.q (v := vl) (q_move hE1_0) ?_
    refine Wl.q (v := Value.int .i64 ((l.length : Nat) : Int)) (q_len_is Try.underlying23 rfl hkl.shape) ?_
    by_cases hlt : ((i : Nat) : Int) < ((l.length : Nat) : Int)
    ·
      obtain ⟨o, hget⟩ : ∃ o, l[i]? = some o := ⟨l[i]'(by omega), List.getElem?_eq_getElem (by omega)⟩
      have hmem := List.mem_of_getElem? hget
      refine Wl.q (v := Value.bool true) (q_lss (r := true) rfl rfl (decide_eq_true hlt)) ?_
      refine Wl.done ?_
      refine Wx.go ?_
      refine Wc.yes rfl ?_
      refine Wc.skip ?_
      refine Wx.go ?_
      refine Wc.seq ?_
      refine Wc.block ?_
      refine Wc.seq ?_
      refine Wc.seq ?_
      refine Wc.drawsS [] ((pt r 59 [v]) :: (sl 46 4 v ts.length (ts.flatMap termCells)) :: (pt wk 61 [Value.pointer (some ⟨r, 0, none⟩), Value.slice (some ⟨lb, 0, none⟩) (ts.length + 1) (ts.length + 1)]) :: (slp 4 1 lb (ts.length + 1) (Lx.map Value.bool)) :: []) (by kernel_rfl) ?_
      refine Wr.pure (v := vl) 0 rfl (by kernel_rfl) (.inr (fun _ h => st_take [0, 0, 0, 0] h)) (.inl ⟨rfl, fun _ => q_move hE1_0⟩) ?_
      refine Wr.pure (v := Value.int .i64 ((i : Nat) : Int)) 1 rfl (by kernel_rfl) (.inr (fun _ h => st_take [0, 0, 0, 0] h)) (.inl ⟨rfl, fun _ => q_move hE7_0⟩) ?_
      refine Wr.pure (v := Value.pointer (some ⟨(rb vl), ro vl + i, none⟩)) 2 rfl (by kernel_rfl) (.inr (fun _ h => st_take [0, 0, 0, 0] h)) (.inl ⟨rfl, fun _ => q_idx_is (m := ro vl + i) se_23 rfl (hkl.some_ (by omega)) rfl (by omega) (by omega) (by simp)⟩) ?_
      refine Wr.take (v := Value.int .i64 o) 3 rfl (by kernel_rfl) (fun _ h => st_take [0, 0, 0, 0] h) (.inl ⟨rfl, q_load sc_3 rfl (.old (rd1 hkl hget))⟩) ?_
      by_cases ho1 : o < 1
      ·
        refine Wr.pure (v := Value.bool true) 4 rfl (by kernel_rfl) (.inr (fun _ h => st_take [0, 0, 0, 0] h)) (.inl ⟨rfl, fun _ => q_lss (r := true) rfl rfl (decide_eq_true ho1)⟩) ?_
        refine Wr.pure (v := Value.bool true) 5 rfl (by kernel_rfl) (.inr (fun _ h => st_take [0, 0, 0, 0] h)) (.inl ⟨rfl, fun _ => q_move rfl⟩) ?_
        refine Wr.pure (v := undef) 6 rfl (by kernel_rfl) (.inr (fun _ h => st_take [0, 0, 0, 0] h)) (.inr ⟨rfl, rfl⟩) ?_
        refine Wr.pure (v := undef) 7 rfl (by kernel_rfl) (.inr (fun _ h => st_take [0, 0, 0, 0] h)) (.inr ⟨rfl, rfl⟩) ?_
        refine Wr.pure (v := undef) 8 rfl (by kernel_rfl) (.inr (fun _ h => st_take [0, 0, 0, 0] h)) (.inr ⟨rfl, rfl⟩) ?_
        refine Wr.pure (v := undef) 9 rfl (by kernel_rfl) (.inr (fun _ h => st_take [0, 0, 0, 0] h)) (.inr ⟨rfl, rfl⟩) ?_
        refine Wr.pure (v := undef) 10 rfl (by kernel_rfl) (.inr (fun _ h => st_take [0, 0, 0, 0] h)) (.inr ⟨rfl, rfl⟩) ?_
        refine Wr.pure (v := undef) 11 rfl (by kernel_rfl) (.inr (fun _ h => st_take [0, 0, 0, 0] h)) (.inr ⟨rfl, rfl⟩) ?_
        refine Wr.pure (v := undef) 12 rfl (by kernel_rfl) (.inr (fun _ h => st_take [0, 0, 0, 0] h)) (.inr ⟨rfl, rfl⟩) ?_
        refine Wr.pure (v := undef) 13 rfl (by kernel_rfl) (.inr (fun _ h => st_take [0, 0, 0, 0] h)) (.inr ⟨rfl, rfl⟩) ?_
        refine Wr.pure (v := undef) 14 rfl (by kernel_rfl) (.inr (fun _ h => st_take [0, 0, 0, 0] h)) (.inr ⟨rfl, rfl⟩) ?_
        refine Wr.pure (v := undef) 15 rfl (by kernel_rfl) (.inr (fun _ h => st_take [0, 0, 0, 0] h)) (.inr ⟨rfl, rfl⟩) ?_
        refine Wr.pure (v := Value.bool true) 16 rfl (by kernel_rfl) (.inr (fun _ h => st_take [0, 0, 0, 0] h)) (.inl ⟨rfl, fun _ => q_pick (t := true) rfl rfl⟩) ?_
        refine Wr.done (by kernel_rfl) ?_
        refine Wx.go ?_
        refine Wc.yes rfl ?_
        refine Wc.seq ?_
        refine Wc.region ?_
        refine Wl.q (v := Value.pointer none) (q_assign rfl) ?_
        refine Wl.q (v := Value.int .i64 1) (q_assign rfl) ?_
        refine Wl.done ?_
        refine Wx.go ?_
        refine Wc.ret ?_
        refine Wx.thenRet ?_
        refine Wx.blockRet ?_
        refine Wx.thenRet ?_
        refine Wx.thenRet ?_
        refine Wx.blockRet ?_
        refine Wx.thenRet ?_
        refine Wx.fin2 rfl (.inl rfl) (fun w hs => ?_)
        exact ⟨(), trivial, rfl, (st_drop (st_drop (st_pull [2, 2] hs)))⟩
      ·
        refine Wr.pure (v := Value.bool false) 4 rfl (by kernel_rfl) (.inr (fun _ h => st_take [0, 0, 0, 0] h)) (.inl ⟨rfl, fun _ => q_lss (r := false) rfl rfl (decide_eq_false ho1)⟩) ?_
        refine Wr.pure (v := Value.bool false) 5 rfl (by kernel_rfl) (.inr (fun _ h => st_take [0, 0, 0, 0] h)) (.inl ⟨rfl, fun _ => q_move rfl⟩) ?_
        refine Wr.pure (v := vl) 6 rfl (by kernel_rfl) (.inr (fun _ h => st_take [0, 0, 0, 0] h)) (.inl ⟨rfl, fun _ => q_move hE1_0⟩) ?_
        refine Wr.pure (v := Value.int .i64 ((i : Nat) : Int)) 7 rfl (by kernel_rfl) (.inr (fun _ h => st_take [0, 0, 0, 0] h)) (.inl ⟨rfl, fun _ => q_move hE7_0⟩) ?_
        refine Wr.pure (v := Value.pointer (some ⟨(rb vl), ro vl + i, none⟩)) 8 rfl (by kernel_rfl) (.inr (fun _ h => st_take [0, 0, 0, 0] h)) (.inl ⟨rfl, fun _ => q_idx_is (m := ro vl + i) se_23 rfl (hkl.some_ (by omega)) rfl (by omega) (by omega) (by simp)⟩) ?_
        refine Wr.take (v := Value.int .i64 o) 9 rfl (by kernel_rfl) (fun _ h => st_take [0, 0, 0, 0] h) (.inl ⟨rfl, q_load sc_3 rfl (.old (rd1 hkl hget))⟩) ?_
        refine Wr.pure (v := Value.pointer (some ⟨r, 0, none⟩)) 10 rfl (by kernel_rfl) (.inr (fun _ h => st_take [0, 0, 0, 0] h)) (.inl ⟨rfl, fun _ => q_move hE0_0⟩) ?_
        refine Wr.pure (v := Value.pointer (some ⟨r, 0, none⟩)) 11 rfl (by kernel_rfl) (.inr (fun _ h => st_take [0, 0, 0, 0] h)) (.inl ⟨rfl, fun _ => q_nil_ptr rfl⟩) ?_
        refine Wr.pure (v := Value.pointer (some ⟨r, 0, none⟩)) 12 rfl (by kernel_rfl) (.inr (fun _ h => st_take [0, 0, 0, 0] h)) (.inl ⟨rfl, fun _ => q_field (m := 0) fo_59_0 rfl rfl⟩) ?_
        refine Wr.take (v := v) 13 rfl (by kernel_rfl) (fun _ h => st_take [0, 0, 0, 0] h) (.inl ⟨rfl, q_load sc_22 rfl (.cel (i := 0) rfl rfl)⟩) ?_
        refine Wr.take (v := Value.int .i64 ((ts.length : Nat) : Int)) 14 rfl (by kernel_rfl) (fun _ h => st_take [0, 0, 0, 0] h) (.inl ⟨rfl, q_len_sl (i := 1) Try.underlying22 rfl rfl⟩) ?_
        by_cases ho2 : o > ((ts.length : Nat) : Int)
        ·
          refine Wr.pure (v := Value.bool true) 15 rfl (by kernel_rfl) (.inr (fun _ h => st_take [0, 0, 0, 0] h)) (.inl ⟨rfl, fun _ => q_gtr (r := true) rfl rfl (decide_eq_true ho2)⟩) ?_
          refine Wr.pure (v := Value.bool true) 16 rfl (by kernel_rfl) (.inr (fun _ h => st_take [0, 0, 0, 0] h)) (.inl ⟨rfl, fun _ => q_pick (t := false) rfl rfl⟩) ?_
          refine Wr.done (by kernel_rfl) ?_
          refine Wx.go ?_
          refine Wc.yes rfl ?_
          refine Wc.seq ?_
          refine Wc.region ?_
          refine Wl.q (v := Value.pointer none) (q_assign rfl) ?_
          refine Wl.q (v := Value.int .i64 1) (q_assign rfl) ?_
          refine Wl.done ?_
          refine Wx.go ?_
          refine Wc.ret ?_
          refine Wx.thenRet ?_
          refine Wx.blockRet ?_
          refine Wx.thenRet ?_
          refine Wx.thenRet ?_
          refine Wx.blockRet ?_
          refine Wx.thenRet ?_
          refine Wx.fin2 rfl (.inl rfl) (fun w hs => ?_)
          exact ⟨(), trivial, rfl, (st_drop (st_drop (st_pull [2, 2] hs)))⟩
        ·
          refine Wr.pure (v := Value.bool false) 15 rfl (by kernel_rfl) (.inr (fun _ h => st_take [0, 0, 0, 0] h)) (.inl ⟨rfl, fun _ => q_gtr (r := false) rfl rfl (decide_eq_false ho2)⟩) ?_
          refine Wr.pure (v := Value.bool false) 16 rfl (by kernel_rfl) (.inr (fun _ h => st_take [0, 0, 0, 0] h)) (.inl ⟨rfl, fun _ => q_pick (t := false) rfl rfl⟩) ?_
          refine Wr.done (by kernel_rfl) ?_
          refine Wx.go ?_
          refine Wc.no rfl ?_
          refine Wc.skip ?_
          refine Wx.go ?_
          refine Wc.drawsS [9] ((pt r 59 [v]) :: (sl 46 4 v ts.length (ts.flatMap termCells)) :: (pt wk 61 [Value.pointer (some ⟨r, 0, none⟩), Value.slice (some ⟨lb, 0, none⟩) (ts.length + 1) (ts.length + 1)]) :: (slp 4 1 lb (ts.length + 1) (Lx.map Value.bool)) :: []) (by kernel_rfl) ?_
          refine Wr.pure (v := Value.pointer (some ⟨wk, 0, none⟩)) 0 rfl (by kernel_rfl) (.inr (fun _ h => st_take [0, 0, 0, 0] h)) (.inl ⟨rfl, fun _ => q_move hE6_0⟩) ?_
          refine Wr.pure (v := Value.pointer (some ⟨wk, 0, none⟩)) 1 rfl (by kernel_rfl) (.inr (fun _ h => st_take [0, 0, 0, 0] h)) (.inl ⟨rfl, fun _ => q_nil_ptr rfl⟩) ?_
          refine Wr.pure (v := Value.pointer (some ⟨wk, 1, none⟩)) 2 rfl (by kernel_rfl) (.inr (fun _ h => st_take [0, 0, 0, 0] h)) (.inl ⟨rfl, fun _ => q_field (m := 1) fo_61_1 rfl rfl⟩) ?_
          refine Wr.take (v := Value.slice (some ⟨lb, 0, none⟩) (ts.length + 1) (ts.length + 1)) 3 rfl (by kernel_rfl) (fun _ h => st_take [0, 0, 0, 0] h) (.inl ⟨rfl, q_load sc_57 rfl (.cel (i := 2) rfl rfl)⟩) ?_
          refine Wr.pure (v := vl) 4 rfl (by kernel_rfl) (.inr (fun _ h => st_take [0, 0, 0, 0] h)) (.inl ⟨rfl, fun _ => q_move hE1_0⟩) ?_
          refine Wr.pure (v := Value.int .i64 ((i : Nat) : Int)) 5 rfl (by kernel_rfl) (.inr (fun _ h => st_take [0, 0, 0, 0] h)) (.inl ⟨rfl, fun _ => q_move hE7_0⟩) ?_
          refine Wr.pure (v := Value.pointer (some ⟨(rb vl), ro vl + i, none⟩)) 6 rfl (by kernel_rfl) (.inr (fun _ h => st_take [0, 0, 0, 0] h)) (.inl ⟨rfl, fun _ => q_idx_is (m := ro vl + i) se_23 rfl (hkl.some_ (by omega)) rfl (by omega) (by omega) (by simp)⟩) ?_
          refine Wr.take (v := Value.int .i64 o) 7 rfl (by kernel_rfl) (fun _ h => st_take [0, 0, 0, 0] h) (.inl ⟨rfl, q_load sc_3 rfl (.old (rd1 hkl hget))⟩) ?_
          refine Wr.pure (v := Value.pointer (some ⟨lb, (o).toNat, none⟩)) 8 rfl (by kernel_rfl) (.inr (fun _ h => st_take [0, 0, 0, 0] h)) (.inl ⟨rfl, fun _ => q_idx (m := (o).toNat) se_57 rfl rfl (by omega) (by omega) (by simp)⟩) ?_
          refine Wr.e 9 (by kernel_rfl) rfl (e_store_slp (i := 3) (vs := [Value.bool true]) (c' := (Lx.set ((o).toNat) true).map Value.bool) sz_4 rfl (congrArg Value.cells (rfl)) rfl rfl (by simp; omega) (splice_map (by first | omega | (simp only [List.length_set]; omega)))) (.inl (by kernel_rfl)) (fun _ _ => ?_)
          refine Wr.imp (L' := (pt r 59 [v]) :: (sl 46 4 v ts.length (ts.flatMap termCells)) :: (pt wk 61 [Value.pointer (some ⟨r, 0, none⟩), Value.slice (some ⟨lb, 0, none⟩) (ts.length + 1) (ts.length + 1)]) :: (slp 4 1 lb (ts.length + 1) ((Lx.set ((o).toNat) true).map Value.bool)) :: F) (fun _ h => h) ?_
          refine Wr.rebaseS [] ((pt r 59 [v]) :: (sl 46 4 v ts.length (ts.flatMap termCells)) :: (pt wk 61 [Value.pointer (some ⟨r, 0, none⟩), Value.slice (some ⟨lb, 0, none⟩) (ts.length + 1) (ts.length + 1)]) :: (slp 4 1 lb (ts.length + 1) ((Lx.set ((o).toNat) true).map Value.bool)) :: []) (by kernel_rfl) ?_
          refine Wr.done (by kernel_rfl) ?_
          refine Wx.blockEnd ?_
          refine Wx.go ?_
          refine Wc.region ?_
          refine Wl.q (v := Value.int .i64 ((i : Nat) : Int)) (q_move hE7_0) ?_
          refine Wl.q (v := Value.int .i64 ((i + 1 : Nat) : Int)) (q_add (c := ((i + 1 : Nat) : Int)) rfl rfl (by rw [wrap_i64] <;> omega)) ?_
          refine Wl.q (v := Value.int .i64 ((i + 1 : Nat) : Int)) (q_assign rfl) ?_
          refine Wl.done ?_
          refine Wx.at (i + 1, (Lx.set ((o).toNat) true)) ⟨(by simp only; omega), rfl, hE0_0, hE1_0, hE6_0, (by simp only; omega), (by simp only [List.length_set]; exact hLl), (by simp only; rw [hN_set (by omega), if_neg (by omega)]; exact hz), (kl_set hsnd (by omega) hmem), (take_all hget hall ⟨by omega, by omega⟩), (rmark_all hget hdone (by omega))⟩ (fun w hs => hs)
    ·
      exfalso
      obtain ⟨z, hz1, hzn⟩ := hbad
      rw [show i = l.length by omega, List.take_length] at hall
      exact hzn (hall z hz1)

theorem rnew_ok (W0 : World) (r : Nat) (v : Value) (ts : List TermR) (hw : Wf ts) (hl : ts.length ≤ 1048576) (vl : Value) (l : List Int) (hkl : Rd W0 vl l.length (l.flatMap int1)) (hkm : l.length ≤ 9223372036854775807) (hshort : l.length ≤ 65536) (hall0 : ∀ x ∈ l, 1 ≤ x ∧ x ≤ (ts.length : Int)) :
    Con Try.prog W0 11 #[Value.pointer (some ⟨r, 0, none⟩), vl] [pt r 59 [v], sl 46 4 v ts.length (ts.flatMap termCells)] (X := Nat) (fun _ => True) (fun w => .tuple #[.pointer (some ⟨w, 0, none⟩), .int .i64 0]) (fun w => [refK w r ts (KL l), refI r ts]) := by
  refine Con.of (args := [Value.pointer (some ⟨r, 0, none⟩), vl]) Try.func11 rfl Try.ntmps11 rfl (fun F => ?_)
  show Wc _ W0 _ _ _ _ _ ((pt r 59 [v]) :: (sl 46 4 v ts.length (ts.flatMap termCells)) :: F)
  refine Wc.seq ?_
  refine Wc.region ?_
  refine Wl.q (v := Value.pointer none) (q_assign rfl) ?_
  refine Wl.q (v := Value.int .i64 0) (q_assign rfl) ?_
  refine Wl.done ?_
  refine Wx.go ?_
  refine Wc.seq ?_
  refine Wc.seq ?_
  refine Wc.region ?_
  refine Wl.q (v := vl) (q_move rfl) ?_
  refine Wl.q (v := Value.int .i64 ((l.length : Nat) : Int)) (q_len_is Try.underlying23 rfl hkl.shape) ?_
  refine Wl.q (v := Value.bool false) (q_gtr (r := false) rfl rfl (decide_eq_false (by omega))) ?_
  refine Wl.done ?_
  refine Wx.go ?_
  refine Wc.no rfl ?_
  refine Wc.skip ?_
  refine Wx.go ?_
  refine Wc.seq ?_
  refine Wc.region ?_
  refine Wl.q (v := Value.pointer (some ⟨r, 0, none⟩)) (q_move rfl) ?_
  refine Wl.q (v := Value.pointer (some ⟨r, 0, none⟩)) (q_move rfl) ?_
  refine Wl.q (v := Value.pointer (some ⟨r, 0, none⟩)) (q_nil_ptr rfl) ?_
  refine Wl.q (v := Value.pointer (some ⟨r, 0, none⟩)) (q_field (m := 0) fo_59_0 rfl rfl) ?_
  refine Wl.q (v := v) (q_load sc_22 rfl (.cel (i := 0) rfl rfl)) ?_
  refine Wl.q (v := Value.int .i64 ((ts.length : Nat) : Int)) (q_len_sl (i := 1) Try.underlying22 rfl rfl) ?_
  refine Wl.q (v := Value.int .i64 ((ts.length + 1 : Nat) : Int)) (q_add (c := ((ts.length + 1 : Nat) : Int)) rfl rfl (by rw [wrap_i64] <;> omega)) ?_
  refine Wl.e (e_makeSlice (len := ts.length + 1) Try.underlying57 sz_4 by_4 zo_4 rfl rfl (by omega) (by omega)) (fun lb _ => ?_)
  refine Wl.imp (L' := (pt lb 4 ((madeCells (Value.bool false : Value).cells ((ts.length + 1) * 1)).toList)) :: (pt r 59 [v]) :: (sl 46 4 v ts.length (ts.flatMap termCells)) :: F) (fun _ h => h) ?_
  refine Wl.q (v := Value.agg #[Value.pointer (some ⟨r, 0, none⟩), Value.slice (some ⟨lb, 0, none⟩) (ts.length + 1) (ts.length + 1)]) (q_build (pl := [(0, 1), (1, 1)]) Try.underlying61 zo_61 (by kernel_rfl) (by kernel_rfl)) ?_
  refine Wl.e (e_box (x := .tmp 19) (vs := [Value.pointer (some ⟨r, 0, none⟩), Value.slice (some ⟨lb, 0, none⟩) (ts.length + 1) (ts.length + 1)]) rfl) (fun wk _ => ?_)
  refine Wl.imp (L' := (pt wk 61 [Value.pointer (some ⟨r, 0, none⟩), Value.slice (some ⟨lb, 0, none⟩) (ts.length + 1) (ts.length + 1)]) :: (pt lb 4 ((madeCells (Value.bool false : Value).cells ((ts.length + 1) * 1)).toList)) :: (pt r 59 [v]) :: (sl 46 4 v ts.length (ts.flatMap termCells)) :: F) (fun _ h => h) ?_
  refine Wl.q (v := Value.pointer (some ⟨wk, 0, none⟩)) (q_assign rfl) ?_
  refine Wl.done ?_
  refine Wx.go ?_
  refine Wc.seq ?_
  refine Wc.seq ?_
  refine Wc.region ?_
  refine Wl.q (v := Value.int .i64 0) (q_assign rfl) ?_
  refine Wl.done ?_
  refine Wx.go ?_
  refine Wc.block ?_
  refine Wc.loop (X := Nat × List Bool) (fun (i, Lx) E => E 7 = Value.int .i64 ((i : Nat) : Int) ∧ E 0 = Value.pointer (some ⟨r, 0, none⟩) ∧ E 1 = vl ∧ E 6 = Value.pointer (some ⟨wk, 0, none⟩) ∧ i ≤ l.length ∧ Lx.length = ts.length + 1 ∧ hN Lx 0 = false ∧ (∀ n, hN Lx n = true → KL l n) ∧ (∀ x ∈ l.take i, 1 ≤ x ∧ x ≤ (ts.length : Int)) ∧ (∀ x ∈ l.take i, hN Lx x.toNat = true)) (fun (i, Lx) => (pt r 59 [v]) :: (sl 46 4 v ts.length (ts.flatMap termCells)) :: (pt wk 61 [Value.pointer (some ⟨r, 0, none⟩), Value.slice (some ⟨lb, 0, none⟩) (ts.length + 1) (ts.length + 1)]) :: (slp 4 1 lb (ts.length + 1) (Lx.map Value.bool)) :: F) (fun (i, Lx) => l.length - i) (0, List.replicate (ts.length + 1) false) ?_ ?_ ?_
  · exact ⟨rfl, rfl, rfl, rfl, (by omega), (by simp), (hN_false _ _), (fun n h => by rw [hN_false] at h; cases h), (fun x hx => by simp at hx), (fun x hx => by simp at hx)⟩
  · exact fun w hs => by have hs := (st_pull [1, 1, 1, 0] (hs)); rw [made_bools] at hs; exact st_pull [1, 1, 1, 0] (st_slp_pt (by simp) (by simp only [maxLen]; omega) hs)
  · rintro ⟨i, Lx⟩ E2 ⟨hE7_0, hE0_0, hE1_0, hE6_0, hi, hLl, hz, hsnd, hall, hdone⟩
    dsimp only at *
    refine Wc.seq ?_
    refine Wc.seq ?_
    refine Wc.region ?_
    refine Wl.q (v := Value.int .i64 ((i : Nat) : Int)) (q_move hE7_0) ?_
    refine Wl.q (v := vl) (q_move hE1_0) ?_
    refine Wl.q (v := Value.int .i64 ((l.length : Nat) : Int)) (q_len_is Try.underlying23 rfl hkl.shape) ?_
    by_cases hlt : ((i : Nat) : Int) < ((l.length : Nat) : Int)
    ·
      obtain ⟨o, hget⟩ : ∃ o, l[i]? = some o := ⟨l[i]'(by omega), List.getElem?_eq_getElem (by omega)⟩
      have hmem := List.mem_of_getElem? hget
      have hr := hall0 o hmem
      refine Wl.q (v := Value.bool true) (q_lss (r := true) rfl rfl (decide_eq_true hlt)) ?_
      refine Wl.done ?_
      refine Wx.go ?_
      refine Wc.yes rfl ?_
      refine Wc.skip ?_
      refine Wx.go ?_
      refine Wc.seq ?_
      refine Wc.block ?_
      refine Wc.seq ?_
      refine Wc.seq ?_
      refine Wc.drawsS [] ((pt r 59 [v]) :: (sl 46 4 v ts.length (ts.flatMap termCells)) :: (pt wk 61 [Value.pointer (some ⟨r, 0, none⟩), Value.slice (some ⟨lb, 0, none⟩) (ts.length + 1) (ts.length + 1)]) :: (slp 4 1 lb (ts.length + 1) (Lx.map Value.bool)) :: []) (by kernel_rfl) ?_
      refine Wr.pure (v := vl) 0 rfl (by kernel_rfl) (.inr (fun _ h => st_take [0, 0, 0, 0] h)) (.inl ⟨rfl, fun _ => q_move hE1_0⟩) ?_
      refine Wr.pure (v := Value.int .i64 ((i : Nat) : Int)) 1 rfl (by kernel_rfl) (.inr (fun _ h => st_take [0, 0, 0, 0] h)) (.inl ⟨rfl, fun _ => q_move hE7_0⟩) ?_
      refine Wr.pure (v := Value.pointer (some ⟨(rb vl), ro vl + i, none⟩)) 2 rfl (by kernel_rfl) (.inr (fun _ h => st_take [0, 0, 0, 0] h)) (.inl ⟨rfl, fun _ => q_idx_is (m := ro vl + i) se_23 rfl (hkl.some_ (by omega)) rfl (by omega) (by omega) (by simp)⟩) ?_
      refine Wr.take (v := Value.int .i64 o) 3 rfl (by kernel_rfl) (fun _ h => st_take [0, 0, 0, 0] h) (.inl ⟨rfl, q_load sc_3 rfl (.old (rd1 hkl hget))⟩) ?_
      refine Wr.pure (v := Value.bool false) 4 rfl (by kernel_rfl) (.inr (fun _ h => st_take [0, 0, 0, 0] h)) (.inl ⟨rfl, fun _ => q_lss (r := false) rfl rfl (decide_eq_false (by omega))⟩) ?_
      refine Wr.pure (v := Value.bool false) 5 rfl (by kernel_rfl) (.inr (fun _ h => st_take [0, 0, 0, 0] h)) (.inl ⟨rfl, fun _ => q_move rfl⟩) ?_
      refine Wr.pure (v := vl) 6 rfl (by kernel_rfl) (.inr (fun _ h => st_take [0, 0, 0, 0] h)) (.inl ⟨rfl, fun _ => q_move hE1_0⟩) ?_
      refine Wr.pure (v := Value.int .i64 ((i : Nat) : Int)) 7 rfl (by kernel_rfl) (.inr (fun _ h => st_take [0, 0, 0, 0] h)) (.inl ⟨rfl, fun _ => q_move hE7_0⟩) ?_
      refine Wr.pure (v := Value.pointer (some ⟨(rb vl), ro vl + i, none⟩)) 8 rfl (by kernel_rfl) (.inr (fun _ h => st_take [0, 0, 0, 0] h)) (.inl ⟨rfl, fun _ => q_idx_is (m := ro vl + i) se_23 rfl (hkl.some_ (by omega)) rfl (by omega) (by omega) (by simp)⟩) ?_
      refine Wr.take (v := Value.int .i64 o) 9 rfl (by kernel_rfl) (fun _ h => st_take [0, 0, 0, 0] h) (.inl ⟨rfl, q_load sc_3 rfl (.old (rd1 hkl hget))⟩) ?_
      refine Wr.pure (v := Value.pointer (some ⟨r, 0, none⟩)) 10 rfl (by kernel_rfl) (.inr (fun _ h => st_take [0, 0, 0, 0] h)) (.inl ⟨rfl, fun _ => q_move hE0_0⟩) ?_
      refine Wr.pure (v := Value.pointer (some ⟨r, 0, none⟩)) 11 rfl (by kernel_rfl) (.inr (fun _ h => st_take [0, 0, 0, 0] h)) (.inl ⟨rfl, fun _ => q_nil_ptr rfl⟩) ?_
      refine Wr.pure (v := Value.pointer (some ⟨r, 0, none⟩)) 12 rfl (by kernel_rfl) (.inr (fun _ h => st_take [0, 0, 0, 0] h)) (.inl ⟨rfl, fun _ => q_field (m := 0) fo_59_0 rfl rfl⟩) ?_
      refine Wr.take (v := v) 13 rfl (by kernel_rfl) (fun _ h => st_take [0, 0, 0, 0] h) (.inl ⟨rfl, q_load sc_22 rfl (.cel (i := 0) rfl rfl)⟩) ?_
      refine Wr.take (v := Value.int .i64 ((ts.length : Nat) : Int)) 14 rfl (by kernel_rfl) (fun _ h => st_take [0, 0, 0, 0] h) (.inl ⟨rfl, q_len_sl (i := 1) Try.underlying22 rfl rfl⟩) ?_
      refine Wr.pure (v := Value.bool false) 15 rfl (by kernel_rfl) (.inr (fun _ h => st_take [0, 0, 0, 0] h)) (.inl ⟨rfl, fun _ => q_gtr (r := false) rfl rfl (decide_eq_false (by omega))⟩) ?_
      refine Wr.pure (v := Value.bool false) 16 rfl (by kernel_rfl) (.inr (fun _ h => st_take [0, 0, 0, 0] h)) (.inl ⟨rfl, fun _ => q_pick (t := false) rfl rfl⟩) ?_
      refine Wr.done (by kernel_rfl) ?_
      refine Wx.go ?_
      refine Wc.no rfl ?_
      refine Wc.skip ?_
      refine Wx.go ?_
      refine Wc.drawsS [9] ((pt r 59 [v]) :: (sl 46 4 v ts.length (ts.flatMap termCells)) :: (pt wk 61 [Value.pointer (some ⟨r, 0, none⟩), Value.slice (some ⟨lb, 0, none⟩) (ts.length + 1) (ts.length + 1)]) :: (slp 4 1 lb (ts.length + 1) (Lx.map Value.bool)) :: []) (by kernel_rfl) ?_
      refine Wr.pure (v := Value.pointer (some ⟨wk, 0, none⟩)) 0 rfl (by kernel_rfl) (.inr (fun _ h => st_take [0, 0, 0, 0] h)) (.inl ⟨rfl, fun _ => q_move hE6_0⟩) ?_
      refine Wr.pure (v := Value.pointer (some ⟨wk, 0, none⟩)) 1 rfl (by kernel_rfl) (.inr (fun _ h => st_take [0, 0, 0, 0] h)) (.inl ⟨rfl, fun _ => q_nil_ptr rfl⟩) ?_
      refine Wr.pure (v := Value.pointer (some ⟨wk, 1, none⟩)) 2 rfl (by kernel_rfl) (.inr (fun _ h => st_take [0, 0, 0, 0] h)) (.inl ⟨rfl, fun _ => q_field (m := 1) fo_61_1 rfl rfl⟩) ?_
      refine Wr.take (v := Value.slice (some ⟨lb, 0, none⟩) (ts.length + 1) (ts.length + 1)) 3 rfl (by kernel_rfl) (fun _ h => st_take [0, 0, 0, 0] h) (.inl ⟨rfl, q_load sc_57 rfl (.cel (i := 2) rfl rfl)⟩) ?_
      refine Wr.pure (v := vl) 4 rfl (by kernel_rfl) (.inr (fun _ h => st_take [0, 0, 0, 0] h)) (.inl ⟨rfl, fun _ => q_move hE1_0⟩) ?_
      refine Wr.pure (v := Value.int .i64 ((i : Nat) : Int)) 5 rfl (by kernel_rfl) (.inr (fun _ h => st_take [0, 0, 0, 0] h)) (.inl ⟨rfl, fun _ => q_move hE7_0⟩) ?_
      refine Wr.pure (v := Value.pointer (some ⟨(rb vl), ro vl + i, none⟩)) 6 rfl (by kernel_rfl) (.inr (fun _ h => st_take [0, 0, 0, 0] h)) (.inl ⟨rfl, fun _ => q_idx_is (m := ro vl + i) se_23 rfl (hkl.some_ (by omega)) rfl (by omega) (by omega) (by simp)⟩) ?_
      refine Wr.take (v := Value.int .i64 o) 7 rfl (by kernel_rfl) (fun _ h => st_take [0, 0, 0, 0] h) (.inl ⟨rfl, q_load sc_3 rfl (.old (rd1 hkl hget))⟩) ?_
      refine Wr.pure (v := Value.pointer (some ⟨lb, (o).toNat, none⟩)) 8 rfl (by kernel_rfl) (.inr (fun _ h => st_take [0, 0, 0, 0] h)) (.inl ⟨rfl, fun _ => q_idx (m := (o).toNat) se_57 rfl rfl (by omega) (by omega) (by simp)⟩) ?_
      refine Wr.e 9 (by kernel_rfl) rfl (e_store_slp (i := 3) (vs := [Value.bool true]) (c' := (Lx.set ((o).toNat) true).map Value.bool) sz_4 rfl (congrArg Value.cells (rfl)) rfl rfl (by simp; omega) (splice_map (by first | omega | (simp only [List.length_set]; omega)))) (.inl (by kernel_rfl)) (fun _ _ => ?_)
      refine Wr.imp (L' := (pt r 59 [v]) :: (sl 46 4 v ts.length (ts.flatMap termCells)) :: (pt wk 61 [Value.pointer (some ⟨r, 0, none⟩), Value.slice (some ⟨lb, 0, none⟩) (ts.length + 1) (ts.length + 1)]) :: (slp 4 1 lb (ts.length + 1) ((Lx.set ((o).toNat) true).map Value.bool)) :: F) (fun _ h => h) ?_
      refine Wr.rebaseS [] ((pt r 59 [v]) :: (sl 46 4 v ts.length (ts.flatMap termCells)) :: (pt wk 61 [Value.pointer (some ⟨r, 0, none⟩), Value.slice (some ⟨lb, 0, none⟩) (ts.length + 1) (ts.length + 1)]) :: (slp 4 1 lb (ts.length + 1) ((Lx.set ((o).toNat) true).map Value.bool)) :: []) (by kernel_rfl) ?_
      refine Wr.done (by kernel_rfl) ?_
      refine Wx.blockEnd ?_
      refine Wx.go ?_
      refine Wc.region ?_
      refine Wl.q (v := Value.int .i64 ((i : Nat) : Int)) (q_move hE7_0) ?_
      refine Wl.q (v := Value.int .i64 ((i + 1 : Nat) : Int)) (q_add (c := ((i + 1 : Nat) : Int)) rfl rfl (by rw [wrap_i64] <;> omega)) ?_
      refine Wl.q (v := Value.int .i64 ((i + 1 : Nat) : Int)) (q_assign rfl) ?_
      refine Wl.done ?_
      refine Wx.at (i + 1, (Lx.set ((o).toNat) true)) ⟨(by simp only; omega), rfl, hE0_0, hE1_0, hE6_0, (by simp only; omega), (by simp only [List.length_set]; exact hLl), (by simp only; rw [hN_set (by omega), if_neg (by omega)]; exact hz), (kl_set hsnd (by omega) hmem), (take_all hget hall ⟨by omega, by omega⟩), (rmark_all hget hdone (by omega))⟩ (fun w hs => hs)
    ·
      rw [show i = l.length by omega, List.take_length] at hdone
      refine Wl.q (v := Value.bool false) (q_lss (r := false) rfl rfl (decide_eq_false hlt)) ?_
      refine Wl.done ?_
      refine Wx.go ?_
      refine Wc.no rfl ?_
      refine Wc.exit ?_
      refine Wx.thenExit ?_
      refine Wx.thenExit ?_
      refine Wx.out ?_
      refine Wx.go ?_
      refine Wc.seq ?_
      refine Wc.region ?_
      refine Wl.imp (L' := (pt wk 61 [Value.pointer (some ⟨r, 0, none⟩), Value.slice (some ⟨lb, 0, none⟩) (ts.length + 1) (ts.length + 1)]) :: (slp 4 1 lb (ts.length + 1) (Lx.map Value.bool)) :: (refI r ts) :: F) (fun w hs => st_pull [1, 1, 0] (refI_mk hs)) ?_
      refine Wl.q (v := Value.pointer (some ⟨wk, 0, none⟩)) (q_move hE6_0) ?_
      refine Wl.e (e_call (F := F) (args := [Value.pointer (some ⟨wk, 0, none⟩)]) Try.call26 rfl (rgoes_c W0 wk r lb (ts.length + 1) ts (KL l) Lx ⟨hw, hLl, hz, fun n h => .known (hsnd n h)⟩ hl)) (fun y ⟨hy, hycl, hyup⟩ => ?_)
      refine Wl.imp (L' := (pt wk 61 [Value.pointer (some ⟨r, 0, none⟩), Value.slice (some ⟨lb, 0, none⟩) (ts.length + 1) (ts.length + 1)]) :: (slp 4 1 lb (ts.length + 1) (y.map Value.bool)) :: (refI r ts) :: F) (fun _ h => h) ?_
      refine Wl.done ?_
      refine Wx.go ?_
      refine Wc.seq ?_
      refine Wc.region ?_
      refine Wl.q (v := Value.pointer (some ⟨wk, 0, none⟩)) (q_move hE6_0) ?_
      refine Wl.q (v := Value.pointer (some ⟨wk, 0, none⟩)) (q_assign rfl) ?_
      refine Wl.q (v := Value.int .i64 0) (q_assign rfl) ?_
      refine Wl.done ?_
      refine Wx.go ?_
      refine Wc.ret ?_
      refine Wx.fin2 rfl (.inl rfl) (fun w hs => ?_)
      exact ⟨wk, trivial, rfl, refK_mk (L := y) ⟨ts, [], (List.append_nil _).symm, hy, hycl, fun n ⟨x, hx, e⟩ => e ▸ hyup _ (hdone x hx)⟩ (by have hs := hs; rw [show ts.length + 1 = y.length from hy.len.symm] at hs; exact hs)⟩

end Go.Proofs.Ytmghnmfhniohkaa
