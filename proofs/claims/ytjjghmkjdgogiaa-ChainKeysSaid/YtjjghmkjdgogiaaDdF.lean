/- What follows: contracts of the calls. -/
import Derived.Test.YtjjghmkjdgogiaaDdE
namespace Go.Proofs.Ytjjghmkjdgogiaa
open Go Go.SL Go.Dd Go.RowKit
set_option linter.unusedVariables false
set_option maxRecDepth 8000
theorem fo_74_2 : fieldOff Try.prog 74 2 = some 2 := by kernel_rfl
theorem sc_72 : scalar Try.prog 72 = true := by kernel_rfl
theorem se_72 : sliceElem Try.prog 72 = some (41, 1) := by kernel_rfl
set_option maxRecDepth 4000 in
theorem krun_c (W0 : World) (k s hb hc ub uc um m : Nat) (tv : Value) (vs : List Value) (us : List (List Nat)) (ts : List TermR) (p : Nat) (K : Nat → Prop) (S : Sd) (I : Inv ts p K us no no no S) (hl : ts.length ≤ 1048576) (hpm : p + 1 = m) (hvu : vs.length = us.length) (hum : vs.length = um) :
    Con Try.prog W0 33 #[Value.pointer (some ⟨k, 0, none⟩)] [pt k 74 [Value.pointer (some ⟨s, 0, none⟩), Value.slice (some ⟨hb, 0, none⟩) m hc, Value.slice (some ⟨ub, 0, none⟩) um uc, tv], slp 4 1 hb hc (S.1.map Value.bool), sl 3 1 tv S.2.length (S.2.map natV), storeI s ts, slp 41 1 ub uc vs, grp (inners vs us)] (X := Value × List Bool) (fun y => Inv ts p K us no no no (y.2, []) ∧ ∀ n, hN S.1 n = true → hN y.2 n = true) (fun _ => .tuple #[]) (fun y => [pt k 74 [Value.pointer (some ⟨s, 0, none⟩), Value.slice (some ⟨hb, 0, none⟩) m hc, Value.slice (some ⟨ub, 0, none⟩) um uc, y.1], slp 4 1 hb hc (y.2.map Value.bool), sl 3 1 y.1 0 [], storeI s ts, slp 41 1 ub uc vs, grp (inners vs us)]) := by
  refine Con.of (args := [Value.pointer (some ⟨k, 0, none⟩)]) Try.func33 rfl Try.ntmps33 rfl (fun F => ?_)
  show Wc _ W0 _ _ _ _ _ ((pt k 74 [Value.pointer (some ⟨s, 0, none⟩), Value.slice (some ⟨hb, 0, none⟩) m hc, Value.slice (some ⟨ub, 0, none⟩) um uc, tv]) :: (slp 4 1 hb hc (S.1.map Value.bool)) :: (sl 3 1 tv S.2.length (S.2.map natV)) :: (storeI s ts) :: (slp 41 1 ub uc vs) :: (grp (inners vs us)) :: F)
  refine Wc.block ?_
  refine Wc.loop (X := Value × Sd) (fun (tw, Z) E => E 0 = Value.pointer (some ⟨k, 0, none⟩) ∧ Inv ts p K us no no no Z ∧ (∀ n, hN S.1 n = true → hN Z.1 n = true)) (fun (tw, Z) => (pt k 74 [Value.pointer (some ⟨s, 0, none⟩), Value.slice (some ⟨hb, 0, none⟩) m hc, Value.slice (some ⟨ub, 0, none⟩) um uc, tw]) :: (slp 4 1 hb hc (Z.1.map Value.bool)) :: (sl 3 1 tw Z.2.length (Z.2.map natV)) :: (storeI s ts) :: (slp 41 1 ub uc vs) :: (grp (inners vs us)) :: F) (fun (tw, Z) => mu Z) (tv, S) ?_ ?_ ?_
  · exact ⟨rfl, I, (fun _ h => h)⟩
  · exact fun w hs => hs
  · rintro ⟨tw, Z⟩ E2 ⟨hE0_0, hI, hmo⟩
    dsimp only at *
    refine Wc.seq ?_
    refine Wc.seq ?_
    refine Wc.region ?_
    refine Wl.q (v := Value.pointer (some ⟨k, 0, none⟩)) (q_move hE0_0) ?_
    refine Wl.q (v := Value.pointer (some ⟨k, 0, none⟩)) (q_nil_ptr rfl) ?_
    refine Wl.q (v := Value.pointer (some ⟨k, 3, none⟩)) (q_field (m := 3) fo_74_3 rfl rfl) ?_
    refine Wl.q (v := tw) (q_load sc_41 rfl (.cel (i := 0) rfl rfl)) ?_
    refine Wl.q (v := Value.int .i64 ((Z.2.length : Nat) : Int)) (q_len_sl (i := 2) Try.underlying41 rfl rfl) ?_
    by_cases hpos : ((Z.2.length : Nat) : Int) > 0
    ·
      obtain ⟨h, t, n, rfl⟩ := sd_split Z (by omega)
      have hq := hI.pop
      have hn := hI.todo n (by simp)
      have hzl := hI.len
      have hzp := hI.pl
      have hnp : n ≤ p := by have := hN_lt hn.2; simp only at *; omega
      have hle := hI.le
      have hun := hI.usn n
      have hul_ := hI.ul
      have htl : (t ++ [n]).length = t.length + 1 := by simp
      obtain ⟨u, hu⟩ := at_some (ts := ts) (n := n) hn.1 (by omega)
      have hIo := (hI.drop.op hnp hn.1 hn.2).1
      dsimp only at *
      refine Wl.imp (L' := (pt k 74 [Value.pointer (some ⟨s, 0, none⟩), Value.slice (some ⟨hb, 0, none⟩) m hc, Value.slice (some ⟨ub, 0, none⟩) um uc, tw]) :: (slp 4 1 hb hc ((h, t ++ [n]).1.map Value.bool)) :: (sl 3 1 tw ((t ++ [n]).length) ((t ++ [n]).map natV)) :: (storeI s ts) :: (slp 41 1 ub uc vs) :: (grp (inners vs us)) :: F) (fun _ h => h) ?_
      refine Wl.sl (i := 2) (m := (t ++ [n]).length) rfl (by omega) (fun tb tc hvt htc => ?_)
      subst hvt
      refine Wl.q (v := Value.bool true) (q_gtr (r := true) rfl rfl (decide_eq_true hpos)) ?_
      refine Wl.done ?_
      refine Wx.go ?_
      refine Wc.yes rfl ?_
      refine Wc.skip ?_
      refine Wx.go ?_
      refine Wc.block ?_
      refine Wc.seq ?_
      refine Wc.drawsS [] ((pt k 74 ([Value.pointer (some ⟨s, 0, none⟩), Value.slice (some ⟨hb, 0, none⟩) m hc, Value.slice (some ⟨ub, 0, none⟩) um uc, Value.slice (some ⟨tb, 0, none⟩) ((t ++ [n]).length) tc])) :: (slp 4 1 hb hc ((h, t ++ [n]).1.map Value.bool)) :: (slp 3 1 tb tc ((t ++ [n]).map natV)) :: (storeI s ts) :: (slp 41 1 ub uc vs) :: (grp (inners vs us)) :: []) (by kernel_rfl) ?_
      refine Wr.pure (v := Value.pointer (some ⟨k, 0, none⟩)) 0 rfl (by kernel_rfl) (.inr (fun _ h => st_take [0, 0, 0, 0, 0, 0] h)) (.inl ⟨rfl, fun _ => q_move hE0_0⟩) ?_
      refine Wr.pure (v := Value.pointer (some ⟨k, 0, none⟩)) 1 rfl (by kernel_rfl) (.inr (fun _ h => st_take [0, 0, 0, 0, 0, 0] h)) (.inl ⟨rfl, fun _ => q_nil_ptr rfl⟩) ?_
      refine Wr.pure (v := Value.pointer (some ⟨k, 3, none⟩)) 2 rfl (by kernel_rfl) (.inr (fun _ h => st_take [0, 0, 0, 0, 0, 0] h)) (.inl ⟨rfl, fun _ => q_field (m := 3) fo_74_3 rfl rfl⟩) ?_
      refine Wr.take (v := Value.slice (some ⟨tb, 0, none⟩) ((t ++ [n]).length) tc) 3 rfl (by kernel_rfl) (fun _ h => st_take [0, 0, 0, 0, 0, 0] h) (.inl ⟨rfl, q_load sc_41 rfl (.cel (i := 0) rfl rfl)⟩) ?_
      refine Wr.pure (v := Value.pointer (some ⟨k, 0, none⟩)) 4 rfl (by kernel_rfl) (.inr (fun _ h => st_take [0, 0, 0, 0, 0, 0] h)) (.inl ⟨rfl, fun _ => q_move hE0_0⟩) ?_
      refine Wr.pure (v := Value.pointer (some ⟨k, 0, none⟩)) 5 rfl (by kernel_rfl) (.inr (fun _ h => st_take [0, 0, 0, 0, 0, 0] h)) (.inl ⟨rfl, fun _ => q_nil_ptr rfl⟩) ?_
      refine Wr.pure (v := Value.pointer (some ⟨k, 3, none⟩)) 6 rfl (by kernel_rfl) (.inr (fun _ h => st_take [0, 0, 0, 0, 0, 0] h)) (.inl ⟨rfl, fun _ => q_field (m := 3) fo_74_3 rfl rfl⟩) ?_
      refine Wr.take (v := Value.slice (some ⟨tb, 0, none⟩) ((t ++ [n]).length) tc) 7 rfl (by kernel_rfl) (fun _ h => st_take [0, 0, 0, 0, 0, 0] h) (.inl ⟨rfl, q_load sc_41 rfl (.cel (i := 0) rfl rfl)⟩) ?_
      refine Wr.take (v := Value.int .i64 (((t ++ [n]).length : Nat) : Int)) 8 rfl (by kernel_rfl) (fun _ h => st_take [0, 0, 0, 0, 0, 0] h) (.inl ⟨rfl, q_len_slice Try.underlying41 rfl⟩) ?_
      refine Wr.pure (v := Value.int .i64 ((t.length : Nat) : Int)) 9 rfl (by kernel_rfl) (.inr (fun _ h => st_take [0, 0, 0, 0, 0, 0] h)) (.inl ⟨rfl, fun _ => q_sub (c := ((t.length : Nat) : Int)) rfl rfl (by rw [wrap_i64 (by omega) (by omega)]; omega)⟩) ?_
      refine Wr.pure (v := Value.pointer (some ⟨tb, t.length, none⟩)) 10 rfl (by kernel_rfl) (.inr (fun _ h => st_take [0, 0, 0, 0, 0, 0] h)) (.inl ⟨rfl, fun _ => q_idx (m := t.length) se_41 rfl rfl (by omega) (by omega) (by simp)⟩) ?_
      refine Wr.take (v := Value.int .i64 ((n : Nat) : Int)) 11 rfl (by kernel_rfl) (fun _ h => st_take [0, 0, 0, 0, 0, 0] h) (.inl ⟨rfl, q_load sc_3 rfl (.row (i := 2) rfl last_at)⟩) ?_
      refine Wr.pure (v := Value.int .i64 ((n : Nat) : Int)) 12 rfl (by kernel_rfl) (.inr (fun _ h => st_take [0, 0, 0, 0, 0, 0] h)) (.inl ⟨rfl, fun _ => q_assign rfl⟩) ?_
      refine Wr.done (by kernel_rfl) ?_
      refine Wx.go ?_
      refine Wc.seq ?_
      refine Wc.drawsS [14] ((pt k 74 ([Value.pointer (some ⟨s, 0, none⟩), Value.slice (some ⟨hb, 0, none⟩) m hc, Value.slice (some ⟨ub, 0, none⟩) um uc, Value.slice (some ⟨tb, 0, none⟩) ((t ++ [n]).length) tc])) :: (slp 4 1 hb hc ((h, t ++ [n]).1.map Value.bool)) :: (slp 3 1 tb tc ((t ++ [n]).map natV)) :: (storeI s ts) :: (slp 41 1 ub uc vs) :: (grp (inners vs us)) :: []) (by kernel_rfl) ?_
      refine Wr.pure (v := Value.pointer (some ⟨k, 0, none⟩)) 0 rfl (by kernel_rfl) (.inr (fun _ h => st_take [0, 0, 0, 0, 0, 0] h)) (.inl ⟨rfl, fun _ => q_move hE0_0⟩) ?_
      refine Wr.pure (v := Value.pointer (some ⟨k, 0, none⟩)) 1 rfl (by kernel_rfl) (.inr (fun _ h => st_take [0, 0, 0, 0, 0, 0] h)) (.inl ⟨rfl, fun _ => q_move hE0_0⟩) ?_
      refine Wr.pure (v := Value.pointer (some ⟨k, 0, none⟩)) 2 rfl (by kernel_rfl) (.inr (fun _ h => st_take [0, 0, 0, 0, 0, 0] h)) (.inl ⟨rfl, fun _ => q_nil_ptr rfl⟩) ?_
      refine Wr.pure (v := Value.pointer (some ⟨k, 3, none⟩)) 3 rfl (by kernel_rfl) (.inr (fun _ h => st_take [0, 0, 0, 0, 0, 0] h)) (.inl ⟨rfl, fun _ => q_field (m := 3) fo_74_3 rfl rfl⟩) ?_
      refine Wr.take (v := Value.slice (some ⟨tb, 0, none⟩) ((t ++ [n]).length) tc) 4 rfl (by kernel_rfl) (fun _ h => st_take [0, 0, 0, 0, 0, 0] h) (.inl ⟨rfl, q_load sc_41 rfl (.cel (i := 0) rfl rfl)⟩) ?_
      refine Wr.pure (v := Value.pointer (some ⟨k, 0, none⟩)) 5 rfl (by kernel_rfl) (.inr (fun _ h => st_take [0, 0, 0, 0, 0, 0] h)) (.inl ⟨rfl, fun _ => q_move hE0_0⟩) ?_
      refine Wr.pure (v := Value.pointer (some ⟨k, 0, none⟩)) 6 rfl (by kernel_rfl) (.inr (fun _ h => st_take [0, 0, 0, 0, 0, 0] h)) (.inl ⟨rfl, fun _ => q_nil_ptr rfl⟩) ?_
      refine Wr.pure (v := Value.pointer (some ⟨k, 3, none⟩)) 7 rfl (by kernel_rfl) (.inr (fun _ h => st_take [0, 0, 0, 0, 0, 0] h)) (.inl ⟨rfl, fun _ => q_field (m := 3) fo_74_3 rfl rfl⟩) ?_
      refine Wr.take (v := Value.slice (some ⟨tb, 0, none⟩) ((t ++ [n]).length) tc) 8 rfl (by kernel_rfl) (fun _ h => st_take [0, 0, 0, 0, 0, 0] h) (.inl ⟨rfl, q_load sc_41 rfl (.cel (i := 0) rfl rfl)⟩) ?_
      refine Wr.take (v := Value.int .i64 (((t ++ [n]).length : Nat) : Int)) 9 rfl (by kernel_rfl) (fun _ h => st_take [0, 0, 0, 0, 0, 0] h) (.inl ⟨rfl, q_len_slice Try.underlying41 rfl⟩) ?_
      refine Wr.pure (v := Value.int .i64 ((t.length : Nat) : Int)) 10 rfl (by kernel_rfl) (.inr (fun _ h => st_take [0, 0, 0, 0, 0, 0] h)) (.inl ⟨rfl, fun _ => q_sub (c := ((t.length : Nat) : Int)) rfl rfl (by rw [wrap_i64 (by omega) (by omega)]; omega)⟩) ?_
      refine Wr.pure (v := Value.slice (some ⟨tb, 0, none⟩) t.length tc) 11 rfl (by kernel_rfl) (.inr (fun _ h => st_take [0, 0, 0, 0, 0, 0] h)) (.inl ⟨rfl, fun _ => q_slice_low (h := t.length) se_41 rfl rfl ⟨_, rfl⟩ (by omega) (by omega)⟩) ?_
      refine Wr.pure (v := Value.pointer (some ⟨k, 0, none⟩)) 12 rfl (by kernel_rfl) (.inr (fun _ h => st_take [0, 0, 0, 0, 0, 0] h)) (.inl ⟨rfl, fun _ => q_nil_ptr rfl⟩) ?_
      refine Wr.pure (v := Value.pointer (some ⟨k, 3, none⟩)) 13 rfl (by kernel_rfl) (.inr (fun _ h => st_take [0, 0, 0, 0, 0, 0] h)) (.inl ⟨rfl, fun _ => q_field (m := 3) fo_74_3 rfl rfl⟩) ?_
      refine Wr.e 14 (by kernel_rfl) rfl (e_store (i := 0) (v := Value.slice (some ⟨tb, 0, none⟩) t.length tc) sz_41 rfl rfl (fun _ _ => rfl) rfl (by simp)) (.inl (by kernel_rfl)) (fun _ _ => ?_)
      refine Wr.imp (L' := (pt k 74 [Value.pointer (some ⟨s, 0, none⟩), Value.slice (some ⟨hb, 0, none⟩) m hc, Value.slice (some ⟨ub, 0, none⟩) um uc, Value.slice (some ⟨tb, 0, none⟩) t.length tc]) :: (slp 4 1 hb hc ((h, t ++ [n]).1.map Value.bool)) :: (slp 3 1 tb tc ((t ++ [n]).map natV)) :: (storeI s ts) :: (slp 41 1 ub uc vs) :: (grp (inners vs us)) :: F) (fun _ h => h) ?_
      refine Wr.rebaseS [] ((pt k 74 [Value.pointer (some ⟨s, 0, none⟩), Value.slice (some ⟨hb, 0, none⟩) m hc, Value.slice (some ⟨ub, 0, none⟩) um uc, Value.slice (some ⟨tb, 0, none⟩) t.length tc]) :: (slp 4 1 hb hc ((h, t ++ [n]).1.map Value.bool)) :: (slp 3 1 tb tc ((t ++ [n]).map natV)) :: (storeI s ts) :: (slp 41 1 ub uc vs) :: (grp (inners vs us)) :: []) (by kernel_rfl) ?_
      refine Wr.done (by kernel_rfl) ?_
      refine Wx.go ?_
      refine Wc.seq ?_
      refine Wc.region ?_
      refine Wl.imp (L' := (sl 3 1 (Value.slice (some ⟨tb, 0, none⟩) t.length tc) t.length (t.map natV)) :: (pt k 74 [Value.pointer (some ⟨s, 0, none⟩), Value.slice (some ⟨hb, 0, none⟩) m hc, Value.slice (some ⟨ub, 0, none⟩) um uc, Value.slice (some ⟨tb, 0, none⟩) t.length tc]) :: (slp 4 1 hb hc ((h, t).1.map Value.bool)) :: (storeI s ts) :: (slp 41 1 ub uc vs) :: (grp (inners vs us)) :: F) (fun w hs => st_cut htc (st_pull [2, 0, 0, 0, 0, 0] (hs))) ?_
      refine Wl.q (v := Value.pointer (some ⟨k, 0, none⟩)) (q_move hE0_0) ?_
      refine Wl.q (v := Value.int .i64 ((n : Nat) : Int)) (q_move rfl) ?_
      refine Wl.imp (L' := (pt k 74 [Value.pointer (some ⟨s, 0, none⟩), Value.slice (some ⟨hb, 0, none⟩) m hc, Value.slice (some ⟨ub, 0, none⟩) um uc, Value.slice (some ⟨tb, 0, none⟩) t.length tc]) :: (slp 4 1 hb hc ((h, t).1.map Value.bool)) :: (sl 3 1 (Value.slice (some ⟨tb, 0, none⟩) t.length tc) t.length (t.map natV)) :: (storeI s ts) :: (slp 41 1 ub uc vs) :: (grp (inners vs us)) :: F) (fun _ h => st_pull [1, 1, 0, 0] h) ?_
      refine Wl.e (e_call (F := (slp 41 1 ub uc vs) :: (grp (inners vs us)) :: F) (args := [Value.pointer (some ⟨k, 0, none⟩), Value.int .i64 ((n : Nat) : Int)]) Try.call44 rfl (kopen_c W0 k s hb hc ub uc um m (Value.slice (some ⟨tb, 0, none⟩) t.length tc) ts (h, t) n (by simp only; omega) hI.wf hl u hu (by omega) (by simp only; omega))) (fun tv3 _ => ?_)
      refine Wl.imp (L' := (pt k 74 [Value.pointer (some ⟨s, 0, none⟩), Value.slice (some ⟨hb, 0, none⟩) m hc, Value.slice (some ⟨ub, 0, none⟩) um uc, tv3]) :: (slp 4 1 hb hc ((opF ts (h, t) n).1.map Value.bool)) :: (sl 3 1 tv3 ((opF ts (h, t) n).2.length) ((opF ts (h, t) n).2.map natV)) :: (storeI s ts) :: (slp 41 1 ub uc vs) :: (grp (inners vs us)) :: F) (fun _ h => h) ?_
      refine Wl.done ?_
      refine Wx.go ?_
      refine Wc.seq ?_
      refine Wc.region ?_
      obtain ⟨vn, hvn⟩ : ∃ v, vs[n]? = some v := ⟨vs[n]'(by have := hI.ul; omega), List.getElem?_eq_getElem (by have := hI.ul; omega)⟩
      refine Wl.imp (L' := (sl 3 1 vn ((us.getD n []).length) ((us.getD n []).map natV)) :: (grp ((inners vs us).eraseIdx n)) :: (pt k 74 [Value.pointer (some ⟨s, 0, none⟩), Value.slice (some ⟨hb, 0, none⟩) m hc, Value.slice (some ⟨ub, 0, none⟩) um uc, tv3]) :: (slp 4 1 hb hc ((opF ts (h, t) n).1.map Value.bool)) :: (sl 3 1 tv3 ((opF ts (h, t) n).2.length) ((opF ts (h, t) n).2.map natV)) :: (storeI s ts) :: (slp 41 1 ub uc vs) :: F) (fun w hs => st_inner hvn hvu (st_pull [5, 0, 0, 0, 0, 0] (hs))) ?_
      refine Wl.q (v := Value.pointer (some ⟨k, 0, none⟩)) (q_move hE0_0) ?_
      refine Wl.q (v := Value.pointer (some ⟨k, 0, none⟩)) (q_nil_ptr rfl) ?_
      refine Wl.q (v := Value.pointer (some ⟨k, 2, none⟩)) (q_field (m := 2) fo_74_2 rfl rfl) ?_
      refine Wl.q (v := Value.slice (some ⟨ub, 0, none⟩) um uc) (q_load sc_72 rfl (.cel (i := 2) rfl rfl)) ?_
      refine Wl.q (v := Value.int .i64 ((n : Nat) : Int)) (q_move rfl) ?_
      refine Wl.q (v := Value.pointer (some ⟨ub, n, none⟩)) (q_idx (m := n) se_72 rfl rfl (by omega) (by omega) (by simp)) ?_
      refine Wl.q (v := vn) (q_load sc_41 rfl (.row (i := 6) rfl hvn)) ?_
      refine Wl.q (v := Value.int .i64 (((us.getD n []).length : Nat) : Int)) (q_len_sl (i := 0) Try.underlying41 rfl rfl) ?_
      refine Wl.q (v := Value.int .i64 0) (q_move rfl) ?_
      refine Wl.done ?_
      refine Wx.go ?_
      refine Wc.block ?_
      refine Wc.loop (X := Nat × Value) (fun (j, tx) E => E 48 = Value.int .i64 ((j : Nat) : Int) ∧ E 0 = Value.pointer (some ⟨k, 0, none⟩) ∧ E 46 = vn ∧ E 47 = Value.int .i64 (((us.getD n []).length : Nat) : Int) ∧ j ≤ (us.getD n []).length) (fun (j, tx) => (pt k 74 [Value.pointer (some ⟨s, 0, none⟩), Value.slice (some ⟨hb, 0, none⟩) m hc, Value.slice (some ⟨ub, 0, none⟩) um uc, tx]) :: (slp 4 1 hb hc ((((us.getD n []).take j).foldl (stF ts) (opF ts (h, t) n)).1.map Value.bool)) :: (sl 3 1 tx ((((us.getD n []).take j).foldl (stF ts) (opF ts (h, t) n)).2.length) ((((us.getD n []).take j).foldl (stF ts) (opF ts (h, t) n)).2.map natV)) :: (storeI s ts) :: (slp 41 1 ub uc vs) :: (sl 3 1 vn ((us.getD n []).length) ((us.getD n []).map natV)) :: (grp ((inners vs us).eraseIdx n)) :: F) (fun (j, tx) => (us.getD n []).length - j) (0, tv3) ?_ ?_ ?_
      · exact ⟨rfl, hE0_0, rfl, rfl, (by omega)⟩
      · exact fun w hs => (st_pull [2, 2, 2, 2, 2, 0, 0] (hs))
      · rintro ⟨j, tx⟩ E5 ⟨hE48_3, hE0_3, hE46_3, hE47_3, hj⟩
        dsimp only at *
        refine Wc.seq ?_
        refine Wc.region ?_
        by_cases hjl : ((j : Nat) : Int) < (((us.getD n []).length : Nat) : Int)
        ·
          obtain ⟨mm, hget⟩ : ∃ q, (us.getD n [])[j]? = some q := ⟨(us.getD n [])[j]'(by omega), List.getElem?_eq_getElem (by omega)⟩
          have hmr := hI.usr n mm (List.mem_of_getElem? hget)
          have hIj := (Inv.fold ((us.getD n []).take j) (fun x hx => hI.usr n x (List.mem_of_mem_take hx)) hIo).1
          have hIm := (hIj.ma hmr.2 hmr.1).1
          have hlj := hIj.le
          have hlm := hIm.le
          have hnj := hIj.len
          have hnm := hIm.len
          obtain ⟨um_, hum_⟩ := at_some (ts := ts) (n := mm) hmr.1 (by omega)
          refine Wl.sl (i := 5) (m := (us.getD n []).length) rfl (by omega) (fun vb vc hvv hvc => ?_)
          subst hvv
          refine Wl.q (v := Value.bool true) (q_lss (r := true) hE48_3 hE47_3 (decide_eq_true hjl)) ?_
          refine Wl.done ?_
          refine Wx.go ?_
          refine Wc.seq ?_
          refine Wc.yes rfl ?_
          refine Wc.skip ?_
          refine Wx.go ?_
          refine Wc.seq ?_
          refine Wc.block ?_
          refine Wc.seq ?_
          refine Wc.region ?_
          refine Wl.q (v := Value.pointer (some ⟨vb, j, none⟩)) (q_idx (m := j) se_41 hE46_3 hE48_3 (by omega) (by omega) (by simp)) ?_
          refine Wl.q (v := Value.int .i64 ((mm : Nat) : Int)) (q_load sc_3 rfl (.row (i := 5) rfl (map_at hget))) ?_
          refine Wl.q (v := Value.int .i64 ((mm : Nat) : Int)) (q_assign rfl) ?_
          refine Wl.done ?_
          refine Wx.go ?_
          refine Wc.seq ?_
          refine Wc.region ?_
          refine Wl.q (v := Value.pointer (some ⟨k, 0, none⟩)) (q_move hE0_3) ?_
          refine Wl.q (v := Value.int .i64 ((mm : Nat) : Int)) (q_move rfl) ?_
          refine Wl.e (e_call (F := (slp 41 1 ub uc vs) :: (slp 3 1 vb vc ((us.getD n []).map natV)) :: (grp ((inners vs us).eraseIdx n)) :: F) (args := [Value.pointer (some ⟨k, 0, none⟩), Value.int .i64 ((mm : Nat) : Int)]) Try.call43 rfl (kmake_c W0 k s hb hc ub uc um m (tx) ts (((us.getD n []).take j).foldl (stF ts) (opF ts (h, t) n)) mm (by omega) hI.wf hl um_ hum_ (by omega) (by omega))) (fun tv6 _ => ?_)
          refine Wl.imp (L' := (pt k 74 [Value.pointer (some ⟨s, 0, none⟩), Value.slice (some ⟨hb, 0, none⟩) m hc, Value.slice (some ⟨ub, 0, none⟩) um uc, tv6]) :: (slp 4 1 hb hc ((maF ts (((us.getD n []).take j).foldl (stF ts) (opF ts (h, t) n)) mm).1.map Value.bool)) :: (sl 3 1 tv6 ((maF ts (((us.getD n []).take j).foldl (stF ts) (opF ts (h, t) n)) mm).2.length) ((maF ts (((us.getD n []).take j).foldl (stF ts) (opF ts (h, t) n)) mm).2.map natV)) :: (storeI s ts) :: (slp 41 1 ub uc vs) :: (slp 3 1 vb vc ((us.getD n []).map natV)) :: (grp ((inners vs us).eraseIdx n)) :: F) (fun _ h => h) ?_
          refine Wl.done ?_
          refine Wx.go ?_
          refine Wc.seq ?_
          refine Wc.region ?_
          refine Wl.q (v := Value.pointer (some ⟨k, 0, none⟩)) (q_move hE0_3) ?_
          refine Wl.q (v := Value.pointer (some ⟨k, 0, none⟩)) (q_nil_ptr rfl) ?_
          refine Wl.q (v := Value.pointer (some ⟨k, 1, none⟩)) (q_field (m := 1) fo_74_1 rfl rfl) ?_
          refine Wl.q (v := Value.slice (some ⟨hb, 0, none⟩) m hc) (q_load sc_71 rfl (.cel (i := 0) rfl rfl)) ?_
          refine Wl.q (v := Value.int .i64 ((mm : Nat) : Int)) (q_move rfl) ?_
          refine Wl.q (v := Value.pointer (some ⟨hb, mm, none⟩)) (q_idx (m := mm) se_71 rfl rfl (by omega) (by omega) (by simp)) ?_
          by_cases hhm : hN (maF ts (((us.getD n []).take j).foldl (stF ts) (opF ts (h, t) n)) mm).1 mm = true
          ·
            refine Wl.q (v := Value.bool true) (q_load sc_4 rfl (.row (i := 1) rfl (bool_yes hhm))) ?_
            refine Wl.done ?_
            refine Wx.go ?_
            refine Wc.yes rfl ?_
            refine Wc.region ?_
            refine Wl.q (v := Value.pointer (some ⟨k, 0, none⟩)) (q_move hE0_3) ?_
            refine Wl.q (v := Value.int .i64 ((mm : Nat) : Int)) (q_move rfl) ?_
            refine Wl.e (e_call (F := (slp 41 1 ub uc vs) :: (slp 3 1 vb vc ((us.getD n []).map natV)) :: (grp ((inners vs us).eraseIdx n)) :: F) (args := [Value.pointer (some ⟨k, 0, none⟩), Value.int .i64 ((mm : Nat) : Int)]) Try.call44 rfl (kopen_c W0 k s hb hc ub uc um m (tv6) ts (maF ts (((us.getD n []).take j).foldl (stF ts) (opF ts (h, t) n)) mm) mm (by omega) hI.wf hl um_ hum_ (by omega) (by omega))) (fun tv7 _ => ?_)
            refine Wl.imp (L' := (pt k 74 [Value.pointer (some ⟨s, 0, none⟩), Value.slice (some ⟨hb, 0, none⟩) m hc, Value.slice (some ⟨ub, 0, none⟩) um uc, tv7]) :: (slp 4 1 hb hc ((opF ts (maF ts (((us.getD n []).take j).foldl (stF ts) (opF ts (h, t) n)) mm) mm).1.map Value.bool)) :: (sl 3 1 tv7 ((opF ts (maF ts (((us.getD n []).take j).foldl (stF ts) (opF ts (h, t) n)) mm) mm).2.length) ((opF ts (maF ts (((us.getD n []).take j).foldl (stF ts) (opF ts (h, t) n)) mm) mm).2.map natV)) :: (storeI s ts) :: (slp 41 1 ub uc vs) :: (slp 3 1 vb vc ((us.getD n []).map natV)) :: (grp ((inners vs us).eraseIdx n)) :: F) (fun _ h => h) ?_
            refine Wl.done ?_
            refine Wx.blockEnd ?_
            refine Wx.go ?_
            refine Wc.region ?_
            refine Wl.q (v := Value.int .i64 ((j + 1 : Nat) : Int)) (q_add (c := ((j + 1 : Nat) : Int)) hE48_3 rfl (by rw [wrap_i64] <;> omega)) ?_
            refine Wl.q (v := Value.int .i64 ((j + 1 : Nat) : Int)) (q_move rfl) ?_
            refine Wl.done ?_
            refine Wx.at (j + 1, tv7) ⟨(by simp only; omega), rfl, hE0_3, hE46_3, hE47_3, (by simp only; omega)⟩ (fun w hs => by have hs := st_sl_mk (e := 3) (by simp) hvc (st_pull [5, 0, 0, 0, 0, 0, 0] (hs)); rw [fold_take hget, show stF ts (((us.getD n []).take j).foldl (stF ts) (opF ts (h, t) n)) mm = _ from if_pos hhm]; exact st_pull [1, 1, 1, 1, 1, 0] hs)
          ·
            refine Wl.q (v := Value.bool false) (q_load sc_4 rfl (.row (i := 1) rfl (bool_no (by omega) hhm))) ?_
            refine Wl.done ?_
            refine Wx.go ?_
            refine Wc.no rfl ?_
            refine Wc.skip ?_
            refine Wx.blockEnd ?_
            refine Wx.go ?_
            refine Wc.region ?_
            refine Wl.q (v := Value.int .i64 ((j + 1 : Nat) : Int)) (q_add (c := ((j + 1 : Nat) : Int)) hE48_3 rfl (by rw [wrap_i64] <;> omega)) ?_
            refine Wl.q (v := Value.int .i64 ((j + 1 : Nat) : Int)) (q_move rfl) ?_
            refine Wl.done ?_
            refine Wx.at (j + 1, tv6) ⟨(by simp only; omega), rfl, hE0_3, hE46_3, hE47_3, (by simp only; omega)⟩ (fun w hs => by have hs := st_sl_mk (e := 3) (by simp) hvc (st_pull [5, 0, 0, 0, 0, 0, 0] (hs)); rw [fold_take hget, show stF ts (((us.getD n []).take j).foldl (stF ts) (opF ts (h, t) n)) mm = _ from if_neg hhm]; exact st_pull [1, 1, 1, 1, 1, 0] hs)
        ·
          refine Wl.q (v := Value.bool false) (q_lss (r := false) hE48_3 hE47_3 (decide_eq_false hjl)) ?_
          refine Wl.done ?_
          refine Wx.go ?_
          refine Wc.seq ?_
          refine Wc.no rfl ?_
          refine Wc.exit ?_
          refine Wx.thenExit ?_
          refine Wx.thenExit ?_
          refine Wx.out ?_
          refine Wx.blockEnd ?_
          refine Wx.at (tx, rdF ts us h t n) ⟨hq.2, hE0_3, hq.1, (fun x hx => hI.pop_up (hmo x hx))⟩ (fun w hs => by have hs := (st_pull [5, 5, 0, 0, 0, 0, 0] (hs)); rw [show j = (us.getD n []).length by omega, List.take_length] at hs; exact st_pull [1, 1, 1, 1, 1, 0] (st_inner_back hvn hvu hs))
    ·
      refine Wl.q (v := Value.bool false) (q_gtr (r := false) rfl rfl (decide_eq_false hpos)) ?_
      refine Wl.done ?_
      refine Wx.go ?_
      refine Wc.no rfl ?_
      refine Wc.exit ?_
      refine Wx.thenExit ?_
      refine Wx.thenExit ?_
      refine Wx.out ?_
      refine Wx.fin0 rfl (.inr rfl) (fun w hs => ?_)
      obtain ⟨z1, z2⟩ := Z
      obtain rfl : z2 = [] := List.eq_nil_of_length_eq_zero (by simp only at *; omega)
      exact ⟨(tw, z1), ⟨hI, hmo⟩, rfl, hs⟩

end Go.Proofs.Ytjjghmkjdgogiaa
