/- What follows: contracts of the calls. -/
import Derived.Test.YtjjghmkjdgogiaaDdD
namespace Go.Proofs.Ytjjghmkjdgogiaa
open Go Go.SL Go.Dd Go.RowKit
set_option linter.unusedVariables false
set_option maxRecDepth 8000
theorem fo_74_1 : fieldOff Try.prog 74 1 = some 1 := by kernel_rfl
theorem sc_71 : scalar Try.prog 71 = true := by kernel_rfl
theorem se_71 : sliceElem Try.prog 71 = some (4, 1) := by kernel_rfl
theorem sc_4 : scalar Try.prog 4 = true := by kernel_rfl
theorem sz_4 : sizeIs Try.prog 4 = some 1 := by kernel_rfl
theorem fo_74_3 : fieldOff Try.prog 74 3 = some 3 := by kernel_rfl
theorem sc_41 : scalar Try.prog 41 = true := by kernel_rfl
theorem se_41 : sliceElem Try.prog 41 = some (3, 1) := by kernel_rfl
theorem sz_3 : sizeIs Try.prog 3 = some 1 := by kernel_rfl
theorem by_3 : (Try.prog.info? 3).map (·.bytes) = some 8 := by kernel_rfl
theorem sz_41 : sizeIs Try.prog 41 = some 1 := by kernel_rfl
theorem fo_74_0 : fieldOff Try.prog 74 0 = some 0 := by kernel_rfl
theorem sc_22 : scalar Try.prog 22 = true := by kernel_rfl
theorem atN_get {ts : List TermR} {n : Nat} {t : TermR} (h : atN ts n = some t) : ts[(((n : Nat) : Int) - 1).toNat]? = some t := by
  unfold atN at h
  split at h
  · cases h
  · rw [show (((n : Nat) : Int) - 1).toNat = n - 1 by omega]; exact h
theorem atN_geti {ts : List TermR} {x : Int} {t : TermR} (h : atN ts x.toNat = some t) : ts[(x - 1).toNat]? = some t := by
  unfold atN at h
  split at h
  · cases h
  · rw [show (x - 1).toNat = x.toNat - 1 by omega]; exact h
theorem at_some {ts : List TermR} {n : Nat} (h0 : 0 < n) (hn : n ≤ ts.length) : ∃ t, atN ts n = some t := by
  unfold atN; rw [if_neg (by omega)]
  exact ⟨_, List.getElem?_eq_getElem (by omega)⟩
/-- The slices of the lists of numbers. -/
def inners (vs : List Value) (us : List (List Nat)) : List HP := (vs.zip us).map fun p => sl 3 1 p.1 p.2.length (p.2.map natV)
theorem inners_at {vs : List Value} {us : List (List Nat)} {n : Nat} {v : Value} (hv : vs[n]? = some v) (hl : vs.length = us.length) : (inners vs us)[n]? = some (sl 3 1 v (us.getD n []).length ((us.getD n []).map natV)) := by
  have hn := (List.getElem?_eq_some_iff.1 hv).1
  have hu : us[n]? = some (us.getD n []) := by rw [List.getD_eq_getElem?_getD, List.getElem?_eq_getElem (by omega)]; rfl
  unfold inners
  rw [List.getElem?_map, show (vs.zip us)[n]? = some (v, us.getD n []) from List.getElem?_zip_eq_some.2 ⟨hv, hu⟩]
  rfl
theorem st_inner {W0 w : World} {L : List HP} {vs : List Value} {us : List (List Nat)} {n : Nat} {v : Value} (hv : vs[n]? = some v) (hl : vs.length = us.length) (h : st W0 w (grp (inners vs us) :: L)) :
    st W0 w (sl 3 1 v (us.getD n []).length ((us.getD n []).map natV) :: grp ((inners vs us).eraseIdx n) :: L) := by
  have := st_head (q := grp (sl 3 1 v (us.getD n []).length ((us.getD n []).map natV) :: (inners vs us).eraseIdx n)) (fun x hx => by
    have h1 := stL_pull1 (i := n) (L := inners vs us) hx
    rwa [show (inners vs us).getD n (fun _ => True) = sl 3 1 v (us.getD n []).length ((us.getD n []).map natV) from by rw [List.getD_eq_getElem?_getD, inners_at hv hl]; rfl] at h1) h
  have := st_grp.1 this
  exact st_imp (fun _ hx => stL_cons_mono (fun _ hy => by
    obtain ⟨a, b, g1, g2, g3, g4, g5⟩ := stL_append hy
    exact ⟨a, b, g1, g2, g3, g4, g5⟩) hx) this
theorem st_inner_set {W0 w : World} {L : List HP} {vs : List Value} {us : List (List Nat)} {n : Nat} {v v' : Value} {u' : List Nat} (hv : vs[n]? = some v) (hl : vs.length = us.length)
    (h : st W0 w (sl 3 1 v' u'.length (u'.map natV) :: grp ((inners vs us).eraseIdx n) :: L)) : st W0 w (grp (inners (vs.set n v') (us.set n u')) :: L) := by
  have hn := (List.getElem?_eq_some_iff.1 hv).1
  have hz : inners (vs.set n v') (us.set n u') = (inners vs us).set n (sl 3 1 v' u'.length (u'.map natV)) := by
    unfold inners
    apply List.ext_getElem?
    intro i
    rw [List.getElem?_map, List.getElem?_set, List.length_map, List.length_zip]
    by_cases e : n = i
    · subst e
      rw [if_pos rfl, if_pos (by omega), show ((vs.set n v').zip (us.set n u'))[n]? = some (v', u') from List.getElem?_zip_eq_some.2 ⟨by rw [List.getElem?_set_self hn], by rw [List.getElem?_set_self (by omega)]⟩]
      rfl
    · rw [if_neg e, List.getElem?_map]
      congr 1
      rcases hq : (vs.zip us)[i]? with _ | q
      · rw [List.getElem?_eq_none_iff] at hq ⊢
        simpa using hq
      · obtain ⟨q1, q2⟩ := q
        rw [List.getElem?_zip_eq_some] at hq ⊢
        exact ⟨by rw [List.getElem?_set_ne e]; exact hq.1, by rw [List.getElem?_set_ne e]; exact hq.2⟩
  rw [hz]
  refine st_head (p := grp (sl 3 1 v' u'.length (u'.map natV) :: (inners vs us).eraseIdx n)) (fun x hx => stL_set (by rw [show (inners vs us).length = min vs.length us.length from by simp [inners]]; omega) hx) (st_grp.2 ?_)
  exact st_imp (fun _ hx => stL_cons_mono (fun _ hy => by
    obtain ⟨a, b, g1, g2, g3, g4, g5⟩ := hy
    exact stL_append_mk g1 g2 g3 g4 g5) hx) h
theorem st_inner_back {W0 w : World} {L : List HP} {vs : List Value} {us : List (List Nat)} {n : Nat} {v : Value} (hv : vs[n]? = some v) (hl : vs.length = us.length)
    (h : st W0 w (sl 3 1 v (us.getD n []).length ((us.getD n []).map natV) :: grp ((inners vs us).eraseIdx n) :: L)) : st W0 w (grp (inners vs us) :: L) := by
  have hn := (List.getElem?_eq_some_iff.1 hv)
  have := st_inner_set hv hl h
  rwa [show vs.set n v = vs from by rw [← hn.2]; exact List.set_getElem_self hn.1, show us.set n (us.getD n []) = us from by
    have hu : us.getD n [] = us[n]'(by have := hn.1; omega) := by rw [List.getD_eq_getElem?_getD, List.getElem?_eq_getElem (by have := hn.1; omega)]; rfl
    rw [hu]; exact List.set_getElem_self _] at this
theorem st_cut {W0 w : World} {L : List HP} {b cap : Nat} {t : List Nat} {n : Nat} (hc : (t ++ [n]).length ≤ cap) (h : st W0 w (slp 3 1 b cap ((t ++ [n]).map natV) :: L)) :
    st W0 w (sl 3 1 (.slice (some ⟨b, 0, none⟩) t.length cap) t.length (t.map natV) :: L) := by
  refine st_sl_mk (by simp) (by simp only [List.length_append, List.length_singleton] at hc; omega) (st_head (fun x hx => ?_) h)
  obtain ⟨cur, h1, h2, h3, h4, h5⟩ := hx
  refine ⟨cur, h1, by simp only [List.length_map, List.length_append] at h2 ⊢; omega, h3, ?_, h5⟩
  have e : cur.take (t.map natV).length = (cur.take ((t ++ [n]).map natV).length).take (t.map natV).length := by
    rw [List.take_take]; congr 1
    simp only [List.length_append, List.length_map]; omega
  rw [e, h4, List.map_append, List.take_left]
theorem mkF_tl (S : Sd) (x : Nat) : (mkF S x).2.length ≤ S.2.length + 1 := by
  unfold mkF; split
  · simp
  · omega
theorem last_at {t : List Nat} {n : Nat} : ((t ++ [n]).map natV)[t.length]? = some (.int .i64 ((n : Nat) : Int)) := by
  rw [List.map_append, List.getElem?_append_right (by simp)]; simp [natV]
theorem sd_split (Z : Sd) (h : 0 < Z.2.length) : ∃ h t n, Z = (h, t ++ [n]) := by
  obtain ⟨h', t⟩ := Z
  rcases List.eq_nil_or_concat t with rfl | ⟨t', n, rfl⟩
  · simp at h
  · exact ⟨h', t', n, by rw [List.concat_eq_append]⟩
theorem fold_take {α β : Type} {f : β → α → β} {l : List α} {j : Nat} {m : α} {z : β} (h : l[j]? = some m) : (l.take (j + 1)).foldl f z = f ((l.take j).foldl f z) m := by
  obtain ⟨hl, he⟩ := List.getElem?_eq_some_iff.1 h
  rw [List.take_succ_eq_append_getElem hl, List.foldl_append, he]; rfl

theorem mark_c (W0 : World) (k s hb hc ub uc um m : Nat) (tv : Value) (S : Sd) (x : Int) (hm : S.1.length = m) (hx1 : 0 ≤ x) (hx : x < (m : Int)) (ht : S.2.length ≤ 4000000) :
    Con Try.prog W0 32 #[Value.pointer (some ⟨k, 0, none⟩), Value.int .i64 x] [pt k 74 [Value.pointer (some ⟨s, 0, none⟩), Value.slice (some ⟨hb, 0, none⟩) m hc, Value.slice (some ⟨ub, 0, none⟩) um uc, tv], slp 4 1 hb hc (S.1.map Value.bool), sl 3 1 tv S.2.length (S.2.map natV)] (X := Value) (fun _ => True) (fun _ => .tuple #[]) (fun tv' => [pt k 74 [Value.pointer (some ⟨s, 0, none⟩), Value.slice (some ⟨hb, 0, none⟩) m hc, Value.slice (some ⟨ub, 0, none⟩) um uc, tv'], slp 4 1 hb hc ((mkF S x.toNat).1.map Value.bool), sl 3 1 tv' ((mkF S x.toNat).2.length) ((mkF S x.toNat).2.map natV)]) := by
  refine Con.of (args := [Value.pointer (some ⟨k, 0, none⟩), Value.int .i64 x]) Try.func32 rfl Try.ntmps32 rfl (fun F => ?_)
  show Wc _ W0 _ _ _ _ _ ((pt k 74 [Value.pointer (some ⟨s, 0, none⟩), Value.slice (some ⟨hb, 0, none⟩) m hc, Value.slice (some ⟨ub, 0, none⟩) um uc, tv]) :: (slp 4 1 hb hc (S.1.map Value.bool)) :: (sl 3 1 tv S.2.length (S.2.map natV)) :: F)
  refine Wc.seq ?_
  refine Wc.region ?_
  refine Wl.q (v := Value.int .i64 x) (q_move rfl) ?_
  by_cases hx0 : x > 0
  ·
    refine Wl.q (v := Value.bool true) (q_gtr (r := true) rfl rfl (decide_eq_true hx0)) ?_
    refine Wl.q (v := Value.bool true) (q_move rfl) ?_
    refine Wl.q (v := Value.pointer (some ⟨k, 0, none⟩)) (q_move rfl) ?_
    refine Wl.q (v := Value.pointer (some ⟨k, 0, none⟩)) (q_nil_ptr rfl) ?_
    refine Wl.q (v := Value.pointer (some ⟨k, 1, none⟩)) (q_field (m := 1) fo_74_1 rfl rfl) ?_
    refine Wl.q (v := Value.slice (some ⟨hb, 0, none⟩) m hc) (q_load sc_71 rfl (.cel (i := 0) rfl rfl)) ?_
    refine Wl.q (v := Value.int .i64 x) (q_move rfl) ?_
    refine Wl.q (v := Value.pointer (some ⟨hb, (x).toNat, none⟩)) (q_idx (m := (x).toNat) se_71 rfl rfl (by omega) (by omega) (by simp)) ?_
    by_cases hh : hN S.1 ((x).toNat) = true
    ·
      refine Wl.q (v := Value.bool true) (q_load sc_4 rfl (.row (i := 1) rfl (bool_yes hh))) ?_
      refine Wl.q (v := Value.bool false) (q_not rfl rfl) ?_
      refine Wl.q (v := Value.bool false) (q_pick (t := true) rfl rfl) ?_
      refine Wl.done ?_
      refine Wx.go ?_
      refine Wc.no rfl ?_
      refine Wc.skip ?_
      refine Wx.fin0 rfl (.inr rfl) (fun w hs => ?_)
      have e : mkF S x.toNat = S := if_neg (fun h => by rw [hh] at h; cases h.2)
      exact ⟨tv, trivial, rfl, by rw [e]; exact hs⟩
    ·
      refine Wl.q (v := Value.bool false) (q_load sc_4 rfl (.row (i := 1) rfl (bool_no (by omega) hh))) ?_
      refine Wl.q (v := Value.bool true) (q_not rfl rfl) ?_
      refine Wl.q (v := Value.bool true) (q_pick (t := true) rfl rfl) ?_
      refine Wl.done ?_
      refine Wx.go ?_
      refine Wc.yes rfl ?_
      refine Wc.seq ?_
      refine Wc.region ?_
      refine Wl.q (v := Value.pointer (some ⟨k, 0, none⟩)) (q_move rfl) ?_
      refine Wl.q (v := Value.pointer (some ⟨k, 0, none⟩)) (q_nil_ptr rfl) ?_
      refine Wl.q (v := Value.pointer (some ⟨k, 1, none⟩)) (q_field (m := 1) fo_74_1 rfl rfl) ?_
      refine Wl.q (v := Value.slice (some ⟨hb, 0, none⟩) m hc) (q_load sc_71 rfl (.cel (i := 0) rfl rfl)) ?_
      refine Wl.q (v := Value.int .i64 x) (q_move rfl) ?_
      refine Wl.q (v := Value.pointer (some ⟨hb, (x).toNat, none⟩)) (q_idx (m := (x).toNat) se_71 rfl rfl (by omega) (by omega) (by simp)) ?_
      refine Wl.e (e_store_slp (i := 1) (vs := [Value.bool true]) (c' := (S.1.set ((x).toNat) true).map Value.bool) sz_4 rfl (congrArg Value.cells (rfl)) rfl rfl (by simp; omega) (splice_map (by omega))) (fun _ _ => ?_)
      refine Wl.imp (L' := (pt k 74 [Value.pointer (some ⟨s, 0, none⟩), Value.slice (some ⟨hb, 0, none⟩) m hc, Value.slice (some ⟨ub, 0, none⟩) um uc, tv]) :: (slp 4 1 hb hc ((S.1.set ((x).toNat) true).map Value.bool)) :: (sl 3 1 tv S.2.length (S.2.map natV)) :: F) (fun _ h => h) ?_
      refine Wl.done ?_
      refine Wx.go ?_
      refine Wc.region ?_
      refine Wl.q (v := Value.pointer (some ⟨k, 0, none⟩)) (q_move rfl) ?_
      refine Wl.q (v := Value.pointer (some ⟨k, 0, none⟩)) (q_move rfl) ?_
      refine Wl.q (v := Value.pointer (some ⟨k, 0, none⟩)) (q_nil_ptr rfl) ?_
      refine Wl.q (v := Value.pointer (some ⟨k, 3, none⟩)) (q_field (m := 3) fo_74_3 rfl rfl) ?_
      refine Wl.q (v := tv) (q_load sc_41 rfl (.cel (i := 0) rfl rfl)) ?_
      refine Wl.q (v := Value.int .i64 x) (q_move rfl) ?_
      refine Wl.e (e_buildSlice (cs := [Value.int .i64 x]) se_41 zo_3 (by decide) (by decide) (by kernel_rfl)) (fun b1 _ => ?_)
      refine Wl.imp (L' := (pt b1 3 [Value.int .i64 x]) :: (pt k 74 [Value.pointer (some ⟨s, 0, none⟩), Value.slice (some ⟨hb, 0, none⟩) m hc, Value.slice (some ⟨ub, 0, none⟩) um uc, tv]) :: (slp 4 1 hb hc ((S.1.set ((x).toNat) true).map Value.bool)) :: (sl 3 1 tv S.2.length (S.2.map natV)) :: F) (fun _ h => h) ?_
      refine Wl.e (e_append (i := 3) (k := 1) (m := 1) (off := 0) (news := [Value.int .i64 x]) Try.underlying41 sz_3 by_3 zo_3 rfl rfl rfl rfl rfl (Has.of_pt (i := 0) rfl rfl) rfl (by decide) (by simp only [maxLen]; omega) (by omega)) (fun v2 _ => ?_)
      refine Wl.imp (L' := (pt b1 3 [Value.int .i64 x]) :: (pt k 74 [Value.pointer (some ⟨s, 0, none⟩), Value.slice (some ⟨hb, 0, none⟩) m hc, Value.slice (some ⟨ub, 0, none⟩) um uc, tv]) :: (slp 4 1 hb hc ((S.1.set ((x).toNat) true).map Value.bool)) :: (sl 3 1 v2 (S.2.length + 1) ((S.2.map natV) ++ [Value.int .i64 x])) :: F) (fun _ h => h) ?_
      refine Wl.q (v := Value.pointer (some ⟨k, 0, none⟩)) (q_nil_ptr rfl) ?_
      refine Wl.q (v := Value.pointer (some ⟨k, 3, none⟩)) (q_field (m := 3) fo_74_3 rfl rfl) ?_
      refine Wl.e (e_store (i := 1) (v := v2) sz_41 rfl rfl (fun _ h => sl_one (i := 3) h rfl) rfl (by simp)) (fun _ _ => ?_)
      refine Wl.imp (L' := (pt b1 3 [Value.int .i64 x]) :: (pt k 74 [Value.pointer (some ⟨s, 0, none⟩), Value.slice (some ⟨hb, 0, none⟩) m hc, Value.slice (some ⟨ub, 0, none⟩) um uc, v2]) :: (slp 4 1 hb hc ((S.1.set ((x).toNat) true).map Value.bool)) :: (sl 3 1 v2 (S.2.length + 1) ((S.2.map natV) ++ [Value.int .i64 x])) :: F) (fun _ h => h) ?_
      refine Wl.done ?_
      refine Wx.fin0 rfl (.inr rfl) (fun w hs => ?_)
      have e : mkF S x.toNat = (S.1.set x.toNat true, S.2 ++ [x.toNat]) := if_pos ⟨by omega, by simpa using hh⟩
      exact ⟨v2, trivial, rfl, by rw [e]; simp only [List.length_append, List.map_append, List.length_singleton, List.map_singleton, natV, Int.toNat_of_nonneg hx1]; exact (st_drop (st_pull [0] hs))⟩
  ·
    refine Wl.q (v := Value.bool false) (q_gtr (r := false) rfl rfl (decide_eq_false hx0)) ?_
    refine Wl.q (v := Value.bool false) (q_move rfl) ?_
    refine Wl.no ?_
    refine Wl.no ?_
    refine Wl.no ?_
    refine Wl.no ?_
    refine Wl.no ?_
    refine Wl.no ?_
    refine Wl.no ?_
    refine Wl.no ?_
    refine Wl.q (v := Value.bool false) (q_pick (t := false) rfl rfl) ?_
    refine Wl.done ?_
    refine Wx.go ?_
    refine Wc.no rfl ?_
    refine Wc.skip ?_
    refine Wx.fin0 rfl (.inr rfl) (fun w hs => ?_)
    have e : mkF S x.toNat = S := if_neg (fun h => by omega)
    exact ⟨tv, trivial, rfl, by rw [e]; exact hs⟩

theorem kmake_c (W0 : World) (k s hb hc ub uc um m : Nat) (tv : Value) (ts : List TermR) (S : Sd) (n : Nat) (hm : S.1.length = m) (hw : Wf ts) (hl : ts.length ≤ 1048576) (t : TermR) (hat : atN ts n = some t) (hn : n < m) (ht : S.2.length ≤ 3000000) :
    Con Try.prog W0 43 #[Value.pointer (some ⟨k, 0, none⟩), Value.int .i64 ((n : Nat) : Int)] [pt k 74 [Value.pointer (some ⟨s, 0, none⟩), Value.slice (some ⟨hb, 0, none⟩) m hc, Value.slice (some ⟨ub, 0, none⟩) um uc, tv], slp 4 1 hb hc (S.1.map Value.bool), sl 3 1 tv S.2.length (S.2.map natV), storeI s ts] (X := Value) (fun _ => True) (fun _ => .tuple #[]) (fun tv' => [pt k 74 [Value.pointer (some ⟨s, 0, none⟩), Value.slice (some ⟨hb, 0, none⟩) m hc, Value.slice (some ⟨ub, 0, none⟩) um uc, tv'], slp 4 1 hb hc ((maF ts S n).1.map Value.bool), sl 3 1 tv' ((maF ts S n).2.length) ((maF ts S n).2.map natV), storeI s ts]) := by
  refine Con.of (args := [Value.pointer (some ⟨k, 0, none⟩), Value.int .i64 ((n : Nat) : Int)]) Try.func43 rfl Try.ntmps43 rfl (fun F => ?_)
  have hp := hw.parts hat
  show Wc _ W0 _ _ _ _ _ ((pt k 74 [Value.pointer (some ⟨s, 0, none⟩), Value.slice (some ⟨hb, 0, none⟩) m hc, Value.slice (some ⟨ub, 0, none⟩) um uc, tv]) :: (slp 4 1 hb hc (S.1.map Value.bool)) :: (sl 3 1 tv S.2.length (S.2.map natV)) :: (storeI s ts) :: F)
  refine Wc.seq ?_
  refine Wc.region ?_
  refine Wl.q (v := Value.pointer (some ⟨k, 0, none⟩)) (q_move rfl) ?_
  refine Wl.q (v := Value.pointer (some ⟨k, 0, none⟩)) (q_nil_ptr rfl) ?_
  refine Wl.q (v := Value.pointer (some ⟨k, 0, none⟩)) (q_field (m := 0) fo_74_0 rfl rfl) ?_
  refine Wl.q (v := Value.pointer (some ⟨s, 0, none⟩)) (q_load sc_22 rfl (.cel (i := 0) rfl rfl)) ?_
  refine Wl.q (v := Value.int .i64 ((n : Nat) : Int)) (q_move rfl) ?_
  refine Wl.imp (L' := (storeI s ts) :: (pt k 74 [Value.pointer (some ⟨s, 0, none⟩), Value.slice (some ⟨hb, 0, none⟩) m hc, Value.slice (some ⟨ub, 0, none⟩) um uc, tv]) :: (slp 4 1 hb hc (S.1.map Value.bool)) :: (sl 3 1 tv S.2.length (S.2.map natV)) :: F) (fun _ h => st_pull [3] h) ?_
  refine Wl.e (e_call (F := (pt k 74 [Value.pointer (some ⟨s, 0, none⟩), Value.slice (some ⟨hb, 0, none⟩) m hc, Value.slice (some ⟨ub, 0, none⟩) um uc, tv]) :: (slp 4 1 hb hc (S.1.map Value.bool)) :: (sl 3 1 tv S.2.length (S.2.map natV)) :: F) (args := [Value.pointer (some ⟨s, 0, none⟩), Value.int .i64 ((n : Nat) : Int)]) Try.call22 rfl (get_c W0 s ts ((n : Nat) : Int) hl t (by omega) (atN_get hat))) (fun _ _ => ?_)
  refine Wl.imp (L' := (storeI s ts) :: (pt k 74 [Value.pointer (some ⟨s, 0, none⟩), Value.slice (some ⟨hb, 0, none⟩) m hc, Value.slice (some ⟨ub, 0, none⟩) um uc, tv]) :: (slp 4 1 hb hc (S.1.map Value.bool)) :: (sl 3 1 tv S.2.length (S.2.map natV)) :: F) (fun _ h => h) ?_
  refine Wl.q (v := Value.tuple #[Value.agg #[Value.int .u8 ((t.kind : Nat) : Int), Value.int .i64 t.n, Value.int .i64 t.a, Value.int .i64 t.b], Value.bool true]) (q_move rfl) ?_
  refine Wl.q (v := Value.agg #[Value.int .u8 ((t.kind : Nat) : Int), Value.int .i64 t.n, Value.int .i64 t.a, Value.int .i64 t.b]) (q_extract (i := 0) rfl rfl) ?_
  refine Wl.q (v := Value.bool true) (q_extract (i := 1) rfl rfl) ?_
  refine Wl.e (e_alloc (vs := [Value.int .u8 0, Value.int .i64 0, Value.int .i64 0, Value.int .i64 0]) zo_28 rfl) (fun b1 _ => ?_)
  refine Wl.imp (L' := (pt b1 28 [Value.int .u8 0, Value.int .i64 0, Value.int .i64 0, Value.int .i64 0]) :: (storeI s ts) :: (pt k 74 [Value.pointer (some ⟨s, 0, none⟩), Value.slice (some ⟨hb, 0, none⟩) m hc, Value.slice (some ⟨ub, 0, none⟩) um uc, tv]) :: (slp 4 1 hb hc (S.1.map Value.bool)) :: (sl 3 1 tv S.2.length (S.2.map natV)) :: F) (fun _ h => h) ?_
  refine Wl.e (e_storeAgg (i := 0) (vs := [Value.int .u8 ((t.kind : Nat) : Int), Value.int .i64 t.n, Value.int .i64 t.a, Value.int .i64 t.b]) (c' := [Value.int .u8 ((t.kind : Nat) : Int), Value.int .i64 t.n, Value.int .i64 t.a, Value.int .i64 t.b]) sz_28 rfl rfl rfl rfl (by simp) rfl) (fun _ _ => ?_)
  refine Wl.imp (L' := (pt b1 28 [Value.int .u8 ((t.kind : Nat) : Int), Value.int .i64 t.n, Value.int .i64 t.a, Value.int .i64 t.b]) :: (storeI s ts) :: (pt k 74 [Value.pointer (some ⟨s, 0, none⟩), Value.slice (some ⟨hb, 0, none⟩) m hc, Value.slice (some ⟨ub, 0, none⟩) um uc, tv]) :: (slp 4 1 hb hc (S.1.map Value.bool)) :: (sl 3 1 tv S.2.length (S.2.map natV)) :: F) (fun _ h => h) ?_
  refine Wl.q (v := Value.bool true) (q_assign rfl) ?_
  refine Wl.done ?_
  refine Wx.go ?_
  refine Wc.seq ?_
  refine Wc.seq ?_
  refine Wc.region ?_
  refine Wl.q (v := Value.pointer (some ⟨b1, 0, none⟩)) (q_field (m := 0) fo_28_0 rfl rfl) ?_
  refine Wl.q (v := Value.int .u8 ((t.kind : Nat) : Int)) (q_load sc_26 rfl (.cel (i := 0) rfl rfl)) ?_
  refine Wl.done ?_
  refine Wx.go ?_
  refine Wc.block ?_
  refine Wc.seq ?_
  refine Wc.region ?_
  by_cases hk1 : ((t.kind : Nat) : Int) = 1
  ·
    refine Wl.q (v := Value.bool true) (q_eql (r := true) rfl rfl (decide_eq_true hk1)) ?_
    refine Wl.q (v := Value.bool true) (q_assign rfl) ?_
    refine Wl.done ?_
    refine Wx.go ?_
    refine Wc.yes rfl ?_
    refine Wc.ret ?_
    refine Wx.blockRet ?_
    refine Wx.thenRet ?_
    refine Wx.fin0 rfl (.inl rfl) (fun w hs => ?_)
    have e : maF ts S n = S := by unfold maF; rw [hat]; simp only; rw [if_pos (by omega)]
    exact ⟨tv, trivial, rfl, by rw [e]; exact (st_pull [1, 1, 1, 0] (st_drop (st_pull [0] hs)))⟩
  ·
    refine Wl.q (v := Value.bool false) (q_eql (r := false) rfl rfl (decide_eq_false hk1)) ?_
    refine Wl.q (v := Value.bool false) (q_assign rfl) ?_
    refine Wl.done ?_
    refine Wx.go ?_
    refine Wc.no rfl ?_
    refine Wc.seq ?_
    refine Wc.region ?_
    by_cases hk2 : ((t.kind : Nat) : Int) = 2
    ·
      refine Wl.q (v := Value.bool true) (q_eql (r := true) rfl rfl (decide_eq_true hk2)) ?_
      refine Wl.q (v := Value.bool true) (q_assign rfl) ?_
      refine Wl.done ?_
      refine Wx.go ?_
      refine Wc.yes rfl ?_
      refine Wc.seq ?_
      refine Wc.region ?_
      refine Wl.q (v := Value.pointer (some ⟨k, 0, none⟩)) (q_move rfl) ?_
      refine Wl.q (v := Value.int .i64 ((n : Nat) : Int)) (q_move rfl) ?_
      refine Wl.imp (L' := (pt k 74 [Value.pointer (some ⟨s, 0, none⟩), Value.slice (some ⟨hb, 0, none⟩) m hc, Value.slice (some ⟨ub, 0, none⟩) um uc, tv]) :: (slp 4 1 hb hc (S.1.map Value.bool)) :: (sl 3 1 tv S.2.length (S.2.map natV)) :: (pt b1 28 [Value.int .u8 ((t.kind : Nat) : Int), Value.int .i64 t.n, Value.int .i64 t.a, Value.int .i64 t.b]) :: (storeI s ts) :: F) (fun _ h => st_pull [2, 2, 2] h) ?_
      refine Wl.e (e_call (F := (pt b1 28 [Value.int .u8 ((t.kind : Nat) : Int), Value.int .i64 t.n, Value.int .i64 t.a, Value.int .i64 t.b]) :: (storeI s ts) :: F) (args := [Value.pointer (some ⟨k, 0, none⟩), Value.int .i64 ((n : Nat) : Int)]) Try.call32 rfl (mark_c W0 k s hb hc ub uc um m (tv) S ((n : Nat) : Int) hm (by omega) (by omega) (by omega))) (fun tv2 _ => ?_)
      refine Wl.imp (L' := (pt k 74 [Value.pointer (some ⟨s, 0, none⟩), Value.slice (some ⟨hb, 0, none⟩) m hc, Value.slice (some ⟨ub, 0, none⟩) um uc, tv2]) :: (slp 4 1 hb hc ((mkF S n).1.map Value.bool)) :: (sl 3 1 tv2 ((mkF S n).2.length) ((mkF S n).2.map natV)) :: (pt b1 28 [Value.int .u8 ((t.kind : Nat) : Int), Value.int .i64 t.n, Value.int .i64 t.a, Value.int .i64 t.b]) :: (storeI s ts) :: F) (fun _ h => h) ?_
      refine Wl.done ?_
      refine Wx.go ?_
      refine Wc.ret ?_
      refine Wx.blockRet ?_
      refine Wx.thenRet ?_
      refine Wx.fin0 rfl (.inl rfl) (fun w hs => ?_)
      have e : maF ts S n = (mkF S n) := by unfold maF; rw [hat]; simp only; rw [if_neg (by omega), if_pos (by omega)]
      exact ⟨tv2, trivial, rfl, by rw [e]; exact (st_drop (st_pull [3] hs))⟩
    ·
      refine Wl.q (v := Value.bool false) (q_eql (r := false) rfl rfl (decide_eq_false hk2)) ?_
      refine Wl.q (v := Value.bool false) (q_assign rfl) ?_
      refine Wl.done ?_
      refine Wx.go ?_
      refine Wc.no rfl ?_
      refine Wc.skip ?_
      refine Wx.blockEnd ?_
      refine Wx.go ?_
      refine Wc.seq ?_
      refine Wc.drawsS [] ((pt b1 28 [Value.int .u8 ((t.kind : Nat) : Int), Value.int .i64 t.n, Value.int .i64 t.a, Value.int .i64 t.b]) :: (storeI s ts) :: (pt k 74 [Value.pointer (some ⟨s, 0, none⟩), Value.slice (some ⟨hb, 0, none⟩) m hc, Value.slice (some ⟨ub, 0, none⟩) um uc, tv]) :: (slp 4 1 hb hc (S.1.map Value.bool)) :: (sl 3 1 tv S.2.length (S.2.map natV)) :: []) (by kernel_rfl) ?_
      refine Wr.pure (v := Value.pointer (some ⟨k, 0, none⟩)) 0 rfl (by kernel_rfl) (.inr (fun _ h => st_take [0, 0, 0, 0, 0] h)) (.inl ⟨rfl, fun _ => q_move rfl⟩) ?_
      refine Wr.pure (v := Value.pointer (some ⟨k, 0, none⟩)) 1 rfl (by kernel_rfl) (.inr (fun _ h => st_take [0, 0, 0, 0, 0] h)) (.inl ⟨rfl, fun _ => q_nil_ptr rfl⟩) ?_
      refine Wr.pure (v := Value.pointer (some ⟨k, 1, none⟩)) 2 rfl (by kernel_rfl) (.inr (fun _ h => st_take [0, 0, 0, 0, 0] h)) (.inl ⟨rfl, fun _ => q_field (m := 1) fo_74_1 rfl rfl⟩) ?_
      refine Wr.take (v := Value.slice (some ⟨hb, 0, none⟩) m hc) 3 rfl (by kernel_rfl) (fun _ h => st_take [0, 0, 0, 0, 0] h) (.inl ⟨rfl, q_load sc_71 rfl (.cel (i := 2) rfl rfl)⟩) ?_
      refine Wr.pure (v := Value.pointer (some ⟨b1, 2, none⟩)) 4 rfl (by kernel_rfl) (.inr (fun _ h => st_take [0, 0, 0, 0, 0] h)) (.inl ⟨rfl, fun _ => q_field (m := 2) fo_28_2 rfl rfl⟩) ?_
      refine Wr.take (v := Value.int .i64 t.a) 5 rfl (by kernel_rfl) (fun _ h => st_take [0, 0, 0, 0, 0] h) (.inl ⟨rfl, q_load sc_3 rfl (.cel (i := 0) rfl rfl)⟩) ?_
      refine Wr.pure (v := Value.pointer (some ⟨hb, (t.a).toNat, none⟩)) 6 rfl (by kernel_rfl) (.inr (fun _ h => st_take [0, 0, 0, 0, 0] h)) (.inl ⟨rfl, fun _ => q_idx (m := (t.a).toNat) se_71 rfl rfl (by omega) (by omega) (by simp)⟩) ?_
      by_cases hta : hN S.1 ((t.a).toNat) = true
      ·
        refine Wr.take (v := Value.bool true) 7 rfl (by kernel_rfl) (fun _ h => st_take [0, 0, 0, 0, 0] h) (.inl ⟨rfl, q_load sc_4 rfl (.row (i := 3) rfl (bool_yes hta))⟩) ?_
        refine Wr.pure (v := Value.bool true) 8 rfl (by kernel_rfl) (.inr (fun _ h => st_take [0, 0, 0, 0, 0] h)) (.inl ⟨rfl, fun _ => q_move rfl⟩) ?_
        refine Wr.pure (v := Value.pointer (some ⟨k, 0, none⟩)) 9 rfl (by kernel_rfl) (.inr (fun _ h => st_take [0, 0, 0, 0, 0] h)) (.inl ⟨rfl, fun _ => q_move rfl⟩) ?_
        refine Wr.pure (v := Value.pointer (some ⟨k, 0, none⟩)) 10 rfl (by kernel_rfl) (.inr (fun _ h => st_take [0, 0, 0, 0, 0] h)) (.inl ⟨rfl, fun _ => q_nil_ptr rfl⟩) ?_
        refine Wr.pure (v := Value.pointer (some ⟨k, 1, none⟩)) 11 rfl (by kernel_rfl) (.inr (fun _ h => st_take [0, 0, 0, 0, 0] h)) (.inl ⟨rfl, fun _ => q_field (m := 1) fo_74_1 rfl rfl⟩) ?_
        refine Wr.take (v := Value.slice (some ⟨hb, 0, none⟩) m hc) 12 rfl (by kernel_rfl) (fun _ h => st_take [0, 0, 0, 0, 0] h) (.inl ⟨rfl, q_load sc_71 rfl (.cel (i := 2) rfl rfl)⟩) ?_
        refine Wr.pure (v := Value.pointer (some ⟨b1, 3, none⟩)) 13 rfl (by kernel_rfl) (.inr (fun _ h => st_take [0, 0, 0, 0, 0] h)) (.inl ⟨rfl, fun _ => q_field (m := 3) fo_28_3 rfl rfl⟩) ?_
        refine Wr.take (v := Value.int .i64 t.b) 14 rfl (by kernel_rfl) (fun _ h => st_take [0, 0, 0, 0, 0] h) (.inl ⟨rfl, q_load sc_3 rfl (.cel (i := 0) rfl rfl)⟩) ?_
        refine Wr.pure (v := Value.pointer (some ⟨hb, (t.b).toNat, none⟩)) 15 rfl (by kernel_rfl) (.inr (fun _ h => st_take [0, 0, 0, 0, 0] h)) (.inl ⟨rfl, fun _ => q_idx (m := (t.b).toNat) se_71 rfl rfl (by omega) (by omega) (by simp)⟩) ?_
        by_cases htb : hN S.1 ((t.b).toNat) = true
        ·
          refine Wr.take (v := Value.bool true) 16 rfl (by kernel_rfl) (fun _ h => st_take [0, 0, 0, 0, 0] h) (.inl ⟨rfl, q_load sc_4 rfl (.row (i := 3) rfl (bool_yes htb))⟩) ?_
          refine Wr.pure (v := Value.bool true) 17 rfl (by kernel_rfl) (.inr (fun _ h => st_take [0, 0, 0, 0, 0] h)) (.inl ⟨rfl, fun _ => q_pick (t := true) rfl rfl⟩) ?_
          refine Wr.done (by kernel_rfl) ?_
          refine Wx.go ?_
          refine Wc.yes rfl ?_
          refine Wc.region ?_
          refine Wl.q (v := Value.pointer (some ⟨k, 0, none⟩)) (q_move rfl) ?_
          refine Wl.q (v := Value.int .i64 ((n : Nat) : Int)) (q_move rfl) ?_
          refine Wl.imp (L' := (pt k 74 [Value.pointer (some ⟨s, 0, none⟩), Value.slice (some ⟨hb, 0, none⟩) m hc, Value.slice (some ⟨ub, 0, none⟩) um uc, tv]) :: (slp 4 1 hb hc (S.1.map Value.bool)) :: (sl 3 1 tv S.2.length (S.2.map natV)) :: (pt b1 28 [Value.int .u8 ((t.kind : Nat) : Int), Value.int .i64 t.n, Value.int .i64 t.a, Value.int .i64 t.b]) :: (storeI s ts) :: F) (fun _ h => st_pull [2, 2, 2] h) ?_
          refine Wl.e (e_call (F := (pt b1 28 [Value.int .u8 ((t.kind : Nat) : Int), Value.int .i64 t.n, Value.int .i64 t.a, Value.int .i64 t.b]) :: (storeI s ts) :: F) (args := [Value.pointer (some ⟨k, 0, none⟩), Value.int .i64 ((n : Nat) : Int)]) Try.call32 rfl (mark_c W0 k s hb hc ub uc um m (tv) S ((n : Nat) : Int) hm (by omega) (by omega) (by omega))) (fun tv3 _ => ?_)
          refine Wl.imp (L' := (pt k 74 [Value.pointer (some ⟨s, 0, none⟩), Value.slice (some ⟨hb, 0, none⟩) m hc, Value.slice (some ⟨ub, 0, none⟩) um uc, tv3]) :: (slp 4 1 hb hc ((mkF S n).1.map Value.bool)) :: (sl 3 1 tv3 ((mkF S n).2.length) ((mkF S n).2.map natV)) :: (pt b1 28 [Value.int .u8 ((t.kind : Nat) : Int), Value.int .i64 t.n, Value.int .i64 t.a, Value.int .i64 t.b]) :: (storeI s ts) :: F) (fun _ h => h) ?_
          refine Wl.done ?_
          refine Wx.fin0 rfl (.inr rfl) (fun w hs => ?_)
          have e : maF ts S n = (mkF S n) := by unfold maF; rw [hat]; simp only; rw [if_neg (by omega), if_neg (by omega), if_pos ⟨hta, htb⟩]
          exact ⟨tv3, trivial, rfl, by rw [e]; exact (st_drop (st_pull [3] hs))⟩
        ·
          refine Wr.take (v := Value.bool false) 16 rfl (by kernel_rfl) (fun _ h => st_take [0, 0, 0, 0, 0] h) (.inl ⟨rfl, q_load sc_4 rfl (.row (i := 3) rfl (bool_no (by omega) htb))⟩) ?_
          refine Wr.pure (v := Value.bool false) 17 rfl (by kernel_rfl) (.inr (fun _ h => st_take [0, 0, 0, 0, 0] h)) (.inl ⟨rfl, fun _ => q_pick (t := true) rfl rfl⟩) ?_
          refine Wr.done (by kernel_rfl) ?_
          refine Wx.go ?_
          refine Wc.no rfl ?_
          refine Wc.skip ?_
          refine Wx.fin0 rfl (.inr rfl) (fun w hs => ?_)
          have e : maF ts S n = S := by unfold maF; rw [hat]; simp only; rw [if_neg (by omega), if_neg (by omega), if_neg (fun h => htb h.2)]
          exact ⟨tv, trivial, rfl, by rw [e]; exact (st_pull [1, 1, 1, 0] (st_drop (st_pull [0] hs)))⟩
      ·
        refine Wr.take (v := Value.bool false) 7 rfl (by kernel_rfl) (fun _ h => st_take [0, 0, 0, 0, 0] h) (.inl ⟨rfl, q_load sc_4 rfl (.row (i := 3) rfl (bool_no (by omega) hta))⟩) ?_
        refine Wr.pure (v := Value.bool false) 8 rfl (by kernel_rfl) (.inr (fun _ h => st_take [0, 0, 0, 0, 0] h)) (.inl ⟨rfl, fun _ => q_move rfl⟩) ?_
        refine Wr.pure (v := undef) 9 rfl (by kernel_rfl) (.inr (fun _ h => st_take [0, 0, 0, 0, 0] h)) (.inr ⟨rfl, rfl⟩) ?_
        refine Wr.pure (v := undef) 10 rfl (by kernel_rfl) (.inr (fun _ h => st_take [0, 0, 0, 0, 0] h)) (.inr ⟨rfl, rfl⟩) ?_
        refine Wr.pure (v := undef) 11 rfl (by kernel_rfl) (.inr (fun _ h => st_take [0, 0, 0, 0, 0] h)) (.inr ⟨rfl, rfl⟩) ?_
        refine Wr.pure (v := undef) 12 rfl (by kernel_rfl) (.inr (fun _ h => st_take [0, 0, 0, 0, 0] h)) (.inr ⟨rfl, rfl⟩) ?_
        refine Wr.pure (v := undef) 13 rfl (by kernel_rfl) (.inr (fun _ h => st_take [0, 0, 0, 0, 0] h)) (.inr ⟨rfl, rfl⟩) ?_
        refine Wr.pure (v := undef) 14 rfl (by kernel_rfl) (.inr (fun _ h => st_take [0, 0, 0, 0, 0] h)) (.inr ⟨rfl, rfl⟩) ?_
        refine Wr.pure (v := undef) 15 rfl (by kernel_rfl) (.inr (fun _ h => st_take [0, 0, 0, 0, 0] h)) (.inr ⟨rfl, rfl⟩) ?_
        refine Wr.pure (v := undef) 16 rfl (by kernel_rfl) (.inr (fun _ h => st_take [0, 0, 0, 0, 0] h)) (.inr ⟨rfl, rfl⟩) ?_
        refine Wr.pure (v := Value.bool false) 17 rfl (by kernel_rfl) (.inr (fun _ h => st_take [0, 0, 0, 0, 0] h)) (.inl ⟨rfl, fun _ => q_pick (t := false) rfl rfl⟩) ?_
        refine Wr.done (by kernel_rfl) ?_
        refine Wx.go ?_
        refine Wc.no rfl ?_
        refine Wc.skip ?_
        refine Wx.fin0 rfl (.inr rfl) (fun w hs => ?_)
        have e : maF ts S n = S := by unfold maF; rw [hat]; simp only; rw [if_neg (by omega), if_neg (by omega), if_neg (fun h => hta h.1)]
        exact ⟨tv, trivial, rfl, by rw [e]; exact (st_pull [1, 1, 1, 0] (st_drop (st_pull [0] hs)))⟩

theorem kopen_c (W0 : World) (k s hb hc ub uc um m : Nat) (tv : Value) (ts : List TermR) (S : Sd) (n : Nat) (hm : S.1.length = m) (hw : Wf ts) (hl : ts.length ≤ 1048576) (t : TermR) (hat : atN ts n = some t) (hn : n < m) (ht : S.2.length ≤ 3000000) :
    Con Try.prog W0 44 #[Value.pointer (some ⟨k, 0, none⟩), Value.int .i64 ((n : Nat) : Int)] [pt k 74 [Value.pointer (some ⟨s, 0, none⟩), Value.slice (some ⟨hb, 0, none⟩) m hc, Value.slice (some ⟨ub, 0, none⟩) um uc, tv], slp 4 1 hb hc (S.1.map Value.bool), sl 3 1 tv S.2.length (S.2.map natV), storeI s ts] (X := Value) (fun _ => True) (fun _ => .tuple #[]) (fun tv' => [pt k 74 [Value.pointer (some ⟨s, 0, none⟩), Value.slice (some ⟨hb, 0, none⟩) m hc, Value.slice (some ⟨ub, 0, none⟩) um uc, tv'], slp 4 1 hb hc ((opF ts S n).1.map Value.bool), sl 3 1 tv' ((opF ts S n).2.length) ((opF ts S n).2.map natV), storeI s ts]) := by
  refine Con.of (args := [Value.pointer (some ⟨k, 0, none⟩), Value.int .i64 ((n : Nat) : Int)]) Try.func44 rfl Try.ntmps44 rfl (fun F => ?_)
  have hp := hw.parts hat
  show Wc _ W0 _ _ _ _ _ ((pt k 74 [Value.pointer (some ⟨s, 0, none⟩), Value.slice (some ⟨hb, 0, none⟩) m hc, Value.slice (some ⟨ub, 0, none⟩) um uc, tv]) :: (slp 4 1 hb hc (S.1.map Value.bool)) :: (sl 3 1 tv S.2.length (S.2.map natV)) :: (storeI s ts) :: F)
  refine Wc.seq ?_
  refine Wc.region ?_
  refine Wl.q (v := Value.pointer (some ⟨k, 0, none⟩)) (q_move rfl) ?_
  refine Wl.q (v := Value.pointer (some ⟨k, 0, none⟩)) (q_nil_ptr rfl) ?_
  refine Wl.q (v := Value.pointer (some ⟨k, 0, none⟩)) (q_field (m := 0) fo_74_0 rfl rfl) ?_
  refine Wl.q (v := Value.pointer (some ⟨s, 0, none⟩)) (q_load sc_22 rfl (.cel (i := 0) rfl rfl)) ?_
  refine Wl.q (v := Value.int .i64 ((n : Nat) : Int)) (q_move rfl) ?_
  refine Wl.imp (L' := (storeI s ts) :: (pt k 74 [Value.pointer (some ⟨s, 0, none⟩), Value.slice (some ⟨hb, 0, none⟩) m hc, Value.slice (some ⟨ub, 0, none⟩) um uc, tv]) :: (slp 4 1 hb hc (S.1.map Value.bool)) :: (sl 3 1 tv S.2.length (S.2.map natV)) :: F) (fun _ h => st_pull [3] h) ?_
  refine Wl.e (e_call (F := (pt k 74 [Value.pointer (some ⟨s, 0, none⟩), Value.slice (some ⟨hb, 0, none⟩) m hc, Value.slice (some ⟨ub, 0, none⟩) um uc, tv]) :: (slp 4 1 hb hc (S.1.map Value.bool)) :: (sl 3 1 tv S.2.length (S.2.map natV)) :: F) (args := [Value.pointer (some ⟨s, 0, none⟩), Value.int .i64 ((n : Nat) : Int)]) Try.call22 rfl (get_c W0 s ts ((n : Nat) : Int) hl t (by omega) (atN_get hat))) (fun _ _ => ?_)
  refine Wl.imp (L' := (storeI s ts) :: (pt k 74 [Value.pointer (some ⟨s, 0, none⟩), Value.slice (some ⟨hb, 0, none⟩) m hc, Value.slice (some ⟨ub, 0, none⟩) um uc, tv]) :: (slp 4 1 hb hc (S.1.map Value.bool)) :: (sl 3 1 tv S.2.length (S.2.map natV)) :: F) (fun _ h => h) ?_
  refine Wl.q (v := Value.tuple #[Value.agg #[Value.int .u8 ((t.kind : Nat) : Int), Value.int .i64 t.n, Value.int .i64 t.a, Value.int .i64 t.b], Value.bool true]) (q_move rfl) ?_
  refine Wl.q (v := Value.agg #[Value.int .u8 ((t.kind : Nat) : Int), Value.int .i64 t.n, Value.int .i64 t.a, Value.int .i64 t.b]) (q_extract (i := 0) rfl rfl) ?_
  refine Wl.q (v := Value.bool true) (q_extract (i := 1) rfl rfl) ?_
  refine Wl.e (e_alloc (vs := [Value.int .u8 0, Value.int .i64 0, Value.int .i64 0, Value.int .i64 0]) zo_28 rfl) (fun b1 _ => ?_)
  refine Wl.imp (L' := (pt b1 28 [Value.int .u8 0, Value.int .i64 0, Value.int .i64 0, Value.int .i64 0]) :: (storeI s ts) :: (pt k 74 [Value.pointer (some ⟨s, 0, none⟩), Value.slice (some ⟨hb, 0, none⟩) m hc, Value.slice (some ⟨ub, 0, none⟩) um uc, tv]) :: (slp 4 1 hb hc (S.1.map Value.bool)) :: (sl 3 1 tv S.2.length (S.2.map natV)) :: F) (fun _ h => h) ?_
  refine Wl.e (e_storeAgg (i := 0) (vs := [Value.int .u8 ((t.kind : Nat) : Int), Value.int .i64 t.n, Value.int .i64 t.a, Value.int .i64 t.b]) (c' := [Value.int .u8 ((t.kind : Nat) : Int), Value.int .i64 t.n, Value.int .i64 t.a, Value.int .i64 t.b]) sz_28 rfl rfl rfl rfl (by simp) rfl) (fun _ _ => ?_)
  refine Wl.imp (L' := (pt b1 28 [Value.int .u8 ((t.kind : Nat) : Int), Value.int .i64 t.n, Value.int .i64 t.a, Value.int .i64 t.b]) :: (storeI s ts) :: (pt k 74 [Value.pointer (some ⟨s, 0, none⟩), Value.slice (some ⟨hb, 0, none⟩) m hc, Value.slice (some ⟨ub, 0, none⟩) um uc, tv]) :: (slp 4 1 hb hc (S.1.map Value.bool)) :: (sl 3 1 tv S.2.length (S.2.map natV)) :: F) (fun _ h => h) ?_
  refine Wl.q (v := Value.bool true) (q_assign rfl) ?_
  refine Wl.done ?_
  refine Wx.go ?_
  refine Wc.seq ?_
  refine Wc.region ?_
  refine Wl.q (v := Value.pointer (some ⟨b1, 0, none⟩)) (q_field (m := 0) fo_28_0 rfl rfl) ?_
  refine Wl.q (v := Value.int .u8 ((t.kind : Nat) : Int)) (q_load sc_26 rfl (.cel (i := 0) rfl rfl)) ?_
  refine Wl.done ?_
  refine Wx.go ?_
  refine Wc.block ?_
  refine Wc.seq ?_
  refine Wc.region ?_
  by_cases hk3 : ((t.kind : Nat) : Int) = 3
  ·
    refine Wl.q (v := Value.bool true) (q_eql (r := true) rfl rfl (decide_eq_true hk3)) ?_
    refine Wl.q (v := Value.bool true) (q_assign rfl) ?_
    refine Wl.done ?_
    refine Wx.go ?_
    refine Wc.yes rfl ?_
    refine Wc.seq ?_
    refine Wc.region ?_
    refine Wl.q (v := Value.pointer (some ⟨k, 0, none⟩)) (q_move rfl) ?_
    refine Wl.q (v := Value.pointer (some ⟨b1, 2, none⟩)) (q_field (m := 2) fo_28_2 rfl rfl) ?_
    refine Wl.q (v := Value.int .i64 t.a) (q_load sc_3 rfl (.cel (i := 0) rfl rfl)) ?_
    refine Wl.imp (L' := (pt k 74 [Value.pointer (some ⟨s, 0, none⟩), Value.slice (some ⟨hb, 0, none⟩) m hc, Value.slice (some ⟨ub, 0, none⟩) um uc, tv]) :: (slp 4 1 hb hc (S.1.map Value.bool)) :: (sl 3 1 tv S.2.length (S.2.map natV)) :: (pt b1 28 [Value.int .u8 ((t.kind : Nat) : Int), Value.int .i64 t.n, Value.int .i64 t.a, Value.int .i64 t.b]) :: (storeI s ts) :: F) (fun _ h => st_pull [2, 2, 2] h) ?_
    refine Wl.e (e_call (F := (pt b1 28 [Value.int .u8 ((t.kind : Nat) : Int), Value.int .i64 t.n, Value.int .i64 t.a, Value.int .i64 t.b]) :: (storeI s ts) :: F) (args := [Value.pointer (some ⟨k, 0, none⟩), Value.int .i64 t.a]) Try.call32 rfl (mark_c W0 k s hb hc ub uc um m (tv) S t.a hm (by omega) (by omega) (by omega))) (fun tv2 _ => ?_)
    refine Wl.imp (L' := (pt k 74 [Value.pointer (some ⟨s, 0, none⟩), Value.slice (some ⟨hb, 0, none⟩) m hc, Value.slice (some ⟨ub, 0, none⟩) um uc, tv2]) :: (slp 4 1 hb hc ((mkF S ((t.a).toNat)).1.map Value.bool)) :: (sl 3 1 tv2 ((mkF S ((t.a).toNat)).2.length) ((mkF S ((t.a).toNat)).2.map natV)) :: (pt b1 28 [Value.int .u8 ((t.kind : Nat) : Int), Value.int .i64 t.n, Value.int .i64 t.a, Value.int .i64 t.b]) :: (storeI s ts) :: F) (fun _ h => h) ?_
    refine Wl.done ?_
    refine Wx.go ?_
    refine Wc.region ?_
    refine Wl.q (v := Value.pointer (some ⟨k, 0, none⟩)) (q_move rfl) ?_
    refine Wl.q (v := Value.pointer (some ⟨b1, 3, none⟩)) (q_field (m := 3) fo_28_3 rfl rfl) ?_
    refine Wl.q (v := Value.int .i64 t.b) (q_load sc_3 rfl (.cel (i := 3) rfl rfl)) ?_
    refine Wl.e (e_call (F := (pt b1 28 [Value.int .u8 ((t.kind : Nat) : Int), Value.int .i64 t.n, Value.int .i64 t.a, Value.int .i64 t.b]) :: (storeI s ts) :: F) (args := [Value.pointer (some ⟨k, 0, none⟩), Value.int .i64 t.b]) Try.call32 rfl (mark_c W0 k s hb hc ub uc um m (tv2) (mkF S ((t.a).toNat)) t.b (by rw [mkF_len]; exact hm) (by omega) (by omega) (by have := mkF_tl S t.a.toNat; omega))) (fun tv3 _ => ?_)
    refine Wl.imp (L' := (pt k 74 [Value.pointer (some ⟨s, 0, none⟩), Value.slice (some ⟨hb, 0, none⟩) m hc, Value.slice (some ⟨ub, 0, none⟩) um uc, tv3]) :: (slp 4 1 hb hc ((mkF (mkF S ((t.a).toNat)) ((t.b).toNat)).1.map Value.bool)) :: (sl 3 1 tv3 ((mkF (mkF S ((t.a).toNat)) ((t.b).toNat)).2.length) ((mkF (mkF S ((t.a).toNat)) ((t.b).toNat)).2.map natV)) :: (pt b1 28 [Value.int .u8 ((t.kind : Nat) : Int), Value.int .i64 t.n, Value.int .i64 t.a, Value.int .i64 t.b]) :: (storeI s ts) :: F) (fun _ h => h) ?_
    refine Wl.done ?_
    refine Wx.blockEnd ?_
    refine Wx.fin0 rfl (.inr rfl) (fun w hs => ?_)
    have e : opF ts S n = (mkF (mkF S ((t.a).toNat)) ((t.b).toNat)) := by unfold opF; rw [hat]; simp only; rw [if_pos (by omega)]
    exact ⟨tv3, trivial, rfl, by rw [e]; exact (st_drop (st_pull [3] hs))⟩
  ·
    refine Wl.q (v := Value.bool false) (q_eql (r := false) rfl rfl (decide_eq_false hk3)) ?_
    refine Wl.q (v := Value.bool false) (q_assign rfl) ?_
    refine Wl.done ?_
    refine Wx.go ?_
    refine Wc.no rfl ?_
    refine Wc.seq ?_
    refine Wc.region ?_
    by_cases hk6 : ((t.kind : Nat) : Int) = 6
    ·
      obtain ⟨kk, hkk⟩ := at_some (ts := ts) (n := t.a.toNat) (by omega) (by omega)
      have hpk := hw.parts hkk
      refine Wl.q (v := Value.bool true) (q_eql (r := true) rfl rfl (decide_eq_true hk6)) ?_
      refine Wl.q (v := Value.bool true) (q_assign rfl) ?_
      refine Wl.done ?_
      refine Wx.go ?_
      refine Wc.yes rfl ?_
      refine Wc.seq ?_
      refine Wc.region ?_
      refine Wl.q (v := Value.pointer (some ⟨b1, 2, none⟩)) (q_field (m := 2) fo_28_2 rfl rfl) ?_
      refine Wl.q (v := Value.int .i64 t.a) (q_load sc_3 rfl (.cel (i := 0) rfl rfl)) ?_
      refine Wl.q (v := Value.int .i64 t.a) (q_assign rfl) ?_
      refine Wl.done ?_
      refine Wx.go ?_
      refine Wc.seq ?_
      refine Wc.seq ?_
      refine Wc.drawsS [11] ((pt b1 28 [Value.int .u8 ((t.kind : Nat) : Int), Value.int .i64 t.n, Value.int .i64 t.a, Value.int .i64 t.b]) :: (storeI s ts) :: (pt k 74 [Value.pointer (some ⟨s, 0, none⟩), Value.slice (some ⟨hb, 0, none⟩) m hc, Value.slice (some ⟨ub, 0, none⟩) um uc, tv]) :: (slp 4 1 hb hc (S.1.map Value.bool)) :: (sl 3 1 tv S.2.length (S.2.map natV)) :: []) (by kernel_rfl) ?_
      refine Wr.pure (v := Value.pointer (some ⟨k, 0, none⟩)) 0 rfl (by kernel_rfl) (.inr (fun _ h => st_take [0, 0, 0, 0, 0] h)) (.inl ⟨rfl, fun _ => q_move rfl⟩) ?_
      refine Wr.pure (v := Value.pointer (some ⟨k, 0, none⟩)) 1 rfl (by kernel_rfl) (.inr (fun _ h => st_take [0, 0, 0, 0, 0] h)) (.inl ⟨rfl, fun _ => q_nil_ptr rfl⟩) ?_
      refine Wr.pure (v := Value.pointer (some ⟨k, 0, none⟩)) 2 rfl (by kernel_rfl) (.inr (fun _ h => st_take [0, 0, 0, 0, 0] h)) (.inl ⟨rfl, fun _ => q_field (m := 0) fo_74_0 rfl rfl⟩) ?_
      refine Wr.take (v := Value.pointer (some ⟨s, 0, none⟩)) 3 rfl (by kernel_rfl) (fun _ h => st_take [0, 0, 0, 0, 0] h) (.inl ⟨rfl, q_load sc_22 rfl (.cel (i := 2) rfl rfl)⟩) ?_
      refine Wr.pure (v := Value.pointer (some ⟨b1, 2, none⟩)) 4 rfl (by kernel_rfl) (.inr (fun _ h => st_take [0, 0, 0, 0, 0] h)) (.inl ⟨rfl, fun _ => q_field (m := 2) fo_28_2 rfl rfl⟩) ?_
      refine Wr.take (v := Value.int .i64 t.a) 5 rfl (by kernel_rfl) (fun _ h => st_take [0, 0, 0, 0, 0] h) (.inl ⟨rfl, q_load sc_3 rfl (.cel (i := 0) rfl rfl)⟩) ?_
      refine Wr.some [6, 10] (by kernel_rfl) (by decide) (List.forall_mem_cons.2 ⟨?_, (List.forall_mem_cons.2 ⟨?_, (fun _ h => by cases h)⟩)⟩)
      ·
        refine Wo.imp (L' := (storeI s ts) :: (pt b1 28 [Value.int .u8 ((t.kind : Nat) : Int), Value.int .i64 t.n, Value.int .i64 t.a, Value.int .i64 t.b]) :: (pt k 74 [Value.pointer (some ⟨s, 0, none⟩), Value.slice (some ⟨hb, 0, none⟩) m hc, Value.slice (some ⟨ub, 0, none⟩) um uc, tv]) :: (slp 4 1 hb hc (S.1.map Value.bool)) :: (sl 3 1 tv S.2.length (S.2.map natV)) :: F) (fun _ h => st_pull [1] h) ?_
        refine Wo.e 6 rfl (e_call (F := (pt b1 28 [Value.int .u8 ((t.kind : Nat) : Int), Value.int .i64 t.n, Value.int .i64 t.a, Value.int .i64 t.b]) :: (pt k 74 [Value.pointer (some ⟨s, 0, none⟩), Value.slice (some ⟨hb, 0, none⟩) m hc, Value.slice (some ⟨ub, 0, none⟩) um uc, tv]) :: (slp 4 1 hb hc (S.1.map Value.bool)) :: (sl 3 1 tv S.2.length (S.2.map natV)) :: F) (args := [Value.pointer (some ⟨s, 0, none⟩), Value.int .i64 t.a]) Try.call22 rfl (get_c W0 s ts t.a hl kk (by omega) (atN_geti hkk))) (.inr fun _ _ _ h => st_take [1, 0, 0, 0, 0] h) (fun _ _ => ?_)
        refine Wr.imp (L' := (storeI s ts) :: (pt b1 28 [Value.int .u8 ((t.kind : Nat) : Int), Value.int .i64 t.n, Value.int .i64 t.a, Value.int .i64 t.b]) :: (pt k 74 [Value.pointer (some ⟨s, 0, none⟩), Value.slice (some ⟨hb, 0, none⟩) m hc, Value.slice (some ⟨ub, 0, none⟩) um uc, tv]) :: (slp 4 1 hb hc (S.1.map Value.bool)) :: (sl 3 1 tv S.2.length (S.2.map natV)) :: F) (fun _ h => h) ?_
        refine Wr.pure (v := Value.tuple #[Value.agg #[Value.int .u8 ((kk.kind : Nat) : Int), Value.int .i64 kk.n, Value.int .i64 kk.a, Value.int .i64 kk.b], Value.bool true]) 7 rfl (by kernel_rfl) (.inr (fun _ h => st_take [1, 0, 0, 0, 0] h)) (.inl ⟨rfl, fun _ => q_move rfl⟩) ?_
        refine Wr.pure (v := Value.agg #[Value.int .u8 ((kk.kind : Nat) : Int), Value.int .i64 kk.n, Value.int .i64 kk.a, Value.int .i64 kk.b]) 8 rfl (by kernel_rfl) (.inr (fun _ h => st_take [1, 0, 0, 0, 0] h)) (.inl ⟨rfl, fun _ => q_extract (i := 0) rfl rfl⟩) ?_
        refine Wr.pure (v := Value.bool true) 9 rfl (by kernel_rfl) (.inr (fun _ h => st_take [1, 0, 0, 0, 0] h)) (.inl ⟨rfl, fun _ => q_extract (i := 1) rfl rfl⟩) ?_
        refine Wr.e 10 (by kernel_rfl) rfl (e_alloc (vs := [Value.int .u8 0, Value.int .i64 0, Value.int .i64 0, Value.int .i64 0]) zo_28 rfl) (.inr fun _ _ _ h => st_take [2, 1, 1, 1, 1] h) (fun b4 _ => ?_)
        refine Wr.imp (L' := (pt b4 28 [Value.int .u8 0, Value.int .i64 0, Value.int .i64 0, Value.int .i64 0]) :: (storeI s ts) :: (pt b1 28 [Value.int .u8 ((t.kind : Nat) : Int), Value.int .i64 t.n, Value.int .i64 t.a, Value.int .i64 t.b]) :: (pt k 74 [Value.pointer (some ⟨s, 0, none⟩), Value.slice (some ⟨hb, 0, none⟩) m hc, Value.slice (some ⟨ub, 0, none⟩) um uc, tv]) :: (slp 4 1 hb hc (S.1.map Value.bool)) :: (sl 3 1 tv S.2.length (S.2.map natV)) :: F) (fun _ h => h) ?_
        refine Wr.more (S' := (pt b4 28 [Value.int .u8 0, Value.int .i64 0, Value.int .i64 0, Value.int .i64 0]) :: (pt b1 28 [Value.int .u8 ((t.kind : Nat) : Int), Value.int .i64 t.n, Value.int .i64 t.a, Value.int .i64 t.b]) :: (storeI s ts) :: (pt k 74 [Value.pointer (some ⟨s, 0, none⟩), Value.slice (some ⟨hb, 0, none⟩) m hc, Value.slice (some ⟨ub, 0, none⟩) um uc, tv]) :: (slp 4 1 hb hc (S.1.map Value.bool)) :: (sl 3 1 tv S.2.length (S.2.map natV)) :: []) (fun _ h => st_drop h) ?_
        refine Wr.e 11 (by kernel_rfl) rfl (e_storeAgg (i := 0) (vs := [Value.int .u8 ((kk.kind : Nat) : Int), Value.int .i64 kk.n, Value.int .i64 kk.a, Value.int .i64 kk.b]) (c' := [Value.int .u8 ((kk.kind : Nat) : Int), Value.int .i64 kk.n, Value.int .i64 kk.a, Value.int .i64 kk.b]) sz_28 rfl rfl rfl rfl (by simp) rfl) (.inl (by kernel_rfl)) (fun _ _ => ?_)
        refine Wr.imp (L' := (pt b4 28 [Value.int .u8 ((kk.kind : Nat) : Int), Value.int .i64 kk.n, Value.int .i64 kk.a, Value.int .i64 kk.b]) :: (storeI s ts) :: (pt b1 28 [Value.int .u8 ((t.kind : Nat) : Int), Value.int .i64 t.n, Value.int .i64 t.a, Value.int .i64 t.b]) :: (pt k 74 [Value.pointer (some ⟨s, 0, none⟩), Value.slice (some ⟨hb, 0, none⟩) m hc, Value.slice (some ⟨ub, 0, none⟩) um uc, tv]) :: (slp 4 1 hb hc (S.1.map Value.bool)) :: (sl 3 1 tv S.2.length (S.2.map natV)) :: F) (fun _ h => h) ?_
        refine Wr.rebaseS [] ((pt b4 28 [Value.int .u8 ((kk.kind : Nat) : Int), Value.int .i64 kk.n, Value.int .i64 kk.a, Value.int .i64 kk.b]) :: (storeI s ts) :: (pt b1 28 [Value.int .u8 ((t.kind : Nat) : Int), Value.int .i64 t.n, Value.int .i64 t.a, Value.int .i64 t.b]) :: (pt k 74 [Value.pointer (some ⟨s, 0, none⟩), Value.slice (some ⟨hb, 0, none⟩) m hc, Value.slice (some ⟨ub, 0, none⟩) um uc, tv]) :: (slp 4 1 hb hc (S.1.map Value.bool)) :: (sl 3 1 tv S.2.length (S.2.map natV)) :: []) (by kernel_rfl) ?_
        refine Wr.pure (v := Value.bool true) 12 rfl (by kernel_rfl) (.inr (fun _ h => st_take [0, 0, 0, 0, 0, 0] h)) (.inl ⟨rfl, fun _ => q_assign rfl⟩) ?_
        refine Wr.done (by kernel_rfl) ?_
        refine Wx.go ?_
        refine Wc.seq ?_
        refine Wc.region ?_
        refine Wl.q (v := Value.pointer (some ⟨b4, 0, none⟩)) (q_field (m := 0) fo_28_0 rfl rfl) ?_
        refine Wl.q (v := Value.int .u8 ((kk.kind : Nat) : Int)) (q_load sc_26 rfl (.cel (i := 0) rfl rfl)) ?_
        by_cases hk5 : ((kk.kind : Nat) : Int) = 5
        ·
          have hbn : byN ts t.a.toNat = kk.a.toNat := by unfold byN; rw [hkk]; simp only; rw [if_pos (by omega)]
          refine Wl.q (v := Value.bool true) (q_eql (r := true) rfl rfl (decide_eq_true hk5)) ?_
          refine Wl.done ?_
          refine Wx.go ?_
          refine Wc.yes rfl ?_
          refine Wc.region ?_
          refine Wl.q (v := Value.pointer (some ⟨b4, 2, none⟩)) (q_field (m := 2) fo_28_2 rfl rfl) ?_
          refine Wl.q (v := Value.int .i64 kk.a) (q_load sc_3 rfl (.cel (i := 0) rfl rfl)) ?_
          refine Wl.q (v := Value.int .i64 kk.a) (q_assign rfl) ?_
          refine Wl.done ?_
          refine Wx.go ?_
          refine Wc.seq ?_
          refine Wc.region ?_
          refine Wl.q (v := Value.pointer (some ⟨k, 0, none⟩)) (q_move rfl) ?_
          refine Wl.q (v := Value.pointer (some ⟨k, 0, none⟩)) (q_nil_ptr rfl) ?_
          refine Wl.q (v := Value.pointer (some ⟨k, 1, none⟩)) (q_field (m := 1) fo_74_1 rfl rfl) ?_
          refine Wl.q (v := Value.slice (some ⟨hb, 0, none⟩) m hc) (q_load sc_71 rfl (.cel (i := 3) rfl rfl)) ?_
          refine Wl.q (v := Value.int .i64 kk.a) (q_move rfl) ?_
          refine Wl.q (v := Value.pointer (some ⟨hb, (kk.a).toNat, none⟩)) (q_idx (m := (kk.a).toNat) se_71 rfl rfl (by omega) (by omega) (by simp)) ?_
          by_cases hby : hN S.1 ((kk.a).toNat) = true
          ·
            refine Wl.q (v := Value.bool true) (q_load sc_4 rfl (.row (i := 4) rfl (bool_yes hby))) ?_
            refine Wl.done ?_
            refine Wx.go ?_
            refine Wc.yes rfl ?_
            refine Wc.region ?_
            refine Wl.q (v := Value.pointer (some ⟨k, 0, none⟩)) (q_move rfl) ?_
            refine Wl.q (v := Value.pointer (some ⟨b1, 3, none⟩)) (q_field (m := 3) fo_28_3 rfl rfl) ?_
            refine Wl.q (v := Value.int .i64 t.b) (q_load sc_3 rfl (.cel (i := 2) rfl rfl)) ?_
            refine Wl.imp (L' := (pt k 74 [Value.pointer (some ⟨s, 0, none⟩), Value.slice (some ⟨hb, 0, none⟩) m hc, Value.slice (some ⟨ub, 0, none⟩) um uc, tv]) :: (slp 4 1 hb hc (S.1.map Value.bool)) :: (sl 3 1 tv S.2.length (S.2.map natV)) :: (pt b4 28 [Value.int .u8 ((kk.kind : Nat) : Int), Value.int .i64 kk.n, Value.int .i64 kk.a, Value.int .i64 kk.b]) :: (storeI s ts) :: (pt b1 28 [Value.int .u8 ((t.kind : Nat) : Int), Value.int .i64 t.n, Value.int .i64 t.a, Value.int .i64 t.b]) :: F) (fun _ h => st_pull [3, 3, 3] h) ?_
            refine Wl.e (e_call (F := (pt b4 28 [Value.int .u8 ((kk.kind : Nat) : Int), Value.int .i64 kk.n, Value.int .i64 kk.a, Value.int .i64 kk.b]) :: (storeI s ts) :: (pt b1 28 [Value.int .u8 ((t.kind : Nat) : Int), Value.int .i64 t.n, Value.int .i64 t.a, Value.int .i64 t.b]) :: F) (args := [Value.pointer (some ⟨k, 0, none⟩), Value.int .i64 t.b]) Try.call32 rfl (mark_c W0 k s hb hc ub uc um m (tv) S t.b hm (by omega) (by omega) (by omega))) (fun tv5 _ => ?_)
            refine Wl.imp (L' := (pt k 74 [Value.pointer (some ⟨s, 0, none⟩), Value.slice (some ⟨hb, 0, none⟩) m hc, Value.slice (some ⟨ub, 0, none⟩) um uc, tv5]) :: (slp 4 1 hb hc ((mkF S ((t.b).toNat)).1.map Value.bool)) :: (sl 3 1 tv5 ((mkF S ((t.b).toNat)).2.length) ((mkF S ((t.b).toNat)).2.map natV)) :: (pt b4 28 [Value.int .u8 ((kk.kind : Nat) : Int), Value.int .i64 kk.n, Value.int .i64 kk.a, Value.int .i64 kk.b]) :: (storeI s ts) :: (pt b1 28 [Value.int .u8 ((t.kind : Nat) : Int), Value.int .i64 t.n, Value.int .i64 t.a, Value.int .i64 t.b]) :: F) (fun _ h => h) ?_
            refine Wl.done ?_
            refine Wx.blockEnd ?_
            refine Wx.fin0 rfl (.inr rfl) (fun w hs => ?_)
            have e : opF ts S n = (mkF S ((t.b).toNat)) := by unfold opF; rw [hat]; simp only; rw [if_neg (by omega), if_pos (by omega), hbn, if_pos hby]
            exact ⟨tv5, trivial, rfl, by rw [e]; exact (st_drop (st_drop (st_pull [3, 4] hs)))⟩
          ·
            refine Wl.q (v := Value.bool false) (q_load sc_4 rfl (.row (i := 4) rfl (bool_no (by omega) hby))) ?_
            refine Wl.done ?_
            refine Wx.go ?_
            refine Wc.no rfl ?_
            refine Wc.skip ?_
            refine Wx.blockEnd ?_
            refine Wx.fin0 rfl (.inr rfl) (fun w hs => ?_)
            have e : opF ts S n = S := by unfold opF; rw [hat]; simp only; rw [if_neg (by omega), if_pos (by omega), hbn, if_neg hby]
            exact ⟨tv, trivial, rfl, by rw [e]; exact (st_pull [1, 1, 1, 0] (st_drop (st_drop (st_pull [0, 1] hs))))⟩
        ·
          have hbn : byN ts t.a.toNat = t.a.toNat := by unfold byN; rw [hkk]; simp only; rw [if_neg (by omega)]
          refine Wl.q (v := Value.bool false) (q_eql (r := false) rfl rfl (decide_eq_false hk5)) ?_
          refine Wl.done ?_
          refine Wx.go ?_
          refine Wc.no rfl ?_
          refine Wc.skip ?_
          refine Wx.go ?_
          refine Wc.seq ?_
          refine Wc.region ?_
          refine Wl.q (v := Value.pointer (some ⟨k, 0, none⟩)) (q_move rfl) ?_
          refine Wl.q (v := Value.pointer (some ⟨k, 0, none⟩)) (q_nil_ptr rfl) ?_
          refine Wl.q (v := Value.pointer (some ⟨k, 1, none⟩)) (q_field (m := 1) fo_74_1 rfl rfl) ?_
          refine Wl.q (v := Value.slice (some ⟨hb, 0, none⟩) m hc) (q_load sc_71 rfl (.cel (i := 3) rfl rfl)) ?_
          refine Wl.q (v := Value.int .i64 t.a) (q_move rfl) ?_
          refine Wl.q (v := Value.pointer (some ⟨hb, (t.a).toNat, none⟩)) (q_idx (m := (t.a).toNat) se_71 rfl rfl (by omega) (by omega) (by simp)) ?_
          by_cases hby : hN S.1 ((t.a).toNat) = true
          ·
            refine Wl.q (v := Value.bool true) (q_load sc_4 rfl (.row (i := 4) rfl (bool_yes hby))) ?_
            refine Wl.done ?_
            refine Wx.go ?_
            refine Wc.yes rfl ?_
            refine Wc.region ?_
            refine Wl.q (v := Value.pointer (some ⟨k, 0, none⟩)) (q_move rfl) ?_
            refine Wl.q (v := Value.pointer (some ⟨b1, 3, none⟩)) (q_field (m := 3) fo_28_3 rfl rfl) ?_
            refine Wl.q (v := Value.int .i64 t.b) (q_load sc_3 rfl (.cel (i := 2) rfl rfl)) ?_
            refine Wl.imp (L' := (pt k 74 [Value.pointer (some ⟨s, 0, none⟩), Value.slice (some ⟨hb, 0, none⟩) m hc, Value.slice (some ⟨ub, 0, none⟩) um uc, tv]) :: (slp 4 1 hb hc (S.1.map Value.bool)) :: (sl 3 1 tv S.2.length (S.2.map natV)) :: (pt b4 28 [Value.int .u8 ((kk.kind : Nat) : Int), Value.int .i64 kk.n, Value.int .i64 kk.a, Value.int .i64 kk.b]) :: (storeI s ts) :: (pt b1 28 [Value.int .u8 ((t.kind : Nat) : Int), Value.int .i64 t.n, Value.int .i64 t.a, Value.int .i64 t.b]) :: F) (fun _ h => st_pull [3, 3, 3] h) ?_
            refine Wl.e (e_call (F := (pt b4 28 [Value.int .u8 ((kk.kind : Nat) : Int), Value.int .i64 kk.n, Value.int .i64 kk.a, Value.int .i64 kk.b]) :: (storeI s ts) :: (pt b1 28 [Value.int .u8 ((t.kind : Nat) : Int), Value.int .i64 t.n, Value.int .i64 t.a, Value.int .i64 t.b]) :: F) (args := [Value.pointer (some ⟨k, 0, none⟩), Value.int .i64 t.b]) Try.call32 rfl (mark_c W0 k s hb hc ub uc um m (tv) S t.b hm (by omega) (by omega) (by omega))) (fun tv6 _ => ?_)
            refine Wl.imp (L' := (pt k 74 [Value.pointer (some ⟨s, 0, none⟩), Value.slice (some ⟨hb, 0, none⟩) m hc, Value.slice (some ⟨ub, 0, none⟩) um uc, tv6]) :: (slp 4 1 hb hc ((mkF S ((t.b).toNat)).1.map Value.bool)) :: (sl 3 1 tv6 ((mkF S ((t.b).toNat)).2.length) ((mkF S ((t.b).toNat)).2.map natV)) :: (pt b4 28 [Value.int .u8 ((kk.kind : Nat) : Int), Value.int .i64 kk.n, Value.int .i64 kk.a, Value.int .i64 kk.b]) :: (storeI s ts) :: (pt b1 28 [Value.int .u8 ((t.kind : Nat) : Int), Value.int .i64 t.n, Value.int .i64 t.a, Value.int .i64 t.b]) :: F) (fun _ h => h) ?_
            refine Wl.done ?_
            refine Wx.blockEnd ?_
            refine Wx.fin0 rfl (.inr rfl) (fun w hs => ?_)
            have e : opF ts S n = (mkF S ((t.b).toNat)) := by unfold opF; rw [hat]; simp only; rw [if_neg (by omega), if_pos (by omega), hbn, if_pos hby]
            exact ⟨tv6, trivial, rfl, by rw [e]; exact (st_drop (st_drop (st_pull [3, 4] hs)))⟩
          ·
            refine Wl.q (v := Value.bool false) (q_load sc_4 rfl (.row (i := 4) rfl (bool_no (by omega) hby))) ?_
            refine Wl.done ?_
            refine Wx.go ?_
            refine Wc.no rfl ?_
            refine Wc.skip ?_
            refine Wx.blockEnd ?_
            refine Wx.fin0 rfl (.inr rfl) (fun w hs => ?_)
            have e : opF ts S n = S := by unfold opF; rw [hat]; simp only; rw [if_neg (by omega), if_pos (by omega), hbn, if_neg hby]
            exact ⟨tv, trivial, rfl, by rw [e]; exact (st_pull [1, 1, 1, 0] (st_drop (st_drop (st_pull [0, 1] hs))))⟩
      ·
        refine Wo.e 10 rfl (e_alloc (vs := [Value.int .u8 0, Value.int .i64 0, Value.int .i64 0, Value.int .i64 0]) zo_28 rfl) (.inr fun _ _ _ h => st_take [1, 1, 1, 1, 1] h) (fun b7 _ => ?_)
        refine Wr.imp (L' := (pt b7 28 [Value.int .u8 0, Value.int .i64 0, Value.int .i64 0, Value.int .i64 0]) :: (pt b1 28 [Value.int .u8 ((t.kind : Nat) : Int), Value.int .i64 t.n, Value.int .i64 t.a, Value.int .i64 t.b]) :: (storeI s ts) :: (pt k 74 [Value.pointer (some ⟨s, 0, none⟩), Value.slice (some ⟨hb, 0, none⟩) m hc, Value.slice (some ⟨ub, 0, none⟩) um uc, tv]) :: (slp 4 1 hb hc (S.1.map Value.bool)) :: (sl 3 1 tv S.2.length (S.2.map natV)) :: F) (fun _ h => h) ?_
        refine Wr.more (S' := (pt b7 28 [Value.int .u8 0, Value.int .i64 0, Value.int .i64 0, Value.int .i64 0]) :: (pt b1 28 [Value.int .u8 ((t.kind : Nat) : Int), Value.int .i64 t.n, Value.int .i64 t.a, Value.int .i64 t.b]) :: (storeI s ts) :: (pt k 74 [Value.pointer (some ⟨s, 0, none⟩), Value.slice (some ⟨hb, 0, none⟩) m hc, Value.slice (some ⟨ub, 0, none⟩) um uc, tv]) :: (slp 4 1 hb hc (S.1.map Value.bool)) :: (sl 3 1 tv S.2.length (S.2.map natV)) :: []) (fun _ h => st_drop h) ?_
        refine Wr.imp (L' := (storeI s ts) :: (pt b7 28 [Value.int .u8 0, Value.int .i64 0, Value.int .i64 0, Value.int .i64 0]) :: (pt b1 28 [Value.int .u8 ((t.kind : Nat) : Int), Value.int .i64 t.n, Value.int .i64 t.a, Value.int .i64 t.b]) :: (pt k 74 [Value.pointer (some ⟨s, 0, none⟩), Value.slice (some ⟨hb, 0, none⟩) m hc, Value.slice (some ⟨ub, 0, none⟩) um uc, tv]) :: (slp 4 1 hb hc (S.1.map Value.bool)) :: (sl 3 1 tv S.2.length (S.2.map natV)) :: F) (fun _ h => st_pull [2] h) ?_
        refine Wr.e 6 (by kernel_rfl) rfl (e_call (F := (pt b7 28 [Value.int .u8 0, Value.int .i64 0, Value.int .i64 0, Value.int .i64 0]) :: (pt b1 28 [Value.int .u8 ((t.kind : Nat) : Int), Value.int .i64 t.n, Value.int .i64 t.a, Value.int .i64 t.b]) :: (pt k 74 [Value.pointer (some ⟨s, 0, none⟩), Value.slice (some ⟨hb, 0, none⟩) m hc, Value.slice (some ⟨ub, 0, none⟩) um uc, tv]) :: (slp 4 1 hb hc (S.1.map Value.bool)) :: (sl 3 1 tv S.2.length (S.2.map natV)) :: F) (args := [Value.pointer (some ⟨s, 0, none⟩), Value.int .i64 t.a]) Try.call22 rfl (get_c W0 s ts t.a hl kk (by omega) (atN_geti hkk))) (.inr fun _ _ _ h => st_take [1, 1, 0, 0, 0, 0] h) (fun _ _ => ?_)
        refine Wr.imp (L' := (storeI s ts) :: (pt b7 28 [Value.int .u8 0, Value.int .i64 0, Value.int .i64 0, Value.int .i64 0]) :: (pt b1 28 [Value.int .u8 ((t.kind : Nat) : Int), Value.int .i64 t.n, Value.int .i64 t.a, Value.int .i64 t.b]) :: (pt k 74 [Value.pointer (some ⟨s, 0, none⟩), Value.slice (some ⟨hb, 0, none⟩) m hc, Value.slice (some ⟨ub, 0, none⟩) um uc, tv]) :: (slp 4 1 hb hc (S.1.map Value.bool)) :: (sl 3 1 tv S.2.length (S.2.map natV)) :: F) (fun _ h => h) ?_
        refine Wr.pure (v := Value.tuple #[Value.agg #[Value.int .u8 ((kk.kind : Nat) : Int), Value.int .i64 kk.n, Value.int .i64 kk.a, Value.int .i64 kk.b], Value.bool true]) 7 rfl (by kernel_rfl) (.inr (fun _ h => st_take [1, 1, 0, 0, 0, 0] h)) (.inl ⟨rfl, fun _ => q_move rfl⟩) ?_
        refine Wr.pure (v := Value.agg #[Value.int .u8 ((kk.kind : Nat) : Int), Value.int .i64 kk.n, Value.int .i64 kk.a, Value.int .i64 kk.b]) 8 rfl (by kernel_rfl) (.inr (fun _ h => st_take [1, 1, 0, 0, 0, 0] h)) (.inl ⟨rfl, fun _ => q_extract (i := 0) rfl rfl⟩) ?_
        refine Wr.pure (v := Value.bool true) 9 rfl (by kernel_rfl) (.inr (fun _ h => st_take [1, 1, 0, 0, 0, 0] h)) (.inl ⟨rfl, fun _ => q_extract (i := 1) rfl rfl⟩) ?_
        refine Wr.e 11 (by kernel_rfl) rfl (e_storeAgg (i := 1) (vs := [Value.int .u8 ((kk.kind : Nat) : Int), Value.int .i64 kk.n, Value.int .i64 kk.a, Value.int .i64 kk.b]) (c' := [Value.int .u8 ((kk.kind : Nat) : Int), Value.int .i64 kk.n, Value.int .i64 kk.a, Value.int .i64 kk.b]) sz_28 rfl rfl rfl rfl (by simp) rfl) (.inl (by kernel_rfl)) (fun _ _ => ?_)
        refine Wr.imp (L' := (storeI s ts) :: (pt b7 28 [Value.int .u8 ((kk.kind : Nat) : Int), Value.int .i64 kk.n, Value.int .i64 kk.a, Value.int .i64 kk.b]) :: (pt b1 28 [Value.int .u8 ((t.kind : Nat) : Int), Value.int .i64 t.n, Value.int .i64 t.a, Value.int .i64 t.b]) :: (pt k 74 [Value.pointer (some ⟨s, 0, none⟩), Value.slice (some ⟨hb, 0, none⟩) m hc, Value.slice (some ⟨ub, 0, none⟩) um uc, tv]) :: (slp 4 1 hb hc (S.1.map Value.bool)) :: (sl 3 1 tv S.2.length (S.2.map natV)) :: F) (fun _ h => h) ?_
        refine Wr.rebaseS [] ((storeI s ts) :: (pt b7 28 [Value.int .u8 ((kk.kind : Nat) : Int), Value.int .i64 kk.n, Value.int .i64 kk.a, Value.int .i64 kk.b]) :: (pt b1 28 [Value.int .u8 ((t.kind : Nat) : Int), Value.int .i64 t.n, Value.int .i64 t.a, Value.int .i64 t.b]) :: (pt k 74 [Value.pointer (some ⟨s, 0, none⟩), Value.slice (some ⟨hb, 0, none⟩) m hc, Value.slice (some ⟨ub, 0, none⟩) um uc, tv]) :: (slp 4 1 hb hc (S.1.map Value.bool)) :: (sl 3 1 tv S.2.length (S.2.map natV)) :: []) (by kernel_rfl) ?_
        refine Wr.pure (v := Value.bool true) 12 rfl (by kernel_rfl) (.inr (fun _ h => st_take [0, 0, 0, 0, 0, 0] h)) (.inl ⟨rfl, fun _ => q_assign rfl⟩) ?_
        refine Wr.done (by kernel_rfl) ?_
        refine Wx.go ?_
        refine Wc.seq ?_
        refine Wc.region ?_
        refine Wl.q (v := Value.pointer (some ⟨b7, 0, none⟩)) (q_field (m := 0) fo_28_0 rfl rfl) ?_
        refine Wl.q (v := Value.int .u8 ((kk.kind : Nat) : Int)) (q_load sc_26 rfl (.cel (i := 1) rfl rfl)) ?_
        by_cases hk5 : ((kk.kind : Nat) : Int) = 5
        ·
          have hbn : byN ts t.a.toNat = kk.a.toNat := by unfold byN; rw [hkk]; simp only; rw [if_pos (by omega)]
          refine Wl.q (v := Value.bool true) (q_eql (r := true) rfl rfl (decide_eq_true hk5)) ?_
          refine Wl.done ?_
          refine Wx.go ?_
          refine Wc.yes rfl ?_
          refine Wc.region ?_
          refine Wl.q (v := Value.pointer (some ⟨b7, 2, none⟩)) (q_field (m := 2) fo_28_2 rfl rfl) ?_
          refine Wl.q (v := Value.int .i64 kk.a) (q_load sc_3 rfl (.cel (i := 1) rfl rfl)) ?_
          refine Wl.q (v := Value.int .i64 kk.a) (q_assign rfl) ?_
          refine Wl.done ?_
          refine Wx.go ?_
          refine Wc.seq ?_
          refine Wc.region ?_
          refine Wl.q (v := Value.pointer (some ⟨k, 0, none⟩)) (q_move rfl) ?_
          refine Wl.q (v := Value.pointer (some ⟨k, 0, none⟩)) (q_nil_ptr rfl) ?_
          refine Wl.q (v := Value.pointer (some ⟨k, 1, none⟩)) (q_field (m := 1) fo_74_1 rfl rfl) ?_
          refine Wl.q (v := Value.slice (some ⟨hb, 0, none⟩) m hc) (q_load sc_71 rfl (.cel (i := 3) rfl rfl)) ?_
          refine Wl.q (v := Value.int .i64 kk.a) (q_move rfl) ?_
          refine Wl.q (v := Value.pointer (some ⟨hb, (kk.a).toNat, none⟩)) (q_idx (m := (kk.a).toNat) se_71 rfl rfl (by omega) (by omega) (by simp)) ?_
          by_cases hby : hN S.1 ((kk.a).toNat) = true
          ·
            refine Wl.q (v := Value.bool true) (q_load sc_4 rfl (.row (i := 4) rfl (bool_yes hby))) ?_
            refine Wl.done ?_
            refine Wx.go ?_
            refine Wc.yes rfl ?_
            refine Wc.region ?_
            refine Wl.q (v := Value.pointer (some ⟨k, 0, none⟩)) (q_move rfl) ?_
            refine Wl.q (v := Value.pointer (some ⟨b1, 3, none⟩)) (q_field (m := 3) fo_28_3 rfl rfl) ?_
            refine Wl.q (v := Value.int .i64 t.b) (q_load sc_3 rfl (.cel (i := 2) rfl rfl)) ?_
            refine Wl.imp (L' := (pt k 74 [Value.pointer (some ⟨s, 0, none⟩), Value.slice (some ⟨hb, 0, none⟩) m hc, Value.slice (some ⟨ub, 0, none⟩) um uc, tv]) :: (slp 4 1 hb hc (S.1.map Value.bool)) :: (sl 3 1 tv S.2.length (S.2.map natV)) :: (storeI s ts) :: (pt b7 28 [Value.int .u8 ((kk.kind : Nat) : Int), Value.int .i64 kk.n, Value.int .i64 kk.a, Value.int .i64 kk.b]) :: (pt b1 28 [Value.int .u8 ((t.kind : Nat) : Int), Value.int .i64 t.n, Value.int .i64 t.a, Value.int .i64 t.b]) :: F) (fun _ h => st_pull [3, 3, 3] h) ?_
            refine Wl.e (e_call (F := (storeI s ts) :: (pt b7 28 [Value.int .u8 ((kk.kind : Nat) : Int), Value.int .i64 kk.n, Value.int .i64 kk.a, Value.int .i64 kk.b]) :: (pt b1 28 [Value.int .u8 ((t.kind : Nat) : Int), Value.int .i64 t.n, Value.int .i64 t.a, Value.int .i64 t.b]) :: F) (args := [Value.pointer (some ⟨k, 0, none⟩), Value.int .i64 t.b]) Try.call32 rfl (mark_c W0 k s hb hc ub uc um m (tv) S t.b hm (by omega) (by omega) (by omega))) (fun tv8 _ => ?_)
            refine Wl.imp (L' := (pt k 74 [Value.pointer (some ⟨s, 0, none⟩), Value.slice (some ⟨hb, 0, none⟩) m hc, Value.slice (some ⟨ub, 0, none⟩) um uc, tv8]) :: (slp 4 1 hb hc ((mkF S ((t.b).toNat)).1.map Value.bool)) :: (sl 3 1 tv8 ((mkF S ((t.b).toNat)).2.length) ((mkF S ((t.b).toNat)).2.map natV)) :: (storeI s ts) :: (pt b7 28 [Value.int .u8 ((kk.kind : Nat) : Int), Value.int .i64 kk.n, Value.int .i64 kk.a, Value.int .i64 kk.b]) :: (pt b1 28 [Value.int .u8 ((t.kind : Nat) : Int), Value.int .i64 t.n, Value.int .i64 t.a, Value.int .i64 t.b]) :: F) (fun _ h => h) ?_
            refine Wl.done ?_
            refine Wx.blockEnd ?_
            refine Wx.fin0 rfl (.inr rfl) (fun w hs => ?_)
            have e : opF ts S n = (mkF S ((t.b).toNat)) := by unfold opF; rw [hat]; simp only; rw [if_neg (by omega), if_pos (by omega), hbn, if_pos hby]
            exact ⟨tv8, trivial, rfl, by rw [e]; exact (st_drop (st_drop (st_pull [4, 4] hs)))⟩
          ·
            refine Wl.q (v := Value.bool false) (q_load sc_4 rfl (.row (i := 4) rfl (bool_no (by omega) hby))) ?_
            refine Wl.done ?_
            refine Wx.go ?_
            refine Wc.no rfl ?_
            refine Wc.skip ?_
            refine Wx.blockEnd ?_
            refine Wx.fin0 rfl (.inr rfl) (fun w hs => ?_)
            have e : opF ts S n = S := by unfold opF; rw [hat]; simp only; rw [if_neg (by omega), if_pos (by omega), hbn, if_neg hby]
            exact ⟨tv, trivial, rfl, by rw [e]; exact (st_pull [1, 1, 1, 0] (st_drop (st_drop (st_pull [1, 1] hs))))⟩
        ·
          have hbn : byN ts t.a.toNat = t.a.toNat := by unfold byN; rw [hkk]; simp only; rw [if_neg (by omega)]
          refine Wl.q (v := Value.bool false) (q_eql (r := false) rfl rfl (decide_eq_false hk5)) ?_
          refine Wl.done ?_
          refine Wx.go ?_
          refine Wc.no rfl ?_
          refine Wc.skip ?_
          refine Wx.go ?_
          refine Wc.seq ?_
          refine Wc.region ?_
          refine Wl.q (v := Value.pointer (some ⟨k, 0, none⟩)) (q_move rfl) ?_
          refine Wl.q (v := Value.pointer (some ⟨k, 0, none⟩)) (q_nil_ptr rfl) ?_
          refine Wl.q (v := Value.pointer (some ⟨k, 1, none⟩)) (q_field (m := 1) fo_74_1 rfl rfl) ?_
          refine Wl.q (v := Value.slice (some ⟨hb, 0, none⟩) m hc) (q_load sc_71 rfl (.cel (i := 3) rfl rfl)) ?_
          refine Wl.q (v := Value.int .i64 t.a) (q_move rfl) ?_
          refine Wl.q (v := Value.pointer (some ⟨hb, (t.a).toNat, none⟩)) (q_idx (m := (t.a).toNat) se_71 rfl rfl (by omega) (by omega) (by simp)) ?_
          by_cases hby : hN S.1 ((t.a).toNat) = true
          ·
            refine Wl.q (v := Value.bool true) (q_load sc_4 rfl (.row (i := 4) rfl (bool_yes hby))) ?_
            refine Wl.done ?_
            refine Wx.go ?_
            refine Wc.yes rfl ?_
            refine Wc.region ?_
            refine Wl.q (v := Value.pointer (some ⟨k, 0, none⟩)) (q_move rfl) ?_
            refine Wl.q (v := Value.pointer (some ⟨b1, 3, none⟩)) (q_field (m := 3) fo_28_3 rfl rfl) ?_
            refine Wl.q (v := Value.int .i64 t.b) (q_load sc_3 rfl (.cel (i := 2) rfl rfl)) ?_
            refine Wl.imp (L' := (pt k 74 [Value.pointer (some ⟨s, 0, none⟩), Value.slice (some ⟨hb, 0, none⟩) m hc, Value.slice (some ⟨ub, 0, none⟩) um uc, tv]) :: (slp 4 1 hb hc (S.1.map Value.bool)) :: (sl 3 1 tv S.2.length (S.2.map natV)) :: (storeI s ts) :: (pt b7 28 [Value.int .u8 ((kk.kind : Nat) : Int), Value.int .i64 kk.n, Value.int .i64 kk.a, Value.int .i64 kk.b]) :: (pt b1 28 [Value.int .u8 ((t.kind : Nat) : Int), Value.int .i64 t.n, Value.int .i64 t.a, Value.int .i64 t.b]) :: F) (fun _ h => st_pull [3, 3, 3] h) ?_
            refine Wl.e (e_call (F := (storeI s ts) :: (pt b7 28 [Value.int .u8 ((kk.kind : Nat) : Int), Value.int .i64 kk.n, Value.int .i64 kk.a, Value.int .i64 kk.b]) :: (pt b1 28 [Value.int .u8 ((t.kind : Nat) : Int), Value.int .i64 t.n, Value.int .i64 t.a, Value.int .i64 t.b]) :: F) (args := [Value.pointer (some ⟨k, 0, none⟩), Value.int .i64 t.b]) Try.call32 rfl (mark_c W0 k s hb hc ub uc um m (tv) S t.b hm (by omega) (by omega) (by omega))) (fun tv9 _ => ?_)
            refine Wl.imp (L' := (pt k 74 [Value.pointer (some ⟨s, 0, none⟩), Value.slice (some ⟨hb, 0, none⟩) m hc, Value.slice (some ⟨ub, 0, none⟩) um uc, tv9]) :: (slp 4 1 hb hc ((mkF S ((t.b).toNat)).1.map Value.bool)) :: (sl 3 1 tv9 ((mkF S ((t.b).toNat)).2.length) ((mkF S ((t.b).toNat)).2.map natV)) :: (storeI s ts) :: (pt b7 28 [Value.int .u8 ((kk.kind : Nat) : Int), Value.int .i64 kk.n, Value.int .i64 kk.a, Value.int .i64 kk.b]) :: (pt b1 28 [Value.int .u8 ((t.kind : Nat) : Int), Value.int .i64 t.n, Value.int .i64 t.a, Value.int .i64 t.b]) :: F) (fun _ h => h) ?_
            refine Wl.done ?_
            refine Wx.blockEnd ?_
            refine Wx.fin0 rfl (.inr rfl) (fun w hs => ?_)
            have e : opF ts S n = (mkF S ((t.b).toNat)) := by unfold opF; rw [hat]; simp only; rw [if_neg (by omega), if_pos (by omega), hbn, if_pos hby]
            exact ⟨tv9, trivial, rfl, by rw [e]; exact (st_drop (st_drop (st_pull [4, 4] hs)))⟩
          ·
            refine Wl.q (v := Value.bool false) (q_load sc_4 rfl (.row (i := 4) rfl (bool_no (by omega) hby))) ?_
            refine Wl.done ?_
            refine Wx.go ?_
            refine Wc.no rfl ?_
            refine Wc.skip ?_
            refine Wx.blockEnd ?_
            refine Wx.fin0 rfl (.inr rfl) (fun w hs => ?_)
            have e : opF ts S n = S := by unfold opF; rw [hat]; simp only; rw [if_neg (by omega), if_pos (by omega), hbn, if_neg hby]
            exact ⟨tv, trivial, rfl, by rw [e]; exact (st_pull [1, 1, 1, 0] (st_drop (st_drop (st_pull [1, 1] hs))))⟩
    ·
      refine Wl.q (v := Value.bool false) (q_eql (r := false) rfl rfl (decide_eq_false hk6)) ?_
      refine Wl.q (v := Value.bool false) (q_assign rfl) ?_
      refine Wl.done ?_
      refine Wx.go ?_
      refine Wc.no rfl ?_
      refine Wc.skip ?_
      refine Wx.blockEnd ?_
      refine Wx.fin0 rfl (.inr rfl) (fun w hs => ?_)
      have e : opF ts S n = S := by unfold opF; rw [hat]; simp only; rw [if_neg (by omega), if_neg (by omega)]
      exact ⟨tv, trivial, rfl, by rw [e]; exact (st_pull [1, 1, 1, 0] (st_drop (st_pull [0] hs)))⟩

end Go.Proofs.Ytjjghmkjdgogiaa
