/- What follows: contracts of the calls. -/
import Derived.Test.YtjjghmkjdgogiaaDdH
namespace Go.Proofs.Ytjjghmkjdgogiaa
open Go Go.SL Go.Dd Go.RowKit
set_option linter.unusedVariables false
set_option maxRecDepth 8000
theorem zo_74 : zeroOf Try.prog 74 = some (Value.agg #[Value.pointer none, Value.slice none 0 0, Value.slice none 0 0, Value.slice none 0 0]) := by kernel_rfl
theorem know_start {W0 w : World} {L : List HP} {k s hb ub : Nat} (h : st W0 w (pt k 74 [.pointer (some ⟨s, 0, none⟩), .slice (some ⟨hb, 0, none⟩) 1 1, .slice (some ⟨ub, 0, none⟩) 1 1, .slice none 0 0] :: pt hb 4 [.bool true] :: pt ub 41 [.slice none 0 0] :: L)) : st W0 w (knowI k s [true] [[]] :: L) := by
  have h1 : st W0 w (slp 4 1 hb 1 [.bool true] :: slp 41 1 ub 1 [.slice none 0 0] :: pt k 74 [.pointer (some ⟨s, 0, none⟩), .slice (some ⟨hb, 0, none⟩) 1 1, .slice (some ⟨ub, 0, none⟩) 1 1, .slice none 0 0] :: L) :=
    st_slp_pt rfl (by decide) (st_swap (st_slp_pt rfl (by decide) (st_pull [2, 1, 0] h)))
  have h2 : st W0 w (grp (inners [.slice none 0 0] [[]]) :: sl 3 1 (.slice none 0 0) 0 [] :: slp 4 1 hb 1 [.bool true] :: slp 41 1 ub 1 [.slice none 0 0] :: pt k 74 [.pointer (some ⟨s, 0, none⟩), .slice (some ⟨hb, 0, none⟩) 1 1, .slice (some ⟨ub, 0, none⟩) 1 1, .slice none 0 0] :: L) :=
    st_grp.2 (st_sl_nil (st_sl_nil h1))
  exact knowI_mk (vs := [.slice none 0 0]) rfl (st_pull [4, 2, 1, 1, 0] h2)

theorem app_at {l : List Int} {ms : List Value} {i : Nat} {o : Int} (h : l[i]? = some o) : (l.map intV ++ ms)[i]? = some (.int .i64 o) := by
  have hl := (List.getElem?_eq_some_iff.1 h).1
  rw [List.getElem?_append_left (by rw [List.length_map]; exact hl)]
  exact map_at h

theorem new_long_ro (W0 : World) (s : Nat) (ts : List TermR) (hw : Wf ts) (hl : ts.length ≤ 1048576) (vl : Value) (l : List Int) (hkl : Rd W0 vl l.length (l.flatMap int1)) (hkm : l.length ≤ 9223372036854775807) (hlong : 65536 < l.length) :
    Con Try.prog W0 14 #[Value.pointer (some ⟨s, 0, none⟩), vl] [storeI s ts] (X := Unit) (fun _ => True) (fun _ => .tuple #[.pointer none, .int .i64 3]) (fun _ => [storeI s ts]) := by
  refine Con.of (args := [Value.pointer (some ⟨s, 0, none⟩), vl]) Try.func14 rfl Try.ntmps14 rfl (fun F => ?_)
  show Wc _ W0 _ _ _ _ _ ((storeI s ts) :: F)
  refine Wc.seq ?_
  refine Wc.region ?_
  refine Wl.q (v := Value.pointer none) (q_assign rfl) ?_
  refine Wl.q (v := Value.int .i64 0) (q_assign rfl) ?_
  refine Wl.done ?_
  refine Wx.go ?_
  refine Wc.seq ?_
  refine Wc.seq ?_
  refine Wc.region ?_
  refine Wl.q (v := Value.pointer (some ⟨s, 0, none⟩)) (q_move rfl) ?_
  refine Wl.q (v := Value.bool false) (q_eql_nil (r := false) rfl rfl Try.underlying22 rfl) ?_
  refine Wl.q (v := Value.bool false) (q_move rfl) ?_
  refine Wl.q (v := Value.pointer (some ⟨s, 0, none⟩)) (q_move rfl) ?_
  refine Wl.e (e_call (F := F) (args := [Value.pointer (some ⟨s, 0, none⟩)]) Try.call28 rfl (len_c W0 s ts)) (fun _ _ => ?_)
  refine Wl.imp (L' := (storeI s ts) :: F) (fun _ h => h) ?_
  by_cases h1 : ((ts.length : Nat) : Int) = 0
  ·
    refine Wl.q (v := Value.bool true) (q_eql (r := true) rfl rfl (decide_eq_true h1)) ?_
    refine Wl.q (v := Value.bool true) (q_move rfl) ?_
    refine Wl.q (v := Value.pointer (some ⟨s, 0, none⟩)) (q_move rfl) ?_
    refine Wl.e (e_call (F := F) (args := [Value.pointer (some ⟨s, 0, none⟩)]) Try.call30 rfl (dalive_c W0 s ts)) (fun _ _ => ?_)
    refine Wl.imp (L' := (storeI s ts) :: F) (fun _ h => h) ?_
    refine Wl.q (v := Value.bool false) (q_not rfl rfl) ?_
    refine Wl.q (v := Value.bool false) (q_pick (t := true) rfl rfl) ?_
    refine Wl.q (v := Value.bool false) (q_pick (t := false) rfl rfl) ?_
    refine Wl.done ?_
    refine Wx.go ?_
    refine Wc.no rfl ?_
    refine Wc.skip ?_
    refine Wx.go ?_
    refine Wc.seq ?_
    refine Wc.seq ?_
    refine Wc.region ?_
    refine Wl.q (v := vl) (q_move rfl) ?_
    refine Wl.q (v := Value.int .i64 ((l.length : Nat) : Int)) (q_len_is Try.underlying41 rfl hkl.shape) ?_
    refine Wl.q (v := Value.bool true) (q_gtr (r := true) rfl rfl (decide_eq_true (by omega))) ?_
    refine Wl.done ?_
    refine Wx.go ?_
    refine Wc.yes rfl ?_
    refine Wc.seq ?_
    refine Wc.region ?_
    refine Wl.q (v := Value.pointer none) (q_assign rfl) ?_
    refine Wl.q (v := Value.int .i64 3) (q_assign rfl) ?_
    refine Wl.done ?_
    refine Wx.go ?_
    refine Wc.ret ?_
    refine Wx.thenRet ?_
    refine Wx.fin2 rfl (.inl rfl) (fun w hs => ?_)
    exact ⟨(), trivial, rfl, hs⟩
  ·
    refine Wl.q (v := Value.bool false) (q_eql (r := false) rfl rfl (decide_eq_false h1)) ?_
    refine Wl.q (v := Value.bool false) (q_move rfl) ?_
    refine Wl.no ?_
    refine Wl.no ?_
    refine Wl.no ?_
    refine Wl.q (v := Value.bool false) (q_pick (t := false) rfl rfl) ?_
    refine Wl.q (v := Value.bool false) (q_pick (t := false) rfl rfl) ?_
    refine Wl.done ?_
    refine Wx.go ?_
    refine Wc.no rfl ?_
    refine Wc.skip ?_
    refine Wx.go ?_
    refine Wc.seq ?_
    refine Wc.seq ?_
    refine Wc.region ?_
    refine Wl.q (v := vl) (q_move rfl) ?_
    refine Wl.q (v := Value.int .i64 ((l.length : Nat) : Int)) (q_len_is Try.underlying41 rfl hkl.shape) ?_
    refine Wl.q (v := Value.bool true) (q_gtr (r := true) rfl rfl (decide_eq_true (by omega))) ?_
    refine Wl.done ?_
    refine Wx.go ?_
    refine Wc.yes rfl ?_
    refine Wc.seq ?_
    refine Wc.region ?_
    refine Wl.q (v := Value.pointer none) (q_assign rfl) ?_
    refine Wl.q (v := Value.int .i64 3) (q_assign rfl) ?_
    refine Wl.done ?_
    refine Wx.go ?_
    refine Wc.ret ?_
    refine Wx.thenRet ?_
    refine Wx.fin2 rfl (.inl rfl) (fun w hs => ?_)
    exact ⟨(), trivial, rfl, hs⟩

theorem take_all {l : List Int} {i m : Nat} {o : Int} (h : l[i]? = some o) (hall : ∀ x ∈ l.take i, 1 ≤ x ∧ x ≤ (m : Int)) (ho : 1 ≤ o ∧ o ≤ (m : Int)) : ∀ x ∈ l.take (i + 1), 1 ≤ x ∧ x ≤ (m : Int) := fun x hx => by
  obtain ⟨hl, he⟩ := List.getElem?_eq_some_iff.1 h
  rw [List.take_succ_eq_append_getElem hl, List.mem_append, List.mem_singleton, he] at hx
  rcases hx with hx | rfl
  · exact hall x hx
  · exact ho

theorem new_bad_ro (W0 : World) (s : Nat) (ts : List TermR) (hw : Wf ts) (hl : ts.length ≤ 1048576) (vl : Value) (l : List Int) (hkl : Rd W0 vl l.length (l.flatMap int1)) (hkm : l.length ≤ 9223372036854775807) (hshort : l.length ≤ 65536) (hbad : ∃ x ∈ l, ¬ (1 ≤ x ∧ x ≤ (ts.length : Int))) :
    Con Try.prog W0 14 #[Value.pointer (some ⟨s, 0, none⟩), vl] [storeI s ts] (X := Unit) (fun _ => True) (fun _ => .tuple #[.pointer none, .int .i64 1]) (fun _ => [storeI s ts]) := by
  refine Con.of (args := [Value.pointer (some ⟨s, 0, none⟩), vl]) Try.func14 rfl Try.ntmps14 rfl (fun F => ?_)
  show Wc _ W0 _ _ _ _ _ ((storeI s ts) :: F)
  refine Wc.seq ?_
  refine Wc.region ?_
  refine Wl.q (v := Value.pointer none) (q_assign rfl) ?_
  refine Wl.q (v := Value.int .i64 0) (q_assign rfl) ?_
  refine Wl.done ?_
  refine Wx.go ?_
  refine Wc.seq ?_
  refine Wc.seq ?_
  refine Wc.region ?_
  refine Wl.q (v := Value.pointer (some ⟨s, 0, none⟩)) (q_move rfl) ?_
  refine Wl.q (v := Value.bool false) (q_eql_nil (r := false) rfl rfl Try.underlying22 rfl) ?_
  refine Wl.q (v := Value.bool false) (q_move rfl) ?_
  refine Wl.q (v := Value.pointer (some ⟨s, 0, none⟩)) (q_move rfl) ?_
  refine Wl.e (e_call (F := F) (args := [Value.pointer (some ⟨s, 0, none⟩)]) Try.call28 rfl (len_c W0 s ts)) (fun _ _ => ?_)
  refine Wl.imp (L' := (storeI s ts) :: F) (fun _ h => h) ?_
  by_cases h1 : ((ts.length : Nat) : Int) = 0
  ·
    refine Wl.q (v := Value.bool true) (q_eql (r := true) rfl rfl (decide_eq_true h1)) ?_
    refine Wl.q (v := Value.bool true) (q_move rfl) ?_
    refine Wl.q (v := Value.pointer (some ⟨s, 0, none⟩)) (q_move rfl) ?_
    refine Wl.e (e_call (F := F) (args := [Value.pointer (some ⟨s, 0, none⟩)]) Try.call30 rfl (dalive_c W0 s ts)) (fun _ _ => ?_)
    refine Wl.imp (L' := (storeI s ts) :: F) (fun _ h => h) ?_
    refine Wl.q (v := Value.bool false) (q_not rfl rfl) ?_
    refine Wl.q (v := Value.bool false) (q_pick (t := true) rfl rfl) ?_
    refine Wl.q (v := Value.bool false) (q_pick (t := false) rfl rfl) ?_
    refine Wl.done ?_
    refine Wx.go ?_
    refine Wc.no rfl ?_
    refine Wc.skip ?_
    refine Wx.go ?_
    refine Wc.seq ?_
    refine Wc.seq ?_
    refine Wc.region ?_
    refine Wl.q (v := vl) (q_move rfl) ?_
    refine Wl.q (v := Value.int .i64 ((l.length : Nat) : Int)) (q_len_is Try.underlying41 rfl hkl.shape) ?_
    refine Wl.q (v := Value.bool false) (q_gtr (r := false) rfl rfl (decide_eq_false (by omega))) ?_
    refine Wl.done ?_
    refine Wx.go ?_
    refine Wc.no rfl ?_
    refine Wc.skip ?_
    refine Wx.go ?_
    refine Wc.seq ?_
    refine Wc.seq ?_
    refine Wc.region ?_
    refine Wl.q (v := vl) (q_move rfl) ?_
    refine Wl.q (v := Value.int .i64 ((l.length : Nat) : Int)) (q_len_is Try.underlying41 rfl hkl.shape) ?_
    refine Wl.q (v := Value.int .i64 0) (q_move rfl) ?_
    refine Wl.done ?_
    refine Wx.go ?_
    refine Wc.block ?_
    refine Wc.loop (X := Nat) (fun i E => E 28 = Value.int .i64 ((i : Nat) : Int) ∧ E 0 = Value.pointer (some ⟨s, 0, none⟩) ∧ E 1 = vl ∧ E 26 = vl ∧ E 27 = Value.int .i64 ((l.length : Nat) : Int) ∧ i ≤ l.length ∧ (∀ x ∈ l.take i, 1 ≤ x ∧ x ≤ (ts.length : Int))) (fun i => (storeI s ts) :: F) (fun i => l.length - i) 0 ?_ ?_ ?_
    · exact ⟨rfl, rfl, rfl, rfl, rfl, (by omega), (fun x hx => by simp at hx)⟩
    · exact fun w hs => hs
    · rintro i E3 ⟨hE28_1, hE0_1, hE1_1, hE26_1, hE27_1, hi, hall⟩
      refine Wc.seq ?_
      refine Wc.region ?_
      by_cases hlt : ((i : Nat) : Int) < ((l.length : Nat) : Int)
      ·
        obtain ⟨o, hget⟩ : ∃ o, l[i]? = some o := ⟨l[i]'(by omega), List.getElem?_eq_getElem (by omega)⟩
        refine Wl.q (v := Value.bool true) (q_lss (r := true) hE28_1 hE27_1 (decide_eq_true hlt)) ?_
        refine Wl.done ?_
        refine Wx.go ?_
        refine Wc.seq ?_
        refine Wc.yes rfl ?_
        refine Wc.skip ?_
        refine Wx.go ?_
        refine Wc.seq ?_
        refine Wc.block ?_
        refine Wc.seq ?_
        refine Wc.region ?_
        refine Wl.q (v := Value.pointer (some ⟨(rb vl), ro vl + i, none⟩)) (q_idx_is (m := ro vl + i) se_41 hE26_1 (hkl.some_ (by omega)) hE28_1 (by omega) (by omega) (by simp)) ?_
        refine Wl.q (v := Value.int .i64 o) (q_load sc_3 rfl (.old (rd1 hkl hget))) ?_
        refine Wl.q (v := Value.int .i64 o) (q_assign rfl) ?_
        refine Wl.done ?_
        refine Wx.go ?_
        refine Wc.seq ?_
        refine Wc.region ?_
        refine Wl.q (v := Value.int .i64 o) (q_move rfl) ?_
        by_cases hx1 : o < 1
        ·
          refine Wl.q (v := Value.bool true) (q_lss (r := true) rfl rfl (decide_eq_true hx1)) ?_
          refine Wl.q (v := Value.bool true) (q_move rfl) ?_
          refine Wl.no ?_
          refine Wl.no ?_
          refine Wl.no ?_
          refine Wl.no ?_
          refine Wl.q (v := Value.bool true) (q_pick (t := true) rfl rfl) ?_
          refine Wl.done ?_
          refine Wx.go ?_
          refine Wc.yes rfl ?_
          refine Wc.seq ?_
          refine Wc.region ?_
          refine Wl.q (v := Value.pointer none) (q_assign rfl) ?_
          refine Wl.q (v := Value.int .i64 1) (q_assign rfl) ?_
          refine Wl.done ?_
          refine Wx.go ?_
          refine Wc.ret ?_
          refine Wx.blockRet ?_
          refine Wx.thenRet ?_
          refine Wx.thenRet ?_
          refine Wx.blockRet ?_
          refine Wx.thenRet ?_
          refine Wx.fin2 rfl (.inl rfl) (fun w hs => ?_)
          exact ⟨(), trivial, rfl, hs⟩
        ·
          refine Wl.q (v := Value.bool false) (q_lss (r := false) rfl rfl (decide_eq_false hx1)) ?_
          refine Wl.q (v := Value.bool false) (q_move rfl) ?_
          refine Wl.q (v := Value.int .i64 o) (q_move rfl) ?_
          refine Wl.q (v := Value.pointer (some ⟨s, 0, none⟩)) (q_move hE0_1) ?_
          refine Wl.e (e_call (F := F) (args := [Value.pointer (some ⟨s, 0, none⟩)]) Try.call28 rfl (len_c W0 s ts)) (fun _ _ => ?_)
          refine Wl.imp (L' := (storeI s ts) :: F) (fun _ h => h) ?_
          by_cases hx2 : o > ((ts.length : Nat) : Int)
          ·
            refine Wl.q (v := Value.bool true) (q_gtr (r := true) rfl rfl (decide_eq_true hx2)) ?_
            refine Wl.q (v := Value.bool true) (q_pick (t := false) rfl rfl) ?_
            refine Wl.done ?_
            refine Wx.go ?_
            refine Wc.yes rfl ?_
            refine Wc.seq ?_
            refine Wc.region ?_
            refine Wl.q (v := Value.pointer none) (q_assign rfl) ?_
            refine Wl.q (v := Value.int .i64 1) (q_assign rfl) ?_
            refine Wl.done ?_
            refine Wx.go ?_
            refine Wc.ret ?_
            refine Wx.blockRet ?_
            refine Wx.thenRet ?_
            refine Wx.thenRet ?_
            refine Wx.blockRet ?_
            refine Wx.thenRet ?_
            refine Wx.fin2 rfl (.inl rfl) (fun w hs => ?_)
            exact ⟨(), trivial, rfl, hs⟩
          ·
            refine Wl.q (v := Value.bool false) (q_gtr (r := false) rfl rfl (decide_eq_false hx2)) ?_
            refine Wl.q (v := Value.bool false) (q_pick (t := false) rfl rfl) ?_
            refine Wl.done ?_
            refine Wx.go ?_
            refine Wc.no rfl ?_
            refine Wc.skip ?_
            refine Wx.blockEnd ?_
            refine Wx.go ?_
            refine Wc.region ?_
            refine Wl.q (v := Value.int .i64 ((i + 1 : Nat) : Int)) (q_add (c := ((i + 1 : Nat) : Int)) hE28_1 rfl (by rw [wrap_i64] <;> omega)) ?_
            refine Wl.q (v := Value.int .i64 ((i + 1 : Nat) : Int)) (q_move rfl) ?_
            refine Wl.done ?_
            refine Wx.at (i + 1) ⟨(by omega), rfl, hE0_1, hE1_1, hE26_1, hE27_1, (by omega), (take_all hget hall ⟨by omega, by omega⟩)⟩ (fun w hs => hs)
      ·
        exfalso
        obtain ⟨z, hz, hzn⟩ := hbad
        rw [show i = l.length by omega, List.take_length] at hall
        exact hzn (hall z hz)
  ·
    refine Wl.q (v := Value.bool false) (q_eql (r := false) rfl rfl (decide_eq_false h1)) ?_
    refine Wl.q (v := Value.bool false) (q_move rfl) ?_
    refine Wl.no ?_
    refine Wl.no ?_
    refine Wl.no ?_
    refine Wl.q (v := Value.bool false) (q_pick (t := false) rfl rfl) ?_
    refine Wl.q (v := Value.bool false) (q_pick (t := false) rfl rfl) ?_
    refine Wl.done ?_
    refine Wx.go ?_
    refine Wc.no rfl ?_
    refine Wc.skip ?_
    refine Wx.go ?_
    refine Wc.seq ?_
    refine Wc.seq ?_
    refine Wc.region ?_
    refine Wl.q (v := vl) (q_move rfl) ?_
    refine Wl.q (v := Value.int .i64 ((l.length : Nat) : Int)) (q_len_is Try.underlying41 rfl hkl.shape) ?_
    refine Wl.q (v := Value.bool false) (q_gtr (r := false) rfl rfl (decide_eq_false (by omega))) ?_
    refine Wl.done ?_
    refine Wx.go ?_
    refine Wc.no rfl ?_
    refine Wc.skip ?_
    refine Wx.go ?_
    refine Wc.seq ?_
    refine Wc.seq ?_
    refine Wc.region ?_
    refine Wl.q (v := vl) (q_move rfl) ?_
    refine Wl.q (v := Value.int .i64 ((l.length : Nat) : Int)) (q_len_is Try.underlying41 rfl hkl.shape) ?_
    refine Wl.q (v := Value.int .i64 0) (q_move rfl) ?_
    refine Wl.done ?_
    refine Wx.go ?_
    refine Wc.block ?_
    refine Wc.loop (X := Nat) (fun i E => E 28 = Value.int .i64 ((i : Nat) : Int) ∧ E 0 = Value.pointer (some ⟨s, 0, none⟩) ∧ E 1 = vl ∧ E 26 = vl ∧ E 27 = Value.int .i64 ((l.length : Nat) : Int) ∧ i ≤ l.length ∧ (∀ x ∈ l.take i, 1 ≤ x ∧ x ≤ (ts.length : Int))) (fun i => (storeI s ts) :: F) (fun i => l.length - i) 0 ?_ ?_ ?_
    · exact ⟨rfl, rfl, rfl, rfl, rfl, (by omega), (fun x hx => by simp at hx)⟩
    · exact fun w hs => hs
    · rintro i E5 ⟨hE28_3, hE0_3, hE1_3, hE26_3, hE27_3, hi, hall⟩
      refine Wc.seq ?_
      refine Wc.region ?_
      by_cases hlt : ((i : Nat) : Int) < ((l.length : Nat) : Int)
      ·
        obtain ⟨o, hget⟩ : ∃ o, l[i]? = some o := ⟨l[i]'(by omega), List.getElem?_eq_getElem (by omega)⟩
        refine Wl.q (v := Value.bool true) (q_lss (r := true) hE28_3 hE27_3 (decide_eq_true hlt)) ?_
        refine Wl.done ?_
        refine Wx.go ?_
        refine Wc.seq ?_
        refine Wc.yes rfl ?_
        refine Wc.skip ?_
        refine Wx.go ?_
        refine Wc.seq ?_
        refine Wc.block ?_
        refine Wc.seq ?_
        refine Wc.region ?_
        refine Wl.q (v := Value.pointer (some ⟨(rb vl), ro vl + i, none⟩)) (q_idx_is (m := ro vl + i) se_41 hE26_3 (hkl.some_ (by omega)) hE28_3 (by omega) (by omega) (by simp)) ?_
        refine Wl.q (v := Value.int .i64 o) (q_load sc_3 rfl (.old (rd1 hkl hget))) ?_
        refine Wl.q (v := Value.int .i64 o) (q_assign rfl) ?_
        refine Wl.done ?_
        refine Wx.go ?_
        refine Wc.seq ?_
        refine Wc.region ?_
        refine Wl.q (v := Value.int .i64 o) (q_move rfl) ?_
        by_cases hx1 : o < 1
        ·
          refine Wl.q (v := Value.bool true) (q_lss (r := true) rfl rfl (decide_eq_true hx1)) ?_
          refine Wl.q (v := Value.bool true) (q_move rfl) ?_
          refine Wl.no ?_
          refine Wl.no ?_
          refine Wl.no ?_
          refine Wl.no ?_
          refine Wl.q (v := Value.bool true) (q_pick (t := true) rfl rfl) ?_
          refine Wl.done ?_
          refine Wx.go ?_
          refine Wc.yes rfl ?_
          refine Wc.seq ?_
          refine Wc.region ?_
          refine Wl.q (v := Value.pointer none) (q_assign rfl) ?_
          refine Wl.q (v := Value.int .i64 1) (q_assign rfl) ?_
          refine Wl.done ?_
          refine Wx.go ?_
          refine Wc.ret ?_
          refine Wx.blockRet ?_
          refine Wx.thenRet ?_
          refine Wx.thenRet ?_
          refine Wx.blockRet ?_
          refine Wx.thenRet ?_
          refine Wx.fin2 rfl (.inl rfl) (fun w hs => ?_)
          exact ⟨(), trivial, rfl, hs⟩
        ·
          refine Wl.q (v := Value.bool false) (q_lss (r := false) rfl rfl (decide_eq_false hx1)) ?_
          refine Wl.q (v := Value.bool false) (q_move rfl) ?_
          refine Wl.q (v := Value.int .i64 o) (q_move rfl) ?_
          refine Wl.q (v := Value.pointer (some ⟨s, 0, none⟩)) (q_move hE0_3) ?_
          refine Wl.e (e_call (F := F) (args := [Value.pointer (some ⟨s, 0, none⟩)]) Try.call28 rfl (len_c W0 s ts)) (fun _ _ => ?_)
          refine Wl.imp (L' := (storeI s ts) :: F) (fun _ h => h) ?_
          by_cases hx2 : o > ((ts.length : Nat) : Int)
          ·
            refine Wl.q (v := Value.bool true) (q_gtr (r := true) rfl rfl (decide_eq_true hx2)) ?_
            refine Wl.q (v := Value.bool true) (q_pick (t := false) rfl rfl) ?_
            refine Wl.done ?_
            refine Wx.go ?_
            refine Wc.yes rfl ?_
            refine Wc.seq ?_
            refine Wc.region ?_
            refine Wl.q (v := Value.pointer none) (q_assign rfl) ?_
            refine Wl.q (v := Value.int .i64 1) (q_assign rfl) ?_
            refine Wl.done ?_
            refine Wx.go ?_
            refine Wc.ret ?_
            refine Wx.blockRet ?_
            refine Wx.thenRet ?_
            refine Wx.thenRet ?_
            refine Wx.blockRet ?_
            refine Wx.thenRet ?_
            refine Wx.fin2 rfl (.inl rfl) (fun w hs => ?_)
            exact ⟨(), trivial, rfl, hs⟩
          ·
            refine Wl.q (v := Value.bool false) (q_gtr (r := false) rfl rfl (decide_eq_false hx2)) ?_
            refine Wl.q (v := Value.bool false) (q_pick (t := false) rfl rfl) ?_
            refine Wl.done ?_
            refine Wx.go ?_
            refine Wc.no rfl ?_
            refine Wc.skip ?_
            refine Wx.blockEnd ?_
            refine Wx.go ?_
            refine Wc.region ?_
            refine Wl.q (v := Value.int .i64 ((i + 1 : Nat) : Int)) (q_add (c := ((i + 1 : Nat) : Int)) hE28_3 rfl (by rw [wrap_i64] <;> omega)) ?_
            refine Wl.q (v := Value.int .i64 ((i + 1 : Nat) : Int)) (q_move rfl) ?_
            refine Wl.done ?_
            refine Wx.at (i + 1) ⟨(by omega), rfl, hE0_3, hE1_3, hE26_3, hE27_3, (by omega), (take_all hget hall ⟨by omega, by omega⟩)⟩ (fun w hs => hs)
      ·
        exfalso
        obtain ⟨z, hz, hzn⟩ := hbad
        rw [show i = l.length by omega, List.take_length] at hall
        exact hzn (hall z hz)

theorem mark_all {l : List Int} {i : Nat} {o : Int} {Z Z' : Sd} (h : l[i]? = some o) (hall : ∀ x ∈ l.take i, hN Z.1 x.toNat = true) (ho : hN Z'.1 o.toNat = true) (hu : ∀ n, hN Z.1 n = true → hN Z'.1 n = true) : ∀ x ∈ l.take (i + 1), hN Z'.1 x.toNat = true := fun x hx => by
  obtain ⟨hl, he⟩ := List.getElem?_eq_some_iff.1 h
  rw [List.take_succ_eq_append_getElem hl, List.mem_append, List.mem_singleton, he] at hx
  rcases hx with hx | rfl
  · exact hu _ (hall x hx)
  · exact ho

set_option maxRecDepth 4000 in
theorem new_ok_ro (W0 : World) (s : Nat) (ts : List TermR) (hw : Wf ts) (hl : ts.length ≤ 1048576) (vl : Value) (l : List Int) (hkl : Rd W0 vl l.length (l.flatMap int1)) (hkm : l.length ≤ 9223372036854775807) (hshort : l.length ≤ 65536) (hall0 : ∀ x ∈ l, 1 ≤ x ∧ x ≤ (ts.length : Int)) :
    Con Try.prog W0 14 #[Value.pointer (some ⟨s, 0, none⟩), vl] [storeI s ts] (X := Nat) (fun _ => True) (fun k => .tuple #[.pointer (some ⟨k, 0, none⟩), .int .i64 0]) (fun k => [knowK k s ts (KL l), storeI s ts]) := by
  refine Con.of (args := [Value.pointer (some ⟨s, 0, none⟩), vl]) Try.func14 rfl Try.ntmps14 rfl (fun F => ?_)
  show Wc _ W0 _ _ _ _ _ ((storeI s ts) :: F)
  refine Wc.seq ?_
  refine Wc.region ?_
  refine Wl.q (v := Value.pointer none) (q_assign rfl) ?_
  refine Wl.q (v := Value.int .i64 0) (q_assign rfl) ?_
  refine Wl.done ?_
  refine Wx.go ?_
  refine Wc.seq ?_
  refine Wc.seq ?_
  refine Wc.region ?_
  refine Wl.q (v := Value.pointer (some ⟨s, 0, none⟩)) (q_move rfl) ?_
  refine Wl.q (v := Value.bool false) (q_eql_nil (r := false) rfl rfl Try.underlying22 rfl) ?_
  refine Wl.q (v := Value.bool false) (q_move rfl) ?_
  refine Wl.q (v := Value.pointer (some ⟨s, 0, none⟩)) (q_move rfl) ?_
  refine Wl.e (e_call (F := F) (args := [Value.pointer (some ⟨s, 0, none⟩)]) Try.call28 rfl (len_c W0 s ts)) (fun _ _ => ?_)
  refine Wl.imp (L' := (storeI s ts) :: F) (fun _ h => h) ?_
  by_cases h1 : ((ts.length : Nat) : Int) = 0
  ·
    refine Wl.q (v := Value.bool true) (q_eql (r := true) rfl rfl (decide_eq_true h1)) ?_
    refine Wl.q (v := Value.bool true) (q_move rfl) ?_
    refine Wl.q (v := Value.pointer (some ⟨s, 0, none⟩)) (q_move rfl) ?_
    refine Wl.e (e_call (F := F) (args := [Value.pointer (some ⟨s, 0, none⟩)]) Try.call30 rfl (dalive_c W0 s ts)) (fun _ _ => ?_)
    refine Wl.imp (L' := (storeI s ts) :: F) (fun _ h => h) ?_
    refine Wl.q (v := Value.bool false) (q_not rfl rfl) ?_
    refine Wl.q (v := Value.bool false) (q_pick (t := true) rfl rfl) ?_
    refine Wl.q (v := Value.bool false) (q_pick (t := false) rfl rfl) ?_
    refine Wl.done ?_
    refine Wx.go ?_
    refine Wc.no rfl ?_
    refine Wc.skip ?_
    refine Wx.go ?_
    refine Wc.seq ?_
    refine Wc.seq ?_
    refine Wc.region ?_
    refine Wl.q (v := vl) (q_move rfl) ?_
    refine Wl.q (v := Value.int .i64 ((l.length : Nat) : Int)) (q_len_is Try.underlying41 rfl hkl.shape) ?_
    refine Wl.q (v := Value.bool false) (q_gtr (r := false) rfl rfl (decide_eq_false (by omega))) ?_
    refine Wl.done ?_
    refine Wx.go ?_
    refine Wc.no rfl ?_
    refine Wc.skip ?_
    refine Wx.go ?_
    refine Wc.seq ?_
    refine Wc.seq ?_
    refine Wc.region ?_
    refine Wl.q (v := vl) (q_move rfl) ?_
    refine Wl.q (v := Value.int .i64 ((l.length : Nat) : Int)) (q_len_is Try.underlying41 rfl hkl.shape) ?_
    refine Wl.q (v := Value.int .i64 0) (q_move rfl) ?_
    refine Wl.done ?_
    refine Wx.go ?_
    refine Wc.block ?_
    refine Wc.loop (X := Nat) (fun i E => E 28 = Value.int .i64 ((i : Nat) : Int) ∧ E 0 = Value.pointer (some ⟨s, 0, none⟩) ∧ E 1 = vl ∧ E 26 = vl ∧ E 27 = Value.int .i64 ((l.length : Nat) : Int) ∧ i ≤ l.length ∧ (∀ x ∈ l.take i, 1 ≤ x ∧ x ≤ (ts.length : Int))) (fun i => (storeI s ts) :: F) (fun i => l.length - i) 0 ?_ ?_ ?_
    · exact ⟨rfl, rfl, rfl, rfl, rfl, (by omega), (fun x hx => by simp at hx)⟩
    · exact fun w hs => hs
    · rintro i E3 ⟨hE28_1, hE0_1, hE1_1, hE26_1, hE27_1, hi, hall⟩
      refine Wc.seq ?_
      refine Wc.region ?_
      by_cases hlt : ((i : Nat) : Int) < ((l.length : Nat) : Int)
      ·
        obtain ⟨o, hget⟩ : ∃ o, l[i]? = some o := ⟨l[i]'(by omega), List.getElem?_eq_getElem (by omega)⟩
        have hr := hall0 o (List.mem_of_getElem? hget)
        refine Wl.q (v := Value.bool true) (q_lss (r := true) hE28_1 hE27_1 (decide_eq_true hlt)) ?_
        refine Wl.done ?_
        refine Wx.go ?_
        refine Wc.seq ?_
        refine Wc.yes rfl ?_
        refine Wc.skip ?_
        refine Wx.go ?_
        refine Wc.seq ?_
        refine Wc.block ?_
        refine Wc.seq ?_
        refine Wc.region ?_
        refine Wl.q (v := Value.pointer (some ⟨(rb vl), ro vl + i, none⟩)) (q_idx_is (m := ro vl + i) se_41 hE26_1 (hkl.some_ (by omega)) hE28_1 (by omega) (by omega) (by simp)) ?_
        refine Wl.q (v := Value.int .i64 o) (q_load sc_3 rfl (.old (rd1 hkl hget))) ?_
        refine Wl.q (v := Value.int .i64 o) (q_assign rfl) ?_
        refine Wl.done ?_
        refine Wx.go ?_
        refine Wc.seq ?_
        refine Wc.region ?_
        refine Wl.q (v := Value.int .i64 o) (q_move rfl) ?_
        refine Wl.q (v := Value.bool false) (q_lss (r := false) rfl rfl (decide_eq_false (by omega))) ?_
        refine Wl.q (v := Value.bool false) (q_move rfl) ?_
        refine Wl.q (v := Value.int .i64 o) (q_move rfl) ?_
        refine Wl.q (v := Value.pointer (some ⟨s, 0, none⟩)) (q_move hE0_1) ?_
        refine Wl.e (e_call (F := F) (args := [Value.pointer (some ⟨s, 0, none⟩)]) Try.call28 rfl (len_c W0 s ts)) (fun _ _ => ?_)
        refine Wl.imp (L' := (storeI s ts) :: F) (fun _ h => h) ?_
        refine Wl.q (v := Value.bool false) (q_gtr (r := false) rfl rfl (decide_eq_false (by omega))) ?_
        refine Wl.q (v := Value.bool false) (q_pick (t := false) rfl rfl) ?_
        refine Wl.done ?_
        refine Wx.go ?_
        refine Wc.no rfl ?_
        refine Wc.skip ?_
        refine Wx.blockEnd ?_
        refine Wx.go ?_
        refine Wc.region ?_
        refine Wl.q (v := Value.int .i64 ((i + 1 : Nat) : Int)) (q_add (c := ((i + 1 : Nat) : Int)) hE28_1 rfl (by rw [wrap_i64] <;> omega)) ?_
        refine Wl.q (v := Value.int .i64 ((i + 1 : Nat) : Int)) (q_move rfl) ?_
        refine Wl.done ?_
        refine Wx.at (i + 1) ⟨(by omega), rfl, hE0_1, hE1_1, hE26_1, hE27_1, (by omega), (take_all hget hall ⟨by omega, by omega⟩)⟩ (fun w hs => hs)
      ·
        refine Wl.q (v := Value.bool false) (q_lss (r := false) hE28_1 hE27_1 (decide_eq_false hlt)) ?_
        refine Wl.done ?_
        refine Wx.go ?_
        refine Wc.seq ?_
        refine Wc.no rfl ?_
        refine Wc.exit ?_
        refine Wx.thenExit ?_
        refine Wx.thenExit ?_
        refine Wx.out ?_
        refine Wx.go ?_
        refine Wc.seq ?_
        refine Wc.region ?_
        refine Wl.q (v := Value.pointer (some ⟨s, 0, none⟩)) (q_move hE0_1) ?_
        refine Wl.e (e_buildSlice (cs := [Value.bool true]) se_71 zo_4 (by decide) (by decide) (by kernel_rfl)) (fun hb0 _ => ?_)
        refine Wl.imp (L' := (pt hb0 4 [Value.bool true]) :: (storeI s ts) :: F) (fun _ h => h) ?_
        refine Wl.e (e_buildSlice (cs := [Value.slice none 0 0]) se_72 zo_41 (by decide) (by decide) (by kernel_rfl)) (fun ub0 _ => ?_)
        refine Wl.imp (L' := (pt ub0 41 [Value.slice none 0 0]) :: (pt hb0 4 [Value.bool true]) :: (storeI s ts) :: F) (fun _ h => h) ?_
        refine Wl.q (v := Value.agg #[Value.pointer (some ⟨s, 0, none⟩), Value.slice (some ⟨hb0, 0, none⟩) 1 1, Value.slice (some ⟨ub0, 0, none⟩) 1 1, Value.slice none 0 0]) (q_build (pl := [(0, 1), (1, 1), (2, 1), (3, 1)]) Try.underlying74 zo_74 (by kernel_rfl) (by kernel_rfl)) ?_
        refine Wl.e (e_box (x := .tmp 44) (vs := [Value.pointer (some ⟨s, 0, none⟩), Value.slice (some ⟨hb0, 0, none⟩) 1 1, Value.slice (some ⟨ub0, 0, none⟩) 1 1, Value.slice none 0 0]) rfl) (fun k _ => ?_)
        refine Wl.imp (L' := (pt k 74 [Value.pointer (some ⟨s, 0, none⟩), Value.slice (some ⟨hb0, 0, none⟩) 1 1, Value.slice (some ⟨ub0, 0, none⟩) 1 1, Value.slice none 0 0]) :: (pt ub0 41 [Value.slice none 0 0]) :: (pt hb0 4 [Value.bool true]) :: (storeI s ts) :: F) (fun _ h => h) ?_
        refine Wl.q (v := Value.pointer (some ⟨k, 0, none⟩)) (q_assign rfl) ?_
        refine Wl.done ?_
        refine Wx.go ?_
        refine Wc.seq ?_
        refine Wc.region ?_
        refine Wl.imp (L' := (knowI k s [true] ([[]])) :: (storeI s ts) :: F) (fun w hs => know_start (st_pull [0, 1, 0, 0] (hs))) ?_
        refine Wl.q (v := Value.pointer (some ⟨k, 0, none⟩)) (q_move rfl) ?_
        refine Wl.e (e_call (F := F) (args := [Value.pointer (some ⟨k, 0, none⟩)]) Try.call31 rfl (kgrow_c W0 k s [true] ([[]]) ts 0 (KL l) (Inv.start hw (KL l)) hl)) (fun y ⟨hy, hyu⟩ => ?_)
        refine Wl.imp (L' := (knowI k s y.1 y.2) :: (storeI s ts) :: F) (fun _ h => h) ?_
        refine Wl.done ?_
        refine Wx.go ?_
        refine Wc.seq ?_
        refine Wc.seq ?_
        refine Wc.region ?_
        obtain ⟨h2, us2⟩ := y
        dsimp only at *
        have hyl := hy.len
        refine Wl.imp (L' := (knowI k s h2 us2) :: (storeI s ts) :: F) (fun _ h => h) ?_
        refine Wl.know (k := k) (s := s) (h := h2) (us := us2) (fun w hs => hs) (fun hb hc ub uc tv vs hvu => ?_)
        refine Wl.q (v := vl) (q_move hE1_1) ?_
        refine Wl.q (v := Value.int .i64 ((l.length : Nat) : Int)) (q_len_is Try.underlying41 rfl hkl.shape) ?_
        refine Wl.q (v := Value.int .i64 0) (q_move rfl) ?_
        refine Wl.done ?_
        refine Wx.go ?_
        refine Wc.block ?_
        refine Wc.loop (X := Nat × Value × Sd) (fun (i, tw, Z) E => E 50 = Value.int .i64 ((i : Nat) : Int) ∧ E 8 = Value.pointer (some ⟨k, 0, none⟩) ∧ E 48 = vl ∧ E 49 = Value.int .i64 ((l.length : Nat) : Int) ∧ i ≤ l.length ∧ Inv ts ts.length (KL l) us2 no no no Z ∧ (∀ x ∈ l.take i, hN Z.1 x.toNat = true)) (fun (i, tw, Z) => (pt k 74 [Value.pointer (some ⟨s, 0, none⟩), Value.slice (some ⟨hb, 0, none⟩) h2.length hc, Value.slice (some ⟨ub, 0, none⟩) vs.length uc, tw]) :: (slp 4 1 hb hc (Z.1.map Value.bool)) :: (sl 3 1 tw Z.2.length (Z.2.map natV)) :: (slp 41 1 ub uc vs) :: (grp (inners vs us2)) :: (storeI s ts) :: F) (fun (i, tw, Z) => l.length - i) (0, tv, (h2, [])) ?_ ?_ ?_
        · exact ⟨rfl, rfl, rfl, rfl, (by omega), hy, (fun x hx => by simp at hx)⟩
        · exact fun w hs => hs
        · rintro ⟨i, tw, Z⟩ E5 ⟨hE50_3, hE8_3, hE48_3, hE49_3, hi, hZ, hdone⟩
          dsimp only at *
          refine Wc.seq ?_
          refine Wc.region ?_
          by_cases hlt2 : ((i : Nat) : Int) < ((l.length : Nat) : Int)
          ·
            have hZl := hZ.len
            have hZt := hZ.le
            obtain ⟨o, hget⟩ : ∃ o, l[i]? = some o := ⟨l[i]'(by omega), List.getElem?_eq_getElem (by omega)⟩
            have hmem := List.mem_of_getElem? hget
            have hr := hall0 o hmem
            have hmk := Inv.marks hZ hr.1 hr.2 ⟨o, hmem, rfl⟩
            refine Wl.q (v := Value.bool true) (q_lss (r := true) hE50_3 hE49_3 (decide_eq_true hlt2)) ?_
            refine Wl.done ?_
            refine Wx.go ?_
            refine Wc.seq ?_
            refine Wc.yes rfl ?_
            refine Wc.skip ?_
            refine Wx.go ?_
            refine Wc.seq ?_
            refine Wc.block ?_
            refine Wc.seq ?_
            refine Wc.region ?_
            refine Wl.q (v := Value.pointer (some ⟨(rb vl), ro vl + i, none⟩)) (q_idx_is (m := ro vl + i) se_41 hE48_3 (hkl.some_ (by omega)) hE50_3 (by omega) (by omega) (by simp)) ?_
            refine Wl.q (v := Value.int .i64 o) (q_load sc_3 rfl (.old (rd1 hkl hget))) ?_
            refine Wl.q (v := Value.int .i64 o) (q_assign rfl) ?_
            refine Wl.done ?_
            refine Wx.go ?_
            refine Wc.region ?_
            refine Wl.q (v := Value.pointer (some ⟨k, 0, none⟩)) (q_move hE8_3) ?_
            refine Wl.q (v := Value.int .i64 o) (q_move rfl) ?_
            refine Wl.e (e_call (F := (slp 41 1 ub uc vs) :: (grp (inners vs us2)) :: (storeI s ts) :: F) (args := [Value.pointer (some ⟨k, 0, none⟩), Value.int .i64 o]) Try.call32 rfl (mark_c W0 k s hb hc ub uc vs.length h2.length (tw) Z o (by omega) (by omega) (by omega) (by omega))) (fun tv6 _ => ?_)
            refine Wl.imp (L' := (pt k 74 [Value.pointer (some ⟨s, 0, none⟩), Value.slice (some ⟨hb, 0, none⟩) h2.length hc, Value.slice (some ⟨ub, 0, none⟩) vs.length uc, tv6]) :: (slp 4 1 hb hc ((mkF Z ((o).toNat)).1.map Value.bool)) :: (sl 3 1 tv6 ((mkF Z ((o).toNat)).2.length) ((mkF Z ((o).toNat)).2.map natV)) :: (slp 41 1 ub uc vs) :: (grp (inners vs us2)) :: (storeI s ts) :: F) (fun _ h => h) ?_
            refine Wl.done ?_
            refine Wx.blockEnd ?_
            refine Wx.go ?_
            refine Wc.region ?_
            refine Wl.q (v := Value.int .i64 ((i + 1 : Nat) : Int)) (q_add (c := ((i + 1 : Nat) : Int)) hE50_3 rfl (by rw [wrap_i64] <;> omega)) ?_
            refine Wl.q (v := Value.int .i64 ((i + 1 : Nat) : Int)) (q_move rfl) ?_
            refine Wl.done ?_
            refine Wx.at (i + 1, tv6, mkF Z o.toNat) ⟨(by simp only; omega), rfl, hE8_3, hE48_3, hE49_3, (by simp only; omega), hmk.1, (mark_all hget hdone hmk.2.1 hmk.2.2)⟩ (fun w hs => hs)
          ·
            have hZl := hZ.len
            have hZt := hZ.le
            rw [show i = l.length by omega, List.take_length] at hdone
            refine Wl.q (v := Value.bool false) (q_lss (r := false) hE50_3 hE49_3 (decide_eq_false hlt2)) ?_
            refine Wl.done ?_
            refine Wx.go ?_
            refine Wc.seq ?_
            refine Wc.no rfl ?_
            refine Wc.exit ?_
            refine Wx.thenExit ?_
            refine Wx.thenExit ?_
            refine Wx.out ?_
            refine Wx.go ?_
            refine Wc.seq ?_
            refine Wc.region ?_
            refine Wl.q (v := Value.pointer (some ⟨k, 0, none⟩)) (q_move hE8_3) ?_
            refine Wl.imp (L' := (pt k 74 [Value.pointer (some ⟨s, 0, none⟩), Value.slice (some ⟨hb, 0, none⟩) h2.length hc, Value.slice (some ⟨ub, 0, none⟩) vs.length uc, tw]) :: (slp 4 1 hb hc (Z.1.map Value.bool)) :: (sl 3 1 tw Z.2.length (Z.2.map natV)) :: (storeI s ts) :: (slp 41 1 ub uc vs) :: (grp (inners vs us2)) :: F) (fun _ h => st_pull [0, 0, 0, 2, 0, 0] h) ?_
            refine Wl.e (e_call (F := F) (args := [Value.pointer (some ⟨k, 0, none⟩)]) Try.call33 rfl (krun_c W0 k s hb hc ub uc vs.length h2.length (tw) vs us2 ts ts.length (KL l) Z hZ hl (by omega) hvu rfl)) (fun z ⟨hz, hzu⟩ => ?_)
            refine Wl.imp (L' := (pt k 74 [Value.pointer (some ⟨s, 0, none⟩), Value.slice (some ⟨hb, 0, none⟩) h2.length hc, Value.slice (some ⟨ub, 0, none⟩) vs.length uc, z.1]) :: (slp 4 1 hb hc (z.2.map Value.bool)) :: (sl 3 1 z.1 0 []) :: (storeI s ts) :: (slp 41 1 ub uc vs) :: (grp (inners vs us2)) :: F) (fun _ h => h) ?_
            refine Wl.done ?_
            refine Wx.go ?_
            refine Wc.seq ?_
            refine Wc.region ?_
            refine Wl.q (v := Value.pointer (some ⟨k, 0, none⟩)) (q_move hE8_3) ?_
            refine Wl.q (v := Value.pointer (some ⟨k, 0, none⟩)) (q_assign rfl) ?_
            refine Wl.q (v := Value.int .i64 0) (q_assign rfl) ?_
            refine Wl.done ?_
            refine Wx.go ?_
            refine Wc.ret ?_
            refine Wx.fin2 rfl (.inl rfl) (fun w hs => ?_)
            exact ⟨k, trivial, rfl, knowK_mk (h := z.2) (us := us2) ⟨_, hz, fun n ⟨x, hx, e⟩ => e ▸ hzu _ (hdone x hx)⟩ (knowI_mk hvu (by have hs := (st_pull [0, 0, 0, 1, 1, 0] (hs)); rw [show h2.length = z.2.length from by have h1 := hz.len; simp only at h1; omega] at hs; exact hs))⟩
  ·
    refine Wl.q (v := Value.bool false) (q_eql (r := false) rfl rfl (decide_eq_false h1)) ?_
    refine Wl.q (v := Value.bool false) (q_move rfl) ?_
    refine Wl.no ?_
    refine Wl.no ?_
    refine Wl.no ?_
    refine Wl.q (v := Value.bool false) (q_pick (t := false) rfl rfl) ?_
    refine Wl.q (v := Value.bool false) (q_pick (t := false) rfl rfl) ?_
    refine Wl.done ?_
    refine Wx.go ?_
    refine Wc.no rfl ?_
    refine Wc.skip ?_
    refine Wx.go ?_
    refine Wc.seq ?_
    refine Wc.seq ?_
    refine Wc.region ?_
    refine Wl.q (v := vl) (q_move rfl) ?_
    refine Wl.q (v := Value.int .i64 ((l.length : Nat) : Int)) (q_len_is Try.underlying41 rfl hkl.shape) ?_
    refine Wl.q (v := Value.bool false) (q_gtr (r := false) rfl rfl (decide_eq_false (by omega))) ?_
    refine Wl.done ?_
    refine Wx.go ?_
    refine Wc.no rfl ?_
    refine Wc.skip ?_
    refine Wx.go ?_
    refine Wc.seq ?_
    refine Wc.seq ?_
    refine Wc.region ?_
    refine Wl.q (v := vl) (q_move rfl) ?_
    refine Wl.q (v := Value.int .i64 ((l.length : Nat) : Int)) (q_len_is Try.underlying41 rfl hkl.shape) ?_
    refine Wl.q (v := Value.int .i64 0) (q_move rfl) ?_
    refine Wl.done ?_
    refine Wx.go ?_
    refine Wc.block ?_
    refine Wc.loop (X := Nat) (fun i E => E 28 = Value.int .i64 ((i : Nat) : Int) ∧ E 0 = Value.pointer (some ⟨s, 0, none⟩) ∧ E 1 = vl ∧ E 26 = vl ∧ E 27 = Value.int .i64 ((l.length : Nat) : Int) ∧ i ≤ l.length ∧ (∀ x ∈ l.take i, 1 ≤ x ∧ x ≤ (ts.length : Int))) (fun i => (storeI s ts) :: F) (fun i => l.length - i) 0 ?_ ?_ ?_
    · exact ⟨rfl, rfl, rfl, rfl, rfl, (by omega), (fun x hx => by simp at hx)⟩
    · exact fun w hs => hs
    · rintro i E8 ⟨hE28_6, hE0_6, hE1_6, hE26_6, hE27_6, hi, hall⟩
      refine Wc.seq ?_
      refine Wc.region ?_
      by_cases hlt : ((i : Nat) : Int) < ((l.length : Nat) : Int)
      ·
        obtain ⟨o, hget⟩ : ∃ o, l[i]? = some o := ⟨l[i]'(by omega), List.getElem?_eq_getElem (by omega)⟩
        have hr := hall0 o (List.mem_of_getElem? hget)
        refine Wl.q (v := Value.bool true) (q_lss (r := true) hE28_6 hE27_6 (decide_eq_true hlt)) ?_
        refine Wl.done ?_
        refine Wx.go ?_
        refine Wc.seq ?_
        refine Wc.yes rfl ?_
        refine Wc.skip ?_
        refine Wx.go ?_
        refine Wc.seq ?_
        refine Wc.block ?_
        refine Wc.seq ?_
        refine Wc.region ?_
        refine Wl.q (v := Value.pointer (some ⟨(rb vl), ro vl + i, none⟩)) (q_idx_is (m := ro vl + i) se_41 hE26_6 (hkl.some_ (by omega)) hE28_6 (by omega) (by omega) (by simp)) ?_
        refine Wl.q (v := Value.int .i64 o) (q_load sc_3 rfl (.old (rd1 hkl hget))) ?_
        refine Wl.q (v := Value.int .i64 o) (q_assign rfl) ?_
        refine Wl.done ?_
        refine Wx.go ?_
        refine Wc.seq ?_
        refine Wc.region ?_
        refine Wl.q (v := Value.int .i64 o) (q_move rfl) ?_
        refine Wl.q (v := Value.bool false) (q_lss (r := false) rfl rfl (decide_eq_false (by omega))) ?_
        refine Wl.q (v := Value.bool false) (q_move rfl) ?_
        refine Wl.q (v := Value.int .i64 o) (q_move rfl) ?_
        refine Wl.q (v := Value.pointer (some ⟨s, 0, none⟩)) (q_move hE0_6) ?_
        refine Wl.e (e_call (F := F) (args := [Value.pointer (some ⟨s, 0, none⟩)]) Try.call28 rfl (len_c W0 s ts)) (fun _ _ => ?_)
        refine Wl.imp (L' := (storeI s ts) :: F) (fun _ h => h) ?_
        refine Wl.q (v := Value.bool false) (q_gtr (r := false) rfl rfl (decide_eq_false (by omega))) ?_
        refine Wl.q (v := Value.bool false) (q_pick (t := false) rfl rfl) ?_
        refine Wl.done ?_
        refine Wx.go ?_
        refine Wc.no rfl ?_
        refine Wc.skip ?_
        refine Wx.blockEnd ?_
        refine Wx.go ?_
        refine Wc.region ?_
        refine Wl.q (v := Value.int .i64 ((i + 1 : Nat) : Int)) (q_add (c := ((i + 1 : Nat) : Int)) hE28_6 rfl (by rw [wrap_i64] <;> omega)) ?_
        refine Wl.q (v := Value.int .i64 ((i + 1 : Nat) : Int)) (q_move rfl) ?_
        refine Wl.done ?_
        refine Wx.at (i + 1) ⟨(by omega), rfl, hE0_6, hE1_6, hE26_6, hE27_6, (by omega), (take_all hget hall ⟨by omega, by omega⟩)⟩ (fun w hs => hs)
      ·
        refine Wl.q (v := Value.bool false) (q_lss (r := false) hE28_6 hE27_6 (decide_eq_false hlt)) ?_
        refine Wl.done ?_
        refine Wx.go ?_
        refine Wc.seq ?_
        refine Wc.no rfl ?_
        refine Wc.exit ?_
        refine Wx.thenExit ?_
        refine Wx.thenExit ?_
        refine Wx.out ?_
        refine Wx.go ?_
        refine Wc.seq ?_
        refine Wc.region ?_
        refine Wl.q (v := Value.pointer (some ⟨s, 0, none⟩)) (q_move hE0_6) ?_
        refine Wl.e (e_buildSlice (cs := [Value.bool true]) se_71 zo_4 (by decide) (by decide) (by kernel_rfl)) (fun hb0 _ => ?_)
        refine Wl.imp (L' := (pt hb0 4 [Value.bool true]) :: (storeI s ts) :: F) (fun _ h => h) ?_
        refine Wl.e (e_buildSlice (cs := [Value.slice none 0 0]) se_72 zo_41 (by decide) (by decide) (by kernel_rfl)) (fun ub0 _ => ?_)
        refine Wl.imp (L' := (pt ub0 41 [Value.slice none 0 0]) :: (pt hb0 4 [Value.bool true]) :: (storeI s ts) :: F) (fun _ h => h) ?_
        refine Wl.q (v := Value.agg #[Value.pointer (some ⟨s, 0, none⟩), Value.slice (some ⟨hb0, 0, none⟩) 1 1, Value.slice (some ⟨ub0, 0, none⟩) 1 1, Value.slice none 0 0]) (q_build (pl := [(0, 1), (1, 1), (2, 1), (3, 1)]) Try.underlying74 zo_74 (by kernel_rfl) (by kernel_rfl)) ?_
        refine Wl.e (e_box (x := .tmp 44) (vs := [Value.pointer (some ⟨s, 0, none⟩), Value.slice (some ⟨hb0, 0, none⟩) 1 1, Value.slice (some ⟨ub0, 0, none⟩) 1 1, Value.slice none 0 0]) rfl) (fun k _ => ?_)
        refine Wl.imp (L' := (pt k 74 [Value.pointer (some ⟨s, 0, none⟩), Value.slice (some ⟨hb0, 0, none⟩) 1 1, Value.slice (some ⟨ub0, 0, none⟩) 1 1, Value.slice none 0 0]) :: (pt ub0 41 [Value.slice none 0 0]) :: (pt hb0 4 [Value.bool true]) :: (storeI s ts) :: F) (fun _ h => h) ?_
        refine Wl.q (v := Value.pointer (some ⟨k, 0, none⟩)) (q_assign rfl) ?_
        refine Wl.done ?_
        refine Wx.go ?_
        refine Wc.seq ?_
        refine Wc.region ?_
        refine Wl.imp (L' := (knowI k s [true] ([[]])) :: (storeI s ts) :: F) (fun w hs => know_start (st_pull [0, 1, 0, 0] (hs))) ?_
        refine Wl.q (v := Value.pointer (some ⟨k, 0, none⟩)) (q_move rfl) ?_
        refine Wl.e (e_call (F := F) (args := [Value.pointer (some ⟨k, 0, none⟩)]) Try.call31 rfl (kgrow_c W0 k s [true] ([[]]) ts 0 (KL l) (Inv.start hw (KL l)) hl)) (fun y ⟨hy, hyu⟩ => ?_)
        refine Wl.imp (L' := (knowI k s y.1 y.2) :: (storeI s ts) :: F) (fun _ h => h) ?_
        refine Wl.done ?_
        refine Wx.go ?_
        refine Wc.seq ?_
        refine Wc.seq ?_
        refine Wc.region ?_
        obtain ⟨h2, us2⟩ := y
        dsimp only at *
        have hyl := hy.len
        refine Wl.imp (L' := (knowI k s h2 us2) :: (storeI s ts) :: F) (fun _ h => h) ?_
        refine Wl.know (k := k) (s := s) (h := h2) (us := us2) (fun w hs => hs) (fun hb hc ub uc tv vs hvu => ?_)
        refine Wl.q (v := vl) (q_move hE1_6) ?_
        refine Wl.q (v := Value.int .i64 ((l.length : Nat) : Int)) (q_len_is Try.underlying41 rfl hkl.shape) ?_
        refine Wl.q (v := Value.int .i64 0) (q_move rfl) ?_
        refine Wl.done ?_
        refine Wx.go ?_
        refine Wc.block ?_
        refine Wc.loop (X := Nat × Value × Sd) (fun (i, tw, Z) E => E 50 = Value.int .i64 ((i : Nat) : Int) ∧ E 8 = Value.pointer (some ⟨k, 0, none⟩) ∧ E 48 = vl ∧ E 49 = Value.int .i64 ((l.length : Nat) : Int) ∧ i ≤ l.length ∧ Inv ts ts.length (KL l) us2 no no no Z ∧ (∀ x ∈ l.take i, hN Z.1 x.toNat = true)) (fun (i, tw, Z) => (pt k 74 [Value.pointer (some ⟨s, 0, none⟩), Value.slice (some ⟨hb, 0, none⟩) h2.length hc, Value.slice (some ⟨ub, 0, none⟩) vs.length uc, tw]) :: (slp 4 1 hb hc (Z.1.map Value.bool)) :: (sl 3 1 tw Z.2.length (Z.2.map natV)) :: (slp 41 1 ub uc vs) :: (grp (inners vs us2)) :: (storeI s ts) :: F) (fun (i, tw, Z) => l.length - i) (0, tv, (h2, [])) ?_ ?_ ?_
        · exact ⟨rfl, rfl, rfl, rfl, (by omega), hy, (fun x hx => by simp at hx)⟩
        · exact fun w hs => hs
        · rintro ⟨i, tw, Z⟩ E10 ⟨hE50_8, hE8_8, hE48_8, hE49_8, hi, hZ, hdone⟩
          dsimp only at *
          refine Wc.seq ?_
          refine Wc.region ?_
          by_cases hlt2 : ((i : Nat) : Int) < ((l.length : Nat) : Int)
          ·
            have hZl := hZ.len
            have hZt := hZ.le
            obtain ⟨o, hget⟩ : ∃ o, l[i]? = some o := ⟨l[i]'(by omega), List.getElem?_eq_getElem (by omega)⟩
            have hmem := List.mem_of_getElem? hget
            have hr := hall0 o hmem
            have hmk := Inv.marks hZ hr.1 hr.2 ⟨o, hmem, rfl⟩
            refine Wl.q (v := Value.bool true) (q_lss (r := true) hE50_8 hE49_8 (decide_eq_true hlt2)) ?_
            refine Wl.done ?_
            refine Wx.go ?_
            refine Wc.seq ?_
            refine Wc.yes rfl ?_
            refine Wc.skip ?_
            refine Wx.go ?_
            refine Wc.seq ?_
            refine Wc.block ?_
            refine Wc.seq ?_
            refine Wc.region ?_
            refine Wl.q (v := Value.pointer (some ⟨(rb vl), ro vl + i, none⟩)) (q_idx_is (m := ro vl + i) se_41 hE48_8 (hkl.some_ (by omega)) hE50_8 (by omega) (by omega) (by simp)) ?_
            refine Wl.q (v := Value.int .i64 o) (q_load sc_3 rfl (.old (rd1 hkl hget))) ?_
            refine Wl.q (v := Value.int .i64 o) (q_assign rfl) ?_
            refine Wl.done ?_
            refine Wx.go ?_
            refine Wc.region ?_
            refine Wl.q (v := Value.pointer (some ⟨k, 0, none⟩)) (q_move hE8_8) ?_
            refine Wl.q (v := Value.int .i64 o) (q_move rfl) ?_
            refine Wl.e (e_call (F := (slp 41 1 ub uc vs) :: (grp (inners vs us2)) :: (storeI s ts) :: F) (args := [Value.pointer (some ⟨k, 0, none⟩), Value.int .i64 o]) Try.call32 rfl (mark_c W0 k s hb hc ub uc vs.length h2.length (tw) Z o (by omega) (by omega) (by omega) (by omega))) (fun tv11 _ => ?_)
            refine Wl.imp (L' := (pt k 74 [Value.pointer (some ⟨s, 0, none⟩), Value.slice (some ⟨hb, 0, none⟩) h2.length hc, Value.slice (some ⟨ub, 0, none⟩) vs.length uc, tv11]) :: (slp 4 1 hb hc ((mkF Z ((o).toNat)).1.map Value.bool)) :: (sl 3 1 tv11 ((mkF Z ((o).toNat)).2.length) ((mkF Z ((o).toNat)).2.map natV)) :: (slp 41 1 ub uc vs) :: (grp (inners vs us2)) :: (storeI s ts) :: F) (fun _ h => h) ?_
            refine Wl.done ?_
            refine Wx.blockEnd ?_
            refine Wx.go ?_
            refine Wc.region ?_
            refine Wl.q (v := Value.int .i64 ((i + 1 : Nat) : Int)) (q_add (c := ((i + 1 : Nat) : Int)) hE50_8 rfl (by rw [wrap_i64] <;> omega)) ?_
            refine Wl.q (v := Value.int .i64 ((i + 1 : Nat) : Int)) (q_move rfl) ?_
            refine Wl.done ?_
            refine Wx.at (i + 1, tv11, mkF Z o.toNat) ⟨(by simp only; omega), rfl, hE8_8, hE48_8, hE49_8, (by simp only; omega), hmk.1, (mark_all hget hdone hmk.2.1 hmk.2.2)⟩ (fun w hs => hs)
          ·
            have hZl := hZ.len
            have hZt := hZ.le
            rw [show i = l.length by omega, List.take_length] at hdone
            refine Wl.q (v := Value.bool false) (q_lss (r := false) hE50_8 hE49_8 (decide_eq_false hlt2)) ?_
            refine Wl.done ?_
            refine Wx.go ?_
            refine Wc.seq ?_
            refine Wc.no rfl ?_
            refine Wc.exit ?_
            refine Wx.thenExit ?_
            refine Wx.thenExit ?_
            refine Wx.out ?_
            refine Wx.go ?_
            refine Wc.seq ?_
            refine Wc.region ?_
            refine Wl.q (v := Value.pointer (some ⟨k, 0, none⟩)) (q_move hE8_8) ?_
            refine Wl.imp (L' := (pt k 74 [Value.pointer (some ⟨s, 0, none⟩), Value.slice (some ⟨hb, 0, none⟩) h2.length hc, Value.slice (some ⟨ub, 0, none⟩) vs.length uc, tw]) :: (slp 4 1 hb hc (Z.1.map Value.bool)) :: (sl 3 1 tw Z.2.length (Z.2.map natV)) :: (storeI s ts) :: (slp 41 1 ub uc vs) :: (grp (inners vs us2)) :: F) (fun _ h => st_pull [0, 0, 0, 2, 0, 0] h) ?_
            refine Wl.e (e_call (F := F) (args := [Value.pointer (some ⟨k, 0, none⟩)]) Try.call33 rfl (krun_c W0 k s hb hc ub uc vs.length h2.length (tw) vs us2 ts ts.length (KL l) Z hZ hl (by omega) hvu rfl)) (fun z ⟨hz, hzu⟩ => ?_)
            refine Wl.imp (L' := (pt k 74 [Value.pointer (some ⟨s, 0, none⟩), Value.slice (some ⟨hb, 0, none⟩) h2.length hc, Value.slice (some ⟨ub, 0, none⟩) vs.length uc, z.1]) :: (slp 4 1 hb hc (z.2.map Value.bool)) :: (sl 3 1 z.1 0 []) :: (storeI s ts) :: (slp 41 1 ub uc vs) :: (grp (inners vs us2)) :: F) (fun _ h => h) ?_
            refine Wl.done ?_
            refine Wx.go ?_
            refine Wc.seq ?_
            refine Wc.region ?_
            refine Wl.q (v := Value.pointer (some ⟨k, 0, none⟩)) (q_move hE8_8) ?_
            refine Wl.q (v := Value.pointer (some ⟨k, 0, none⟩)) (q_assign rfl) ?_
            refine Wl.q (v := Value.int .i64 0) (q_assign rfl) ?_
            refine Wl.done ?_
            refine Wx.go ?_
            refine Wc.ret ?_
            refine Wx.fin2 rfl (.inl rfl) (fun w hs => ?_)
            exact ⟨k, trivial, rfl, knowK_mk (h := z.2) (us := us2) ⟨_, hz, fun n ⟨x, hx, e⟩ => e ▸ hzu _ (hdone x hx)⟩ (knowI_mk hvu (by have hs := (st_pull [0, 0, 0, 1, 1, 0] (hs)); rw [show h2.length = z.2.length from by have h1 := hz.len; simp only at h1; omega] at hs; exact hs))⟩





theorem new_long_sl (W0 : World) (s : Nat) (ts : List TermR) (hw : Wf ts) (hl : ts.length ≤ 1048576) (vl : Value) (l : List Int) (hkm : l.length ≤ 9223372036854775807) (hlong : 65536 < l.length) :
    Con Try.prog W0 14 #[Value.pointer (some ⟨s, 0, none⟩), vl] [storeI s ts, sl 3 1 vl l.length (l.map intV)] (X := Unit) (fun _ => True) (fun _ => .tuple #[.pointer none, .int .i64 3]) (fun _ => [storeI s ts, sl 3 1 vl l.length (l.map intV)]) := by
  refine Con.of (args := [Value.pointer (some ⟨s, 0, none⟩), vl]) Try.func14 rfl Try.ntmps14 rfl (fun F => ?_)
  show Wc _ W0 _ _ _ _ _ ((storeI s ts) :: (sl 3 1 vl l.length (l.map intV)) :: F)
  refine Wc.seq ?_
  refine Wc.region ?_
  refine Wl.q (v := Value.pointer none) (q_assign rfl) ?_
  refine Wl.q (v := Value.int .i64 0) (q_assign rfl) ?_
  refine Wl.done ?_
  refine Wx.go ?_
  refine Wc.seq ?_
  refine Wc.seq ?_
  refine Wc.region ?_
  refine Wl.q (v := Value.pointer (some ⟨s, 0, none⟩)) (q_move rfl) ?_
  refine Wl.q (v := Value.bool false) (q_eql_nil (r := false) rfl rfl Try.underlying22 rfl) ?_
  refine Wl.q (v := Value.bool false) (q_move rfl) ?_
  refine Wl.q (v := Value.pointer (some ⟨s, 0, none⟩)) (q_move rfl) ?_
  refine Wl.e (e_call (F := (sl 3 1 vl l.length (l.map intV)) :: F) (args := [Value.pointer (some ⟨s, 0, none⟩)]) Try.call28 rfl (len_c W0 s ts)) (fun _ _ => ?_)
  refine Wl.imp (L' := (storeI s ts) :: (sl 3 1 vl l.length (l.map intV)) :: F) (fun _ h => h) ?_
  by_cases h1 : ((ts.length : Nat) : Int) = 0
  ·
    refine Wl.q (v := Value.bool true) (q_eql (r := true) rfl rfl (decide_eq_true h1)) ?_
    refine Wl.q (v := Value.bool true) (q_move rfl) ?_
    refine Wl.q (v := Value.pointer (some ⟨s, 0, none⟩)) (q_move rfl) ?_
    refine Wl.e (e_call (F := (sl 3 1 vl l.length (l.map intV)) :: F) (args := [Value.pointer (some ⟨s, 0, none⟩)]) Try.call30 rfl (dalive_c W0 s ts)) (fun _ _ => ?_)
    refine Wl.imp (L' := (storeI s ts) :: (sl 3 1 vl l.length (l.map intV)) :: F) (fun _ h => h) ?_
    refine Wl.q (v := Value.bool false) (q_not rfl rfl) ?_
    refine Wl.q (v := Value.bool false) (q_pick (t := true) rfl rfl) ?_
    refine Wl.q (v := Value.bool false) (q_pick (t := false) rfl rfl) ?_
    refine Wl.done ?_
    refine Wx.go ?_
    refine Wc.no rfl ?_
    refine Wc.skip ?_
    refine Wx.go ?_
    refine Wc.seq ?_
    refine Wc.seq ?_
    refine Wc.region ?_
    refine Wl.q (v := vl) (q_move rfl) ?_
    refine Wl.q (v := Value.int .i64 ((l.length : Nat) : Int)) (q_len_sl (i := 1) Try.underlying41 rfl rfl) ?_
    refine Wl.q (v := Value.bool true) (q_gtr (r := true) rfl rfl (decide_eq_true (by omega))) ?_
    refine Wl.done ?_
    refine Wx.go ?_
    refine Wc.yes rfl ?_
    refine Wc.seq ?_
    refine Wc.region ?_
    refine Wl.q (v := Value.pointer none) (q_assign rfl) ?_
    refine Wl.q (v := Value.int .i64 3) (q_assign rfl) ?_
    refine Wl.done ?_
    refine Wx.go ?_
    refine Wc.ret ?_
    refine Wx.thenRet ?_
    refine Wx.fin2 rfl (.inl rfl) (fun w hs => ?_)
    exact ⟨(), trivial, rfl, hs⟩
  ·
    refine Wl.q (v := Value.bool false) (q_eql (r := false) rfl rfl (decide_eq_false h1)) ?_
    refine Wl.q (v := Value.bool false) (q_move rfl) ?_
    refine Wl.no ?_
    refine Wl.no ?_
    refine Wl.no ?_
    refine Wl.q (v := Value.bool false) (q_pick (t := false) rfl rfl) ?_
    refine Wl.q (v := Value.bool false) (q_pick (t := false) rfl rfl) ?_
    refine Wl.done ?_
    refine Wx.go ?_
    refine Wc.no rfl ?_
    refine Wc.skip ?_
    refine Wx.go ?_
    refine Wc.seq ?_
    refine Wc.seq ?_
    refine Wc.region ?_
    refine Wl.q (v := vl) (q_move rfl) ?_
    refine Wl.q (v := Value.int .i64 ((l.length : Nat) : Int)) (q_len_sl (i := 1) Try.underlying41 rfl rfl) ?_
    refine Wl.q (v := Value.bool true) (q_gtr (r := true) rfl rfl (decide_eq_true (by omega))) ?_
    refine Wl.done ?_
    refine Wx.go ?_
    refine Wc.yes rfl ?_
    refine Wc.seq ?_
    refine Wc.region ?_
    refine Wl.q (v := Value.pointer none) (q_assign rfl) ?_
    refine Wl.q (v := Value.int .i64 3) (q_assign rfl) ?_
    refine Wl.done ?_
    refine Wx.go ?_
    refine Wc.ret ?_
    refine Wx.thenRet ?_
    refine Wx.fin2 rfl (.inl rfl) (fun w hs => ?_)
    exact ⟨(), trivial, rfl, hs⟩

theorem new_bad_sl (W0 : World) (s : Nat) (ts : List TermR) (hw : Wf ts) (hl : ts.length ≤ 1048576) (vl : Value) (l : List Int) (hkm : l.length ≤ 9223372036854775807) (hshort : l.length ≤ 65536) (hbad : ∃ x ∈ l, ¬ (1 ≤ x ∧ x ≤ (ts.length : Int))) :
    Con Try.prog W0 14 #[Value.pointer (some ⟨s, 0, none⟩), vl] [storeI s ts, sl 3 1 vl l.length (l.map intV)] (X := Unit) (fun _ => True) (fun _ => .tuple #[.pointer none, .int .i64 1]) (fun _ => [storeI s ts, sl 3 1 vl l.length (l.map intV)]) := by
  refine Con.of (args := [Value.pointer (some ⟨s, 0, none⟩), vl]) Try.func14 rfl Try.ntmps14 rfl (fun F => ?_)
  show Wc _ W0 _ _ _ _ _ ((storeI s ts) :: (sl 3 1 vl l.length (l.map intV)) :: F)
  refine Wc.seq ?_
  refine Wc.region ?_
  refine Wl.q (v := Value.pointer none) (q_assign rfl) ?_
  refine Wl.q (v := Value.int .i64 0) (q_assign rfl) ?_
  refine Wl.done ?_
  refine Wx.go ?_
  refine Wc.seq ?_
  refine Wc.seq ?_
  refine Wc.region ?_
  refine Wl.q (v := Value.pointer (some ⟨s, 0, none⟩)) (q_move rfl) ?_
  refine Wl.q (v := Value.bool false) (q_eql_nil (r := false) rfl rfl Try.underlying22 rfl) ?_
  refine Wl.q (v := Value.bool false) (q_move rfl) ?_
  refine Wl.q (v := Value.pointer (some ⟨s, 0, none⟩)) (q_move rfl) ?_
  refine Wl.e (e_call (F := (sl 3 1 vl l.length (l.map intV)) :: F) (args := [Value.pointer (some ⟨s, 0, none⟩)]) Try.call28 rfl (len_c W0 s ts)) (fun _ _ => ?_)
  refine Wl.imp (L' := (storeI s ts) :: (sl 3 1 vl l.length (l.map intV)) :: F) (fun _ h => h) ?_
  by_cases h1 : ((ts.length : Nat) : Int) = 0
  ·
    refine Wl.q (v := Value.bool true) (q_eql (r := true) rfl rfl (decide_eq_true h1)) ?_
    refine Wl.q (v := Value.bool true) (q_move rfl) ?_
    refine Wl.q (v := Value.pointer (some ⟨s, 0, none⟩)) (q_move rfl) ?_
    refine Wl.e (e_call (F := (sl 3 1 vl l.length (l.map intV)) :: F) (args := [Value.pointer (some ⟨s, 0, none⟩)]) Try.call30 rfl (dalive_c W0 s ts)) (fun _ _ => ?_)
    refine Wl.imp (L' := (storeI s ts) :: (sl 3 1 vl l.length (l.map intV)) :: F) (fun _ h => h) ?_
    refine Wl.q (v := Value.bool false) (q_not rfl rfl) ?_
    refine Wl.q (v := Value.bool false) (q_pick (t := true) rfl rfl) ?_
    refine Wl.q (v := Value.bool false) (q_pick (t := false) rfl rfl) ?_
    refine Wl.done ?_
    refine Wx.go ?_
    refine Wc.no rfl ?_
    refine Wc.skip ?_
    refine Wx.go ?_
    refine Wc.seq ?_
    refine Wc.seq ?_
    refine Wc.region ?_
    refine Wl.q (v := vl) (q_move rfl) ?_
    refine Wl.q (v := Value.int .i64 ((l.length : Nat) : Int)) (q_len_sl (i := 1) Try.underlying41 rfl rfl) ?_
    refine Wl.q (v := Value.bool false) (q_gtr (r := false) rfl rfl (decide_eq_false (by omega))) ?_
    refine Wl.done ?_
    refine Wx.go ?_
    refine Wc.no rfl ?_
    refine Wc.skip ?_
    refine Wx.go ?_
    refine Wc.seq ?_
    refine Wc.seq ?_
    refine Wc.region ?_
    refine Wl.q (v := vl) (q_move rfl) ?_
    refine Wl.q (v := Value.int .i64 ((l.length : Nat) : Int)) (q_len_sl (i := 1) Try.underlying41 rfl rfl) ?_
    refine Wl.q (v := Value.int .i64 0) (q_move rfl) ?_
    refine Wl.done ?_
    refine Wx.go ?_
    refine Wc.block ?_
    refine Wc.loop (X := Nat) (fun i E => E 28 = Value.int .i64 ((i : Nat) : Int) ∧ E 0 = Value.pointer (some ⟨s, 0, none⟩) ∧ E 1 = vl ∧ E 26 = vl ∧ E 27 = Value.int .i64 ((l.length : Nat) : Int) ∧ i ≤ l.length ∧ (∀ x ∈ l.take i, 1 ≤ x ∧ x ≤ (ts.length : Int))) (fun i => (storeI s ts) :: (sl 3 1 vl l.length (l.map intV)) :: F) (fun i => l.length - i) 0 ?_ ?_ ?_
    · exact ⟨rfl, rfl, rfl, rfl, rfl, (by omega), (fun x hx => by simp at hx)⟩
    · exact fun w hs => hs
    · rintro i E3 ⟨hE28_1, hE0_1, hE1_1, hE26_1, hE27_1, hi, hall⟩
      refine Wc.seq ?_
      refine Wc.region ?_
      by_cases hlt : ((i : Nat) : Int) < ((l.length : Nat) : Int)
      ·
        obtain ⟨o, hget⟩ : ∃ o, l[i]? = some o := ⟨l[i]'(by omega), List.getElem?_eq_getElem (by omega)⟩
        refine Wl.sl (i := 1) (m := l.length) rfl (by omega) (fun lb lc hvl hcl => ?_)
        subst hvl
        refine Wl.q (v := Value.bool true) (q_lss (r := true) hE28_1 hE27_1 (decide_eq_true hlt)) ?_
        refine Wl.done ?_
        refine Wx.go ?_
        refine Wc.seq ?_
        refine Wc.yes rfl ?_
        refine Wc.skip ?_
        refine Wx.go ?_
        refine Wc.seq ?_
        refine Wc.block ?_
        refine Wc.seq ?_
        refine Wc.region ?_
        refine Wl.q (v := Value.pointer (some ⟨lb, i, none⟩)) (q_idx (m := i) se_41 hE26_1 hE28_1 (by omega) (by omega) (by simp)) ?_
        refine Wl.q (v := Value.int .i64 o) (q_load sc_3 rfl (.row (i := 1) rfl (map_at hget))) ?_
        refine Wl.q (v := Value.int .i64 o) (q_assign rfl) ?_
        refine Wl.done ?_
        refine Wx.go ?_
        refine Wc.seq ?_
        refine Wc.region ?_
        refine Wl.q (v := Value.int .i64 o) (q_move rfl) ?_
        by_cases hx1 : o < 1
        ·
          refine Wl.q (v := Value.bool true) (q_lss (r := true) rfl rfl (decide_eq_true hx1)) ?_
          refine Wl.q (v := Value.bool true) (q_move rfl) ?_
          refine Wl.no ?_
          refine Wl.no ?_
          refine Wl.no ?_
          refine Wl.no ?_
          refine Wl.q (v := Value.bool true) (q_pick (t := true) rfl rfl) ?_
          refine Wl.done ?_
          refine Wx.go ?_
          refine Wc.yes rfl ?_
          refine Wc.seq ?_
          refine Wc.region ?_
          refine Wl.q (v := Value.pointer none) (q_assign rfl) ?_
          refine Wl.q (v := Value.int .i64 1) (q_assign rfl) ?_
          refine Wl.done ?_
          refine Wx.go ?_
          refine Wc.ret ?_
          refine Wx.blockRet ?_
          refine Wx.thenRet ?_
          refine Wx.thenRet ?_
          refine Wx.blockRet ?_
          refine Wx.thenRet ?_
          refine Wx.fin2 rfl (.inl rfl) (fun w hs => ?_)
          exact ⟨(), trivial, rfl, (fun hs => st_pull [1, 0] (st_sl_mk (e := 3) (by simp) hcl hs)) (st_pull [1, 0] (hs))⟩
        ·
          refine Wl.q (v := Value.bool false) (q_lss (r := false) rfl rfl (decide_eq_false hx1)) ?_
          refine Wl.q (v := Value.bool false) (q_move rfl) ?_
          refine Wl.q (v := Value.int .i64 o) (q_move rfl) ?_
          refine Wl.q (v := Value.pointer (some ⟨s, 0, none⟩)) (q_move hE0_1) ?_
          refine Wl.e (e_call (F := (slp 3 1 lb lc (l.map intV)) :: F) (args := [Value.pointer (some ⟨s, 0, none⟩)]) Try.call28 rfl (len_c W0 s ts)) (fun _ _ => ?_)
          refine Wl.imp (L' := (storeI s ts) :: (slp 3 1 lb lc (l.map intV)) :: F) (fun _ h => h) ?_
          by_cases hx2 : o > ((ts.length : Nat) : Int)
          ·
            refine Wl.q (v := Value.bool true) (q_gtr (r := true) rfl rfl (decide_eq_true hx2)) ?_
            refine Wl.q (v := Value.bool true) (q_pick (t := false) rfl rfl) ?_
            refine Wl.done ?_
            refine Wx.go ?_
            refine Wc.yes rfl ?_
            refine Wc.seq ?_
            refine Wc.region ?_
            refine Wl.q (v := Value.pointer none) (q_assign rfl) ?_
            refine Wl.q (v := Value.int .i64 1) (q_assign rfl) ?_
            refine Wl.done ?_
            refine Wx.go ?_
            refine Wc.ret ?_
            refine Wx.blockRet ?_
            refine Wx.thenRet ?_
            refine Wx.thenRet ?_
            refine Wx.blockRet ?_
            refine Wx.thenRet ?_
            refine Wx.fin2 rfl (.inl rfl) (fun w hs => ?_)
            exact ⟨(), trivial, rfl, (fun hs => st_pull [1, 0] (st_sl_mk (e := 3) (by simp) hcl hs)) (st_pull [1, 0] (hs))⟩
          ·
            refine Wl.q (v := Value.bool false) (q_gtr (r := false) rfl rfl (decide_eq_false hx2)) ?_
            refine Wl.q (v := Value.bool false) (q_pick (t := false) rfl rfl) ?_
            refine Wl.done ?_
            refine Wx.go ?_
            refine Wc.no rfl ?_
            refine Wc.skip ?_
            refine Wx.blockEnd ?_
            refine Wx.go ?_
            refine Wc.region ?_
            refine Wl.q (v := Value.int .i64 ((i + 1 : Nat) : Int)) (q_add (c := ((i + 1 : Nat) : Int)) hE28_1 rfl (by rw [wrap_i64] <;> omega)) ?_
            refine Wl.q (v := Value.int .i64 ((i + 1 : Nat) : Int)) (q_move rfl) ?_
            refine Wl.done ?_
            refine Wx.at (i + 1) ⟨(by omega), rfl, hE0_1, hE1_1, hE26_1, hE27_1, (by omega), (take_all hget hall ⟨by omega, by omega⟩)⟩ (fun w hs => (fun hs => st_pull [1, 0] (st_sl_mk (e := 3) (by simp) hcl hs)) (st_pull [1, 0] (hs)))
      ·
        exfalso
        obtain ⟨z, hz, hzn⟩ := hbad
        rw [show i = l.length by omega, List.take_length] at hall
        exact hzn (hall z hz)
  ·
    refine Wl.q (v := Value.bool false) (q_eql (r := false) rfl rfl (decide_eq_false h1)) ?_
    refine Wl.q (v := Value.bool false) (q_move rfl) ?_
    refine Wl.no ?_
    refine Wl.no ?_
    refine Wl.no ?_
    refine Wl.q (v := Value.bool false) (q_pick (t := false) rfl rfl) ?_
    refine Wl.q (v := Value.bool false) (q_pick (t := false) rfl rfl) ?_
    refine Wl.done ?_
    refine Wx.go ?_
    refine Wc.no rfl ?_
    refine Wc.skip ?_
    refine Wx.go ?_
    refine Wc.seq ?_
    refine Wc.seq ?_
    refine Wc.region ?_
    refine Wl.q (v := vl) (q_move rfl) ?_
    refine Wl.q (v := Value.int .i64 ((l.length : Nat) : Int)) (q_len_sl (i := 1) Try.underlying41 rfl rfl) ?_
    refine Wl.q (v := Value.bool false) (q_gtr (r := false) rfl rfl (decide_eq_false (by omega))) ?_
    refine Wl.done ?_
    refine Wx.go ?_
    refine Wc.no rfl ?_
    refine Wc.skip ?_
    refine Wx.go ?_
    refine Wc.seq ?_
    refine Wc.seq ?_
    refine Wc.region ?_
    refine Wl.q (v := vl) (q_move rfl) ?_
    refine Wl.q (v := Value.int .i64 ((l.length : Nat) : Int)) (q_len_sl (i := 1) Try.underlying41 rfl rfl) ?_
    refine Wl.q (v := Value.int .i64 0) (q_move rfl) ?_
    refine Wl.done ?_
    refine Wx.go ?_
    refine Wc.block ?_
    refine Wc.loop (X := Nat) (fun i E => E 28 = Value.int .i64 ((i : Nat) : Int) ∧ E 0 = Value.pointer (some ⟨s, 0, none⟩) ∧ E 1 = vl ∧ E 26 = vl ∧ E 27 = Value.int .i64 ((l.length : Nat) : Int) ∧ i ≤ l.length ∧ (∀ x ∈ l.take i, 1 ≤ x ∧ x ≤ (ts.length : Int))) (fun i => (storeI s ts) :: (sl 3 1 vl l.length (l.map intV)) :: F) (fun i => l.length - i) 0 ?_ ?_ ?_
    · exact ⟨rfl, rfl, rfl, rfl, rfl, (by omega), (fun x hx => by simp at hx)⟩
    · exact fun w hs => hs
    · rintro i E5 ⟨hE28_3, hE0_3, hE1_3, hE26_3, hE27_3, hi, hall⟩
      refine Wc.seq ?_
      refine Wc.region ?_
      by_cases hlt : ((i : Nat) : Int) < ((l.length : Nat) : Int)
      ·
        obtain ⟨o, hget⟩ : ∃ o, l[i]? = some o := ⟨l[i]'(by omega), List.getElem?_eq_getElem (by omega)⟩
        refine Wl.sl (i := 1) (m := l.length) rfl (by omega) (fun lb lc hvl hcl => ?_)
        subst hvl
        refine Wl.q (v := Value.bool true) (q_lss (r := true) hE28_3 hE27_3 (decide_eq_true hlt)) ?_
        refine Wl.done ?_
        refine Wx.go ?_
        refine Wc.seq ?_
        refine Wc.yes rfl ?_
        refine Wc.skip ?_
        refine Wx.go ?_
        refine Wc.seq ?_
        refine Wc.block ?_
        refine Wc.seq ?_
        refine Wc.region ?_
        refine Wl.q (v := Value.pointer (some ⟨lb, i, none⟩)) (q_idx (m := i) se_41 hE26_3 hE28_3 (by omega) (by omega) (by simp)) ?_
        refine Wl.q (v := Value.int .i64 o) (q_load sc_3 rfl (.row (i := 1) rfl (map_at hget))) ?_
        refine Wl.q (v := Value.int .i64 o) (q_assign rfl) ?_
        refine Wl.done ?_
        refine Wx.go ?_
        refine Wc.seq ?_
        refine Wc.region ?_
        refine Wl.q (v := Value.int .i64 o) (q_move rfl) ?_
        by_cases hx1 : o < 1
        ·
          refine Wl.q (v := Value.bool true) (q_lss (r := true) rfl rfl (decide_eq_true hx1)) ?_
          refine Wl.q (v := Value.bool true) (q_move rfl) ?_
          refine Wl.no ?_
          refine Wl.no ?_
          refine Wl.no ?_
          refine Wl.no ?_
          refine Wl.q (v := Value.bool true) (q_pick (t := true) rfl rfl) ?_
          refine Wl.done ?_
          refine Wx.go ?_
          refine Wc.yes rfl ?_
          refine Wc.seq ?_
          refine Wc.region ?_
          refine Wl.q (v := Value.pointer none) (q_assign rfl) ?_
          refine Wl.q (v := Value.int .i64 1) (q_assign rfl) ?_
          refine Wl.done ?_
          refine Wx.go ?_
          refine Wc.ret ?_
          refine Wx.blockRet ?_
          refine Wx.thenRet ?_
          refine Wx.thenRet ?_
          refine Wx.blockRet ?_
          refine Wx.thenRet ?_
          refine Wx.fin2 rfl (.inl rfl) (fun w hs => ?_)
          exact ⟨(), trivial, rfl, (fun hs => st_pull [1, 0] (st_sl_mk (e := 3) (by simp) hcl hs)) (st_pull [1, 0] (hs))⟩
        ·
          refine Wl.q (v := Value.bool false) (q_lss (r := false) rfl rfl (decide_eq_false hx1)) ?_
          refine Wl.q (v := Value.bool false) (q_move rfl) ?_
          refine Wl.q (v := Value.int .i64 o) (q_move rfl) ?_
          refine Wl.q (v := Value.pointer (some ⟨s, 0, none⟩)) (q_move hE0_3) ?_
          refine Wl.e (e_call (F := (slp 3 1 lb lc (l.map intV)) :: F) (args := [Value.pointer (some ⟨s, 0, none⟩)]) Try.call28 rfl (len_c W0 s ts)) (fun _ _ => ?_)
          refine Wl.imp (L' := (storeI s ts) :: (slp 3 1 lb lc (l.map intV)) :: F) (fun _ h => h) ?_
          by_cases hx2 : o > ((ts.length : Nat) : Int)
          ·
            refine Wl.q (v := Value.bool true) (q_gtr (r := true) rfl rfl (decide_eq_true hx2)) ?_
            refine Wl.q (v := Value.bool true) (q_pick (t := false) rfl rfl) ?_
            refine Wl.done ?_
            refine Wx.go ?_
            refine Wc.yes rfl ?_
            refine Wc.seq ?_
            refine Wc.region ?_
            refine Wl.q (v := Value.pointer none) (q_assign rfl) ?_
            refine Wl.q (v := Value.int .i64 1) (q_assign rfl) ?_
            refine Wl.done ?_
            refine Wx.go ?_
            refine Wc.ret ?_
            refine Wx.blockRet ?_
            refine Wx.thenRet ?_
            refine Wx.thenRet ?_
            refine Wx.blockRet ?_
            refine Wx.thenRet ?_
            refine Wx.fin2 rfl (.inl rfl) (fun w hs => ?_)
            exact ⟨(), trivial, rfl, (fun hs => st_pull [1, 0] (st_sl_mk (e := 3) (by simp) hcl hs)) (st_pull [1, 0] (hs))⟩
          ·
            refine Wl.q (v := Value.bool false) (q_gtr (r := false) rfl rfl (decide_eq_false hx2)) ?_
            refine Wl.q (v := Value.bool false) (q_pick (t := false) rfl rfl) ?_
            refine Wl.done ?_
            refine Wx.go ?_
            refine Wc.no rfl ?_
            refine Wc.skip ?_
            refine Wx.blockEnd ?_
            refine Wx.go ?_
            refine Wc.region ?_
            refine Wl.q (v := Value.int .i64 ((i + 1 : Nat) : Int)) (q_add (c := ((i + 1 : Nat) : Int)) hE28_3 rfl (by rw [wrap_i64] <;> omega)) ?_
            refine Wl.q (v := Value.int .i64 ((i + 1 : Nat) : Int)) (q_move rfl) ?_
            refine Wl.done ?_
            refine Wx.at (i + 1) ⟨(by omega), rfl, hE0_3, hE1_3, hE26_3, hE27_3, (by omega), (take_all hget hall ⟨by omega, by omega⟩)⟩ (fun w hs => (fun hs => st_pull [1, 0] (st_sl_mk (e := 3) (by simp) hcl hs)) (st_pull [1, 0] (hs)))
      ·
        exfalso
        obtain ⟨z, hz, hzn⟩ := hbad
        rw [show i = l.length by omega, List.take_length] at hall
        exact hzn (hall z hz)

set_option maxRecDepth 4000 in
theorem new_ok_sl (W0 : World) (s : Nat) (ts : List TermR) (hw : Wf ts) (hl : ts.length ≤ 1048576) (vl : Value) (l : List Int) (hkm : l.length ≤ 9223372036854775807) (hshort : l.length ≤ 65536) (hall0 : ∀ x ∈ l, 1 ≤ x ∧ x ≤ (ts.length : Int)) :
    Con Try.prog W0 14 #[Value.pointer (some ⟨s, 0, none⟩), vl] [storeI s ts, sl 3 1 vl l.length (l.map intV)] (X := Nat) (fun _ => True) (fun k => .tuple #[.pointer (some ⟨k, 0, none⟩), .int .i64 0]) (fun k => [knowK k s ts (KL l), storeI s ts, sl 3 1 vl l.length (l.map intV)]) := by
  refine Con.of (args := [Value.pointer (some ⟨s, 0, none⟩), vl]) Try.func14 rfl Try.ntmps14 rfl (fun F => ?_)
  show Wc _ W0 _ _ _ _ _ ((storeI s ts) :: (sl 3 1 vl l.length (l.map intV)) :: F)
  refine Wc.seq ?_
  refine Wc.region ?_
  refine Wl.q (v := Value.pointer none) (q_assign rfl) ?_
  refine Wl.q (v := Value.int .i64 0) (q_assign rfl) ?_
  refine Wl.done ?_
  refine Wx.go ?_
  refine Wc.seq ?_
  refine Wc.seq ?_
  refine Wc.region ?_
  refine Wl.q (v := Value.pointer (some ⟨s, 0, none⟩)) (q_move rfl) ?_
  refine Wl.q (v := Value.bool false) (q_eql_nil (r := false) rfl rfl Try.underlying22 rfl) ?_
  refine Wl.q (v := Value.bool false) (q_move rfl) ?_
  refine Wl.q (v := Value.pointer (some ⟨s, 0, none⟩)) (q_move rfl) ?_
  refine Wl.e (e_call (F := (sl 3 1 vl l.length (l.map intV)) :: F) (args := [Value.pointer (some ⟨s, 0, none⟩)]) Try.call28 rfl (len_c W0 s ts)) (fun _ _ => ?_)
  refine Wl.imp (L' := (storeI s ts) :: (sl 3 1 vl l.length (l.map intV)) :: F) (fun _ h => h) ?_
  by_cases h1 : ((ts.length : Nat) : Int) = 0
  ·
    refine Wl.q (v := Value.bool true) (q_eql (r := true) rfl rfl (decide_eq_true h1)) ?_
    refine Wl.q (v := Value.bool true) (q_move rfl) ?_
    refine Wl.q (v := Value.pointer (some ⟨s, 0, none⟩)) (q_move rfl) ?_
    refine Wl.e (e_call (F := (sl 3 1 vl l.length (l.map intV)) :: F) (args := [Value.pointer (some ⟨s, 0, none⟩)]) Try.call30 rfl (dalive_c W0 s ts)) (fun _ _ => ?_)
    refine Wl.imp (L' := (storeI s ts) :: (sl 3 1 vl l.length (l.map intV)) :: F) (fun _ h => h) ?_
    refine Wl.q (v := Value.bool false) (q_not rfl rfl) ?_
    refine Wl.q (v := Value.bool false) (q_pick (t := true) rfl rfl) ?_
    refine Wl.q (v := Value.bool false) (q_pick (t := false) rfl rfl) ?_
    refine Wl.done ?_
    refine Wx.go ?_
    refine Wc.no rfl ?_
    refine Wc.skip ?_
    refine Wx.go ?_
    refine Wc.seq ?_
    refine Wc.seq ?_
    refine Wc.region ?_
    refine Wl.q (v := vl) (q_move rfl) ?_
    refine Wl.q (v := Value.int .i64 ((l.length : Nat) : Int)) (q_len_sl (i := 1) Try.underlying41 rfl rfl) ?_
    refine Wl.q (v := Value.bool false) (q_gtr (r := false) rfl rfl (decide_eq_false (by omega))) ?_
    refine Wl.done ?_
    refine Wx.go ?_
    refine Wc.no rfl ?_
    refine Wc.skip ?_
    refine Wx.go ?_
    refine Wc.seq ?_
    refine Wc.seq ?_
    refine Wc.region ?_
    refine Wl.q (v := vl) (q_move rfl) ?_
    refine Wl.q (v := Value.int .i64 ((l.length : Nat) : Int)) (q_len_sl (i := 1) Try.underlying41 rfl rfl) ?_
    refine Wl.q (v := Value.int .i64 0) (q_move rfl) ?_
    refine Wl.done ?_
    refine Wx.go ?_
    refine Wc.block ?_
    refine Wc.loop (X := Nat) (fun i E => E 28 = Value.int .i64 ((i : Nat) : Int) ∧ E 0 = Value.pointer (some ⟨s, 0, none⟩) ∧ E 1 = vl ∧ E 26 = vl ∧ E 27 = Value.int .i64 ((l.length : Nat) : Int) ∧ i ≤ l.length ∧ (∀ x ∈ l.take i, 1 ≤ x ∧ x ≤ (ts.length : Int))) (fun i => (storeI s ts) :: (sl 3 1 vl l.length (l.map intV)) :: F) (fun i => l.length - i) 0 ?_ ?_ ?_
    · exact ⟨rfl, rfl, rfl, rfl, rfl, (by omega), (fun x hx => by simp at hx)⟩
    · exact fun w hs => hs
    · rintro i E3 ⟨hE28_1, hE0_1, hE1_1, hE26_1, hE27_1, hi, hall⟩
      refine Wc.seq ?_
      refine Wc.region ?_
      by_cases hlt : ((i : Nat) : Int) < ((l.length : Nat) : Int)
      ·
        obtain ⟨o, hget⟩ : ∃ o, l[i]? = some o := ⟨l[i]'(by omega), List.getElem?_eq_getElem (by omega)⟩
        refine Wl.sl (i := 1) (m := l.length) rfl (by omega) (fun lb lc hvl hcl => ?_)
        subst hvl
        have hr := hall0 o (List.mem_of_getElem? hget)
        refine Wl.q (v := Value.bool true) (q_lss (r := true) hE28_1 hE27_1 (decide_eq_true hlt)) ?_
        refine Wl.done ?_
        refine Wx.go ?_
        refine Wc.seq ?_
        refine Wc.yes rfl ?_
        refine Wc.skip ?_
        refine Wx.go ?_
        refine Wc.seq ?_
        refine Wc.block ?_
        refine Wc.seq ?_
        refine Wc.region ?_
        refine Wl.q (v := Value.pointer (some ⟨lb, i, none⟩)) (q_idx (m := i) se_41 hE26_1 hE28_1 (by omega) (by omega) (by simp)) ?_
        refine Wl.q (v := Value.int .i64 o) (q_load sc_3 rfl (.row (i := 1) rfl (map_at hget))) ?_
        refine Wl.q (v := Value.int .i64 o) (q_assign rfl) ?_
        refine Wl.done ?_
        refine Wx.go ?_
        refine Wc.seq ?_
        refine Wc.region ?_
        refine Wl.q (v := Value.int .i64 o) (q_move rfl) ?_
        refine Wl.q (v := Value.bool false) (q_lss (r := false) rfl rfl (decide_eq_false (by omega))) ?_
        refine Wl.q (v := Value.bool false) (q_move rfl) ?_
        refine Wl.q (v := Value.int .i64 o) (q_move rfl) ?_
        refine Wl.q (v := Value.pointer (some ⟨s, 0, none⟩)) (q_move hE0_1) ?_
        refine Wl.e (e_call (F := (slp 3 1 lb lc (l.map intV)) :: F) (args := [Value.pointer (some ⟨s, 0, none⟩)]) Try.call28 rfl (len_c W0 s ts)) (fun _ _ => ?_)
        refine Wl.imp (L' := (storeI s ts) :: (slp 3 1 lb lc (l.map intV)) :: F) (fun _ h => h) ?_
        refine Wl.q (v := Value.bool false) (q_gtr (r := false) rfl rfl (decide_eq_false (by omega))) ?_
        refine Wl.q (v := Value.bool false) (q_pick (t := false) rfl rfl) ?_
        refine Wl.done ?_
        refine Wx.go ?_
        refine Wc.no rfl ?_
        refine Wc.skip ?_
        refine Wx.blockEnd ?_
        refine Wx.go ?_
        refine Wc.region ?_
        refine Wl.q (v := Value.int .i64 ((i + 1 : Nat) : Int)) (q_add (c := ((i + 1 : Nat) : Int)) hE28_1 rfl (by rw [wrap_i64] <;> omega)) ?_
        refine Wl.q (v := Value.int .i64 ((i + 1 : Nat) : Int)) (q_move rfl) ?_
        refine Wl.done ?_
        refine Wx.at (i + 1) ⟨(by omega), rfl, hE0_1, hE1_1, hE26_1, hE27_1, (by omega), (take_all hget hall ⟨by omega, by omega⟩)⟩ (fun w hs => (fun hs => st_pull [1, 0] (st_sl_mk (e := 3) (by simp) hcl hs)) (st_pull [1, 0] (hs)))
      ·
        refine Wl.q (v := Value.bool false) (q_lss (r := false) hE28_1 hE27_1 (decide_eq_false hlt)) ?_
        refine Wl.done ?_
        refine Wx.go ?_
        refine Wc.seq ?_
        refine Wc.no rfl ?_
        refine Wc.exit ?_
        refine Wx.thenExit ?_
        refine Wx.thenExit ?_
        refine Wx.out ?_
        refine Wx.go ?_
        refine Wc.seq ?_
        refine Wc.region ?_
        refine Wl.q (v := Value.pointer (some ⟨s, 0, none⟩)) (q_move hE0_1) ?_
        refine Wl.e (e_buildSlice (cs := [Value.bool true]) se_71 zo_4 (by decide) (by decide) (by kernel_rfl)) (fun hb0 _ => ?_)
        refine Wl.imp (L' := (pt hb0 4 [Value.bool true]) :: (storeI s ts) :: (sl 3 1 vl l.length (l.map intV)) :: F) (fun _ h => h) ?_
        refine Wl.e (e_buildSlice (cs := [Value.slice none 0 0]) se_72 zo_41 (by decide) (by decide) (by kernel_rfl)) (fun ub0 _ => ?_)
        refine Wl.imp (L' := (pt ub0 41 [Value.slice none 0 0]) :: (pt hb0 4 [Value.bool true]) :: (storeI s ts) :: (sl 3 1 vl l.length (l.map intV)) :: F) (fun _ h => h) ?_
        refine Wl.q (v := Value.agg #[Value.pointer (some ⟨s, 0, none⟩), Value.slice (some ⟨hb0, 0, none⟩) 1 1, Value.slice (some ⟨ub0, 0, none⟩) 1 1, Value.slice none 0 0]) (q_build (pl := [(0, 1), (1, 1), (2, 1), (3, 1)]) Try.underlying74 zo_74 (by kernel_rfl) (by kernel_rfl)) ?_
        refine Wl.e (e_box (x := .tmp 44) (vs := [Value.pointer (some ⟨s, 0, none⟩), Value.slice (some ⟨hb0, 0, none⟩) 1 1, Value.slice (some ⟨ub0, 0, none⟩) 1 1, Value.slice none 0 0]) rfl) (fun k _ => ?_)
        refine Wl.imp (L' := (pt k 74 [Value.pointer (some ⟨s, 0, none⟩), Value.slice (some ⟨hb0, 0, none⟩) 1 1, Value.slice (some ⟨ub0, 0, none⟩) 1 1, Value.slice none 0 0]) :: (pt ub0 41 [Value.slice none 0 0]) :: (pt hb0 4 [Value.bool true]) :: (storeI s ts) :: (sl 3 1 vl l.length (l.map intV)) :: F) (fun _ h => h) ?_
        refine Wl.q (v := Value.pointer (some ⟨k, 0, none⟩)) (q_assign rfl) ?_
        refine Wl.done ?_
        refine Wx.go ?_
        refine Wc.seq ?_
        refine Wc.region ?_
        refine Wl.imp (L' := (knowI k s [true] ([[]])) :: (storeI s ts) :: (sl 3 1 vl l.length (l.map intV)) :: F) (fun w hs => know_start (st_pull [0, 1, 0, 0, 0] (hs))) ?_
        refine Wl.q (v := Value.pointer (some ⟨k, 0, none⟩)) (q_move rfl) ?_
        refine Wl.e (e_call (F := (sl 3 1 vl l.length (l.map intV)) :: F) (args := [Value.pointer (some ⟨k, 0, none⟩)]) Try.call31 rfl (kgrow_c W0 k s [true] ([[]]) ts 0 (KL l) (Inv.start hw (KL l)) hl)) (fun y ⟨hy, hyu⟩ => ?_)
        refine Wl.imp (L' := (knowI k s y.1 y.2) :: (storeI s ts) :: (sl 3 1 vl l.length (l.map intV)) :: F) (fun _ h => h) ?_
        refine Wl.done ?_
        refine Wx.go ?_
        refine Wc.seq ?_
        refine Wc.seq ?_
        refine Wc.region ?_
        obtain ⟨h2, us2⟩ := y
        dsimp only at *
        have hyl := hy.len
        refine Wl.imp (L' := (knowI k s h2 us2) :: (storeI s ts) :: (sl 3 1 vl l.length (l.map intV)) :: F) (fun _ h => h) ?_
        refine Wl.know (k := k) (s := s) (h := h2) (us := us2) (fun w hs => hs) (fun hb hc ub uc tv vs hvu => ?_)
        refine Wl.q (v := vl) (q_move hE1_1) ?_
        refine Wl.q (v := Value.int .i64 ((l.length : Nat) : Int)) (q_len_sl (i := 6) Try.underlying41 rfl rfl) ?_
        refine Wl.q (v := Value.int .i64 0) (q_move rfl) ?_
        refine Wl.done ?_
        refine Wx.go ?_
        refine Wc.block ?_
        refine Wc.loop (X := Nat × Value × Sd) (fun (i, tw, Z) E => E 50 = Value.int .i64 ((i : Nat) : Int) ∧ E 8 = Value.pointer (some ⟨k, 0, none⟩) ∧ E 48 = vl ∧ E 49 = Value.int .i64 ((l.length : Nat) : Int) ∧ i ≤ l.length ∧ Inv ts ts.length (KL l) us2 no no no Z ∧ (∀ x ∈ l.take i, hN Z.1 x.toNat = true)) (fun (i, tw, Z) => (pt k 74 [Value.pointer (some ⟨s, 0, none⟩), Value.slice (some ⟨hb, 0, none⟩) h2.length hc, Value.slice (some ⟨ub, 0, none⟩) vs.length uc, tw]) :: (slp 4 1 hb hc (Z.1.map Value.bool)) :: (sl 3 1 tw Z.2.length (Z.2.map natV)) :: (slp 41 1 ub uc vs) :: (grp (inners vs us2)) :: (storeI s ts) :: (sl 3 1 vl l.length (l.map intV)) :: F) (fun (i, tw, Z) => l.length - i) (0, tv, (h2, [])) ?_ ?_ ?_
        · exact ⟨rfl, rfl, rfl, rfl, (by omega), hy, (fun x hx => by simp at hx)⟩
        · exact fun w hs => hs
        · rintro ⟨i, tw, Z⟩ E5 ⟨hE50_3, hE8_3, hE48_3, hE49_3, hi, hZ, hdone⟩
          dsimp only at *
          refine Wc.seq ?_
          refine Wc.region ?_
          by_cases hlt2 : ((i : Nat) : Int) < ((l.length : Nat) : Int)
          ·
            have hZl := hZ.len
            have hZt := hZ.le
            obtain ⟨o, hget⟩ : ∃ o, l[i]? = some o := ⟨l[i]'(by omega), List.getElem?_eq_getElem (by omega)⟩
            refine Wl.sl (i := 6) (m := l.length) rfl (by omega) (fun lb lc hvl hcl => ?_)
            subst hvl
            have hmem := List.mem_of_getElem? hget
            have hr := hall0 o hmem
            have hmk := Inv.marks hZ hr.1 hr.2 ⟨o, hmem, rfl⟩
            refine Wl.q (v := Value.bool true) (q_lss (r := true) hE50_3 hE49_3 (decide_eq_true hlt2)) ?_
            refine Wl.done ?_
            refine Wx.go ?_
            refine Wc.seq ?_
            refine Wc.yes rfl ?_
            refine Wc.skip ?_
            refine Wx.go ?_
            refine Wc.seq ?_
            refine Wc.block ?_
            refine Wc.seq ?_
            refine Wc.region ?_
            refine Wl.q (v := Value.pointer (some ⟨lb, i, none⟩)) (q_idx (m := i) se_41 hE48_3 hE50_3 (by omega) (by omega) (by simp)) ?_
            refine Wl.q (v := Value.int .i64 o) (q_load sc_3 rfl (.row (i := 6) rfl (map_at hget))) ?_
            refine Wl.q (v := Value.int .i64 o) (q_assign rfl) ?_
            refine Wl.done ?_
            refine Wx.go ?_
            refine Wc.region ?_
            refine Wl.q (v := Value.pointer (some ⟨k, 0, none⟩)) (q_move hE8_3) ?_
            refine Wl.q (v := Value.int .i64 o) (q_move rfl) ?_
            refine Wl.e (e_call (F := (slp 41 1 ub uc vs) :: (grp (inners vs us2)) :: (storeI s ts) :: (slp 3 1 lb lc (l.map intV)) :: F) (args := [Value.pointer (some ⟨k, 0, none⟩), Value.int .i64 o]) Try.call32 rfl (mark_c W0 k s hb hc ub uc vs.length h2.length (tw) Z o (by omega) (by omega) (by omega) (by omega))) (fun tv6 _ => ?_)
            refine Wl.imp (L' := (pt k 74 [Value.pointer (some ⟨s, 0, none⟩), Value.slice (some ⟨hb, 0, none⟩) h2.length hc, Value.slice (some ⟨ub, 0, none⟩) vs.length uc, tv6]) :: (slp 4 1 hb hc ((mkF Z ((o).toNat)).1.map Value.bool)) :: (sl 3 1 tv6 ((mkF Z ((o).toNat)).2.length) ((mkF Z ((o).toNat)).2.map natV)) :: (slp 41 1 ub uc vs) :: (grp (inners vs us2)) :: (storeI s ts) :: (slp 3 1 lb lc (l.map intV)) :: F) (fun _ h => h) ?_
            refine Wl.done ?_
            refine Wx.blockEnd ?_
            refine Wx.go ?_
            refine Wc.region ?_
            refine Wl.q (v := Value.int .i64 ((i + 1 : Nat) : Int)) (q_add (c := ((i + 1 : Nat) : Int)) hE50_3 rfl (by rw [wrap_i64] <;> omega)) ?_
            refine Wl.q (v := Value.int .i64 ((i + 1 : Nat) : Int)) (q_move rfl) ?_
            refine Wl.done ?_
            refine Wx.at (i + 1, tv6, mkF Z o.toNat) ⟨(by simp only; omega), rfl, hE8_3, hE48_3, hE49_3, (by simp only; omega), hmk.1, (mark_all hget hdone hmk.2.1 hmk.2.2)⟩ (fun w hs => (fun hs => st_pull [1, 1, 1, 1, 1, 1, 0] (st_sl_mk (e := 3) (by simp) hcl hs)) (st_pull [6, 0, 0, 0, 0, 0, 0] (hs)))
          ·
            have hZl := hZ.len
            have hZt := hZ.le
            rw [show i = l.length by omega, List.take_length] at hdone
            refine Wl.q (v := Value.bool false) (q_lss (r := false) hE50_3 hE49_3 (decide_eq_false hlt2)) ?_
            refine Wl.done ?_
            refine Wx.go ?_
            refine Wc.seq ?_
            refine Wc.no rfl ?_
            refine Wc.exit ?_
            refine Wx.thenExit ?_
            refine Wx.thenExit ?_
            refine Wx.out ?_
            refine Wx.go ?_
            refine Wc.seq ?_
            refine Wc.region ?_
            refine Wl.q (v := Value.pointer (some ⟨k, 0, none⟩)) (q_move hE8_3) ?_
            refine Wl.imp (L' := (pt k 74 [Value.pointer (some ⟨s, 0, none⟩), Value.slice (some ⟨hb, 0, none⟩) h2.length hc, Value.slice (some ⟨ub, 0, none⟩) vs.length uc, tw]) :: (slp 4 1 hb hc (Z.1.map Value.bool)) :: (sl 3 1 tw Z.2.length (Z.2.map natV)) :: (storeI s ts) :: (slp 41 1 ub uc vs) :: (grp (inners vs us2)) :: (sl 3 1 vl l.length (l.map intV)) :: F) (fun _ h => st_pull [0, 0, 0, 2, 0, 0] h) ?_
            refine Wl.e (e_call (F := (sl 3 1 vl l.length (l.map intV)) :: F) (args := [Value.pointer (some ⟨k, 0, none⟩)]) Try.call33 rfl (krun_c W0 k s hb hc ub uc vs.length h2.length (tw) vs us2 ts ts.length (KL l) Z hZ hl (by omega) hvu rfl)) (fun z ⟨hz, hzu⟩ => ?_)
            refine Wl.imp (L' := (pt k 74 [Value.pointer (some ⟨s, 0, none⟩), Value.slice (some ⟨hb, 0, none⟩) h2.length hc, Value.slice (some ⟨ub, 0, none⟩) vs.length uc, z.1]) :: (slp 4 1 hb hc (z.2.map Value.bool)) :: (sl 3 1 z.1 0 []) :: (storeI s ts) :: (slp 41 1 ub uc vs) :: (grp (inners vs us2)) :: (sl 3 1 vl l.length (l.map intV)) :: F) (fun _ h => h) ?_
            refine Wl.done ?_
            refine Wx.go ?_
            refine Wc.seq ?_
            refine Wc.region ?_
            refine Wl.q (v := Value.pointer (some ⟨k, 0, none⟩)) (q_move hE8_3) ?_
            refine Wl.q (v := Value.pointer (some ⟨k, 0, none⟩)) (q_assign rfl) ?_
            refine Wl.q (v := Value.int .i64 0) (q_assign rfl) ?_
            refine Wl.done ?_
            refine Wx.go ?_
            refine Wc.ret ?_
            refine Wx.fin2 rfl (.inl rfl) (fun w hs => ?_)
            exact ⟨k, trivial, rfl, knowK_mk (h := z.2) (us := us2) ⟨_, hz, fun n ⟨x, hx, e⟩ => e ▸ hzu _ (hdone x hx)⟩ (knowI_mk hvu (by have hs := (st_pull [0, 0, 0, 1, 1, 0, 0] (hs)); rw [show h2.length = z.2.length from by have h1 := hz.len; simp only at h1; omega] at hs; exact hs))⟩
  ·
    refine Wl.q (v := Value.bool false) (q_eql (r := false) rfl rfl (decide_eq_false h1)) ?_
    refine Wl.q (v := Value.bool false) (q_move rfl) ?_
    refine Wl.no ?_
    refine Wl.no ?_
    refine Wl.no ?_
    refine Wl.q (v := Value.bool false) (q_pick (t := false) rfl rfl) ?_
    refine Wl.q (v := Value.bool false) (q_pick (t := false) rfl rfl) ?_
    refine Wl.done ?_
    refine Wx.go ?_
    refine Wc.no rfl ?_
    refine Wc.skip ?_
    refine Wx.go ?_
    refine Wc.seq ?_
    refine Wc.seq ?_
    refine Wc.region ?_
    refine Wl.q (v := vl) (q_move rfl) ?_
    refine Wl.q (v := Value.int .i64 ((l.length : Nat) : Int)) (q_len_sl (i := 1) Try.underlying41 rfl rfl) ?_
    refine Wl.q (v := Value.bool false) (q_gtr (r := false) rfl rfl (decide_eq_false (by omega))) ?_
    refine Wl.done ?_
    refine Wx.go ?_
    refine Wc.no rfl ?_
    refine Wc.skip ?_
    refine Wx.go ?_
    refine Wc.seq ?_
    refine Wc.seq ?_
    refine Wc.region ?_
    refine Wl.q (v := vl) (q_move rfl) ?_
    refine Wl.q (v := Value.int .i64 ((l.length : Nat) : Int)) (q_len_sl (i := 1) Try.underlying41 rfl rfl) ?_
    refine Wl.q (v := Value.int .i64 0) (q_move rfl) ?_
    refine Wl.done ?_
    refine Wx.go ?_
    refine Wc.block ?_
    refine Wc.loop (X := Nat) (fun i E => E 28 = Value.int .i64 ((i : Nat) : Int) ∧ E 0 = Value.pointer (some ⟨s, 0, none⟩) ∧ E 1 = vl ∧ E 26 = vl ∧ E 27 = Value.int .i64 ((l.length : Nat) : Int) ∧ i ≤ l.length ∧ (∀ x ∈ l.take i, 1 ≤ x ∧ x ≤ (ts.length : Int))) (fun i => (storeI s ts) :: (sl 3 1 vl l.length (l.map intV)) :: F) (fun i => l.length - i) 0 ?_ ?_ ?_
    · exact ⟨rfl, rfl, rfl, rfl, rfl, (by omega), (fun x hx => by simp at hx)⟩
    · exact fun w hs => hs
    · rintro i E8 ⟨hE28_6, hE0_6, hE1_6, hE26_6, hE27_6, hi, hall⟩
      refine Wc.seq ?_
      refine Wc.region ?_
      by_cases hlt : ((i : Nat) : Int) < ((l.length : Nat) : Int)
      ·
        obtain ⟨o, hget⟩ : ∃ o, l[i]? = some o := ⟨l[i]'(by omega), List.getElem?_eq_getElem (by omega)⟩
        refine Wl.sl (i := 1) (m := l.length) rfl (by omega) (fun lb lc hvl hcl => ?_)
        subst hvl
        have hr := hall0 o (List.mem_of_getElem? hget)
        refine Wl.q (v := Value.bool true) (q_lss (r := true) hE28_6 hE27_6 (decide_eq_true hlt)) ?_
        refine Wl.done ?_
        refine Wx.go ?_
        refine Wc.seq ?_
        refine Wc.yes rfl ?_
        refine Wc.skip ?_
        refine Wx.go ?_
        refine Wc.seq ?_
        refine Wc.block ?_
        refine Wc.seq ?_
        refine Wc.region ?_
        refine Wl.q (v := Value.pointer (some ⟨lb, i, none⟩)) (q_idx (m := i) se_41 hE26_6 hE28_6 (by omega) (by omega) (by simp)) ?_
        refine Wl.q (v := Value.int .i64 o) (q_load sc_3 rfl (.row (i := 1) rfl (map_at hget))) ?_
        refine Wl.q (v := Value.int .i64 o) (q_assign rfl) ?_
        refine Wl.done ?_
        refine Wx.go ?_
        refine Wc.seq ?_
        refine Wc.region ?_
        refine Wl.q (v := Value.int .i64 o) (q_move rfl) ?_
        refine Wl.q (v := Value.bool false) (q_lss (r := false) rfl rfl (decide_eq_false (by omega))) ?_
        refine Wl.q (v := Value.bool false) (q_move rfl) ?_
        refine Wl.q (v := Value.int .i64 o) (q_move rfl) ?_
        refine Wl.q (v := Value.pointer (some ⟨s, 0, none⟩)) (q_move hE0_6) ?_
        refine Wl.e (e_call (F := (slp 3 1 lb lc (l.map intV)) :: F) (args := [Value.pointer (some ⟨s, 0, none⟩)]) Try.call28 rfl (len_c W0 s ts)) (fun _ _ => ?_)
        refine Wl.imp (L' := (storeI s ts) :: (slp 3 1 lb lc (l.map intV)) :: F) (fun _ h => h) ?_
        refine Wl.q (v := Value.bool false) (q_gtr (r := false) rfl rfl (decide_eq_false (by omega))) ?_
        refine Wl.q (v := Value.bool false) (q_pick (t := false) rfl rfl) ?_
        refine Wl.done ?_
        refine Wx.go ?_
        refine Wc.no rfl ?_
        refine Wc.skip ?_
        refine Wx.blockEnd ?_
        refine Wx.go ?_
        refine Wc.region ?_
        refine Wl.q (v := Value.int .i64 ((i + 1 : Nat) : Int)) (q_add (c := ((i + 1 : Nat) : Int)) hE28_6 rfl (by rw [wrap_i64] <;> omega)) ?_
        refine Wl.q (v := Value.int .i64 ((i + 1 : Nat) : Int)) (q_move rfl) ?_
        refine Wl.done ?_
        refine Wx.at (i + 1) ⟨(by omega), rfl, hE0_6, hE1_6, hE26_6, hE27_6, (by omega), (take_all hget hall ⟨by omega, by omega⟩)⟩ (fun w hs => (fun hs => st_pull [1, 0] (st_sl_mk (e := 3) (by simp) hcl hs)) (st_pull [1, 0] (hs)))
      ·
        refine Wl.q (v := Value.bool false) (q_lss (r := false) hE28_6 hE27_6 (decide_eq_false hlt)) ?_
        refine Wl.done ?_
        refine Wx.go ?_
        refine Wc.seq ?_
        refine Wc.no rfl ?_
        refine Wc.exit ?_
        refine Wx.thenExit ?_
        refine Wx.thenExit ?_
        refine Wx.out ?_
        refine Wx.go ?_
        refine Wc.seq ?_
        refine Wc.region ?_
        refine Wl.q (v := Value.pointer (some ⟨s, 0, none⟩)) (q_move hE0_6) ?_
        refine Wl.e (e_buildSlice (cs := [Value.bool true]) se_71 zo_4 (by decide) (by decide) (by kernel_rfl)) (fun hb0 _ => ?_)
        refine Wl.imp (L' := (pt hb0 4 [Value.bool true]) :: (storeI s ts) :: (sl 3 1 vl l.length (l.map intV)) :: F) (fun _ h => h) ?_
        refine Wl.e (e_buildSlice (cs := [Value.slice none 0 0]) se_72 zo_41 (by decide) (by decide) (by kernel_rfl)) (fun ub0 _ => ?_)
        refine Wl.imp (L' := (pt ub0 41 [Value.slice none 0 0]) :: (pt hb0 4 [Value.bool true]) :: (storeI s ts) :: (sl 3 1 vl l.length (l.map intV)) :: F) (fun _ h => h) ?_
        refine Wl.q (v := Value.agg #[Value.pointer (some ⟨s, 0, none⟩), Value.slice (some ⟨hb0, 0, none⟩) 1 1, Value.slice (some ⟨ub0, 0, none⟩) 1 1, Value.slice none 0 0]) (q_build (pl := [(0, 1), (1, 1), (2, 1), (3, 1)]) Try.underlying74 zo_74 (by kernel_rfl) (by kernel_rfl)) ?_
        refine Wl.e (e_box (x := .tmp 44) (vs := [Value.pointer (some ⟨s, 0, none⟩), Value.slice (some ⟨hb0, 0, none⟩) 1 1, Value.slice (some ⟨ub0, 0, none⟩) 1 1, Value.slice none 0 0]) rfl) (fun k _ => ?_)
        refine Wl.imp (L' := (pt k 74 [Value.pointer (some ⟨s, 0, none⟩), Value.slice (some ⟨hb0, 0, none⟩) 1 1, Value.slice (some ⟨ub0, 0, none⟩) 1 1, Value.slice none 0 0]) :: (pt ub0 41 [Value.slice none 0 0]) :: (pt hb0 4 [Value.bool true]) :: (storeI s ts) :: (sl 3 1 vl l.length (l.map intV)) :: F) (fun _ h => h) ?_
        refine Wl.q (v := Value.pointer (some ⟨k, 0, none⟩)) (q_assign rfl) ?_
        refine Wl.done ?_
        refine Wx.go ?_
        refine Wc.seq ?_
        refine Wc.region ?_
        refine Wl.imp (L' := (knowI k s [true] ([[]])) :: (storeI s ts) :: (sl 3 1 vl l.length (l.map intV)) :: F) (fun w hs => know_start (st_pull [0, 1, 0, 0, 0] (hs))) ?_
        refine Wl.q (v := Value.pointer (some ⟨k, 0, none⟩)) (q_move rfl) ?_
        refine Wl.e (e_call (F := (sl 3 1 vl l.length (l.map intV)) :: F) (args := [Value.pointer (some ⟨k, 0, none⟩)]) Try.call31 rfl (kgrow_c W0 k s [true] ([[]]) ts 0 (KL l) (Inv.start hw (KL l)) hl)) (fun y ⟨hy, hyu⟩ => ?_)
        refine Wl.imp (L' := (knowI k s y.1 y.2) :: (storeI s ts) :: (sl 3 1 vl l.length (l.map intV)) :: F) (fun _ h => h) ?_
        refine Wl.done ?_
        refine Wx.go ?_
        refine Wc.seq ?_
        refine Wc.seq ?_
        refine Wc.region ?_
        obtain ⟨h2, us2⟩ := y
        dsimp only at *
        have hyl := hy.len
        refine Wl.imp (L' := (knowI k s h2 us2) :: (storeI s ts) :: (sl 3 1 vl l.length (l.map intV)) :: F) (fun _ h => h) ?_
        refine Wl.know (k := k) (s := s) (h := h2) (us := us2) (fun w hs => hs) (fun hb hc ub uc tv vs hvu => ?_)
        refine Wl.q (v := vl) (q_move hE1_6) ?_
        refine Wl.q (v := Value.int .i64 ((l.length : Nat) : Int)) (q_len_sl (i := 6) Try.underlying41 rfl rfl) ?_
        refine Wl.q (v := Value.int .i64 0) (q_move rfl) ?_
        refine Wl.done ?_
        refine Wx.go ?_
        refine Wc.block ?_
        refine Wc.loop (X := Nat × Value × Sd) (fun (i, tw, Z) E => E 50 = Value.int .i64 ((i : Nat) : Int) ∧ E 8 = Value.pointer (some ⟨k, 0, none⟩) ∧ E 48 = vl ∧ E 49 = Value.int .i64 ((l.length : Nat) : Int) ∧ i ≤ l.length ∧ Inv ts ts.length (KL l) us2 no no no Z ∧ (∀ x ∈ l.take i, hN Z.1 x.toNat = true)) (fun (i, tw, Z) => (pt k 74 [Value.pointer (some ⟨s, 0, none⟩), Value.slice (some ⟨hb, 0, none⟩) h2.length hc, Value.slice (some ⟨ub, 0, none⟩) vs.length uc, tw]) :: (slp 4 1 hb hc (Z.1.map Value.bool)) :: (sl 3 1 tw Z.2.length (Z.2.map natV)) :: (slp 41 1 ub uc vs) :: (grp (inners vs us2)) :: (storeI s ts) :: (sl 3 1 vl l.length (l.map intV)) :: F) (fun (i, tw, Z) => l.length - i) (0, tv, (h2, [])) ?_ ?_ ?_
        · exact ⟨rfl, rfl, rfl, rfl, (by omega), hy, (fun x hx => by simp at hx)⟩
        · exact fun w hs => hs
        · rintro ⟨i, tw, Z⟩ E10 ⟨hE50_8, hE8_8, hE48_8, hE49_8, hi, hZ, hdone⟩
          dsimp only at *
          refine Wc.seq ?_
          refine Wc.region ?_
          by_cases hlt2 : ((i : Nat) : Int) < ((l.length : Nat) : Int)
          ·
            have hZl := hZ.len
            have hZt := hZ.le
            obtain ⟨o, hget⟩ : ∃ o, l[i]? = some o := ⟨l[i]'(by omega), List.getElem?_eq_getElem (by omega)⟩
            refine Wl.sl (i := 6) (m := l.length) rfl (by omega) (fun lb lc hvl hcl => ?_)
            subst hvl
            have hmem := List.mem_of_getElem? hget
            have hr := hall0 o hmem
            have hmk := Inv.marks hZ hr.1 hr.2 ⟨o, hmem, rfl⟩
            refine Wl.q (v := Value.bool true) (q_lss (r := true) hE50_8 hE49_8 (decide_eq_true hlt2)) ?_
            refine Wl.done ?_
            refine Wx.go ?_
            refine Wc.seq ?_
            refine Wc.yes rfl ?_
            refine Wc.skip ?_
            refine Wx.go ?_
            refine Wc.seq ?_
            refine Wc.block ?_
            refine Wc.seq ?_
            refine Wc.region ?_
            refine Wl.q (v := Value.pointer (some ⟨lb, i, none⟩)) (q_idx (m := i) se_41 hE48_8 hE50_8 (by omega) (by omega) (by simp)) ?_
            refine Wl.q (v := Value.int .i64 o) (q_load sc_3 rfl (.row (i := 6) rfl (map_at hget))) ?_
            refine Wl.q (v := Value.int .i64 o) (q_assign rfl) ?_
            refine Wl.done ?_
            refine Wx.go ?_
            refine Wc.region ?_
            refine Wl.q (v := Value.pointer (some ⟨k, 0, none⟩)) (q_move hE8_8) ?_
            refine Wl.q (v := Value.int .i64 o) (q_move rfl) ?_
            refine Wl.e (e_call (F := (slp 41 1 ub uc vs) :: (grp (inners vs us2)) :: (storeI s ts) :: (slp 3 1 lb lc (l.map intV)) :: F) (args := [Value.pointer (some ⟨k, 0, none⟩), Value.int .i64 o]) Try.call32 rfl (mark_c W0 k s hb hc ub uc vs.length h2.length (tw) Z o (by omega) (by omega) (by omega) (by omega))) (fun tv11 _ => ?_)
            refine Wl.imp (L' := (pt k 74 [Value.pointer (some ⟨s, 0, none⟩), Value.slice (some ⟨hb, 0, none⟩) h2.length hc, Value.slice (some ⟨ub, 0, none⟩) vs.length uc, tv11]) :: (slp 4 1 hb hc ((mkF Z ((o).toNat)).1.map Value.bool)) :: (sl 3 1 tv11 ((mkF Z ((o).toNat)).2.length) ((mkF Z ((o).toNat)).2.map natV)) :: (slp 41 1 ub uc vs) :: (grp (inners vs us2)) :: (storeI s ts) :: (slp 3 1 lb lc (l.map intV)) :: F) (fun _ h => h) ?_
            refine Wl.done ?_
            refine Wx.blockEnd ?_
            refine Wx.go ?_
            refine Wc.region ?_
            refine Wl.q (v := Value.int .i64 ((i + 1 : Nat) : Int)) (q_add (c := ((i + 1 : Nat) : Int)) hE50_8 rfl (by rw [wrap_i64] <;> omega)) ?_
            refine Wl.q (v := Value.int .i64 ((i + 1 : Nat) : Int)) (q_move rfl) ?_
            refine Wl.done ?_
            refine Wx.at (i + 1, tv11, mkF Z o.toNat) ⟨(by simp only; omega), rfl, hE8_8, hE48_8, hE49_8, (by simp only; omega), hmk.1, (mark_all hget hdone hmk.2.1 hmk.2.2)⟩ (fun w hs => (fun hs => st_pull [1, 1, 1, 1, 1, 1, 0] (st_sl_mk (e := 3) (by simp) hcl hs)) (st_pull [6, 0, 0, 0, 0, 0, 0] (hs)))
          ·
            have hZl := hZ.len
            have hZt := hZ.le
            rw [show i = l.length by omega, List.take_length] at hdone
            refine Wl.q (v := Value.bool false) (q_lss (r := false) hE50_8 hE49_8 (decide_eq_false hlt2)) ?_
            refine Wl.done ?_
            refine Wx.go ?_
            refine Wc.seq ?_
            refine Wc.no rfl ?_
            refine Wc.exit ?_
            refine Wx.thenExit ?_
            refine Wx.thenExit ?_
            refine Wx.out ?_
            refine Wx.go ?_
            refine Wc.seq ?_
            refine Wc.region ?_
            refine Wl.q (v := Value.pointer (some ⟨k, 0, none⟩)) (q_move hE8_8) ?_
            refine Wl.imp (L' := (pt k 74 [Value.pointer (some ⟨s, 0, none⟩), Value.slice (some ⟨hb, 0, none⟩) h2.length hc, Value.slice (some ⟨ub, 0, none⟩) vs.length uc, tw]) :: (slp 4 1 hb hc (Z.1.map Value.bool)) :: (sl 3 1 tw Z.2.length (Z.2.map natV)) :: (storeI s ts) :: (slp 41 1 ub uc vs) :: (grp (inners vs us2)) :: (sl 3 1 vl l.length (l.map intV)) :: F) (fun _ h => st_pull [0, 0, 0, 2, 0, 0] h) ?_
            refine Wl.e (e_call (F := (sl 3 1 vl l.length (l.map intV)) :: F) (args := [Value.pointer (some ⟨k, 0, none⟩)]) Try.call33 rfl (krun_c W0 k s hb hc ub uc vs.length h2.length (tw) vs us2 ts ts.length (KL l) Z hZ hl (by omega) hvu rfl)) (fun z ⟨hz, hzu⟩ => ?_)
            refine Wl.imp (L' := (pt k 74 [Value.pointer (some ⟨s, 0, none⟩), Value.slice (some ⟨hb, 0, none⟩) h2.length hc, Value.slice (some ⟨ub, 0, none⟩) vs.length uc, z.1]) :: (slp 4 1 hb hc (z.2.map Value.bool)) :: (sl 3 1 z.1 0 []) :: (storeI s ts) :: (slp 41 1 ub uc vs) :: (grp (inners vs us2)) :: (sl 3 1 vl l.length (l.map intV)) :: F) (fun _ h => h) ?_
            refine Wl.done ?_
            refine Wx.go ?_
            refine Wc.seq ?_
            refine Wc.region ?_
            refine Wl.q (v := Value.pointer (some ⟨k, 0, none⟩)) (q_move hE8_8) ?_
            refine Wl.q (v := Value.pointer (some ⟨k, 0, none⟩)) (q_assign rfl) ?_
            refine Wl.q (v := Value.int .i64 0) (q_assign rfl) ?_
            refine Wl.done ?_
            refine Wx.go ?_
            refine Wc.ret ?_
            refine Wx.fin2 rfl (.inl rfl) (fun w hs => ?_)
            exact ⟨k, trivial, rfl, knowK_mk (h := z.2) (us := us2) ⟨_, hz, fun n ⟨x, hx, e⟩ => e ▸ hzu _ (hdone x hx)⟩ (knowI_mk hvu (by have hs := (st_pull [0, 0, 0, 1, 1, 0, 0] (hs)); rw [show h2.length = z.2.length from by have h1 := hz.len; simp only at h1; omega] at hs; exact hs))⟩





theorem new_long_pt (W0 : World) (s : Nat) (ts : List TermR) (hw : Wf ts) (hl : ts.length ≤ 1048576) (vb vc : Nat) (l : List Int) (ms : List Value) (hkm : l.length ≤ 9223372036854775807) (hlong : 65536 < l.length) :
    Con Try.prog W0 14 #[Value.pointer (some ⟨s, 0, none⟩), Value.slice (some ⟨vb, 0, none⟩) l.length vc] [storeI s ts, pt vb 3 (l.map intV ++ ms)] (X := Unit) (fun _ => True) (fun _ => .tuple #[.pointer none, .int .i64 3]) (fun _ => [storeI s ts, pt vb 3 (l.map intV ++ ms)]) := by
  refine Con.of (args := [Value.pointer (some ⟨s, 0, none⟩), Value.slice (some ⟨vb, 0, none⟩) l.length vc]) Try.func14 rfl Try.ntmps14 rfl (fun F => ?_)
  show Wc _ W0 _ _ _ _ _ ((storeI s ts) :: (pt vb 3 (l.map intV ++ ms)) :: F)
  refine Wc.seq ?_
  refine Wc.region ?_
  refine Wl.q (v := Value.pointer none) (q_assign rfl) ?_
  refine Wl.q (v := Value.int .i64 0) (q_assign rfl) ?_
  refine Wl.done ?_
  refine Wx.go ?_
  refine Wc.seq ?_
  refine Wc.seq ?_
  refine Wc.region ?_
  refine Wl.q (v := Value.pointer (some ⟨s, 0, none⟩)) (q_move rfl) ?_
  refine Wl.q (v := Value.bool false) (q_eql_nil (r := false) rfl rfl Try.underlying22 rfl) ?_
  refine Wl.q (v := Value.bool false) (q_move rfl) ?_
  refine Wl.q (v := Value.pointer (some ⟨s, 0, none⟩)) (q_move rfl) ?_
  refine Wl.e (e_call (F := (pt vb 3 (l.map intV ++ ms)) :: F) (args := [Value.pointer (some ⟨s, 0, none⟩)]) Try.call28 rfl (len_c W0 s ts)) (fun _ _ => ?_)
  refine Wl.imp (L' := (storeI s ts) :: (pt vb 3 (l.map intV ++ ms)) :: F) (fun _ h => h) ?_
  by_cases h1 : ((ts.length : Nat) : Int) = 0
  ·
    refine Wl.q (v := Value.bool true) (q_eql (r := true) rfl rfl (decide_eq_true h1)) ?_
    refine Wl.q (v := Value.bool true) (q_move rfl) ?_
    refine Wl.q (v := Value.pointer (some ⟨s, 0, none⟩)) (q_move rfl) ?_
    refine Wl.e (e_call (F := (pt vb 3 (l.map intV ++ ms)) :: F) (args := [Value.pointer (some ⟨s, 0, none⟩)]) Try.call30 rfl (dalive_c W0 s ts)) (fun _ _ => ?_)
    refine Wl.imp (L' := (storeI s ts) :: (pt vb 3 (l.map intV ++ ms)) :: F) (fun _ h => h) ?_
    refine Wl.q (v := Value.bool false) (q_not rfl rfl) ?_
    refine Wl.q (v := Value.bool false) (q_pick (t := true) rfl rfl) ?_
    refine Wl.q (v := Value.bool false) (q_pick (t := false) rfl rfl) ?_
    refine Wl.done ?_
    refine Wx.go ?_
    refine Wc.no rfl ?_
    refine Wc.skip ?_
    refine Wx.go ?_
    refine Wc.seq ?_
    refine Wc.seq ?_
    refine Wc.region ?_
    refine Wl.q (v := Value.slice (some ⟨vb, 0, none⟩) l.length vc) (q_move rfl) ?_
    refine Wl.q (v := Value.int .i64 ((l.length : Nat) : Int)) (q_len_slice Try.underlying41 rfl) ?_
    refine Wl.q (v := Value.bool true) (q_gtr (r := true) rfl rfl (decide_eq_true (by omega))) ?_
    refine Wl.done ?_
    refine Wx.go ?_
    refine Wc.yes rfl ?_
    refine Wc.seq ?_
    refine Wc.region ?_
    refine Wl.q (v := Value.pointer none) (q_assign rfl) ?_
    refine Wl.q (v := Value.int .i64 3) (q_assign rfl) ?_
    refine Wl.done ?_
    refine Wx.go ?_
    refine Wc.ret ?_
    refine Wx.thenRet ?_
    refine Wx.fin2 rfl (.inl rfl) (fun w hs => ?_)
    exact ⟨(), trivial, rfl, hs⟩
  ·
    refine Wl.q (v := Value.bool false) (q_eql (r := false) rfl rfl (decide_eq_false h1)) ?_
    refine Wl.q (v := Value.bool false) (q_move rfl) ?_
    refine Wl.no ?_
    refine Wl.no ?_
    refine Wl.no ?_
    refine Wl.q (v := Value.bool false) (q_pick (t := false) rfl rfl) ?_
    refine Wl.q (v := Value.bool false) (q_pick (t := false) rfl rfl) ?_
    refine Wl.done ?_
    refine Wx.go ?_
    refine Wc.no rfl ?_
    refine Wc.skip ?_
    refine Wx.go ?_
    refine Wc.seq ?_
    refine Wc.seq ?_
    refine Wc.region ?_
    refine Wl.q (v := Value.slice (some ⟨vb, 0, none⟩) l.length vc) (q_move rfl) ?_
    refine Wl.q (v := Value.int .i64 ((l.length : Nat) : Int)) (q_len_slice Try.underlying41 rfl) ?_
    refine Wl.q (v := Value.bool true) (q_gtr (r := true) rfl rfl (decide_eq_true (by omega))) ?_
    refine Wl.done ?_
    refine Wx.go ?_
    refine Wc.yes rfl ?_
    refine Wc.seq ?_
    refine Wc.region ?_
    refine Wl.q (v := Value.pointer none) (q_assign rfl) ?_
    refine Wl.q (v := Value.int .i64 3) (q_assign rfl) ?_
    refine Wl.done ?_
    refine Wx.go ?_
    refine Wc.ret ?_
    refine Wx.thenRet ?_
    refine Wx.fin2 rfl (.inl rfl) (fun w hs => ?_)
    exact ⟨(), trivial, rfl, hs⟩

theorem new_bad_pt (W0 : World) (s : Nat) (ts : List TermR) (hw : Wf ts) (hl : ts.length ≤ 1048576) (vb vc : Nat) (l : List Int) (ms : List Value) (hkm : l.length ≤ 9223372036854775807) (hshort : l.length ≤ 65536) (hbad : ∃ x ∈ l, ¬ (1 ≤ x ∧ x ≤ (ts.length : Int))) :
    Con Try.prog W0 14 #[Value.pointer (some ⟨s, 0, none⟩), Value.slice (some ⟨vb, 0, none⟩) l.length vc] [storeI s ts, pt vb 3 (l.map intV ++ ms)] (X := Unit) (fun _ => True) (fun _ => .tuple #[.pointer none, .int .i64 1]) (fun _ => [storeI s ts, pt vb 3 (l.map intV ++ ms)]) := by
  refine Con.of (args := [Value.pointer (some ⟨s, 0, none⟩), Value.slice (some ⟨vb, 0, none⟩) l.length vc]) Try.func14 rfl Try.ntmps14 rfl (fun F => ?_)
  show Wc _ W0 _ _ _ _ _ ((storeI s ts) :: (pt vb 3 (l.map intV ++ ms)) :: F)
  refine Wc.seq ?_
  refine Wc.region ?_
  refine Wl.q (v := Value.pointer none) (q_assign rfl) ?_
  refine Wl.q (v := Value.int .i64 0) (q_assign rfl) ?_
  refine Wl.done ?_
  refine Wx.go ?_
  refine Wc.seq ?_
  refine Wc.seq ?_
  refine Wc.region ?_
  refine Wl.q (v := Value.pointer (some ⟨s, 0, none⟩)) (q_move rfl) ?_
  refine Wl.q (v := Value.bool false) (q_eql_nil (r := false) rfl rfl Try.underlying22 rfl) ?_
  refine Wl.q (v := Value.bool false) (q_move rfl) ?_
  refine Wl.q (v := Value.pointer (some ⟨s, 0, none⟩)) (q_move rfl) ?_
  refine Wl.e (e_call (F := (pt vb 3 (l.map intV ++ ms)) :: F) (args := [Value.pointer (some ⟨s, 0, none⟩)]) Try.call28 rfl (len_c W0 s ts)) (fun _ _ => ?_)
  refine Wl.imp (L' := (storeI s ts) :: (pt vb 3 (l.map intV ++ ms)) :: F) (fun _ h => h) ?_
  by_cases h1 : ((ts.length : Nat) : Int) = 0
  ·
    refine Wl.q (v := Value.bool true) (q_eql (r := true) rfl rfl (decide_eq_true h1)) ?_
    refine Wl.q (v := Value.bool true) (q_move rfl) ?_
    refine Wl.q (v := Value.pointer (some ⟨s, 0, none⟩)) (q_move rfl) ?_
    refine Wl.e (e_call (F := (pt vb 3 (l.map intV ++ ms)) :: F) (args := [Value.pointer (some ⟨s, 0, none⟩)]) Try.call30 rfl (dalive_c W0 s ts)) (fun _ _ => ?_)
    refine Wl.imp (L' := (storeI s ts) :: (pt vb 3 (l.map intV ++ ms)) :: F) (fun _ h => h) ?_
    refine Wl.q (v := Value.bool false) (q_not rfl rfl) ?_
    refine Wl.q (v := Value.bool false) (q_pick (t := true) rfl rfl) ?_
    refine Wl.q (v := Value.bool false) (q_pick (t := false) rfl rfl) ?_
    refine Wl.done ?_
    refine Wx.go ?_
    refine Wc.no rfl ?_
    refine Wc.skip ?_
    refine Wx.go ?_
    refine Wc.seq ?_
    refine Wc.seq ?_
    refine Wc.region ?_
    refine Wl.q (v := Value.slice (some ⟨vb, 0, none⟩) l.length vc) (q_move rfl) ?_
    refine Wl.q (v := Value.int .i64 ((l.length : Nat) : Int)) (q_len_slice Try.underlying41 rfl) ?_
    refine Wl.q (v := Value.bool false) (q_gtr (r := false) rfl rfl (decide_eq_false (by omega))) ?_
    refine Wl.done ?_
    refine Wx.go ?_
    refine Wc.no rfl ?_
    refine Wc.skip ?_
    refine Wx.go ?_
    refine Wc.seq ?_
    refine Wc.seq ?_
    refine Wc.region ?_
    refine Wl.q (v := Value.slice (some ⟨vb, 0, none⟩) l.length vc) (q_move rfl) ?_
    refine Wl.q (v := Value.int .i64 ((l.length : Nat) : Int)) (q_len_slice Try.underlying41 rfl) ?_
    refine Wl.q (v := Value.int .i64 0) (q_move rfl) ?_
    refine Wl.done ?_
    refine Wx.go ?_
    refine Wc.block ?_
    refine Wc.loop (X := Nat) (fun i E => E 28 = Value.int .i64 ((i : Nat) : Int) ∧ E 0 = Value.pointer (some ⟨s, 0, none⟩) ∧ E 1 = Value.slice (some ⟨vb, 0, none⟩) l.length vc ∧ E 26 = Value.slice (some ⟨vb, 0, none⟩) l.length vc ∧ E 27 = Value.int .i64 ((l.length : Nat) : Int) ∧ i ≤ l.length ∧ (∀ x ∈ l.take i, 1 ≤ x ∧ x ≤ (ts.length : Int))) (fun i => (storeI s ts) :: (pt vb 3 (l.map intV ++ ms)) :: F) (fun i => l.length - i) 0 ?_ ?_ ?_
    · exact ⟨rfl, rfl, rfl, rfl, rfl, (by omega), (fun x hx => by simp at hx)⟩
    · exact fun w hs => hs
    · rintro i E3 ⟨hE28_1, hE0_1, hE1_1, hE26_1, hE27_1, hi, hall⟩
      refine Wc.seq ?_
      refine Wc.region ?_
      by_cases hlt : ((i : Nat) : Int) < ((l.length : Nat) : Int)
      ·
        obtain ⟨o, hget⟩ : ∃ o, l[i]? = some o := ⟨l[i]'(by omega), List.getElem?_eq_getElem (by omega)⟩
        refine Wl.q (v := Value.bool true) (q_lss (r := true) hE28_1 hE27_1 (decide_eq_true hlt)) ?_
        refine Wl.done ?_
        refine Wx.go ?_
        refine Wc.seq ?_
        refine Wc.yes rfl ?_
        refine Wc.skip ?_
        refine Wx.go ?_
        refine Wc.seq ?_
        refine Wc.block ?_
        refine Wc.seq ?_
        refine Wc.region ?_
        refine Wl.q (v := Value.pointer (some ⟨vb, i, none⟩)) (q_idx (m := i) se_41 hE26_1 hE28_1 (by omega) (by omega) (by simp)) ?_
        refine Wl.q (v := Value.int .i64 o) (q_load sc_3 rfl (.cel (i := 1) rfl (app_at hget))) ?_
        refine Wl.q (v := Value.int .i64 o) (q_assign rfl) ?_
        refine Wl.done ?_
        refine Wx.go ?_
        refine Wc.seq ?_
        refine Wc.region ?_
        refine Wl.q (v := Value.int .i64 o) (q_move rfl) ?_
        by_cases hx1 : o < 1
        ·
          refine Wl.q (v := Value.bool true) (q_lss (r := true) rfl rfl (decide_eq_true hx1)) ?_
          refine Wl.q (v := Value.bool true) (q_move rfl) ?_
          refine Wl.no ?_
          refine Wl.no ?_
          refine Wl.no ?_
          refine Wl.no ?_
          refine Wl.q (v := Value.bool true) (q_pick (t := true) rfl rfl) ?_
          refine Wl.done ?_
          refine Wx.go ?_
          refine Wc.yes rfl ?_
          refine Wc.seq ?_
          refine Wc.region ?_
          refine Wl.q (v := Value.pointer none) (q_assign rfl) ?_
          refine Wl.q (v := Value.int .i64 1) (q_assign rfl) ?_
          refine Wl.done ?_
          refine Wx.go ?_
          refine Wc.ret ?_
          refine Wx.blockRet ?_
          refine Wx.thenRet ?_
          refine Wx.thenRet ?_
          refine Wx.blockRet ?_
          refine Wx.thenRet ?_
          refine Wx.fin2 rfl (.inl rfl) (fun w hs => ?_)
          exact ⟨(), trivial, rfl, hs⟩
        ·
          refine Wl.q (v := Value.bool false) (q_lss (r := false) rfl rfl (decide_eq_false hx1)) ?_
          refine Wl.q (v := Value.bool false) (q_move rfl) ?_
          refine Wl.q (v := Value.int .i64 o) (q_move rfl) ?_
          refine Wl.q (v := Value.pointer (some ⟨s, 0, none⟩)) (q_move hE0_1) ?_
          refine Wl.e (e_call (F := (pt vb 3 (l.map intV ++ ms)) :: F) (args := [Value.pointer (some ⟨s, 0, none⟩)]) Try.call28 rfl (len_c W0 s ts)) (fun _ _ => ?_)
          refine Wl.imp (L' := (storeI s ts) :: (pt vb 3 (l.map intV ++ ms)) :: F) (fun _ h => h) ?_
          by_cases hx2 : o > ((ts.length : Nat) : Int)
          ·
            refine Wl.q (v := Value.bool true) (q_gtr (r := true) rfl rfl (decide_eq_true hx2)) ?_
            refine Wl.q (v := Value.bool true) (q_pick (t := false) rfl rfl) ?_
            refine Wl.done ?_
            refine Wx.go ?_
            refine Wc.yes rfl ?_
            refine Wc.seq ?_
            refine Wc.region ?_
            refine Wl.q (v := Value.pointer none) (q_assign rfl) ?_
            refine Wl.q (v := Value.int .i64 1) (q_assign rfl) ?_
            refine Wl.done ?_
            refine Wx.go ?_
            refine Wc.ret ?_
            refine Wx.blockRet ?_
            refine Wx.thenRet ?_
            refine Wx.thenRet ?_
            refine Wx.blockRet ?_
            refine Wx.thenRet ?_
            refine Wx.fin2 rfl (.inl rfl) (fun w hs => ?_)
            exact ⟨(), trivial, rfl, hs⟩
          ·
            refine Wl.q (v := Value.bool false) (q_gtr (r := false) rfl rfl (decide_eq_false hx2)) ?_
            refine Wl.q (v := Value.bool false) (q_pick (t := false) rfl rfl) ?_
            refine Wl.done ?_
            refine Wx.go ?_
            refine Wc.no rfl ?_
            refine Wc.skip ?_
            refine Wx.blockEnd ?_
            refine Wx.go ?_
            refine Wc.region ?_
            refine Wl.q (v := Value.int .i64 ((i + 1 : Nat) : Int)) (q_add (c := ((i + 1 : Nat) : Int)) hE28_1 rfl (by rw [wrap_i64] <;> omega)) ?_
            refine Wl.q (v := Value.int .i64 ((i + 1 : Nat) : Int)) (q_move rfl) ?_
            refine Wl.done ?_
            refine Wx.at (i + 1) ⟨(by omega), rfl, hE0_1, hE1_1, hE26_1, hE27_1, (by omega), (take_all hget hall ⟨by omega, by omega⟩)⟩ (fun w hs => hs)
      ·
        exfalso
        obtain ⟨z, hz, hzn⟩ := hbad
        rw [show i = l.length by omega, List.take_length] at hall
        exact hzn (hall z hz)
  ·
    refine Wl.q (v := Value.bool false) (q_eql (r := false) rfl rfl (decide_eq_false h1)) ?_
    refine Wl.q (v := Value.bool false) (q_move rfl) ?_
    refine Wl.no ?_
    refine Wl.no ?_
    refine Wl.no ?_
    refine Wl.q (v := Value.bool false) (q_pick (t := false) rfl rfl) ?_
    refine Wl.q (v := Value.bool false) (q_pick (t := false) rfl rfl) ?_
    refine Wl.done ?_
    refine Wx.go ?_
    refine Wc.no rfl ?_
    refine Wc.skip ?_
    refine Wx.go ?_
    refine Wc.seq ?_
    refine Wc.seq ?_
    refine Wc.region ?_
    refine Wl.q (v := Value.slice (some ⟨vb, 0, none⟩) l.length vc) (q_move rfl) ?_
    refine Wl.q (v := Value.int .i64 ((l.length : Nat) : Int)) (q_len_slice Try.underlying41 rfl) ?_
    refine Wl.q (v := Value.bool false) (q_gtr (r := false) rfl rfl (decide_eq_false (by omega))) ?_
    refine Wl.done ?_
    refine Wx.go ?_
    refine Wc.no rfl ?_
    refine Wc.skip ?_
    refine Wx.go ?_
    refine Wc.seq ?_
    refine Wc.seq ?_
    refine Wc.region ?_
    refine Wl.q (v := Value.slice (some ⟨vb, 0, none⟩) l.length vc) (q_move rfl) ?_
    refine Wl.q (v := Value.int .i64 ((l.length : Nat) : Int)) (q_len_slice Try.underlying41 rfl) ?_
    refine Wl.q (v := Value.int .i64 0) (q_move rfl) ?_
    refine Wl.done ?_
    refine Wx.go ?_
    refine Wc.block ?_
    refine Wc.loop (X := Nat) (fun i E => E 28 = Value.int .i64 ((i : Nat) : Int) ∧ E 0 = Value.pointer (some ⟨s, 0, none⟩) ∧ E 1 = Value.slice (some ⟨vb, 0, none⟩) l.length vc ∧ E 26 = Value.slice (some ⟨vb, 0, none⟩) l.length vc ∧ E 27 = Value.int .i64 ((l.length : Nat) : Int) ∧ i ≤ l.length ∧ (∀ x ∈ l.take i, 1 ≤ x ∧ x ≤ (ts.length : Int))) (fun i => (storeI s ts) :: (pt vb 3 (l.map intV ++ ms)) :: F) (fun i => l.length - i) 0 ?_ ?_ ?_
    · exact ⟨rfl, rfl, rfl, rfl, rfl, (by omega), (fun x hx => by simp at hx)⟩
    · exact fun w hs => hs
    · rintro i E5 ⟨hE28_3, hE0_3, hE1_3, hE26_3, hE27_3, hi, hall⟩
      refine Wc.seq ?_
      refine Wc.region ?_
      by_cases hlt : ((i : Nat) : Int) < ((l.length : Nat) : Int)
      ·
        obtain ⟨o, hget⟩ : ∃ o, l[i]? = some o := ⟨l[i]'(by omega), List.getElem?_eq_getElem (by omega)⟩
        refine Wl.q (v := Value.bool true) (q_lss (r := true) hE28_3 hE27_3 (decide_eq_true hlt)) ?_
        refine Wl.done ?_
        refine Wx.go ?_
        refine Wc.seq ?_
        refine Wc.yes rfl ?_
        refine Wc.skip ?_
        refine Wx.go ?_
        refine Wc.seq ?_
        refine Wc.block ?_
        refine Wc.seq ?_
        refine Wc.region ?_
        refine Wl.q (v := Value.pointer (some ⟨vb, i, none⟩)) (q_idx (m := i) se_41 hE26_3 hE28_3 (by omega) (by omega) (by simp)) ?_
        refine Wl.q (v := Value.int .i64 o) (q_load sc_3 rfl (.cel (i := 1) rfl (app_at hget))) ?_
        refine Wl.q (v := Value.int .i64 o) (q_assign rfl) ?_
        refine Wl.done ?_
        refine Wx.go ?_
        refine Wc.seq ?_
        refine Wc.region ?_
        refine Wl.q (v := Value.int .i64 o) (q_move rfl) ?_
        by_cases hx1 : o < 1
        ·
          refine Wl.q (v := Value.bool true) (q_lss (r := true) rfl rfl (decide_eq_true hx1)) ?_
          refine Wl.q (v := Value.bool true) (q_move rfl) ?_
          refine Wl.no ?_
          refine Wl.no ?_
          refine Wl.no ?_
          refine Wl.no ?_
          refine Wl.q (v := Value.bool true) (q_pick (t := true) rfl rfl) ?_
          refine Wl.done ?_
          refine Wx.go ?_
          refine Wc.yes rfl ?_
          refine Wc.seq ?_
          refine Wc.region ?_
          refine Wl.q (v := Value.pointer none) (q_assign rfl) ?_
          refine Wl.q (v := Value.int .i64 1) (q_assign rfl) ?_
          refine Wl.done ?_
          refine Wx.go ?_
          refine Wc.ret ?_
          refine Wx.blockRet ?_
          refine Wx.thenRet ?_
          refine Wx.thenRet ?_
          refine Wx.blockRet ?_
          refine Wx.thenRet ?_
          refine Wx.fin2 rfl (.inl rfl) (fun w hs => ?_)
          exact ⟨(), trivial, rfl, hs⟩
        ·
          refine Wl.q (v := Value.bool false) (q_lss (r := false) rfl rfl (decide_eq_false hx1)) ?_
          refine Wl.q (v := Value.bool false) (q_move rfl) ?_
          refine Wl.q (v := Value.int .i64 o) (q_move rfl) ?_
          refine Wl.q (v := Value.pointer (some ⟨s, 0, none⟩)) (q_move hE0_3) ?_
          refine Wl.e (e_call (F := (pt vb 3 (l.map intV ++ ms)) :: F) (args := [Value.pointer (some ⟨s, 0, none⟩)]) Try.call28 rfl (len_c W0 s ts)) (fun _ _ => ?_)
          refine Wl.imp (L' := (storeI s ts) :: (pt vb 3 (l.map intV ++ ms)) :: F) (fun _ h => h) ?_
          by_cases hx2 : o > ((ts.length : Nat) : Int)
          ·
            refine Wl.q (v := Value.bool true) (q_gtr (r := true) rfl rfl (decide_eq_true hx2)) ?_
            refine Wl.q (v := Value.bool true) (q_pick (t := false) rfl rfl) ?_
            refine Wl.done ?_
            refine Wx.go ?_
            refine Wc.yes rfl ?_
            refine Wc.seq ?_
            refine Wc.region ?_
            refine Wl.q (v := Value.pointer none) (q_assign rfl) ?_
            refine Wl.q (v := Value.int .i64 1) (q_assign rfl) ?_
            refine Wl.done ?_
            refine Wx.go ?_
            refine Wc.ret ?_
            refine Wx.blockRet ?_
            refine Wx.thenRet ?_
            refine Wx.thenRet ?_
            refine Wx.blockRet ?_
            refine Wx.thenRet ?_
            refine Wx.fin2 rfl (.inl rfl) (fun w hs => ?_)
            exact ⟨(), trivial, rfl, hs⟩
          ·
            refine Wl.q (v := Value.bool false) (q_gtr (r := false) rfl rfl (decide_eq_false hx2)) ?_
            refine Wl.q (v := Value.bool false) (q_pick (t := false) rfl rfl) ?_
            refine Wl.done ?_
            refine Wx.go ?_
            refine Wc.no rfl ?_
            refine Wc.skip ?_
            refine Wx.blockEnd ?_
            refine Wx.go ?_
            refine Wc.region ?_
            refine Wl.q (v := Value.int .i64 ((i + 1 : Nat) : Int)) (q_add (c := ((i + 1 : Nat) : Int)) hE28_3 rfl (by rw [wrap_i64] <;> omega)) ?_
            refine Wl.q (v := Value.int .i64 ((i + 1 : Nat) : Int)) (q_move rfl) ?_
            refine Wl.done ?_
            refine Wx.at (i + 1) ⟨(by omega), rfl, hE0_3, hE1_3, hE26_3, hE27_3, (by omega), (take_all hget hall ⟨by omega, by omega⟩)⟩ (fun w hs => hs)
      ·
        exfalso
        obtain ⟨z, hz, hzn⟩ := hbad
        rw [show i = l.length by omega, List.take_length] at hall
        exact hzn (hall z hz)

set_option maxRecDepth 4000 in
theorem new_ok_pt (W0 : World) (s : Nat) (ts : List TermR) (hw : Wf ts) (hl : ts.length ≤ 1048576) (vb vc : Nat) (l : List Int) (ms : List Value) (hkm : l.length ≤ 9223372036854775807) (hshort : l.length ≤ 65536) (hall0 : ∀ x ∈ l, 1 ≤ x ∧ x ≤ (ts.length : Int)) :
    Con Try.prog W0 14 #[Value.pointer (some ⟨s, 0, none⟩), Value.slice (some ⟨vb, 0, none⟩) l.length vc] [storeI s ts, pt vb 3 (l.map intV ++ ms)] (X := Nat) (fun _ => True) (fun k => .tuple #[.pointer (some ⟨k, 0, none⟩), .int .i64 0]) (fun k => [knowK k s ts (KL l), storeI s ts, pt vb 3 (l.map intV ++ ms)]) := by
  refine Con.of (args := [Value.pointer (some ⟨s, 0, none⟩), Value.slice (some ⟨vb, 0, none⟩) l.length vc]) Try.func14 rfl Try.ntmps14 rfl (fun F => ?_)
  show Wc _ W0 _ _ _ _ _ ((storeI s ts) :: (pt vb 3 (l.map intV ++ ms)) :: F)
  refine Wc.seq ?_
  refine Wc.region ?_
  refine Wl.q (v := Value.pointer none) (q_assign rfl) ?_
  refine Wl.q (v := Value.int .i64 0) (q_assign rfl) ?_
  refine Wl.done ?_
  refine Wx.go ?_
  refine Wc.seq ?_
  refine Wc.seq ?_
  refine Wc.region ?_
  refine Wl.q (v := Value.pointer (some ⟨s, 0, none⟩)) (q_move rfl) ?_
  refine Wl.q (v := Value.bool false) (q_eql_nil (r := false) rfl rfl Try.underlying22 rfl) ?_
  refine Wl.q (v := Value.bool false) (q_move rfl) ?_
  refine Wl.q (v := Value.pointer (some ⟨s, 0, none⟩)) (q_move rfl) ?_
  refine Wl.e (e_call (F := (pt vb 3 (l.map intV ++ ms)) :: F) (args := [Value.pointer (some ⟨s, 0, none⟩)]) Try.call28 rfl (len_c W0 s ts)) (fun _ _ => ?_)
  refine Wl.imp (L' := (storeI s ts) :: (pt vb 3 (l.map intV ++ ms)) :: F) (fun _ h => h) ?_
  by_cases h1 : ((ts.length : Nat) : Int) = 0
  ·
    refine Wl.q (v := Value.bool true) (q_eql (r := true) rfl rfl (decide_eq_true h1)) ?_
    refine Wl.q (v := Value.bool true) (q_move rfl) ?_
    refine Wl.q (v := Value.pointer (some ⟨s, 0, none⟩)) (q_move rfl) ?_
    refine Wl.e (e_call (F := (pt vb 3 (l.map intV ++ ms)) :: F) (args := [Value.pointer (some ⟨s, 0, none⟩)]) Try.call30 rfl (dalive_c W0 s ts)) (fun _ _ => ?_)
    refine Wl.imp (L' := (storeI s ts) :: (pt vb 3 (l.map intV ++ ms)) :: F) (fun _ h => h) ?_
    refine Wl.q (v := Value.bool false) (q_not rfl rfl) ?_
    refine Wl.q (v := Value.bool false) (q_pick (t := true) rfl rfl) ?_
    refine Wl.q (v := Value.bool false) (q_pick (t := false) rfl rfl) ?_
    refine Wl.done ?_
    refine Wx.go ?_
    refine Wc.no rfl ?_
    refine Wc.skip ?_
    refine Wx.go ?_
    refine Wc.seq ?_
    refine Wc.seq ?_
    refine Wc.region ?_
    refine Wl.q (v := Value.slice (some ⟨vb, 0, none⟩) l.length vc) (q_move rfl) ?_
    refine Wl.q (v := Value.int .i64 ((l.length : Nat) : Int)) (q_len_slice Try.underlying41 rfl) ?_
    refine Wl.q (v := Value.bool false) (q_gtr (r := false) rfl rfl (decide_eq_false (by omega))) ?_
    refine Wl.done ?_
    refine Wx.go ?_
    refine Wc.no rfl ?_
    refine Wc.skip ?_
    refine Wx.go ?_
    refine Wc.seq ?_
    refine Wc.seq ?_
    refine Wc.region ?_
    refine Wl.q (v := Value.slice (some ⟨vb, 0, none⟩) l.length vc) (q_move rfl) ?_
    refine Wl.q (v := Value.int .i64 ((l.length : Nat) : Int)) (q_len_slice Try.underlying41 rfl) ?_
    refine Wl.q (v := Value.int .i64 0) (q_move rfl) ?_
    refine Wl.done ?_
    refine Wx.go ?_
    refine Wc.block ?_
    refine Wc.loop (X := Nat) (fun i E => E 28 = Value.int .i64 ((i : Nat) : Int) ∧ E 0 = Value.pointer (some ⟨s, 0, none⟩) ∧ E 1 = Value.slice (some ⟨vb, 0, none⟩) l.length vc ∧ E 26 = Value.slice (some ⟨vb, 0, none⟩) l.length vc ∧ E 27 = Value.int .i64 ((l.length : Nat) : Int) ∧ i ≤ l.length ∧ (∀ x ∈ l.take i, 1 ≤ x ∧ x ≤ (ts.length : Int))) (fun i => (storeI s ts) :: (pt vb 3 (l.map intV ++ ms)) :: F) (fun i => l.length - i) 0 ?_ ?_ ?_
    · exact ⟨rfl, rfl, rfl, rfl, rfl, (by omega), (fun x hx => by simp at hx)⟩
    · exact fun w hs => hs
    · rintro i E3 ⟨hE28_1, hE0_1, hE1_1, hE26_1, hE27_1, hi, hall⟩
      refine Wc.seq ?_
      refine Wc.region ?_
      by_cases hlt : ((i : Nat) : Int) < ((l.length : Nat) : Int)
      ·
        obtain ⟨o, hget⟩ : ∃ o, l[i]? = some o := ⟨l[i]'(by omega), List.getElem?_eq_getElem (by omega)⟩
        have hr := hall0 o (List.mem_of_getElem? hget)
        refine Wl.q (v := Value.bool true) (q_lss (r := true) hE28_1 hE27_1 (decide_eq_true hlt)) ?_
        refine Wl.done ?_
        refine Wx.go ?_
        refine Wc.seq ?_
        refine Wc.yes rfl ?_
        refine Wc.skip ?_
        refine Wx.go ?_
        refine Wc.seq ?_
        refine Wc.block ?_
        refine Wc.seq ?_
        refine Wc.region ?_
        refine Wl.q (v := Value.pointer (some ⟨vb, i, none⟩)) (q_idx (m := i) se_41 hE26_1 hE28_1 (by omega) (by omega) (by simp)) ?_
        refine Wl.q (v := Value.int .i64 o) (q_load sc_3 rfl (.cel (i := 1) rfl (app_at hget))) ?_
        refine Wl.q (v := Value.int .i64 o) (q_assign rfl) ?_
        refine Wl.done ?_
        refine Wx.go ?_
        refine Wc.seq ?_
        refine Wc.region ?_
        refine Wl.q (v := Value.int .i64 o) (q_move rfl) ?_
        refine Wl.q (v := Value.bool false) (q_lss (r := false) rfl rfl (decide_eq_false (by omega))) ?_
        refine Wl.q (v := Value.bool false) (q_move rfl) ?_
        refine Wl.q (v := Value.int .i64 o) (q_move rfl) ?_
        refine Wl.q (v := Value.pointer (some ⟨s, 0, none⟩)) (q_move hE0_1) ?_
        refine Wl.e (e_call (F := (pt vb 3 (l.map intV ++ ms)) :: F) (args := [Value.pointer (some ⟨s, 0, none⟩)]) Try.call28 rfl (len_c W0 s ts)) (fun _ _ => ?_)
        refine Wl.imp (L' := (storeI s ts) :: (pt vb 3 (l.map intV ++ ms)) :: F) (fun _ h => h) ?_
        refine Wl.q (v := Value.bool false) (q_gtr (r := false) rfl rfl (decide_eq_false (by omega))) ?_
        refine Wl.q (v := Value.bool false) (q_pick (t := false) rfl rfl) ?_
        refine Wl.done ?_
        refine Wx.go ?_
        refine Wc.no rfl ?_
        refine Wc.skip ?_
        refine Wx.blockEnd ?_
        refine Wx.go ?_
        refine Wc.region ?_
        refine Wl.q (v := Value.int .i64 ((i + 1 : Nat) : Int)) (q_add (c := ((i + 1 : Nat) : Int)) hE28_1 rfl (by rw [wrap_i64] <;> omega)) ?_
        refine Wl.q (v := Value.int .i64 ((i + 1 : Nat) : Int)) (q_move rfl) ?_
        refine Wl.done ?_
        refine Wx.at (i + 1) ⟨(by omega), rfl, hE0_1, hE1_1, hE26_1, hE27_1, (by omega), (take_all hget hall ⟨by omega, by omega⟩)⟩ (fun w hs => hs)
      ·
        refine Wl.q (v := Value.bool false) (q_lss (r := false) hE28_1 hE27_1 (decide_eq_false hlt)) ?_
        refine Wl.done ?_
        refine Wx.go ?_
        refine Wc.seq ?_
        refine Wc.no rfl ?_
        refine Wc.exit ?_
        refine Wx.thenExit ?_
        refine Wx.thenExit ?_
        refine Wx.out ?_
        refine Wx.go ?_
        refine Wc.seq ?_
        refine Wc.region ?_
        refine Wl.q (v := Value.pointer (some ⟨s, 0, none⟩)) (q_move hE0_1) ?_
        refine Wl.e (e_buildSlice (cs := [Value.bool true]) se_71 zo_4 (by decide) (by decide) (by kernel_rfl)) (fun hb0 _ => ?_)
        refine Wl.imp (L' := (pt hb0 4 [Value.bool true]) :: (storeI s ts) :: (pt vb 3 (l.map intV ++ ms)) :: F) (fun _ h => h) ?_
        refine Wl.e (e_buildSlice (cs := [Value.slice none 0 0]) se_72 zo_41 (by decide) (by decide) (by kernel_rfl)) (fun ub0 _ => ?_)
        refine Wl.imp (L' := (pt ub0 41 [Value.slice none 0 0]) :: (pt hb0 4 [Value.bool true]) :: (storeI s ts) :: (pt vb 3 (l.map intV ++ ms)) :: F) (fun _ h => h) ?_
        refine Wl.q (v := Value.agg #[Value.pointer (some ⟨s, 0, none⟩), Value.slice (some ⟨hb0, 0, none⟩) 1 1, Value.slice (some ⟨ub0, 0, none⟩) 1 1, Value.slice none 0 0]) (q_build (pl := [(0, 1), (1, 1), (2, 1), (3, 1)]) Try.underlying74 zo_74 (by kernel_rfl) (by kernel_rfl)) ?_
        refine Wl.e (e_box (x := .tmp 44) (vs := [Value.pointer (some ⟨s, 0, none⟩), Value.slice (some ⟨hb0, 0, none⟩) 1 1, Value.slice (some ⟨ub0, 0, none⟩) 1 1, Value.slice none 0 0]) rfl) (fun k _ => ?_)
        refine Wl.imp (L' := (pt k 74 [Value.pointer (some ⟨s, 0, none⟩), Value.slice (some ⟨hb0, 0, none⟩) 1 1, Value.slice (some ⟨ub0, 0, none⟩) 1 1, Value.slice none 0 0]) :: (pt ub0 41 [Value.slice none 0 0]) :: (pt hb0 4 [Value.bool true]) :: (storeI s ts) :: (pt vb 3 (l.map intV ++ ms)) :: F) (fun _ h => h) ?_
        refine Wl.q (v := Value.pointer (some ⟨k, 0, none⟩)) (q_assign rfl) ?_
        refine Wl.done ?_
        refine Wx.go ?_
        refine Wc.seq ?_
        refine Wc.region ?_
        refine Wl.imp (L' := (knowI k s [true] ([[]])) :: (storeI s ts) :: (pt vb 3 (l.map intV ++ ms)) :: F) (fun w hs => know_start (st_pull [0, 1, 0, 0, 0] (hs))) ?_
        refine Wl.q (v := Value.pointer (some ⟨k, 0, none⟩)) (q_move rfl) ?_
        refine Wl.e (e_call (F := (pt vb 3 (l.map intV ++ ms)) :: F) (args := [Value.pointer (some ⟨k, 0, none⟩)]) Try.call31 rfl (kgrow_c W0 k s [true] ([[]]) ts 0 (KL l) (Inv.start hw (KL l)) hl)) (fun y ⟨hy, hyu⟩ => ?_)
        refine Wl.imp (L' := (knowI k s y.1 y.2) :: (storeI s ts) :: (pt vb 3 (l.map intV ++ ms)) :: F) (fun _ h => h) ?_
        refine Wl.done ?_
        refine Wx.go ?_
        refine Wc.seq ?_
        refine Wc.seq ?_
        refine Wc.region ?_
        obtain ⟨h2, us2⟩ := y
        dsimp only at *
        have hyl := hy.len
        refine Wl.imp (L' := (knowI k s h2 us2) :: (storeI s ts) :: (pt vb 3 (l.map intV ++ ms)) :: F) (fun _ h => h) ?_
        refine Wl.know (k := k) (s := s) (h := h2) (us := us2) (fun w hs => hs) (fun hb hc ub uc tv vs hvu => ?_)
        refine Wl.q (v := Value.slice (some ⟨vb, 0, none⟩) l.length vc) (q_move hE1_1) ?_
        refine Wl.q (v := Value.int .i64 ((l.length : Nat) : Int)) (q_len_slice Try.underlying41 rfl) ?_
        refine Wl.q (v := Value.int .i64 0) (q_move rfl) ?_
        refine Wl.done ?_
        refine Wx.go ?_
        refine Wc.block ?_
        refine Wc.loop (X := Nat × Value × Sd) (fun (i, tw, Z) E => E 50 = Value.int .i64 ((i : Nat) : Int) ∧ E 8 = Value.pointer (some ⟨k, 0, none⟩) ∧ E 48 = Value.slice (some ⟨vb, 0, none⟩) l.length vc ∧ E 49 = Value.int .i64 ((l.length : Nat) : Int) ∧ i ≤ l.length ∧ Inv ts ts.length (KL l) us2 no no no Z ∧ (∀ x ∈ l.take i, hN Z.1 x.toNat = true)) (fun (i, tw, Z) => (pt k 74 [Value.pointer (some ⟨s, 0, none⟩), Value.slice (some ⟨hb, 0, none⟩) h2.length hc, Value.slice (some ⟨ub, 0, none⟩) vs.length uc, tw]) :: (slp 4 1 hb hc (Z.1.map Value.bool)) :: (sl 3 1 tw Z.2.length (Z.2.map natV)) :: (slp 41 1 ub uc vs) :: (grp (inners vs us2)) :: (storeI s ts) :: (pt vb 3 (l.map intV ++ ms)) :: F) (fun (i, tw, Z) => l.length - i) (0, tv, (h2, [])) ?_ ?_ ?_
        · exact ⟨rfl, rfl, rfl, rfl, (by omega), hy, (fun x hx => by simp at hx)⟩
        · exact fun w hs => hs
        · rintro ⟨i, tw, Z⟩ E5 ⟨hE50_3, hE8_3, hE48_3, hE49_3, hi, hZ, hdone⟩
          dsimp only at *
          refine Wc.seq ?_
          refine Wc.region ?_
          by_cases hlt2 : ((i : Nat) : Int) < ((l.length : Nat) : Int)
          ·
            have hZl := hZ.len
            have hZt := hZ.le
            obtain ⟨o, hget⟩ : ∃ o, l[i]? = some o := ⟨l[i]'(by omega), List.getElem?_eq_getElem (by omega)⟩
            have hmem := List.mem_of_getElem? hget
            have hr := hall0 o hmem
            have hmk := Inv.marks hZ hr.1 hr.2 ⟨o, hmem, rfl⟩
            refine Wl.q (v := Value.bool true) (q_lss (r := true) hE50_3 hE49_3 (decide_eq_true hlt2)) ?_
            refine Wl.done ?_
            refine Wx.go ?_
            refine Wc.seq ?_
            refine Wc.yes rfl ?_
            refine Wc.skip ?_
            refine Wx.go ?_
            refine Wc.seq ?_
            refine Wc.block ?_
            refine Wc.seq ?_
            refine Wc.region ?_
            refine Wl.q (v := Value.pointer (some ⟨vb, i, none⟩)) (q_idx (m := i) se_41 hE48_3 hE50_3 (by omega) (by omega) (by simp)) ?_
            refine Wl.q (v := Value.int .i64 o) (q_load sc_3 rfl (.cel (i := 6) rfl (app_at hget))) ?_
            refine Wl.q (v := Value.int .i64 o) (q_assign rfl) ?_
            refine Wl.done ?_
            refine Wx.go ?_
            refine Wc.region ?_
            refine Wl.q (v := Value.pointer (some ⟨k, 0, none⟩)) (q_move hE8_3) ?_
            refine Wl.q (v := Value.int .i64 o) (q_move rfl) ?_
            refine Wl.e (e_call (F := (slp 41 1 ub uc vs) :: (grp (inners vs us2)) :: (storeI s ts) :: (pt vb 3 (l.map intV ++ ms)) :: F) (args := [Value.pointer (some ⟨k, 0, none⟩), Value.int .i64 o]) Try.call32 rfl (mark_c W0 k s hb hc ub uc vs.length h2.length (tw) Z o (by omega) (by omega) (by omega) (by omega))) (fun tv6 _ => ?_)
            refine Wl.imp (L' := (pt k 74 [Value.pointer (some ⟨s, 0, none⟩), Value.slice (some ⟨hb, 0, none⟩) h2.length hc, Value.slice (some ⟨ub, 0, none⟩) vs.length uc, tv6]) :: (slp 4 1 hb hc ((mkF Z ((o).toNat)).1.map Value.bool)) :: (sl 3 1 tv6 ((mkF Z ((o).toNat)).2.length) ((mkF Z ((o).toNat)).2.map natV)) :: (slp 41 1 ub uc vs) :: (grp (inners vs us2)) :: (storeI s ts) :: (pt vb 3 (l.map intV ++ ms)) :: F) (fun _ h => h) ?_
            refine Wl.done ?_
            refine Wx.blockEnd ?_
            refine Wx.go ?_
            refine Wc.region ?_
            refine Wl.q (v := Value.int .i64 ((i + 1 : Nat) : Int)) (q_add (c := ((i + 1 : Nat) : Int)) hE50_3 rfl (by rw [wrap_i64] <;> omega)) ?_
            refine Wl.q (v := Value.int .i64 ((i + 1 : Nat) : Int)) (q_move rfl) ?_
            refine Wl.done ?_
            refine Wx.at (i + 1, tv6, mkF Z o.toNat) ⟨(by simp only; omega), rfl, hE8_3, hE48_3, hE49_3, (by simp only; omega), hmk.1, (mark_all hget hdone hmk.2.1 hmk.2.2)⟩ (fun w hs => hs)
          ·
            have hZl := hZ.len
            have hZt := hZ.le
            rw [show i = l.length by omega, List.take_length] at hdone
            refine Wl.q (v := Value.bool false) (q_lss (r := false) hE50_3 hE49_3 (decide_eq_false hlt2)) ?_
            refine Wl.done ?_
            refine Wx.go ?_
            refine Wc.seq ?_
            refine Wc.no rfl ?_
            refine Wc.exit ?_
            refine Wx.thenExit ?_
            refine Wx.thenExit ?_
            refine Wx.out ?_
            refine Wx.go ?_
            refine Wc.seq ?_
            refine Wc.region ?_
            refine Wl.q (v := Value.pointer (some ⟨k, 0, none⟩)) (q_move hE8_3) ?_
            refine Wl.imp (L' := (pt k 74 [Value.pointer (some ⟨s, 0, none⟩), Value.slice (some ⟨hb, 0, none⟩) h2.length hc, Value.slice (some ⟨ub, 0, none⟩) vs.length uc, tw]) :: (slp 4 1 hb hc (Z.1.map Value.bool)) :: (sl 3 1 tw Z.2.length (Z.2.map natV)) :: (storeI s ts) :: (slp 41 1 ub uc vs) :: (grp (inners vs us2)) :: (pt vb 3 (l.map intV ++ ms)) :: F) (fun _ h => st_pull [0, 0, 0, 2, 0, 0] h) ?_
            refine Wl.e (e_call (F := (pt vb 3 (l.map intV ++ ms)) :: F) (args := [Value.pointer (some ⟨k, 0, none⟩)]) Try.call33 rfl (krun_c W0 k s hb hc ub uc vs.length h2.length (tw) vs us2 ts ts.length (KL l) Z hZ hl (by omega) hvu rfl)) (fun z ⟨hz, hzu⟩ => ?_)
            refine Wl.imp (L' := (pt k 74 [Value.pointer (some ⟨s, 0, none⟩), Value.slice (some ⟨hb, 0, none⟩) h2.length hc, Value.slice (some ⟨ub, 0, none⟩) vs.length uc, z.1]) :: (slp 4 1 hb hc (z.2.map Value.bool)) :: (sl 3 1 z.1 0 []) :: (storeI s ts) :: (slp 41 1 ub uc vs) :: (grp (inners vs us2)) :: (pt vb 3 (l.map intV ++ ms)) :: F) (fun _ h => h) ?_
            refine Wl.done ?_
            refine Wx.go ?_
            refine Wc.seq ?_
            refine Wc.region ?_
            refine Wl.q (v := Value.pointer (some ⟨k, 0, none⟩)) (q_move hE8_3) ?_
            refine Wl.q (v := Value.pointer (some ⟨k, 0, none⟩)) (q_assign rfl) ?_
            refine Wl.q (v := Value.int .i64 0) (q_assign rfl) ?_
            refine Wl.done ?_
            refine Wx.go ?_
            refine Wc.ret ?_
            refine Wx.fin2 rfl (.inl rfl) (fun w hs => ?_)
            exact ⟨k, trivial, rfl, knowK_mk (h := z.2) (us := us2) ⟨_, hz, fun n ⟨x, hx, e⟩ => e ▸ hzu _ (hdone x hx)⟩ (knowI_mk hvu (by have hs := (st_pull [0, 0, 0, 1, 1, 0, 0] (hs)); rw [show h2.length = z.2.length from by have h1 := hz.len; simp only at h1; omega] at hs; exact hs))⟩
  ·
    refine Wl.q (v := Value.bool false) (q_eql (r := false) rfl rfl (decide_eq_false h1)) ?_
    refine Wl.q (v := Value.bool false) (q_move rfl) ?_
    refine Wl.no ?_
    refine Wl.no ?_
    refine Wl.no ?_
    refine Wl.q (v := Value.bool false) (q_pick (t := false) rfl rfl) ?_
    refine Wl.q (v := Value.bool false) (q_pick (t := false) rfl rfl) ?_
    refine Wl.done ?_
    refine Wx.go ?_
    refine Wc.no rfl ?_
    refine Wc.skip ?_
    refine Wx.go ?_
    refine Wc.seq ?_
    refine Wc.seq ?_
    refine Wc.region ?_
    refine Wl.q (v := Value.slice (some ⟨vb, 0, none⟩) l.length vc) (q_move rfl) ?_
    refine Wl.q (v := Value.int .i64 ((l.length : Nat) : Int)) (q_len_slice Try.underlying41 rfl) ?_
    refine Wl.q (v := Value.bool false) (q_gtr (r := false) rfl rfl (decide_eq_false (by omega))) ?_
    refine Wl.done ?_
    refine Wx.go ?_
    refine Wc.no rfl ?_
    refine Wc.skip ?_
    refine Wx.go ?_
    refine Wc.seq ?_
    refine Wc.seq ?_
    refine Wc.region ?_
    refine Wl.q (v := Value.slice (some ⟨vb, 0, none⟩) l.length vc) (q_move rfl) ?_
    refine Wl.q (v := Value.int .i64 ((l.length : Nat) : Int)) (q_len_slice Try.underlying41 rfl) ?_
    refine Wl.q (v := Value.int .i64 0) (q_move rfl) ?_
    refine Wl.done ?_
    refine Wx.go ?_
    refine Wc.block ?_
    refine Wc.loop (X := Nat) (fun i E => E 28 = Value.int .i64 ((i : Nat) : Int) ∧ E 0 = Value.pointer (some ⟨s, 0, none⟩) ∧ E 1 = Value.slice (some ⟨vb, 0, none⟩) l.length vc ∧ E 26 = Value.slice (some ⟨vb, 0, none⟩) l.length vc ∧ E 27 = Value.int .i64 ((l.length : Nat) : Int) ∧ i ≤ l.length ∧ (∀ x ∈ l.take i, 1 ≤ x ∧ x ≤ (ts.length : Int))) (fun i => (storeI s ts) :: (pt vb 3 (l.map intV ++ ms)) :: F) (fun i => l.length - i) 0 ?_ ?_ ?_
    · exact ⟨rfl, rfl, rfl, rfl, rfl, (by omega), (fun x hx => by simp at hx)⟩
    · exact fun w hs => hs
    · rintro i E8 ⟨hE28_6, hE0_6, hE1_6, hE26_6, hE27_6, hi, hall⟩
      refine Wc.seq ?_
      refine Wc.region ?_
      by_cases hlt : ((i : Nat) : Int) < ((l.length : Nat) : Int)
      ·
        obtain ⟨o, hget⟩ : ∃ o, l[i]? = some o := ⟨l[i]'(by omega), List.getElem?_eq_getElem (by omega)⟩
        have hr := hall0 o (List.mem_of_getElem? hget)
        refine Wl.q (v := Value.bool true) (q_lss (r := true) hE28_6 hE27_6 (decide_eq_true hlt)) ?_
        refine Wl.done ?_
        refine Wx.go ?_
        refine Wc.seq ?_
        refine Wc.yes rfl ?_
        refine Wc.skip ?_
        refine Wx.go ?_
        refine Wc.seq ?_
        refine Wc.block ?_
        refine Wc.seq ?_
        refine Wc.region ?_
        refine Wl.q (v := Value.pointer (some ⟨vb, i, none⟩)) (q_idx (m := i) se_41 hE26_6 hE28_6 (by omega) (by omega) (by simp)) ?_
        refine Wl.q (v := Value.int .i64 o) (q_load sc_3 rfl (.cel (i := 1) rfl (app_at hget))) ?_
        refine Wl.q (v := Value.int .i64 o) (q_assign rfl) ?_
        refine Wl.done ?_
        refine Wx.go ?_
        refine Wc.seq ?_
        refine Wc.region ?_
        refine Wl.q (v := Value.int .i64 o) (q_move rfl) ?_
        refine Wl.q (v := Value.bool false) (q_lss (r := false) rfl rfl (decide_eq_false (by omega))) ?_
        refine Wl.q (v := Value.bool false) (q_move rfl) ?_
        refine Wl.q (v := Value.int .i64 o) (q_move rfl) ?_
        refine Wl.q (v := Value.pointer (some ⟨s, 0, none⟩)) (q_move hE0_6) ?_
        refine Wl.e (e_call (F := (pt vb 3 (l.map intV ++ ms)) :: F) (args := [Value.pointer (some ⟨s, 0, none⟩)]) Try.call28 rfl (len_c W0 s ts)) (fun _ _ => ?_)
        refine Wl.imp (L' := (storeI s ts) :: (pt vb 3 (l.map intV ++ ms)) :: F) (fun _ h => h) ?_
        refine Wl.q (v := Value.bool false) (q_gtr (r := false) rfl rfl (decide_eq_false (by omega))) ?_
        refine Wl.q (v := Value.bool false) (q_pick (t := false) rfl rfl) ?_
        refine Wl.done ?_
        refine Wx.go ?_
        refine Wc.no rfl ?_
        refine Wc.skip ?_
        refine Wx.blockEnd ?_
        refine Wx.go ?_
        refine Wc.region ?_
        refine Wl.q (v := Value.int .i64 ((i + 1 : Nat) : Int)) (q_add (c := ((i + 1 : Nat) : Int)) hE28_6 rfl (by rw [wrap_i64] <;> omega)) ?_
        refine Wl.q (v := Value.int .i64 ((i + 1 : Nat) : Int)) (q_move rfl) ?_
        refine Wl.done ?_
        refine Wx.at (i + 1) ⟨(by omega), rfl, hE0_6, hE1_6, hE26_6, hE27_6, (by omega), (take_all hget hall ⟨by omega, by omega⟩)⟩ (fun w hs => hs)
      ·
        refine Wl.q (v := Value.bool false) (q_lss (r := false) hE28_6 hE27_6 (decide_eq_false hlt)) ?_
        refine Wl.done ?_
        refine Wx.go ?_
        refine Wc.seq ?_
        refine Wc.no rfl ?_
        refine Wc.exit ?_
        refine Wx.thenExit ?_
        refine Wx.thenExit ?_
        refine Wx.out ?_
        refine Wx.go ?_
        refine Wc.seq ?_
        refine Wc.region ?_
        refine Wl.q (v := Value.pointer (some ⟨s, 0, none⟩)) (q_move hE0_6) ?_
        refine Wl.e (e_buildSlice (cs := [Value.bool true]) se_71 zo_4 (by decide) (by decide) (by kernel_rfl)) (fun hb0 _ => ?_)
        refine Wl.imp (L' := (pt hb0 4 [Value.bool true]) :: (storeI s ts) :: (pt vb 3 (l.map intV ++ ms)) :: F) (fun _ h => h) ?_
        refine Wl.e (e_buildSlice (cs := [Value.slice none 0 0]) se_72 zo_41 (by decide) (by decide) (by kernel_rfl)) (fun ub0 _ => ?_)
        refine Wl.imp (L' := (pt ub0 41 [Value.slice none 0 0]) :: (pt hb0 4 [Value.bool true]) :: (storeI s ts) :: (pt vb 3 (l.map intV ++ ms)) :: F) (fun _ h => h) ?_
        refine Wl.q (v := Value.agg #[Value.pointer (some ⟨s, 0, none⟩), Value.slice (some ⟨hb0, 0, none⟩) 1 1, Value.slice (some ⟨ub0, 0, none⟩) 1 1, Value.slice none 0 0]) (q_build (pl := [(0, 1), (1, 1), (2, 1), (3, 1)]) Try.underlying74 zo_74 (by kernel_rfl) (by kernel_rfl)) ?_
        refine Wl.e (e_box (x := .tmp 44) (vs := [Value.pointer (some ⟨s, 0, none⟩), Value.slice (some ⟨hb0, 0, none⟩) 1 1, Value.slice (some ⟨ub0, 0, none⟩) 1 1, Value.slice none 0 0]) rfl) (fun k _ => ?_)
        refine Wl.imp (L' := (pt k 74 [Value.pointer (some ⟨s, 0, none⟩), Value.slice (some ⟨hb0, 0, none⟩) 1 1, Value.slice (some ⟨ub0, 0, none⟩) 1 1, Value.slice none 0 0]) :: (pt ub0 41 [Value.slice none 0 0]) :: (pt hb0 4 [Value.bool true]) :: (storeI s ts) :: (pt vb 3 (l.map intV ++ ms)) :: F) (fun _ h => h) ?_
        refine Wl.q (v := Value.pointer (some ⟨k, 0, none⟩)) (q_assign rfl) ?_
        refine Wl.done ?_
        refine Wx.go ?_
        refine Wc.seq ?_
        refine Wc.region ?_
        refine Wl.imp (L' := (knowI k s [true] ([[]])) :: (storeI s ts) :: (pt vb 3 (l.map intV ++ ms)) :: F) (fun w hs => know_start (st_pull [0, 1, 0, 0, 0] (hs))) ?_
        refine Wl.q (v := Value.pointer (some ⟨k, 0, none⟩)) (q_move rfl) ?_
        refine Wl.e (e_call (F := (pt vb 3 (l.map intV ++ ms)) :: F) (args := [Value.pointer (some ⟨k, 0, none⟩)]) Try.call31 rfl (kgrow_c W0 k s [true] ([[]]) ts 0 (KL l) (Inv.start hw (KL l)) hl)) (fun y ⟨hy, hyu⟩ => ?_)
        refine Wl.imp (L' := (knowI k s y.1 y.2) :: (storeI s ts) :: (pt vb 3 (l.map intV ++ ms)) :: F) (fun _ h => h) ?_
        refine Wl.done ?_
        refine Wx.go ?_
        refine Wc.seq ?_
        refine Wc.seq ?_
        refine Wc.region ?_
        obtain ⟨h2, us2⟩ := y
        dsimp only at *
        have hyl := hy.len
        refine Wl.imp (L' := (knowI k s h2 us2) :: (storeI s ts) :: (pt vb 3 (l.map intV ++ ms)) :: F) (fun _ h => h) ?_
        refine Wl.know (k := k) (s := s) (h := h2) (us := us2) (fun w hs => hs) (fun hb hc ub uc tv vs hvu => ?_)
        refine Wl.q (v := Value.slice (some ⟨vb, 0, none⟩) l.length vc) (q_move hE1_6) ?_
        refine Wl.q (v := Value.int .i64 ((l.length : Nat) : Int)) (q_len_slice Try.underlying41 rfl) ?_
        refine Wl.q (v := Value.int .i64 0) (q_move rfl) ?_
        refine Wl.done ?_
        refine Wx.go ?_
        refine Wc.block ?_
        refine Wc.loop (X := Nat × Value × Sd) (fun (i, tw, Z) E => E 50 = Value.int .i64 ((i : Nat) : Int) ∧ E 8 = Value.pointer (some ⟨k, 0, none⟩) ∧ E 48 = Value.slice (some ⟨vb, 0, none⟩) l.length vc ∧ E 49 = Value.int .i64 ((l.length : Nat) : Int) ∧ i ≤ l.length ∧ Inv ts ts.length (KL l) us2 no no no Z ∧ (∀ x ∈ l.take i, hN Z.1 x.toNat = true)) (fun (i, tw, Z) => (pt k 74 [Value.pointer (some ⟨s, 0, none⟩), Value.slice (some ⟨hb, 0, none⟩) h2.length hc, Value.slice (some ⟨ub, 0, none⟩) vs.length uc, tw]) :: (slp 4 1 hb hc (Z.1.map Value.bool)) :: (sl 3 1 tw Z.2.length (Z.2.map natV)) :: (slp 41 1 ub uc vs) :: (grp (inners vs us2)) :: (storeI s ts) :: (pt vb 3 (l.map intV ++ ms)) :: F) (fun (i, tw, Z) => l.length - i) (0, tv, (h2, [])) ?_ ?_ ?_
        · exact ⟨rfl, rfl, rfl, rfl, (by omega), hy, (fun x hx => by simp at hx)⟩
        · exact fun w hs => hs
        · rintro ⟨i, tw, Z⟩ E10 ⟨hE50_8, hE8_8, hE48_8, hE49_8, hi, hZ, hdone⟩
          dsimp only at *
          refine Wc.seq ?_
          refine Wc.region ?_
          by_cases hlt2 : ((i : Nat) : Int) < ((l.length : Nat) : Int)
          ·
            have hZl := hZ.len
            have hZt := hZ.le
            obtain ⟨o, hget⟩ : ∃ o, l[i]? = some o := ⟨l[i]'(by omega), List.getElem?_eq_getElem (by omega)⟩
            have hmem := List.mem_of_getElem? hget
            have hr := hall0 o hmem
            have hmk := Inv.marks hZ hr.1 hr.2 ⟨o, hmem, rfl⟩
            refine Wl.q (v := Value.bool true) (q_lss (r := true) hE50_8 hE49_8 (decide_eq_true hlt2)) ?_
            refine Wl.done ?_
            refine Wx.go ?_
            refine Wc.seq ?_
            refine Wc.yes rfl ?_
            refine Wc.skip ?_
            refine Wx.go ?_
            refine Wc.seq ?_
            refine Wc.block ?_
            refine Wc.seq ?_
            refine Wc.region ?_
            refine Wl.q (v := Value.pointer (some ⟨vb, i, none⟩)) (q_idx (m := i) se_41 hE48_8 hE50_8 (by omega) (by omega) (by simp)) ?_
            refine Wl.q (v := Value.int .i64 o) (q_load sc_3 rfl (.cel (i := 6) rfl (app_at hget))) ?_
            refine Wl.q (v := Value.int .i64 o) (q_assign rfl) ?_
            refine Wl.done ?_
            refine Wx.go ?_
            refine Wc.region ?_
            refine Wl.q (v := Value.pointer (some ⟨k, 0, none⟩)) (q_move hE8_8) ?_
            refine Wl.q (v := Value.int .i64 o) (q_move rfl) ?_
            refine Wl.e (e_call (F := (slp 41 1 ub uc vs) :: (grp (inners vs us2)) :: (storeI s ts) :: (pt vb 3 (l.map intV ++ ms)) :: F) (args := [Value.pointer (some ⟨k, 0, none⟩), Value.int .i64 o]) Try.call32 rfl (mark_c W0 k s hb hc ub uc vs.length h2.length (tw) Z o (by omega) (by omega) (by omega) (by omega))) (fun tv11 _ => ?_)
            refine Wl.imp (L' := (pt k 74 [Value.pointer (some ⟨s, 0, none⟩), Value.slice (some ⟨hb, 0, none⟩) h2.length hc, Value.slice (some ⟨ub, 0, none⟩) vs.length uc, tv11]) :: (slp 4 1 hb hc ((mkF Z ((o).toNat)).1.map Value.bool)) :: (sl 3 1 tv11 ((mkF Z ((o).toNat)).2.length) ((mkF Z ((o).toNat)).2.map natV)) :: (slp 41 1 ub uc vs) :: (grp (inners vs us2)) :: (storeI s ts) :: (pt vb 3 (l.map intV ++ ms)) :: F) (fun _ h => h) ?_
            refine Wl.done ?_
            refine Wx.blockEnd ?_
            refine Wx.go ?_
            refine Wc.region ?_
            refine Wl.q (v := Value.int .i64 ((i + 1 : Nat) : Int)) (q_add (c := ((i + 1 : Nat) : Int)) hE50_8 rfl (by rw [wrap_i64] <;> omega)) ?_
            refine Wl.q (v := Value.int .i64 ((i + 1 : Nat) : Int)) (q_move rfl) ?_
            refine Wl.done ?_
            refine Wx.at (i + 1, tv11, mkF Z o.toNat) ⟨(by simp only; omega), rfl, hE8_8, hE48_8, hE49_8, (by simp only; omega), hmk.1, (mark_all hget hdone hmk.2.1 hmk.2.2)⟩ (fun w hs => hs)
          ·
            have hZl := hZ.len
            have hZt := hZ.le
            rw [show i = l.length by omega, List.take_length] at hdone
            refine Wl.q (v := Value.bool false) (q_lss (r := false) hE50_8 hE49_8 (decide_eq_false hlt2)) ?_
            refine Wl.done ?_
            refine Wx.go ?_
            refine Wc.seq ?_
            refine Wc.no rfl ?_
            refine Wc.exit ?_
            refine Wx.thenExit ?_
            refine Wx.thenExit ?_
            refine Wx.out ?_
            refine Wx.go ?_
            refine Wc.seq ?_
            refine Wc.region ?_
            refine Wl.q (v := Value.pointer (some ⟨k, 0, none⟩)) (q_move hE8_8) ?_
            refine Wl.imp (L' := (pt k 74 [Value.pointer (some ⟨s, 0, none⟩), Value.slice (some ⟨hb, 0, none⟩) h2.length hc, Value.slice (some ⟨ub, 0, none⟩) vs.length uc, tw]) :: (slp 4 1 hb hc (Z.1.map Value.bool)) :: (sl 3 1 tw Z.2.length (Z.2.map natV)) :: (storeI s ts) :: (slp 41 1 ub uc vs) :: (grp (inners vs us2)) :: (pt vb 3 (l.map intV ++ ms)) :: F) (fun _ h => st_pull [0, 0, 0, 2, 0, 0] h) ?_
            refine Wl.e (e_call (F := (pt vb 3 (l.map intV ++ ms)) :: F) (args := [Value.pointer (some ⟨k, 0, none⟩)]) Try.call33 rfl (krun_c W0 k s hb hc ub uc vs.length h2.length (tw) vs us2 ts ts.length (KL l) Z hZ hl (by omega) hvu rfl)) (fun z ⟨hz, hzu⟩ => ?_)
            refine Wl.imp (L' := (pt k 74 [Value.pointer (some ⟨s, 0, none⟩), Value.slice (some ⟨hb, 0, none⟩) h2.length hc, Value.slice (some ⟨ub, 0, none⟩) vs.length uc, z.1]) :: (slp 4 1 hb hc (z.2.map Value.bool)) :: (sl 3 1 z.1 0 []) :: (storeI s ts) :: (slp 41 1 ub uc vs) :: (grp (inners vs us2)) :: (pt vb 3 (l.map intV ++ ms)) :: F) (fun _ h => h) ?_
            refine Wl.done ?_
            refine Wx.go ?_
            refine Wc.seq ?_
            refine Wc.region ?_
            refine Wl.q (v := Value.pointer (some ⟨k, 0, none⟩)) (q_move hE8_8) ?_
            refine Wl.q (v := Value.pointer (some ⟨k, 0, none⟩)) (q_assign rfl) ?_
            refine Wl.q (v := Value.int .i64 0) (q_assign rfl) ?_
            refine Wl.done ?_
            refine Wx.go ?_
            refine Wc.ret ?_
            refine Wx.fin2 rfl (.inl rfl) (fun w hs => ?_)
            exact ⟨k, trivial, rfl, knowK_mk (h := z.2) (us := us2) ⟨_, hz, fun n ⟨x, hx, e⟩ => e ▸ hzu _ (hdone x hx)⟩ (knowI_mk hvu (by have hs := (st_pull [0, 0, 0, 1, 1, 0, 0] (hs)); rw [show h2.length = z.2.length from by have h1 := hz.len; simp only at h1; omega] at hs; exact hs))⟩





end Go.Proofs.Ytjjghmkjdgogiaa
