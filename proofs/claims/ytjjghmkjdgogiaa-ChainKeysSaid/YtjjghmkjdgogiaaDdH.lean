/- What follows: contracts of the calls. -/
import Derived.Test.YtjjghmkjdgogiaaDdG2
namespace Go.Proofs.Ytjjghmkjdgogiaa
open Go Go.SL Go.Dd Go.RowKit
set_option linter.unusedVariables false
set_option maxRecDepth 8000

/-- What is known follows, and what has come follows. -/
def KnI (ts : List TermR) (K : Nat → Prop) (h : List Bool) (us : List (List Nat)) : Prop := ∃ p, Inv ts p K us no no no (h, []) ∧ ∀ n, K n → hN h n = true
noncomputable def derB (ts : List TermR) (K : Nat → Prop) (x : Int) : Bool := @decide (1 ≤ x ∧ x ≤ (ts.length : Int) ∧ Der ts K x.toNat) (Classical.propDecidable _)
theorem derB_iff {ts : List TermR} {K : Nat → Prop} {x : Int} : derB ts K x = true ↔ (1 ≤ x ∧ x ≤ (ts.length : Int) ∧ Der ts K x.toNat) := by
  unfold derB; exact @decide_eq_true_iff _ (Classical.propDecidable _)
def knowK (k s : Nat) (ts : List TermR) (K : Nat → Prop) : HP := ex fun h => ex fun us => grp [pr (KnI ts K h us), knowI k s h us]
theorem knowK_mk {W0 w : World} {L : List HP} {k s : Nat} {h : List Bool} {us : List (List Nat)} {ts : List TermR} {K : Nat → Prop} (hk : KnI ts K h us) (hs : st W0 w (knowI k s h us :: L)) : st W0 w (knowK k s ts K :: L) :=
  st_ex.2 ⟨h, st_ex.2 ⟨us, st_grp.2 (st_pr.2 ⟨hk, hs⟩)⟩⟩
theorem knowK_of {W0 w : World} {L : List HP} {k s : Nat} {ts : List TermR} {K : Nat → Prop} (hs : st W0 w (knowK k s ts K :: L)) : ∃ h us, KnI ts K h us ∧ st W0 w (knowI k s h us :: L) := by
  obtain ⟨h, hs⟩ := st_ex.1 hs
  obtain ⟨us, hs⟩ := st_ex.1 hs
  have hs := st_grp.1 hs
  exact ⟨h, us, (st_pr.1 hs).1, (st_pr.1 hs).2⟩
/-- Terms that are made later. -/
theorem knowK_ext {W0 w : World} {L : List HP} {k s : Nat} {ts xs : List TermR} {K : Nat → Prop} (hw : Wf (ts ++ xs)) (hs : st W0 w (knowK k s ts K :: L)) : st W0 w (knowK k s (ts ++ xs) K :: L) := by
  obtain ⟨h, us, ⟨p, I, hK⟩, hs⟩ := knowK_of hs
  exact knowK_mk ⟨p, I.ext hw, hK⟩ hs
theorem Con.knowK {P : Program} {W0 : World} {f : FuncId} {args : Array Value} {k s : Nat} {ts : List TermR} {K : Nat → Prop} {pre : List HP} {X : Type} {φ : X → Prop} {val : X → Value} {post : X → List HP}
    (hh : ∀ h us p, Inv ts p K us no no no (h, []) → (∀ n, K n → hN h n = true) → Con P W0 f args (knowI k s h us :: pre) φ val post) : Con P W0 f args (knowK k s ts K :: pre) φ val post := fun w F hs => by
  obtain ⟨h, us, ⟨p, I, hK⟩, hs⟩ := knowK_of hs
  exact hh h us p I hK w F hs
theorem kgrow_c (W0 : World) (k s : Nat) (h : List Bool) (us : List (List Nat)) (ts : List TermR) (p : Nat) (K : Nat → Prop) (I : Inv ts p K us no no no (h, [])) (hl : ts.length ≤ 1048576) :
    Con Try.prog W0 31 #[.pointer (some ⟨k, 0, none⟩)] [knowI k s h us, storeI s ts] (X := List Bool × List (List Nat)) (fun y => Inv ts ts.length K y.2 no no no (y.1, []) ∧ ∀ n, hN h n = true → hN y.1 n = true) (fun _ => .tuple #[]) (fun y => [knowI k s y.1 y.2, storeI s ts]) :=
  Con.know fun hb hc ub uc tv vs hvu w F hs => kgrow_o W0 k s hb hc ub uc tv vs us h ts p K I hl hvu w F (st_pull [0, 0, 0, 2] hs)
def int1 (x : Int) : List Value := [.int .i64 x]
theorem flat1 : ∀ {l : List Int} {k : Nat} {o : Int}, l[k]? = some o → (l.flatMap int1)[k]? = some (.int .i64 o)
  | [], k, o, h => by simp at h
  | q :: l, 0, o, h => by simp at h; subst h; rfl
  | q :: l, k + 1, o, h => by
    have := flat1 (l := l) (k := k) (by simpa using h)
    simpa [List.flatMap_cons, int1] using this
theorem rd1 {W0 : World} {v : Value} {l : List Int} {k : Nat} {o : Int} (h : Rd W0 v l.length (l.flatMap int1)) (hg : l[k]? = some o) : W0.cell? ⟨rb v, ro v + k, none⟩ = some (.int .i64 o) :=
  h.cell _ _ (flat1 hg)
/-- What is known, by its numbers. -/
def KL (l : List Int) (n : Nat) : Prop := ∃ x ∈ l, x.toNat = n
theorem Inv.marks {ts : List TermR} {p : Nat} {K : Nat → Prop} {us : List (List Nat)} {S : Sd} (I : Inv ts p K us no no no S) {x : Int} (h1 : 1 ≤ x) (hx : x ≤ (p : Int)) (hd : K x.toNat) : Inv ts p K us no no no (mkF S x.toNat) ∧ hN (mkF S x.toNat).1 x.toNat = true ∧ ∀ n, hN S.1 n = true → hN (mkF S x.toNat).1 n = true := by
  have hl : x.toNat < S.1.length := by rw [I.len]; omega
  exact ⟨I.mk' (by omega) (.known hd), has_mk hl (by omega), fun n h => up_mk hl h⟩
theorem Inv.todo0 {ts : List TermR} {p : Nat} {K : Nat → Prop} {us : List (List Nat)} {EM EP ES : Nat → Prop} {S : Sd} (I : Inv ts p K us EM EP ES S) : S.2.length ≤ p + 1 := I.le

theorem Wl.know {P : Program} {W0 : World} {Q : Exit → Act → World → Prop} {n : Nat} {D : List Deferred} {ops : Array Oper} {E : Nat → Value} {L L' : List HP} {os : List Oper} {k s : Nat} {h : List Bool} {us : List (List Nat)} (hL : ∀ w, st W0 w L → st W0 w (knowI k s h us :: L'))
    (kk : ∀ (hb hc ub uc : Nat) (tv : Value) (vs : List Value), vs.length = us.length → Wl P W0 Q n D ops os E (pt k 74 [.pointer (some ⟨s, 0, none⟩), .slice (some ⟨hb, 0, none⟩) h.length hc, .slice (some ⟨ub, 0, none⟩) vs.length uc, tv] :: slp 4 1 hb hc (h.map Value.bool) :: sl 3 1 tv 0 [] :: slp 41 1 ub uc vs :: grp (inners vs us) :: L')) :
    Wl P W0 Q n D ops os E L := fun a w ha hs => by
  have hs := hL w hs
  obtain ⟨hb, hs⟩ := st_ex.1 hs
  obtain ⟨hc, hs⟩ := st_ex.1 hs
  obtain ⟨ub, hs⟩ := st_ex.1 hs
  obtain ⟨uc, hs⟩ := st_ex.1 hs
  obtain ⟨tv, hs⟩ := st_ex.1 hs
  obtain ⟨vs, hs⟩ := st_ex.1 hs
  have hs := st_grp.1 hs
  obtain ⟨hl, hs⟩ := st_pr.1 hs
  exact kk hb hc ub uc tv vs hl a w ha hs

theorem khas_o (W0 : World) (k s : Nat) (ts : List TermR) (K : Nat → Prop) (x : Int) (hl : ts.length ≤ 1048576) (h : List Bool) (us : List (List Nat)) (p : Nat) (I : Inv ts p K us no no no (h, [])) (hK : ∀ n, K n → hN h n = true) :
    Con Try.prog W0 16 #[Value.pointer (some ⟨k, 0, none⟩), Value.int .i64 x] [knowI k s h us, storeI s ts] (X := Unit) (fun _ => True) (fun _ => .bool (derB ts K x)) (fun _ => [knowK k s ts K, storeI s ts]) := by
  refine Con.of (args := [Value.pointer (some ⟨k, 0, none⟩), Value.int .i64 x]) Try.func16 rfl Try.ntmps16 rfl (fun F => ?_)
  show Wc _ W0 _ _ _ _ _ ((knowI k s h us) :: (storeI s ts) :: F)
  refine Wc.seq ?_
  refine Wc.region ?_
  refine Wl.q (v := Value.bool false) (q_assign rfl) ?_
  refine Wl.done ?_
  refine Wx.go ?_
  refine Wc.seq ?_
  refine Wc.seq ?_
  refine Wc.region ?_
  refine Wl.know (k := k) (s := s) (h := h) (us := us) (fun w hs => hs) (fun hb hc ub uc tv vs hvu => ?_)
  refine Wl.q (v := Value.pointer (some ⟨k, 0, none⟩)) (q_move rfl) ?_
  refine Wl.q (v := Value.bool false) (q_eql_nil (r := false) rfl rfl Try.underlying46 rfl) ?_
  refine Wl.q (v := Value.bool false) (q_move rfl) ?_
  refine Wl.q (v := Value.pointer (some ⟨k, 0, none⟩)) (q_move rfl) ?_
  refine Wl.q (v := Value.pointer (some ⟨k, 0, none⟩)) (q_nil_ptr rfl) ?_
  refine Wl.q (v := Value.pointer (some ⟨k, 0, none⟩)) (q_field (m := 0) fo_74_0 rfl rfl) ?_
  refine Wl.q (v := Value.pointer (some ⟨s, 0, none⟩)) (q_load sc_22 rfl (.cel (i := 0) rfl rfl)) ?_
  refine Wl.q (v := Value.bool false) (q_eql_nil (r := false) rfl rfl Try.underlying22 rfl) ?_
  refine Wl.q (v := Value.bool false) (q_pick (t := false) rfl rfl) ?_
  refine Wl.done ?_
  refine Wx.go ?_
  refine Wc.no rfl ?_
  refine Wc.skip ?_
  refine Wx.go ?_
  refine Wc.seq ?_
  refine Wc.region ?_
  refine Wl.imp (L' := (knowI k s h us) :: (storeI s ts) :: F) (fun w hs => knowI_mk hvu hs) ?_
  refine Wl.q (v := Value.pointer (some ⟨k, 0, none⟩)) (q_move rfl) ?_
  refine Wl.e (e_call (F := F) (args := [Value.pointer (some ⟨k, 0, none⟩)]) Try.call31 rfl (kgrow_c W0 k s h us ts p K I hl)) (fun y ⟨hy, hyu⟩ => ?_)
  refine Wl.imp (L' := (knowI k s y.1 y.2) :: (storeI s ts) :: F) (fun _ h => h) ?_
  refine Wl.done ?_
  refine Wx.go ?_
  refine Wc.seq ?_
  refine Wc.region ?_
  obtain ⟨h2, us2⟩ := y
  dsimp only at *
  have hyl := hy.len
  refine Wl.imp (L' := (knowI k s h2 us2) :: (storeI s ts) :: F) (fun _ h => h) ?_
  refine Wl.know (k := k) (s := s) (h := h2) (us := us2) (fun w hs => hs) (fun hb hc ub uc tv vs hvu => ?_)
  refine Wl.q (v := Value.int .i64 x) (q_move rfl) ?_
  by_cases hx1 : x ≥ 1
  ·
    refine Wl.q (v := Value.bool true) (q_geq (r := true) rfl rfl (decide_eq_true hx1)) ?_
    refine Wl.q (v := Value.bool true) (q_move rfl) ?_
    refine Wl.q (v := Value.int .i64 x) (q_move rfl) ?_
    refine Wl.q (v := Value.pointer (some ⟨k, 0, none⟩)) (q_move rfl) ?_
    refine Wl.q (v := Value.pointer (some ⟨k, 0, none⟩)) (q_nil_ptr rfl) ?_
    refine Wl.q (v := Value.pointer (some ⟨k, 1, none⟩)) (q_field (m := 1) fo_74_1 rfl rfl) ?_
    refine Wl.q (v := Value.slice (some ⟨hb, 0, none⟩) h2.length hc) (q_load sc_71 rfl (.cel (i := 0) rfl rfl)) ?_
    refine Wl.q (v := Value.int .i64 ((h2.length : Nat) : Int)) (q_len_slice Try.underlying71 rfl) ?_
    by_cases hx2 : x < ((h2.length : Nat) : Int)
    ·
      refine Wl.q (v := Value.bool true) (q_lss (r := true) rfl rfl (decide_eq_true hx2)) ?_
      refine Wl.q (v := Value.bool true) (q_pick (t := true) rfl rfl) ?_
      refine Wl.q (v := Value.bool true) (q_move rfl) ?_
      refine Wl.q (v := Value.pointer (some ⟨k, 0, none⟩)) (q_move rfl) ?_
      refine Wl.q (v := Value.pointer (some ⟨k, 0, none⟩)) (q_nil_ptr rfl) ?_
      refine Wl.q (v := Value.pointer (some ⟨k, 1, none⟩)) (q_field (m := 1) fo_74_1 rfl rfl) ?_
      refine Wl.q (v := Value.slice (some ⟨hb, 0, none⟩) h2.length hc) (q_load sc_71 rfl (.cel (i := 0) rfl rfl)) ?_
      refine Wl.q (v := Value.int .i64 x) (q_move rfl) ?_
      refine Wl.q (v := Value.pointer (some ⟨hb, (x).toNat, none⟩)) (q_idx (m := (x).toNat) se_71 rfl rfl (by omega) (by omega) (by simp)) ?_
      by_cases hhx : hN (h2, ([] : List Nat)).1 ((x).toNat) = true
      ·
        refine Wl.q (v := Value.bool true) (q_load sc_4 rfl (.row (i := 1) rfl (bool_yes hhx))) ?_
        refine Wl.q (v := Value.bool true) (q_pick (t := true) rfl rfl) ?_
        refine Wl.q (v := Value.bool true) (q_assign rfl) ?_
        refine Wl.done ?_
        refine Wx.go ?_
        refine Wc.ret ?_
        refine Wx.fin1 rfl (.inl rfl) (fun w hs => ?_)
        exact ⟨(), trivial, congrArg Value.bool (Eq.symm (derB_iff.2 ⟨by omega, by simp only at *; omega, (hy.done rfl (fun n h => hyu n (hK n h)) _).1 hhx⟩)), knowK_mk (h := h2) (us := us2) ⟨_, hy, fun n h => hyu n (hK n h)⟩ (knowI_mk hvu hs)⟩
      ·
        refine Wl.q (v := Value.bool false) (q_load sc_4 rfl (.row (i := 1) rfl (bool_no (by omega) hhx))) ?_
        refine Wl.q (v := Value.bool false) (q_pick (t := true) rfl rfl) ?_
        refine Wl.q (v := Value.bool false) (q_assign rfl) ?_
        refine Wl.done ?_
        refine Wx.go ?_
        refine Wc.ret ?_
        refine Wx.fin1 rfl (.inl rfl) (fun w hs => ?_)
        exact ⟨(), trivial, congrArg Value.bool (Eq.symm (Bool.eq_false_iff.2 (fun hd => by have hd := derB_iff.1 hd; exact hhx ((hy.done rfl (fun n h => hyu n (hK n h)) _).2 hd.2.2)))), knowK_mk (h := h2) (us := us2) ⟨_, hy, fun n h => hyu n (hK n h)⟩ (knowI_mk hvu hs)⟩
    ·
      refine Wl.q (v := Value.bool false) (q_lss (r := false) rfl rfl (decide_eq_false hx2)) ?_
      refine Wl.q (v := Value.bool false) (q_pick (t := true) rfl rfl) ?_
      refine Wl.q (v := Value.bool false) (q_move rfl) ?_
      refine Wl.no ?_
      refine Wl.no ?_
      refine Wl.no ?_
      refine Wl.no ?_
      refine Wl.no ?_
      refine Wl.no ?_
      refine Wl.no ?_
      refine Wl.q (v := Value.bool false) (q_pick (t := false) rfl rfl) ?_
      refine Wl.q (v := Value.bool false) (q_assign rfl) ?_
      refine Wl.done ?_
      refine Wx.go ?_
      refine Wc.ret ?_
      refine Wx.fin1 rfl (.inl rfl) (fun w hs => ?_)
      exact ⟨(), trivial, congrArg Value.bool (Eq.symm (Bool.eq_false_iff.2 (fun hd => by have hd := derB_iff.1 hd; simp only at *; omega))), knowK_mk (h := h2) (us := us2) ⟨_, hy, fun n h => hyu n (hK n h)⟩ (knowI_mk hvu hs)⟩
  ·
    refine Wl.q (v := Value.bool false) (q_geq (r := false) rfl rfl (decide_eq_false hx1)) ?_
    refine Wl.q (v := Value.bool false) (q_move rfl) ?_
    refine Wl.no ?_
    refine Wl.no ?_
    refine Wl.no ?_
    refine Wl.no ?_
    refine Wl.no ?_
    refine Wl.no ?_
    refine Wl.no ?_
    refine Wl.q (v := Value.bool false) (q_pick (t := false) rfl rfl) ?_
    refine Wl.q (v := Value.bool false) (q_move rfl) ?_
    refine Wl.no ?_
    refine Wl.no ?_
    refine Wl.no ?_
    refine Wl.no ?_
    refine Wl.no ?_
    refine Wl.no ?_
    refine Wl.no ?_
    refine Wl.q (v := Value.bool false) (q_pick (t := false) rfl rfl) ?_
    refine Wl.q (v := Value.bool false) (q_assign rfl) ?_
    refine Wl.done ?_
    refine Wx.go ?_
    refine Wc.ret ?_
    refine Wx.fin1 rfl (.inl rfl) (fun w hs => ?_)
    exact ⟨(), trivial, congrArg Value.bool (Eq.symm (Bool.eq_false_iff.2 (fun hd => by have hd := derB_iff.1 hd; simp only at *; omega))), knowK_mk (h := h2) (us := us2) ⟨_, hy, fun n h => hyu n (hK n h)⟩ (knowI_mk hvu hs)⟩

theorem khas_c (W0 : World) (k s : Nat) (ts : List TermR) (K : Nat → Prop) (x : Int) (hl : ts.length ≤ 1048576) : Con Try.prog W0 16 #[Value.pointer (some ⟨k, 0, none⟩), Value.int .i64 x] [knowK k s ts K, storeI s ts] (X := Unit) (fun _ => True) (fun _ => .bool (derB ts K x)) (fun _ => [knowK k s ts K, storeI s ts]) :=
  Con.knowK fun h us p I hK => khas_o W0 k s ts K x hl h us p I hK





end Go.Proofs.Ytjjghmkjdgogiaa
