/- What follows: contracts of the calls. -/
import Derived.Test.YtjjghmkjdgogiaaDdF
namespace Go.Proofs.Ytjjghmkjdgogiaa
open Go Go.SL Go.Dd Go.RowKit
set_option linter.unusedVariables false
set_option maxRecDepth 8000
theorem zo_4 : zeroOf Try.prog 4 = some (Value.bool false) := by kernel_rfl
theorem by_4 : (Try.prog.info? 4).map (·.bytes) = some 1 := by kernel_rfl
theorem sz_71 : sizeIs Try.prog 71 = some 1 := by kernel_rfl
theorem zo_41 : zeroOf Try.prog 41 = some (Value.slice none 0 0) := by kernel_rfl
theorem by_41 : (Try.prog.info? 41).map (·.bytes) = some 24 := by kernel_rfl
theorem sz_72 : sizeIs Try.prog 72 = some 1 := by kernel_rfl
theorem st_slp_sl {W0 w : World} {L : List HP} {e b cap n : Nat} {xs : List Value} (hn : xs.length = n) (h : st W0 w (slp e 1 b cap xs :: L)) : st W0 w (sl e 1 (.slice (some ⟨b, 0, none⟩) n cap) n xs :: L) := by
  have hc : n ≤ cap := by
    obtain ⟨_, x, ⟨a, _, _, _, _, hp, _⟩, _⟩ := h
    obtain ⟨cur, h1, h2, _⟩ := hp
    omega
  exact st_sl_mk (by omega) hc h
theorem st_inner_snoc {W0 w : World} {L : List HP} {vs : List Value} {us : List (List Nat)} (hl : vs.length = us.length) (h : st W0 w (grp (inners vs us) :: L)) : st W0 w (grp (inners (vs ++ [.slice none 0 0]) (us ++ [[]])) :: L) := by
  have e : inners (vs ++ [.slice none 0 0]) (us ++ [[]]) = inners vs us ++ [sl 3 1 (.slice none 0 0) 0 []] := by
    unfold inners
    rw [List.zip_append hl, List.map_append]
    rfl
  rw [e]
  refine st_grp.2 (st_perm ?_ (st_sl_nil (e := 3) (k := 1) (st_grp.1 h)))
  rw [List.append_assoc]
  exact List.perm_middle.symm
theorem splice_id {l : List Value} {a : Nat} {s : Value} (h : a < l.length) : splice l a [s] = l.set a s := by
  rw [splice, List.set_eq_take_append_cons_drop, if_pos h]
  simp
theorem e_store_slpS {P : Program} {W0 : World} {E : Nat → Value} {L : List HP} {ty : TypeId} {x y : Operand} {t b off i e k cap : Nat} {c c' : List Value} {v : Value} (hs : sizeIs P t = some 1) (hx : evE E x = .pointer (some ⟨b, off, none⟩)) (hy : evE E y = v) (h1 : ∀ w, st W0 w L → v.cells = #[v] ∧ [v].all (·.oneCell') = true)
    (hi : L[i]? = some (slp e k b cap c)) (hl : off + 1 ≤ c.length) (hc : splice c off [v] = c') : Eff P W0 E L (.store t x y) ty (X := Unit) (fun _ => True) (fun _ => undef) (fun _ => L.set i (slp e k b cap c')) := fun w d pos aft g hst =>
  e_store_slp (vs := [v]) hs hx (by rw [hy, (h1 w hst).1]) (h1 w hst).2 hi hl hc w d pos aft g hst
theorem sl_cells {W0 w : World} {L : List HP} {e k n i : Nat} {v : Value} {xs : List Value} (h : st W0 w L) (hi : L[i]? = some (sl e k v n xs)) : v.cells = #[v] ∧ [v].all (·.oneCell') = true := by
  obtain ⟨a, c, rfl⟩ := sl_val h hi
  exact ⟨rfl, rfl⟩
/-- Numbers told of a term's parts, one after the other. -/
def gU (u : TermR) (us : List (List Nat)) (n i : Nat) : List (List Nat) := if i = 0 then us else if i = 1 then addI (0 < u.a.toNat) us u.a.toNat n else addI (0 < u.b.toNat) (addI (0 < u.a.toNat) us u.a.toNat n) u.b.toNat n
theorem gU_len (u : TermR) (us : List (List Nat)) (n i : Nat) : (gU u us n i).length = us.length := by
  unfold gU; split
  · rfl
  split
  · rw [addI_len]
  · rw [addI_len, addI_len]
theorem gU1y {u : TermR} {us : List (List Nat)} {n : Nat} (h : 0 < u.a.toNat) : gU u us n 1 = (gU u us n 0).set u.a.toNat ((gU u us n 0).getD u.a.toNat [] ++ [n]) := by
  show addI (0 < u.a.toNat) us u.a.toNat n = _
  unfold addI; rw [if_pos h]; rfl
theorem gU1n {u : TermR} {us : List (List Nat)} {n : Nat} (h : ¬ 0 < u.a.toNat) : gU u us n 1 = gU u us n 0 := by
  show addI (0 < u.a.toNat) us u.a.toNat n = _
  unfold addI; rw [if_neg h]; rfl
theorem gU2y {u : TermR} {us : List (List Nat)} {n : Nat} (h : 0 < u.b.toNat) : gU u us n 2 = (gU u us n 1).set u.b.toNat ((gU u us n 1).getD u.b.toNat [] ++ [n]) := by
  show addI (0 < u.b.toNat) _ u.b.toNat n = _
  rw [addI, if_pos h]; rfl
theorem gU2n {u : TermR} {us : List (List Nat)} {n : Nat} (h : ¬ 0 < u.b.toNat) : gU u us n 2 = gU u us n 1 := by
  show addI (0 < u.b.toNat) _ u.b.toNat n = _
  rw [addI, if_neg h]; rfl
theorem grU_y {ts : List TermR} {us : List (List Nat)} {u kk : TermR} {n : Nat} (h6 : u.kind = 6) (hk : atN ts u.a.toNat = some kk) (h5 : kk.kind = 5) : grU ts us u n = (gU u (us ++ [[]]) n 2).set kk.a.toNat ((gU u (us ++ [[]]) n 2).getD kk.a.toNat [] ++ [n]) := by
  have e : pubN ts u = some kk.a.toNat := by unfold pubN; rw [if_pos h6, hk]; exact if_pos h5
  unfold grU; rw [e]; rfl
theorem grU_n {ts : List TermR} {us : List (List Nat)} {u : TermR} {n : Nat} (h : pubN ts u = none) : grU ts us u n = gU u (us ++ [[]]) n 2 := by
  unfold grU; rw [h]; rfl
theorem pub_n6 {ts : List TermR} {u : TermR} (h : ¬ u.kind = 6) : pubN ts u = none := by unfold pubN; rw [if_neg h]
theorem pub_n5 {ts : List TermR} {u kk : TermR} (hk : atN ts u.a.toNat = some kk) (h5 : ¬ kk.kind = 5) : pubN ts u = none := by
  unfold pubN; split
  · rw [hk]; exact if_neg h5
  · rfl
def knowI (k s : Nat) (h : List Bool) (us : List (List Nat)) : HP := ex fun hb : Nat => ex fun hc : Nat => ex fun ub : Nat => ex fun uc : Nat => ex fun tv : Value => ex fun vs : List Value =>
  grp [pr (vs.length = us.length), pt k 74 [.pointer (some ⟨s, 0, none⟩), .slice (some ⟨hb, 0, none⟩) h.length hc, .slice (some ⟨ub, 0, none⟩) vs.length uc, tv], slp 4 1 hb hc (h.map Value.bool), sl 3 1 tv 0 [], slp 41 1 ub uc vs, grp (inners vs us)]
theorem knowI_mk {W0 w : World} {L : List HP} {k s hb hc ub uc : Nat} {tv : Value} {vs : List Value} {h : List Bool} {us : List (List Nat)} (hl : vs.length = us.length)
    (hs : st W0 w (pt k 74 [.pointer (some ⟨s, 0, none⟩), .slice (some ⟨hb, 0, none⟩) h.length hc, .slice (some ⟨ub, 0, none⟩) vs.length uc, tv] :: slp 4 1 hb hc (h.map Value.bool) :: sl 3 1 tv 0 [] :: slp 41 1 ub uc vs :: grp (inners vs us) :: L)) : st W0 w (knowI k s h us :: L) :=
  st_ex.2 ⟨hb, st_ex.2 ⟨hc, st_ex.2 ⟨ub, st_ex.2 ⟨uc, st_ex.2 ⟨tv, st_ex.2 ⟨vs, st_grp.2 (st_pr.2 ⟨hl, hs⟩)⟩⟩⟩⟩⟩⟩
theorem Con.know {P : Program} {W0 : World} {f : FuncId} {args : Array Value} {k s : Nat} {h : List Bool} {us : List (List Nat)} {pre : List HP} {X : Type} {φ : X → Prop} {val : X → Value} {post : X → List HP}
    (hh : ∀ hb hc ub uc tv vs, vs.length = us.length → Con P W0 f args (pt k 74 [.pointer (some ⟨s, 0, none⟩), .slice (some ⟨hb, 0, none⟩) h.length hc, .slice (some ⟨ub, 0, none⟩) vs.length uc, tv] :: slp 4 1 hb hc (h.map Value.bool) :: sl 3 1 tv 0 [] :: slp 41 1 ub uc vs :: grp (inners vs us) :: pre) φ val post) :
    Con P W0 f args (knowI k s h us :: pre) φ val post := fun w F hs => by
  obtain ⟨hb, hs⟩ := st_ex.1 hs
  obtain ⟨hc, hs⟩ := st_ex.1 hs
  obtain ⟨ub, hs⟩ := st_ex.1 hs
  obtain ⟨uc, hs⟩ := st_ex.1 hs
  obtain ⟨tv, hs⟩ := st_ex.1 hs
  obtain ⟨vs, hs⟩ := st_ex.1 hs
  have hs := st_grp.1 hs
  obtain ⟨hl, hs⟩ := st_pr.1 hs
  exact hh hb hc ub uc tv vs hl w F hs

theorem gU_le {us : List (List Nat)} {p : Nat} (hu : ∀ q, (us.getD q []).length ≤ 3 * p) {u : TermR} {n i : Nat} (q : Nat) (ha : u.a.toNat < us.length + 1) (hb : u.b.toNat < us.length + 1) : ((gU u (us ++ [[]]) n i).getD q []).length ≤ 3 * p + 2 := by
  have h0 := hu q
  have h1 := addI_le (c := 0 < u.a.toNat) (us := us ++ [[]]) (q := u.a.toNat) (n := n) (fun _ => by simp; omega) q
  have h2 := addI_le (c := 0 < u.b.toNat) (us := addI (0 < u.a.toNat) (us ++ [[]]) u.a.toNat n) (q := u.b.toNat) (n := n) (fun _ => by rw [addI_len]; simp; omega) q
  rw [getD_snoc] at h1
  unfold gU; split
  · rw [getD_snoc]; omega
  split
  · omega
  · omega

set_option maxRecDepth 8000 in
set_option maxHeartbeats 4000000 in
theorem kgrow_o (W0 : World) (k s : Nat) (hb hc ub uc : Nat) (tv : Value) (vs : List Value) (us : List (List Nat)) (h : List Bool) (ts : List TermR) (p : Nat) (K : Nat → Prop) (I : Inv ts p K us no no no (h, [])) (hl : ts.length ≤ 1048576) (hvu : vs.length = us.length) :
    Con Try.prog W0 31 #[Value.pointer (some ⟨k, 0, none⟩)] [pt k 74 [Value.pointer (some ⟨s, 0, none⟩), Value.slice (some ⟨hb, 0, none⟩) h.length hc, Value.slice (some ⟨ub, 0, none⟩) vs.length uc, tv], slp 4 1 hb hc (h.map Value.bool), sl 3 1 tv 0 [], storeI s ts, slp 41 1 ub uc vs, grp (inners vs us)] (X := List Bool × List (List Nat)) (fun y => Inv ts ts.length K y.2 no no no (y.1, []) ∧ ∀ n, hN h n = true → hN y.1 n = true) (fun _ => .tuple #[]) (fun y => [knowI k s y.1 y.2, storeI s ts]) := by
  refine Con.of (args := [Value.pointer (some ⟨k, 0, none⟩)]) Try.func31 rfl Try.ntmps31 rfl (fun F => ?_)
  show Wc _ W0 _ _ _ _ _ ((pt k 74 [Value.pointer (some ⟨s, 0, none⟩), Value.slice (some ⟨hb, 0, none⟩) h.length hc, Value.slice (some ⟨ub, 0, none⟩) vs.length uc, tv]) :: (slp 4 1 hb hc (h.map Value.bool)) :: (sl 3 1 tv 0 []) :: (storeI s ts) :: (slp 41 1 ub uc vs) :: (grp (inners vs us)) :: F)
  refine Wc.seq ?_
  refine Wc.seq ?_
  refine Wc.region ?_
  refine Wl.q (v := Value.pointer (some ⟨k, 0, none⟩)) (q_move rfl) ?_
  refine Wl.q (v := Value.pointer (some ⟨k, 0, none⟩)) (q_nil_ptr rfl) ?_
  refine Wl.q (v := Value.pointer (some ⟨k, 1, none⟩)) (q_field (m := 1) fo_74_1 rfl rfl) ?_
  refine Wl.q (v := Value.slice (some ⟨hb, 0, none⟩) h.length hc) (q_load sc_71 rfl (.cel (i := 0) rfl rfl)) ?_
  refine Wl.q (v := Value.int .i64 ((h.length : Nat) : Int)) (q_len_slice Try.underlying71 rfl) ?_
  refine Wl.q (v := Value.int .i64 ((h.length : Nat) : Int)) (q_assign rfl) ?_
  refine Wl.done ?_
  refine Wx.go ?_
  refine Wc.block ?_
  have hlp : h.length = p + 1 := I.len
  refine Wc.loop (X := (Nat × Sd × List (List Nat)) × (Nat × Nat × Nat × Nat) × Value × List Value) (fun ((p2, Z, U), (hb, hc, ub, uc), tw, vs) E => E 2 = Value.int .i64 (((p2 + 1) : Nat) : Int) ∧ E 0 = Value.pointer (some ⟨k, 0, none⟩) ∧ Inv ts p2 K U no no no Z ∧ (∀ n, hN h n = true → hN Z.1 n = true) ∧ vs.length = U.length) (fun ((p2, Z, U), (hb, hc, ub, uc), tw, vs) => (pt k 74 [Value.pointer (some ⟨s, 0, none⟩), Value.slice (some ⟨hb, 0, none⟩) (p2 + 1) hc, Value.slice (some ⟨ub, 0, none⟩) vs.length uc, tw]) :: (slp 4 1 hb hc (Z.1.map Value.bool)) :: (sl 3 1 tw Z.2.length (Z.2.map natV)) :: (storeI s ts) :: (slp 41 1 ub uc vs) :: (grp (inners vs U)) :: F) (fun ((p2, Z, U), (hb, hc, ub, uc), tw, vs) => ts.length - p2) ((p, (h, []), us), (hb, hc, ub, uc), tv, vs) ?_ ?_ ?_
  · exact ⟨(congrArg (fun z : Nat => Value.int .i64 (z : Int)) hlp), rfl, I, (fun _ h => h), hvu⟩
  · exact fun w hs => by have e := I.len; simp only at e; rw [e] at hs; exact hs
  · rintro ⟨⟨p2, Z, U⟩, ⟨hb, hc, ub, uc⟩, tw, vs⟩ E2 ⟨hE2_0, hE0_0, hI, hmo, hvu⟩
    clear I
    dsimp only at *
    refine Wc.seq ?_
    refine Wc.seq ?_
    refine Wc.region ?_
    refine Wl.q (v := Value.int .i64 (((p2 + 1) : Nat) : Int)) (q_move hE2_0) ?_
    refine Wl.q (v := Value.pointer (some ⟨k, 0, none⟩)) (q_move hE0_0) ?_
    refine Wl.q (v := Value.pointer (some ⟨k, 0, none⟩)) (q_nil_ptr rfl) ?_
    refine Wl.q (v := Value.pointer (some ⟨k, 0, none⟩)) (q_field (m := 0) fo_74_0 rfl rfl) ?_
    refine Wl.q (v := Value.pointer (some ⟨s, 0, none⟩)) (q_load sc_22 rfl (.cel (i := 0) rfl rfl)) ?_
    refine Wl.imp (L' := (storeI s ts) :: (pt k 74 [Value.pointer (some ⟨s, 0, none⟩), Value.slice (some ⟨hb, 0, none⟩) (p2 + 1) hc, Value.slice (some ⟨ub, 0, none⟩) vs.length uc, tw]) :: (slp 4 1 hb hc (Z.1.map Value.bool)) :: (sl 3 1 tw Z.2.length (Z.2.map natV)) :: (slp 41 1 ub uc vs) :: (grp (inners vs U)) :: F) (fun _ h => st_pull [3] h) ?_
    refine Wl.e (e_call (F := (pt k 74 [Value.pointer (some ⟨s, 0, none⟩), Value.slice (some ⟨hb, 0, none⟩) (p2 + 1) hc, Value.slice (some ⟨ub, 0, none⟩) vs.length uc, tw]) :: (slp 4 1 hb hc (Z.1.map Value.bool)) :: (sl 3 1 tw Z.2.length (Z.2.map natV)) :: (slp 41 1 ub uc vs) :: (grp (inners vs U)) :: F) (args := [Value.pointer (some ⟨s, 0, none⟩)]) Try.call28 rfl (len_c W0 s ts)) (fun _ _ => ?_)
    refine Wl.imp (L' := (storeI s ts) :: (pt k 74 [Value.pointer (some ⟨s, 0, none⟩), Value.slice (some ⟨hb, 0, none⟩) (p2 + 1) hc, Value.slice (some ⟨ub, 0, none⟩) vs.length uc, tw]) :: (slp 4 1 hb hc (Z.1.map Value.bool)) :: (sl 3 1 tw Z.2.length (Z.2.map natV)) :: (slp 41 1 ub uc vs) :: (grp (inners vs U)) :: F) (fun _ h => h) ?_
    by_cases hnl : (((p2 + 1) : Nat) : Int) ≤ ((ts.length : Nat) : Int)
    ·
      have hzl := hI.len
      have hzu := hI.ul
      have hle := hI.le
      have hpl := hI.pl
      obtain ⟨u, hu⟩ := at_some (ts := ts) (n := p2 + 1) (by omega) (by omega)
      have hpu := hI.wf.parts hu
      have hg := hI.grow1 hu
      have hun := fun q => hI.usn q
      refine Wl.q (v := Value.bool true) (q_leq (r := true) rfl rfl (decide_eq_true hnl)) ?_
      refine Wl.done ?_
      refine Wx.go ?_
      refine Wc.yes rfl ?_
      refine Wc.skip ?_
      refine Wx.go ?_
      refine Wc.seq ?_
      refine Wc.block ?_
      refine Wc.seq ?_
      refine Wc.region ?_
      refine Wl.q (v := Value.pointer (some ⟨k, 0, none⟩)) (q_move hE0_0) ?_
      refine Wl.q (v := Value.pointer (some ⟨k, 0, none⟩)) (q_nil_ptr rfl) ?_
      refine Wl.q (v := Value.pointer (some ⟨k, 0, none⟩)) (q_field (m := 0) fo_74_0 rfl rfl) ?_
      refine Wl.q (v := Value.pointer (some ⟨s, 0, none⟩)) (q_load sc_22 rfl (.cel (i := 1) rfl rfl)) ?_
      refine Wl.q (v := Value.int .i64 (((p2 + 1) : Nat) : Int)) (q_move hE2_0) ?_
      refine Wl.e (e_call (F := (pt k 74 [Value.pointer (some ⟨s, 0, none⟩), Value.slice (some ⟨hb, 0, none⟩) (p2 + 1) hc, Value.slice (some ⟨ub, 0, none⟩) vs.length uc, tw]) :: (slp 4 1 hb hc (Z.1.map Value.bool)) :: (sl 3 1 tw Z.2.length (Z.2.map natV)) :: (slp 41 1 ub uc vs) :: (grp (inners vs U)) :: F) (args := [Value.pointer (some ⟨s, 0, none⟩), Value.int .i64 (((p2 + 1) : Nat) : Int)]) Try.call22 rfl (get_c W0 s ts (((p2 + 1) : Nat) : Int) hl u (by omega) (atN_get hu))) (fun _ _ => ?_)
      refine Wl.imp (L' := (storeI s ts) :: (pt k 74 [Value.pointer (some ⟨s, 0, none⟩), Value.slice (some ⟨hb, 0, none⟩) (p2 + 1) hc, Value.slice (some ⟨ub, 0, none⟩) vs.length uc, tw]) :: (slp 4 1 hb hc (Z.1.map Value.bool)) :: (sl 3 1 tw Z.2.length (Z.2.map natV)) :: (slp 41 1 ub uc vs) :: (grp (inners vs U)) :: F) (fun _ h => h) ?_
      refine Wl.q (v := Value.tuple #[Value.agg #[Value.int .u8 ((u.kind : Nat) : Int), Value.int .i64 u.n, Value.int .i64 u.a, Value.int .i64 u.b], Value.bool true]) (q_move rfl) ?_
      refine Wl.q (v := Value.agg #[Value.int .u8 ((u.kind : Nat) : Int), Value.int .i64 u.n, Value.int .i64 u.a, Value.int .i64 u.b]) (q_extract (i := 0) rfl rfl) ?_
      refine Wl.q (v := Value.bool true) (q_extract (i := 1) rfl rfl) ?_
      refine Wl.e (e_alloc (vs := [Value.int .u8 0, Value.int .i64 0, Value.int .i64 0, Value.int .i64 0]) zo_28 rfl) (fun tb _ => ?_)
      refine Wl.imp (L' := (pt tb 28 [Value.int .u8 0, Value.int .i64 0, Value.int .i64 0, Value.int .i64 0]) :: (storeI s ts) :: (pt k 74 [Value.pointer (some ⟨s, 0, none⟩), Value.slice (some ⟨hb, 0, none⟩) (p2 + 1) hc, Value.slice (some ⟨ub, 0, none⟩) vs.length uc, tw]) :: (slp 4 1 hb hc (Z.1.map Value.bool)) :: (sl 3 1 tw Z.2.length (Z.2.map natV)) :: (slp 41 1 ub uc vs) :: (grp (inners vs U)) :: F) (fun _ h => h) ?_
      refine Wl.e (e_storeAgg (i := 0) (vs := [Value.int .u8 ((u.kind : Nat) : Int), Value.int .i64 u.n, Value.int .i64 u.a, Value.int .i64 u.b]) (c' := [Value.int .u8 ((u.kind : Nat) : Int), Value.int .i64 u.n, Value.int .i64 u.a, Value.int .i64 u.b]) sz_28 rfl rfl rfl rfl (by simp) rfl) (fun _ _ => ?_)
      refine Wl.imp (L' := (pt tb 28 [Value.int .u8 ((u.kind : Nat) : Int), Value.int .i64 u.n, Value.int .i64 u.a, Value.int .i64 u.b]) :: (storeI s ts) :: (pt k 74 [Value.pointer (some ⟨s, 0, none⟩), Value.slice (some ⟨hb, 0, none⟩) (p2 + 1) hc, Value.slice (some ⟨ub, 0, none⟩) vs.length uc, tw]) :: (slp 4 1 hb hc (Z.1.map Value.bool)) :: (sl 3 1 tw Z.2.length (Z.2.map natV)) :: (slp 41 1 ub uc vs) :: (grp (inners vs U)) :: F) (fun _ h => h) ?_
      refine Wl.q (v := Value.bool true) (q_assign rfl) ?_
      refine Wl.done ?_
      refine Wx.go ?_
      refine Wc.seq ?_
      refine Wc.region ?_
      refine Wl.imp (L' := (sl 4 1 (Value.slice (some ⟨hb, 0, none⟩) (p2 + 1) hc) (p2 + 1) (Z.1.map Value.bool)) :: (pt tb 28 [Value.int .u8 ((u.kind : Nat) : Int), Value.int .i64 u.n, Value.int .i64 u.a, Value.int .i64 u.b]) :: (storeI s ts) :: (pt k 74 [Value.pointer (some ⟨s, 0, none⟩), Value.slice (some ⟨hb, 0, none⟩) (p2 + 1) hc, Value.slice (some ⟨ub, 0, none⟩) vs.length uc, tw]) :: (sl 3 1 tw Z.2.length (Z.2.map natV)) :: (slp 41 1 ub uc vs) :: (grp (inners vs U)) :: F) (fun w hs => st_slp_sl (by rw [List.length_map]; omega) (st_pull [3, 0, 0, 0, 0, 0, 0] (hs))) ?_
      refine Wl.q (v := Value.pointer (some ⟨k, 0, none⟩)) (q_move hE0_0) ?_
      refine Wl.q (v := Value.pointer (some ⟨k, 0, none⟩)) (q_move hE0_0) ?_
      refine Wl.q (v := Value.pointer (some ⟨k, 0, none⟩)) (q_nil_ptr rfl) ?_
      refine Wl.q (v := Value.pointer (some ⟨k, 1, none⟩)) (q_field (m := 1) fo_74_1 rfl rfl) ?_
      refine Wl.q (v := Value.slice (some ⟨hb, 0, none⟩) (p2 + 1) hc) (q_load sc_71 rfl (.cel (i := 3) rfl rfl)) ?_
      refine Wl.e (e_buildSlice (cs := [Value.bool false]) se_71 zo_4 (by decide) (by decide) (by kernel_rfl)) (fun b3 _ => ?_)
      refine Wl.imp (L' := (pt b3 4 [Value.bool false]) :: (sl 4 1 (Value.slice (some ⟨hb, 0, none⟩) (p2 + 1) hc) (p2 + 1) (Z.1.map Value.bool)) :: (pt tb 28 [Value.int .u8 ((u.kind : Nat) : Int), Value.int .i64 u.n, Value.int .i64 u.a, Value.int .i64 u.b]) :: (storeI s ts) :: (pt k 74 [Value.pointer (some ⟨s, 0, none⟩), Value.slice (some ⟨hb, 0, none⟩) (p2 + 1) hc, Value.slice (some ⟨ub, 0, none⟩) vs.length uc, tw]) :: (sl 3 1 tw Z.2.length (Z.2.map natV)) :: (slp 41 1 ub uc vs) :: (grp (inners vs U)) :: F) (fun _ h => h) ?_
      refine Wl.e (e_append (i := 1) (k := 1) (m := 1) (off := 0) (news := [Value.bool false]) Try.underlying71 sz_4 by_4 zo_4 rfl rfl rfl rfl rfl (Has.of_pt (i := 0) rfl rfl) rfl (by decide) (by simp only [maxLen]; omega) (by omega)) (fun hv2 _ => ?_)
      refine Wl.imp (L' := (pt b3 4 [Value.bool false]) :: (sl 4 1 hv2 ((p2 + 1) + 1) ((Z.1.map Value.bool) ++ [Value.bool false])) :: (pt tb 28 [Value.int .u8 ((u.kind : Nat) : Int), Value.int .i64 u.n, Value.int .i64 u.a, Value.int .i64 u.b]) :: (storeI s ts) :: (pt k 74 [Value.pointer (some ⟨s, 0, none⟩), Value.slice (some ⟨hb, 0, none⟩) (p2 + 1) hc, Value.slice (some ⟨ub, 0, none⟩) vs.length uc, tw]) :: (sl 3 1 tw Z.2.length (Z.2.map natV)) :: (slp 41 1 ub uc vs) :: (grp (inners vs U)) :: F) (fun _ h => h) ?_
      refine Wl.q (v := Value.pointer (some ⟨k, 0, none⟩)) (q_nil_ptr rfl) ?_
      refine Wl.q (v := Value.pointer (some ⟨k, 1, none⟩)) (q_field (m := 1) fo_74_1 rfl rfl) ?_
      refine Wl.e (e_store (i := 4) (v := hv2) sz_71 rfl rfl (fun _ h => sl_one (i := 1) h rfl) rfl (by simp)) (fun _ _ => ?_)
      refine Wl.imp (L' := (pt b3 4 [Value.bool false]) :: (sl 4 1 hv2 ((p2 + 1) + 1) ((Z.1.map Value.bool) ++ [Value.bool false])) :: (pt tb 28 [Value.int .u8 ((u.kind : Nat) : Int), Value.int .i64 u.n, Value.int .i64 u.a, Value.int .i64 u.b]) :: (storeI s ts) :: (pt k 74 [Value.pointer (some ⟨s, 0, none⟩), hv2, Value.slice (some ⟨ub, 0, none⟩) vs.length uc, tw]) :: (sl 3 1 tw Z.2.length (Z.2.map natV)) :: (slp 41 1 ub uc vs) :: (grp (inners vs U)) :: F) (fun _ h => h) ?_
      refine Wl.done ?_
      refine Wx.go ?_
      refine Wc.seq ?_
      refine Wc.region ?_
      refine Wl.sl (i := 1) (m := (p2 + 1 + 1)) rfl (by omega) (fun hb2 hc2 hvh hch => ?_)
      subst hvh
      refine Wl.imp (L' := (sl 41 1 (Value.slice (some ⟨ub, 0, none⟩) vs.length uc) vs.length vs) :: (pt b3 4 [Value.bool false]) :: (slp 4 1 hb2 hc2 (Z.1.map Value.bool ++ [Value.bool false])) :: (pt tb 28 [Value.int .u8 ((u.kind : Nat) : Int), Value.int .i64 u.n, Value.int .i64 u.a, Value.int .i64 u.b]) :: (storeI s ts) :: (pt k 74 [Value.pointer (some ⟨s, 0, none⟩), Value.slice (some ⟨hb2, 0, none⟩) (p2 + 1 + 1) hc2, Value.slice (some ⟨ub, 0, none⟩) vs.length uc, tw]) :: (sl 3 1 tw Z.2.length (Z.2.map natV)) :: (grp (inners vs U)) :: F) (fun w hs => st_slp_sl rfl (st_pull [6, 0, 0, 0, 0, 0, 0, 0] (hs))) ?_
      refine Wl.q (v := Value.pointer (some ⟨k, 0, none⟩)) (q_move hE0_0) ?_
      refine Wl.q (v := Value.pointer (some ⟨k, 0, none⟩)) (q_move hE0_0) ?_
      refine Wl.q (v := Value.pointer (some ⟨k, 0, none⟩)) (q_nil_ptr rfl) ?_
      refine Wl.q (v := Value.pointer (some ⟨k, 2, none⟩)) (q_field (m := 2) fo_74_2 rfl rfl) ?_
      refine Wl.q (v := Value.slice (some ⟨ub, 0, none⟩) vs.length uc) (q_load sc_72 rfl (.cel (i := 5) rfl rfl)) ?_
      refine Wl.e (e_buildSlice (cs := [Value.slice none 0 0]) se_72 zo_41 (by decide) (by decide) (by kernel_rfl)) (fun b4 _ => ?_)
      refine Wl.imp (L' := (pt b4 41 [Value.slice none 0 0]) :: (sl 41 1 (Value.slice (some ⟨ub, 0, none⟩) vs.length uc) vs.length vs) :: (pt b3 4 [Value.bool false]) :: (slp 4 1 hb2 hc2 (Z.1.map Value.bool ++ [Value.bool false])) :: (pt tb 28 [Value.int .u8 ((u.kind : Nat) : Int), Value.int .i64 u.n, Value.int .i64 u.a, Value.int .i64 u.b]) :: (storeI s ts) :: (pt k 74 [Value.pointer (some ⟨s, 0, none⟩), Value.slice (some ⟨hb2, 0, none⟩) (p2 + 1 + 1) hc2, Value.slice (some ⟨ub, 0, none⟩) vs.length uc, tw]) :: (sl 3 1 tw Z.2.length (Z.2.map natV)) :: (grp (inners vs U)) :: F) (fun _ h => h) ?_
      refine Wl.e (e_append (i := 1) (k := 1) (m := 1) (off := 0) (news := [Value.slice none 0 0]) Try.underlying72 sz_41 by_41 zo_41 rfl rfl rfl rfl rfl (Has.of_pt (i := 0) rfl rfl) rfl (by decide) (by simp only [maxLen]; omega) (by omega)) (fun uv2 _ => ?_)
      refine Wl.imp (L' := (pt b4 41 [Value.slice none 0 0]) :: (sl 41 1 uv2 (vs.length + 1) (vs ++ [Value.slice none 0 0])) :: (pt b3 4 [Value.bool false]) :: (slp 4 1 hb2 hc2 (Z.1.map Value.bool ++ [Value.bool false])) :: (pt tb 28 [Value.int .u8 ((u.kind : Nat) : Int), Value.int .i64 u.n, Value.int .i64 u.a, Value.int .i64 u.b]) :: (storeI s ts) :: (pt k 74 [Value.pointer (some ⟨s, 0, none⟩), Value.slice (some ⟨hb2, 0, none⟩) (p2 + 1 + 1) hc2, Value.slice (some ⟨ub, 0, none⟩) vs.length uc, tw]) :: (sl 3 1 tw Z.2.length (Z.2.map natV)) :: (grp (inners vs U)) :: F) (fun _ h => h) ?_
      refine Wl.q (v := Value.pointer (some ⟨k, 0, none⟩)) (q_nil_ptr rfl) ?_
      refine Wl.q (v := Value.pointer (some ⟨k, 2, none⟩)) (q_field (m := 2) fo_74_2 rfl rfl) ?_
      refine Wl.e (e_store (i := 6) (v := uv2) sz_72 rfl rfl (fun _ h => sl_one (i := 1) h rfl) rfl (by simp)) (fun _ _ => ?_)
      refine Wl.imp (L' := (pt b4 41 [Value.slice none 0 0]) :: (sl 41 1 uv2 (vs.length + 1) (vs ++ [Value.slice none 0 0])) :: (pt b3 4 [Value.bool false]) :: (slp 4 1 hb2 hc2 (Z.1.map Value.bool ++ [Value.bool false])) :: (pt tb 28 [Value.int .u8 ((u.kind : Nat) : Int), Value.int .i64 u.n, Value.int .i64 u.a, Value.int .i64 u.b]) :: (storeI s ts) :: (pt k 74 [Value.pointer (some ⟨s, 0, none⟩), Value.slice (some ⟨hb2, 0, none⟩) (p2 + 1 + 1) hc2, uv2, tw]) :: (sl 3 1 tw Z.2.length (Z.2.map natV)) :: (grp (inners vs U)) :: F) (fun _ h => h) ?_
      refine Wl.done ?_
      refine Wx.go ?_
      refine Wc.seq ?_
      refine Wc.seq ?_
      refine Wc.region ?_
      refine Wl.sl (i := 1) (m := (vs.length + 1)) rfl (by omega) (fun ub2 uc2 hvu2 hcu2 => ?_)
      subst hvu2
      refine Wl.imp (L' := (grp (inners (vs ++ [Value.slice none 0 0]) (U ++ [[]]))) :: (pt k 74 [Value.pointer (some ⟨s, 0, none⟩), Value.slice (some ⟨hb2, 0, none⟩) (p2 + 1 + 1) hc2, Value.slice (some ⟨ub2, 0, none⟩) (vs.length + 1) uc2, tw]) :: (slp 4 1 hb2 hc2 (((Z.1 ++ [false], Z.2) : Sd).1.map Value.bool)) :: (sl 3 1 tw Z.2.length (Z.2.map natV)) :: (storeI s ts) :: (slp 41 1 ub2 uc2 (vs ++ [Value.slice none 0 0])) :: (pt tb 28 [Value.int .u8 ((u.kind : Nat) : Int), Value.int .i64 u.n, Value.int .i64 u.a, Value.int .i64 u.b]) :: F) (fun w hs => by rw [show (((Z.1 ++ [false], Z.2) : Sd)).1.map Value.bool = Z.1.map Value.bool ++ [Value.bool false] from List.map_append]; exact st_inner_snoc hvu (st_pull [6, 4, 1, 3, 2, 0, 0] (st_drop (st_drop (st_pull [0, 1] hs))))) ?_
      refine Wl.q (v := Value.pointer (some ⟨tb, 2, none⟩)) (q_field (m := 2) fo_28_2 rfl rfl) ?_
      refine Wl.q (v := Value.int .i64 u.a) (q_load sc_3 rfl (.cel (i := 6) rfl rfl)) ?_
      refine Wl.q (v := Value.pointer (some ⟨tb, 3, none⟩)) (q_field (m := 3) fo_28_3 rfl rfl) ?_
      refine Wl.q (v := Value.int .i64 u.b) (q_load sc_3 rfl (.cel (i := 6) rfl rfl)) ?_
      refine Wl.e (e_buildSlice (cs := [Value.int .i64 u.a, Value.int .i64 u.b]) se_41 zo_3 (by decide) (by decide) (by kernel_rfl)) (fun ab _ => ?_)
      refine Wl.imp (L' := (pt ab 3 [Value.int .i64 u.a, Value.int .i64 u.b]) :: (grp (inners (vs ++ [Value.slice none 0 0]) (U ++ [[]]))) :: (pt k 74 [Value.pointer (some ⟨s, 0, none⟩), Value.slice (some ⟨hb2, 0, none⟩) (p2 + 1 + 1) hc2, Value.slice (some ⟨ub2, 0, none⟩) (vs.length + 1) uc2, tw]) :: (slp 4 1 hb2 hc2 (((Z.1 ++ [false], Z.2) : Sd).1.map Value.bool)) :: (sl 3 1 tw Z.2.length (Z.2.map natV)) :: (storeI s ts) :: (slp 41 1 ub2 uc2 (vs ++ [Value.slice none 0 0])) :: (pt tb 28 [Value.int .u8 ((u.kind : Nat) : Int), Value.int .i64 u.n, Value.int .i64 u.a, Value.int .i64 u.b]) :: F) (fun _ h => h) ?_
      refine Wl.q (v := Value.int .i64 2) (q_len_slice Try.underlying41 rfl) ?_
      refine Wl.q (v := Value.int .i64 0) (q_move rfl) ?_
      refine Wl.done ?_
      refine Wx.go ?_
      refine Wc.block ?_
      refine Wc.loop (X := Nat × List Value) (fun (i, ws) E => E 56 = Value.int .i64 ((i : Nat) : Int) ∧ E 0 = Value.pointer (some ⟨k, 0, none⟩) ∧ E 2 = Value.int .i64 (((p2 + 1) : Nat) : Int) ∧ E 3 = Value.pointer (some ⟨tb, 0, none⟩) ∧ E 54 = Value.slice (some ⟨ab, 0, none⟩) 2 2 ∧ E 55 = Value.int .i64 2 ∧ i ≤ 2 ∧ ws.length = (U ++ [[]]).length) (fun (i, ws) => (pt k 74 [Value.pointer (some ⟨s, 0, none⟩), Value.slice (some ⟨hb2, 0, none⟩) (p2 + 1 + 1) hc2, Value.slice (some ⟨ub2, 0, none⟩) (vs.length + 1) uc2, tw]) :: (slp 4 1 hb2 hc2 (((Z.1 ++ [false], Z.2) : Sd).1.map Value.bool)) :: (sl 3 1 tw Z.2.length (Z.2.map natV)) :: (storeI s ts) :: (slp 41 1 ub2 uc2 ws) :: (grp (inners ws (gU u (U ++ [[]]) (p2 + 1) i))) :: (pt tb 28 [Value.int .u8 ((u.kind : Nat) : Int), Value.int .i64 u.n, Value.int .i64 u.a, Value.int .i64 u.b]) :: (pt ab 3 [Value.int .i64 u.a, Value.int .i64 u.b]) :: F) (fun (i, ws) => 2 - i) (0, vs ++ [Value.slice none 0 0]) ?_ ?_ ?_
      · exact ⟨rfl, hE0_0, hE2_0, rfl, rfl, rfl, (by decide), (by rw [List.length_append, List.length_append, hvu]; rfl)⟩
      · exact fun w hs => (st_pull [2, 2, 2, 2, 2, 1, 1, 0] (hs))
      · rintro ⟨i, ws⟩ E6 ⟨hE56_4, hE0_4, hE2_4, hE3_4, hE54_4, hE55_4, hi2, hwl⟩
        dsimp only at *
        obtain rfl | rfl | rfl : i = 0 ∨ i = 1 ∨ i = 2 := by omega
        ·
          refine Wc.seq ?_
          refine Wc.region ?_
          refine Wl.q (v := Value.bool true) (q_lss (r := true) hE56_4 hE55_4 (decide_eq_true (by decide))) ?_
          refine Wl.done ?_
          refine Wx.go ?_
          refine Wc.seq ?_
          refine Wc.yes rfl ?_
          refine Wc.skip ?_
          refine Wx.go ?_
          refine Wc.seq ?_
          refine Wc.block ?_
          refine Wc.seq ?_
          refine Wc.region ?_
          refine Wl.q (v := Value.pointer (some ⟨ab, 0, none⟩)) (q_idx (m := 0) se_41 hE54_4 hE56_4 (by omega) (by omega) rfl) ?_
          refine Wl.q (v := Value.int .i64 u.a) (q_load sc_3 rfl (.cel (i := 7) rfl rfl)) ?_
          refine Wl.q (v := Value.int .i64 u.a) (q_assign rfl) ?_
          refine Wl.done ?_
          refine Wx.go ?_
          refine Wc.seq ?_
          refine Wc.region ?_
          refine Wl.q (v := Value.int .i64 u.a) (q_move rfl) ?_
          by_cases hq0 : u.a > 0
          ·
            have hwl2 : ws.length = (gU u (U ++ [[]]) (p2 + 1) 0).length := by rw [gU_len]; exact hwl
            have hlw : ws.length = vs.length + 1 := by rw [hwl, List.length_append, List.length_singleton]; omega
            have hul3 : ((gU u (U ++ [[]]) (p2 + 1) 0).getD u.a.toNat []).length ≤ 3 * p2 + 2 := gU_le hun u.a.toNat (by omega) (by omega)
            obtain ⟨vn, hvn⟩ : ∃ v, ws[u.a.toNat]? = some v := ⟨ws[u.a.toNat]'(by omega), List.getElem?_eq_getElem (by omega)⟩
            refine Wl.imp (L' := (sl 3 1 vn (((gU u (U ++ [[]]) (p2 + 1) 0).getD u.a.toNat []).length) (((gU u (U ++ [[]]) (p2 + 1) 0).getD u.a.toNat []).map natV)) :: (grp ((inners ws (gU u (U ++ [[]]) (p2 + 1) 0)).eraseIdx u.a.toNat)) :: (pt k 74 [Value.pointer (some ⟨s, 0, none⟩), Value.slice (some ⟨hb2, 0, none⟩) (p2 + 1 + 1) hc2, Value.slice (some ⟨ub2, 0, none⟩) (vs.length + 1) uc2, tw]) :: (slp 4 1 hb2 hc2 (((Z.1 ++ [false], Z.2) : Sd).1.map Value.bool)) :: (sl 3 1 tw Z.2.length (Z.2.map natV)) :: (storeI s ts) :: (slp 41 1 ub2 uc2 ws) :: (pt tb 28 [Value.int .u8 ((u.kind : Nat) : Int), Value.int .i64 u.n, Value.int .i64 u.a, Value.int .i64 u.b]) :: (pt ab 3 [Value.int .i64 u.a, Value.int .i64 u.b]) :: F) (fun w hs => st_inner hvn hwl2 (st_pull [5, 0, 0, 0, 0, 0, 0, 0] (hs))) ?_
            refine Wl.q (v := Value.bool true) (q_gtr (r := true) rfl rfl (decide_eq_true hq0)) ?_
            refine Wl.done ?_
            refine Wx.go ?_
            refine Wc.yes rfl ?_
            refine Wc.drawsS [16] ((grp ((inners ws (gU u (U ++ [[]]) (p2 + 1) 0)).eraseIdx u.a.toNat)) :: (pt k 74 [Value.pointer (some ⟨s, 0, none⟩), Value.slice (some ⟨hb2, 0, none⟩) (p2 + 1 + 1) hc2, Value.slice (some ⟨ub2, 0, none⟩) (vs.length + 1) uc2, tw]) :: (slp 4 1 hb2 hc2 (((Z.1 ++ [false], Z.2) : Sd).1.map Value.bool)) :: (storeI s ts) :: (slp 41 1 ub2 uc2 ws) :: (pt tb 28 [Value.int .u8 ((u.kind : Nat) : Int), Value.int .i64 u.n, Value.int .i64 u.a, Value.int .i64 u.b]) :: (pt ab 3 [Value.int .i64 u.a, Value.int .i64 u.b]) :: []) (by kernel_rfl) ?_
            refine Wr.pure (v := Value.pointer (some ⟨k, 0, none⟩)) 0 rfl (by kernel_rfl) (.inr (fun _ h => st_take [1, 1, 1, 2, 2, 2, 2] h)) (.inl ⟨rfl, fun _ => q_move hE0_4⟩) ?_
            refine Wr.pure (v := Value.pointer (some ⟨k, 0, none⟩)) 1 rfl (by kernel_rfl) (.inr (fun _ h => st_take [1, 1, 1, 2, 2, 2, 2] h)) (.inl ⟨rfl, fun _ => q_nil_ptr rfl⟩) ?_
            refine Wr.pure (v := Value.pointer (some ⟨k, 2, none⟩)) 2 rfl (by kernel_rfl) (.inr (fun _ h => st_take [1, 1, 1, 2, 2, 2, 2] h)) (.inl ⟨rfl, fun _ => q_field (m := 2) fo_74_2 rfl rfl⟩) ?_
            refine Wr.take (v := Value.slice (some ⟨ub2, 0, none⟩) (vs.length + 1) uc2) 3 rfl (by kernel_rfl) (fun _ h => st_take [1, 1, 1, 2, 2, 2, 2] h) (.inl ⟨rfl, q_load sc_72 rfl (.cel (i := 1) rfl rfl)⟩) ?_
            refine Wr.pure (v := Value.int .i64 u.a) 4 rfl (by kernel_rfl) (.inr (fun _ h => st_take [1, 1, 1, 2, 2, 2, 2] h)) (.inl ⟨rfl, fun _ => q_move rfl⟩) ?_
            refine Wr.pure (v := Value.pointer (some ⟨k, 0, none⟩)) 5 rfl (by kernel_rfl) (.inr (fun _ h => st_take [1, 1, 1, 2, 2, 2, 2] h)) (.inl ⟨rfl, fun _ => q_move hE0_4⟩) ?_
            refine Wr.pure (v := Value.pointer (some ⟨k, 0, none⟩)) 6 rfl (by kernel_rfl) (.inr (fun _ h => st_take [1, 1, 1, 2, 2, 2, 2] h)) (.inl ⟨rfl, fun _ => q_nil_ptr rfl⟩) ?_
            refine Wr.pure (v := Value.pointer (some ⟨k, 2, none⟩)) 7 rfl (by kernel_rfl) (.inr (fun _ h => st_take [1, 1, 1, 2, 2, 2, 2] h)) (.inl ⟨rfl, fun _ => q_field (m := 2) fo_74_2 rfl rfl⟩) ?_
            refine Wr.take (v := Value.slice (some ⟨ub2, 0, none⟩) (vs.length + 1) uc2) 8 rfl (by kernel_rfl) (fun _ h => st_take [1, 1, 1, 2, 2, 2, 2] h) (.inl ⟨rfl, q_load sc_72 rfl (.cel (i := 1) rfl rfl)⟩) ?_
            refine Wr.pure (v := Value.int .i64 u.a) 9 rfl (by kernel_rfl) (.inr (fun _ h => st_take [1, 1, 1, 2, 2, 2, 2] h)) (.inl ⟨rfl, fun _ => q_move rfl⟩) ?_
            refine Wr.pure (v := Value.pointer (some ⟨ub2, (u.a).toNat, none⟩)) 10 rfl (by kernel_rfl) (.inr (fun _ h => st_take [1, 1, 1, 2, 2, 2, 2] h)) (.inl ⟨rfl, fun _ => q_idx (m := (u.a).toNat) se_72 rfl rfl (by omega) (by omega) (by simp)⟩) ?_
            refine Wr.take (v := vn) 11 rfl (by kernel_rfl) (fun _ h => st_take [1, 1, 1, 2, 2, 2, 2] h) (.inl ⟨rfl, q_load sc_41 rfl (.row (i := 4) rfl hvn)⟩) ?_
            refine Wr.pure (v := Value.int .i64 (((p2 + 1) : Nat) : Int)) 12 rfl (by kernel_rfl) (.inr (fun _ h => st_take [1, 1, 1, 2, 2, 2, 2] h)) (.inl ⟨rfl, fun _ => q_move hE2_4⟩) ?_
            refine Wr.e 13 (by kernel_rfl) rfl (e_buildSlice (cs := [Value.int .i64 (((p2 + 1) : Nat) : Int)]) se_41 zo_3 (by decide) (by decide) (by kernel_rfl)) (.inr fun _ _ _ h => st_take [2, 2, 2, 3, 3, 3, 3] h) (fun b7 _ => ?_)
            refine Wr.imp (L' := (pt b7 3 [Value.int .i64 (((p2 + 1) : Nat) : Int)]) :: (sl 3 1 vn (((gU u (U ++ [[]]) (p2 + 1) 0).getD u.a.toNat []).length) (((gU u (U ++ [[]]) (p2 + 1) 0).getD u.a.toNat []).map natV)) :: (grp ((inners ws (gU u (U ++ [[]]) (p2 + 1) 0)).eraseIdx u.a.toNat)) :: (pt k 74 [Value.pointer (some ⟨s, 0, none⟩), Value.slice (some ⟨hb2, 0, none⟩) (p2 + 1 + 1) hc2, Value.slice (some ⟨ub2, 0, none⟩) (vs.length + 1) uc2, tw]) :: (slp 4 1 hb2 hc2 (((Z.1 ++ [false], Z.2) : Sd).1.map Value.bool)) :: (sl 3 1 tw Z.2.length (Z.2.map natV)) :: (storeI s ts) :: (slp 41 1 ub2 uc2 ws) :: (pt tb 28 [Value.int .u8 ((u.kind : Nat) : Int), Value.int .i64 u.n, Value.int .i64 u.a, Value.int .i64 u.b]) :: (pt ab 3 [Value.int .i64 u.a, Value.int .i64 u.b]) :: F) (fun _ h => h) ?_
            refine Wr.more (S' := (pt b7 3 [Value.int .i64 (((p2 + 1) : Nat) : Int)]) :: (grp ((inners ws (gU u (U ++ [[]]) (p2 + 1) 0)).eraseIdx u.a.toNat)) :: (pt k 74 [Value.pointer (some ⟨s, 0, none⟩), Value.slice (some ⟨hb2, 0, none⟩) (p2 + 1 + 1) hc2, Value.slice (some ⟨ub2, 0, none⟩) (vs.length + 1) uc2, tw]) :: (slp 4 1 hb2 hc2 (((Z.1 ++ [false], Z.2) : Sd).1.map Value.bool)) :: (storeI s ts) :: (slp 41 1 ub2 uc2 ws) :: (pt tb 28 [Value.int .u8 ((u.kind : Nat) : Int), Value.int .i64 u.n, Value.int .i64 u.a, Value.int .i64 u.b]) :: (pt ab 3 [Value.int .i64 u.a, Value.int .i64 u.b]) :: []) (fun _ h => st_drop h) ?_
            refine Wr.e 14 (by kernel_rfl) rfl (e_append (i := 1) (k := 1) (m := 1) (off := 0) (news := [Value.int .i64 (((p2 + 1) : Nat) : Int)]) Try.underlying41 sz_3 by_3 zo_3 rfl rfl rfl rfl rfl (Has.of_pt (i := 0) rfl rfl) rfl (by decide) (by simp only [maxLen]; omega) (by omega)) (.inr fun _ _ _ h => st_take [0, 1, 1, 1, 2, 2, 2, 2] h) (fun vn2 _ => ?_)
            refine Wr.imp (L' := (pt b7 3 [Value.int .i64 (((p2 + 1) : Nat) : Int)]) :: (sl 3 1 vn2 ((((gU u (U ++ [[]]) (p2 + 1) 0).getD u.a.toNat []).length) + 1) ((((gU u (U ++ [[]]) (p2 + 1) 0).getD u.a.toNat []).map natV) ++ [Value.int .i64 (((p2 + 1) : Nat) : Int)])) :: (grp ((inners ws (gU u (U ++ [[]]) (p2 + 1) 0)).eraseIdx u.a.toNat)) :: (pt k 74 [Value.pointer (some ⟨s, 0, none⟩), Value.slice (some ⟨hb2, 0, none⟩) (p2 + 1 + 1) hc2, Value.slice (some ⟨ub2, 0, none⟩) (vs.length + 1) uc2, tw]) :: (slp 4 1 hb2 hc2 (((Z.1 ++ [false], Z.2) : Sd).1.map Value.bool)) :: (sl 3 1 tw Z.2.length (Z.2.map natV)) :: (storeI s ts) :: (slp 41 1 ub2 uc2 ws) :: (pt tb 28 [Value.int .u8 ((u.kind : Nat) : Int), Value.int .i64 u.n, Value.int .i64 u.a, Value.int .i64 u.b]) :: (pt ab 3 [Value.int .i64 u.a, Value.int .i64 u.b]) :: F) (fun _ h => h) ?_
            refine Wr.pure (v := Value.pointer (some ⟨ub2, (u.a).toNat, none⟩)) 15 rfl (by kernel_rfl) (.inr (fun _ h => st_take [0, 1, 1, 1, 2, 2, 2, 2] h)) (.inl ⟨rfl, fun _ => q_idx (m := (u.a).toNat) se_72 rfl rfl (by omega) (by omega) (by simp)⟩) ?_
            refine Wr.e 16 (by kernel_rfl) rfl (e_store_slpS (i := 7) (v := vn2) (c' := (ws.set ((u.a).toNat) vn2)) sz_41 rfl rfl (fun w hs => sl_cells (i := 1) hs rfl) rfl (by omega) (splice_id (by omega))) (.inl (by kernel_rfl)) (fun _ _ => ?_)
            refine Wr.imp (L' := (pt b7 3 [Value.int .i64 (((p2 + 1) : Nat) : Int)]) :: (sl 3 1 vn2 ((((gU u (U ++ [[]]) (p2 + 1) 0).getD u.a.toNat []).length) + 1) ((((gU u (U ++ [[]]) (p2 + 1) 0).getD u.a.toNat []).map natV) ++ [Value.int .i64 (((p2 + 1) : Nat) : Int)])) :: (grp ((inners ws (gU u (U ++ [[]]) (p2 + 1) 0)).eraseIdx u.a.toNat)) :: (pt k 74 [Value.pointer (some ⟨s, 0, none⟩), Value.slice (some ⟨hb2, 0, none⟩) (p2 + 1 + 1) hc2, Value.slice (some ⟨ub2, 0, none⟩) (vs.length + 1) uc2, tw]) :: (slp 4 1 hb2 hc2 (((Z.1 ++ [false], Z.2) : Sd).1.map Value.bool)) :: (sl 3 1 tw Z.2.length (Z.2.map natV)) :: (storeI s ts) :: (slp 41 1 ub2 uc2 (ws.set ((u.a).toNat) vn2)) :: (pt tb 28 [Value.int .u8 ((u.kind : Nat) : Int), Value.int .i64 u.n, Value.int .i64 u.a, Value.int .i64 u.b]) :: (pt ab 3 [Value.int .i64 u.a, Value.int .i64 u.b]) :: F) (fun _ h => h) ?_
            refine Wr.rebaseS [] ((pt b7 3 [Value.int .i64 (((p2 + 1) : Nat) : Int)]) :: (sl 3 1 vn2 ((((gU u (U ++ [[]]) (p2 + 1) 0).getD u.a.toNat []).length) + 1) ((((gU u (U ++ [[]]) (p2 + 1) 0).getD u.a.toNat []).map natV) ++ [Value.int .i64 (((p2 + 1) : Nat) : Int)])) :: (grp ((inners ws (gU u (U ++ [[]]) (p2 + 1) 0)).eraseIdx u.a.toNat)) :: (pt k 74 [Value.pointer (some ⟨s, 0, none⟩), Value.slice (some ⟨hb2, 0, none⟩) (p2 + 1 + 1) hc2, Value.slice (some ⟨ub2, 0, none⟩) (vs.length + 1) uc2, tw]) :: (slp 4 1 hb2 hc2 (((Z.1 ++ [false], Z.2) : Sd).1.map Value.bool)) :: (sl 3 1 tw Z.2.length (Z.2.map natV)) :: (storeI s ts) :: (slp 41 1 ub2 uc2 (ws.set ((u.a).toNat) vn2)) :: (pt tb 28 [Value.int .u8 ((u.kind : Nat) : Int), Value.int .i64 u.n, Value.int .i64 u.a, Value.int .i64 u.b]) :: (pt ab 3 [Value.int .i64 u.a, Value.int .i64 u.b]) :: []) (by kernel_rfl) ?_
            refine Wr.done (by kernel_rfl) ?_
            refine Wx.blockEnd ?_
            refine Wx.go ?_
            refine Wc.region ?_
            refine Wl.q (v := Value.int .i64 1) (q_add (c := 1) hE56_4 rfl (by decide)) ?_
            refine Wl.q (v := Value.int .i64 1) (q_move rfl) ?_
            refine Wl.done ?_
            refine Wx.at (1, (ws.set u.a.toNat vn2)) ⟨(by simp only; omega), rfl, hE0_4, hE2_4, hE3_4, hE54_4, hE55_4, (by simp only; omega), (by rw [List.length_set]; exact hwl)⟩ (fun w hs => by rw [gU1y (by omega)]; have hs := (st_drop (st_pull [0] hs)); exact st_pull [1, 1, 1, 1, 1, 0] (st_inner_set (u' := (gU u (U ++ [[]]) (p2 + 1) 0).getD u.a.toNat [] ++ [p2 + 1]) hvn hwl2 (by rw [List.length_append, List.map_append]; exact hs)))
          ·
            refine Wl.q (v := Value.bool false) (q_gtr (r := false) rfl rfl (decide_eq_false hq0)) ?_
            refine Wl.done ?_
            refine Wx.go ?_
            refine Wc.no rfl ?_
            refine Wc.skip ?_
            refine Wx.blockEnd ?_
            refine Wx.go ?_
            refine Wc.region ?_
            refine Wl.q (v := Value.int .i64 1) (q_add (c := 1) hE56_4 rfl (by decide)) ?_
            refine Wl.q (v := Value.int .i64 1) (q_move rfl) ?_
            refine Wl.done ?_
            refine Wx.at (1, ws) ⟨(by simp only; omega), rfl, hE0_4, hE2_4, hE3_4, hE54_4, hE55_4, (by simp only; omega), hwl⟩ (fun w hs => by rw [gU1n (by omega)]; exact hs)
        ·
          refine Wc.seq ?_
          refine Wc.region ?_
          refine Wl.q (v := Value.bool true) (q_lss (r := true) hE56_4 hE55_4 (decide_eq_true (by decide))) ?_
          refine Wl.done ?_
          refine Wx.go ?_
          refine Wc.seq ?_
          refine Wc.yes rfl ?_
          refine Wc.skip ?_
          refine Wx.go ?_
          refine Wc.seq ?_
          refine Wc.block ?_
          refine Wc.seq ?_
          refine Wc.region ?_
          refine Wl.q (v := Value.pointer (some ⟨ab, 1, none⟩)) (q_idx (m := 1) se_41 hE54_4 hE56_4 (by omega) (by omega) rfl) ?_
          refine Wl.q (v := Value.int .i64 u.b) (q_load sc_3 rfl (.cel (i := 7) rfl rfl)) ?_
          refine Wl.q (v := Value.int .i64 u.b) (q_assign rfl) ?_
          refine Wl.done ?_
          refine Wx.go ?_
          refine Wc.seq ?_
          refine Wc.region ?_
          refine Wl.q (v := Value.int .i64 u.b) (q_move rfl) ?_
          by_cases hq0 : u.b > 0
          ·
            have hwl2 : ws.length = (gU u (U ++ [[]]) (p2 + 1) 1).length := by rw [gU_len]; exact hwl
            have hlw : ws.length = vs.length + 1 := by rw [hwl, List.length_append, List.length_singleton]; omega
            have hul3 : ((gU u (U ++ [[]]) (p2 + 1) 1).getD u.b.toNat []).length ≤ 3 * p2 + 2 := gU_le hun u.b.toNat (by omega) (by omega)
            obtain ⟨vn, hvn⟩ : ∃ v, ws[u.b.toNat]? = some v := ⟨ws[u.b.toNat]'(by omega), List.getElem?_eq_getElem (by omega)⟩
            refine Wl.imp (L' := (sl 3 1 vn (((gU u (U ++ [[]]) (p2 + 1) 1).getD u.b.toNat []).length) (((gU u (U ++ [[]]) (p2 + 1) 1).getD u.b.toNat []).map natV)) :: (grp ((inners ws (gU u (U ++ [[]]) (p2 + 1) 1)).eraseIdx u.b.toNat)) :: (pt k 74 [Value.pointer (some ⟨s, 0, none⟩), Value.slice (some ⟨hb2, 0, none⟩) (p2 + 1 + 1) hc2, Value.slice (some ⟨ub2, 0, none⟩) (vs.length + 1) uc2, tw]) :: (slp 4 1 hb2 hc2 (((Z.1 ++ [false], Z.2) : Sd).1.map Value.bool)) :: (sl 3 1 tw Z.2.length (Z.2.map natV)) :: (storeI s ts) :: (slp 41 1 ub2 uc2 ws) :: (pt tb 28 [Value.int .u8 ((u.kind : Nat) : Int), Value.int .i64 u.n, Value.int .i64 u.a, Value.int .i64 u.b]) :: (pt ab 3 [Value.int .i64 u.a, Value.int .i64 u.b]) :: F) (fun w hs => st_inner hvn hwl2 (st_pull [5, 0, 0, 0, 0, 0, 0, 0] (hs))) ?_
            refine Wl.q (v := Value.bool true) (q_gtr (r := true) rfl rfl (decide_eq_true hq0)) ?_
            refine Wl.done ?_
            refine Wx.go ?_
            refine Wc.yes rfl ?_
            refine Wc.drawsS [16] ((grp ((inners ws (gU u (U ++ [[]]) (p2 + 1) 1)).eraseIdx u.b.toNat)) :: (pt k 74 [Value.pointer (some ⟨s, 0, none⟩), Value.slice (some ⟨hb2, 0, none⟩) (p2 + 1 + 1) hc2, Value.slice (some ⟨ub2, 0, none⟩) (vs.length + 1) uc2, tw]) :: (slp 4 1 hb2 hc2 (((Z.1 ++ [false], Z.2) : Sd).1.map Value.bool)) :: (storeI s ts) :: (slp 41 1 ub2 uc2 ws) :: (pt tb 28 [Value.int .u8 ((u.kind : Nat) : Int), Value.int .i64 u.n, Value.int .i64 u.a, Value.int .i64 u.b]) :: (pt ab 3 [Value.int .i64 u.a, Value.int .i64 u.b]) :: []) (by kernel_rfl) ?_
            refine Wr.pure (v := Value.pointer (some ⟨k, 0, none⟩)) 0 rfl (by kernel_rfl) (.inr (fun _ h => st_take [1, 1, 1, 2, 2, 2, 2] h)) (.inl ⟨rfl, fun _ => q_move hE0_4⟩) ?_
            refine Wr.pure (v := Value.pointer (some ⟨k, 0, none⟩)) 1 rfl (by kernel_rfl) (.inr (fun _ h => st_take [1, 1, 1, 2, 2, 2, 2] h)) (.inl ⟨rfl, fun _ => q_nil_ptr rfl⟩) ?_
            refine Wr.pure (v := Value.pointer (some ⟨k, 2, none⟩)) 2 rfl (by kernel_rfl) (.inr (fun _ h => st_take [1, 1, 1, 2, 2, 2, 2] h)) (.inl ⟨rfl, fun _ => q_field (m := 2) fo_74_2 rfl rfl⟩) ?_
            refine Wr.take (v := Value.slice (some ⟨ub2, 0, none⟩) (vs.length + 1) uc2) 3 rfl (by kernel_rfl) (fun _ h => st_take [1, 1, 1, 2, 2, 2, 2] h) (.inl ⟨rfl, q_load sc_72 rfl (.cel (i := 1) rfl rfl)⟩) ?_
            refine Wr.pure (v := Value.int .i64 u.b) 4 rfl (by kernel_rfl) (.inr (fun _ h => st_take [1, 1, 1, 2, 2, 2, 2] h)) (.inl ⟨rfl, fun _ => q_move rfl⟩) ?_
            refine Wr.pure (v := Value.pointer (some ⟨k, 0, none⟩)) 5 rfl (by kernel_rfl) (.inr (fun _ h => st_take [1, 1, 1, 2, 2, 2, 2] h)) (.inl ⟨rfl, fun _ => q_move hE0_4⟩) ?_
            refine Wr.pure (v := Value.pointer (some ⟨k, 0, none⟩)) 6 rfl (by kernel_rfl) (.inr (fun _ h => st_take [1, 1, 1, 2, 2, 2, 2] h)) (.inl ⟨rfl, fun _ => q_nil_ptr rfl⟩) ?_
            refine Wr.pure (v := Value.pointer (some ⟨k, 2, none⟩)) 7 rfl (by kernel_rfl) (.inr (fun _ h => st_take [1, 1, 1, 2, 2, 2, 2] h)) (.inl ⟨rfl, fun _ => q_field (m := 2) fo_74_2 rfl rfl⟩) ?_
            refine Wr.take (v := Value.slice (some ⟨ub2, 0, none⟩) (vs.length + 1) uc2) 8 rfl (by kernel_rfl) (fun _ h => st_take [1, 1, 1, 2, 2, 2, 2] h) (.inl ⟨rfl, q_load sc_72 rfl (.cel (i := 1) rfl rfl)⟩) ?_
            refine Wr.pure (v := Value.int .i64 u.b) 9 rfl (by kernel_rfl) (.inr (fun _ h => st_take [1, 1, 1, 2, 2, 2, 2] h)) (.inl ⟨rfl, fun _ => q_move rfl⟩) ?_
            refine Wr.pure (v := Value.pointer (some ⟨ub2, (u.b).toNat, none⟩)) 10 rfl (by kernel_rfl) (.inr (fun _ h => st_take [1, 1, 1, 2, 2, 2, 2] h)) (.inl ⟨rfl, fun _ => q_idx (m := (u.b).toNat) se_72 rfl rfl (by omega) (by omega) (by simp)⟩) ?_
            refine Wr.take (v := vn) 11 rfl (by kernel_rfl) (fun _ h => st_take [1, 1, 1, 2, 2, 2, 2] h) (.inl ⟨rfl, q_load sc_41 rfl (.row (i := 4) rfl hvn)⟩) ?_
            refine Wr.pure (v := Value.int .i64 (((p2 + 1) : Nat) : Int)) 12 rfl (by kernel_rfl) (.inr (fun _ h => st_take [1, 1, 1, 2, 2, 2, 2] h)) (.inl ⟨rfl, fun _ => q_move hE2_4⟩) ?_
            refine Wr.e 13 (by kernel_rfl) rfl (e_buildSlice (cs := [Value.int .i64 (((p2 + 1) : Nat) : Int)]) se_41 zo_3 (by decide) (by decide) (by kernel_rfl)) (.inr fun _ _ _ h => st_take [2, 2, 2, 3, 3, 3, 3] h) (fun b8 _ => ?_)
            refine Wr.imp (L' := (pt b8 3 [Value.int .i64 (((p2 + 1) : Nat) : Int)]) :: (sl 3 1 vn (((gU u (U ++ [[]]) (p2 + 1) 1).getD u.b.toNat []).length) (((gU u (U ++ [[]]) (p2 + 1) 1).getD u.b.toNat []).map natV)) :: (grp ((inners ws (gU u (U ++ [[]]) (p2 + 1) 1)).eraseIdx u.b.toNat)) :: (pt k 74 [Value.pointer (some ⟨s, 0, none⟩), Value.slice (some ⟨hb2, 0, none⟩) (p2 + 1 + 1) hc2, Value.slice (some ⟨ub2, 0, none⟩) (vs.length + 1) uc2, tw]) :: (slp 4 1 hb2 hc2 (((Z.1 ++ [false], Z.2) : Sd).1.map Value.bool)) :: (sl 3 1 tw Z.2.length (Z.2.map natV)) :: (storeI s ts) :: (slp 41 1 ub2 uc2 ws) :: (pt tb 28 [Value.int .u8 ((u.kind : Nat) : Int), Value.int .i64 u.n, Value.int .i64 u.a, Value.int .i64 u.b]) :: (pt ab 3 [Value.int .i64 u.a, Value.int .i64 u.b]) :: F) (fun _ h => h) ?_
            refine Wr.more (S' := (pt b8 3 [Value.int .i64 (((p2 + 1) : Nat) : Int)]) :: (grp ((inners ws (gU u (U ++ [[]]) (p2 + 1) 1)).eraseIdx u.b.toNat)) :: (pt k 74 [Value.pointer (some ⟨s, 0, none⟩), Value.slice (some ⟨hb2, 0, none⟩) (p2 + 1 + 1) hc2, Value.slice (some ⟨ub2, 0, none⟩) (vs.length + 1) uc2, tw]) :: (slp 4 1 hb2 hc2 (((Z.1 ++ [false], Z.2) : Sd).1.map Value.bool)) :: (storeI s ts) :: (slp 41 1 ub2 uc2 ws) :: (pt tb 28 [Value.int .u8 ((u.kind : Nat) : Int), Value.int .i64 u.n, Value.int .i64 u.a, Value.int .i64 u.b]) :: (pt ab 3 [Value.int .i64 u.a, Value.int .i64 u.b]) :: []) (fun _ h => st_drop h) ?_
            refine Wr.e 14 (by kernel_rfl) rfl (e_append (i := 1) (k := 1) (m := 1) (off := 0) (news := [Value.int .i64 (((p2 + 1) : Nat) : Int)]) Try.underlying41 sz_3 by_3 zo_3 rfl rfl rfl rfl rfl (Has.of_pt (i := 0) rfl rfl) rfl (by decide) (by simp only [maxLen]; omega) (by omega)) (.inr fun _ _ _ h => st_take [0, 1, 1, 1, 2, 2, 2, 2] h) (fun vn2 _ => ?_)
            refine Wr.imp (L' := (pt b8 3 [Value.int .i64 (((p2 + 1) : Nat) : Int)]) :: (sl 3 1 vn2 ((((gU u (U ++ [[]]) (p2 + 1) 1).getD u.b.toNat []).length) + 1) ((((gU u (U ++ [[]]) (p2 + 1) 1).getD u.b.toNat []).map natV) ++ [Value.int .i64 (((p2 + 1) : Nat) : Int)])) :: (grp ((inners ws (gU u (U ++ [[]]) (p2 + 1) 1)).eraseIdx u.b.toNat)) :: (pt k 74 [Value.pointer (some ⟨s, 0, none⟩), Value.slice (some ⟨hb2, 0, none⟩) (p2 + 1 + 1) hc2, Value.slice (some ⟨ub2, 0, none⟩) (vs.length + 1) uc2, tw]) :: (slp 4 1 hb2 hc2 (((Z.1 ++ [false], Z.2) : Sd).1.map Value.bool)) :: (sl 3 1 tw Z.2.length (Z.2.map natV)) :: (storeI s ts) :: (slp 41 1 ub2 uc2 ws) :: (pt tb 28 [Value.int .u8 ((u.kind : Nat) : Int), Value.int .i64 u.n, Value.int .i64 u.a, Value.int .i64 u.b]) :: (pt ab 3 [Value.int .i64 u.a, Value.int .i64 u.b]) :: F) (fun _ h => h) ?_
            refine Wr.pure (v := Value.pointer (some ⟨ub2, (u.b).toNat, none⟩)) 15 rfl (by kernel_rfl) (.inr (fun _ h => st_take [0, 1, 1, 1, 2, 2, 2, 2] h)) (.inl ⟨rfl, fun _ => q_idx (m := (u.b).toNat) se_72 rfl rfl (by omega) (by omega) (by simp)⟩) ?_
            refine Wr.e 16 (by kernel_rfl) rfl (e_store_slpS (i := 7) (v := vn2) (c' := (ws.set ((u.b).toNat) vn2)) sz_41 rfl rfl (fun w hs => sl_cells (i := 1) hs rfl) rfl (by omega) (splice_id (by omega))) (.inl (by kernel_rfl)) (fun _ _ => ?_)
            refine Wr.imp (L' := (pt b8 3 [Value.int .i64 (((p2 + 1) : Nat) : Int)]) :: (sl 3 1 vn2 ((((gU u (U ++ [[]]) (p2 + 1) 1).getD u.b.toNat []).length) + 1) ((((gU u (U ++ [[]]) (p2 + 1) 1).getD u.b.toNat []).map natV) ++ [Value.int .i64 (((p2 + 1) : Nat) : Int)])) :: (grp ((inners ws (gU u (U ++ [[]]) (p2 + 1) 1)).eraseIdx u.b.toNat)) :: (pt k 74 [Value.pointer (some ⟨s, 0, none⟩), Value.slice (some ⟨hb2, 0, none⟩) (p2 + 1 + 1) hc2, Value.slice (some ⟨ub2, 0, none⟩) (vs.length + 1) uc2, tw]) :: (slp 4 1 hb2 hc2 (((Z.1 ++ [false], Z.2) : Sd).1.map Value.bool)) :: (sl 3 1 tw Z.2.length (Z.2.map natV)) :: (storeI s ts) :: (slp 41 1 ub2 uc2 (ws.set ((u.b).toNat) vn2)) :: (pt tb 28 [Value.int .u8 ((u.kind : Nat) : Int), Value.int .i64 u.n, Value.int .i64 u.a, Value.int .i64 u.b]) :: (pt ab 3 [Value.int .i64 u.a, Value.int .i64 u.b]) :: F) (fun _ h => h) ?_
            refine Wr.rebaseS [] ((pt b8 3 [Value.int .i64 (((p2 + 1) : Nat) : Int)]) :: (sl 3 1 vn2 ((((gU u (U ++ [[]]) (p2 + 1) 1).getD u.b.toNat []).length) + 1) ((((gU u (U ++ [[]]) (p2 + 1) 1).getD u.b.toNat []).map natV) ++ [Value.int .i64 (((p2 + 1) : Nat) : Int)])) :: (grp ((inners ws (gU u (U ++ [[]]) (p2 + 1) 1)).eraseIdx u.b.toNat)) :: (pt k 74 [Value.pointer (some ⟨s, 0, none⟩), Value.slice (some ⟨hb2, 0, none⟩) (p2 + 1 + 1) hc2, Value.slice (some ⟨ub2, 0, none⟩) (vs.length + 1) uc2, tw]) :: (slp 4 1 hb2 hc2 (((Z.1 ++ [false], Z.2) : Sd).1.map Value.bool)) :: (sl 3 1 tw Z.2.length (Z.2.map natV)) :: (storeI s ts) :: (slp 41 1 ub2 uc2 (ws.set ((u.b).toNat) vn2)) :: (pt tb 28 [Value.int .u8 ((u.kind : Nat) : Int), Value.int .i64 u.n, Value.int .i64 u.a, Value.int .i64 u.b]) :: (pt ab 3 [Value.int .i64 u.a, Value.int .i64 u.b]) :: []) (by kernel_rfl) ?_
            refine Wr.done (by kernel_rfl) ?_
            refine Wx.blockEnd ?_
            refine Wx.go ?_
            refine Wc.region ?_
            refine Wl.q (v := Value.int .i64 2) (q_add (c := 2) hE56_4 rfl (by decide)) ?_
            refine Wl.q (v := Value.int .i64 2) (q_move rfl) ?_
            refine Wl.done ?_
            refine Wx.at (2, (ws.set u.b.toNat vn2)) ⟨(by simp only; omega), rfl, hE0_4, hE2_4, hE3_4, hE54_4, hE55_4, (by simp only; omega), (by rw [List.length_set]; exact hwl)⟩ (fun w hs => by rw [gU2y (by omega)]; have hs := (st_drop (st_pull [0] hs)); exact st_pull [1, 1, 1, 1, 1, 0] (st_inner_set (u' := (gU u (U ++ [[]]) (p2 + 1) 1).getD u.b.toNat [] ++ [p2 + 1]) hvn hwl2 (by rw [List.length_append, List.map_append]; exact hs)))
          ·
            refine Wl.q (v := Value.bool false) (q_gtr (r := false) rfl rfl (decide_eq_false hq0)) ?_
            refine Wl.done ?_
            refine Wx.go ?_
            refine Wc.no rfl ?_
            refine Wc.skip ?_
            refine Wx.blockEnd ?_
            refine Wx.go ?_
            refine Wc.region ?_
            refine Wl.q (v := Value.int .i64 2) (q_add (c := 2) hE56_4 rfl (by decide)) ?_
            refine Wl.q (v := Value.int .i64 2) (q_move rfl) ?_
            refine Wl.done ?_
            refine Wx.at (2, ws) ⟨(by simp only; omega), rfl, hE0_4, hE2_4, hE3_4, hE54_4, hE55_4, (by simp only; omega), hwl⟩ (fun w hs => by rw [gU2n (by omega)]; exact hs)
        ·
          refine Wc.seq ?_
          refine Wc.region ?_
          refine Wl.q (v := Value.bool false) (q_lss (r := false) hE56_4 hE55_4 (decide_eq_false (by decide))) ?_
          refine Wl.done ?_
          refine Wx.go ?_
          refine Wc.seq ?_
          refine Wc.no rfl ?_
          refine Wc.exit ?_
          refine Wx.thenExit ?_
          refine Wx.thenExit ?_
          refine Wx.out ?_
          refine Wx.go ?_
          refine Wc.seq ?_
          refine Wc.seq ?_
          refine Wc.region ?_
          refine Wl.q (v := Value.pointer (some ⟨tb, 0, none⟩)) (q_field (m := 0) fo_28_0 hE3_4 rfl) ?_
          refine Wl.q (v := Value.int .u8 ((u.kind : Nat) : Int)) (q_load sc_26 rfl (.cel (i := 6) rfl rfl)) ?_
          by_cases hk6 : ((u.kind : Nat) : Int) = 6
          ·
            obtain ⟨kk, hkk⟩ := at_some (ts := ts) (n := u.a.toNat) (by omega) (by omega)
            have hpk := hI.wf.parts hkk
            refine Wl.q (v := Value.bool true) (q_eql (r := true) rfl rfl (decide_eq_true hk6)) ?_
            refine Wl.done ?_
            refine Wx.go ?_
            refine Wc.yes rfl ?_
            refine Wc.seq ?_
            refine Wc.drawsS [11] ((pt k 74 [Value.pointer (some ⟨s, 0, none⟩), Value.slice (some ⟨hb2, 0, none⟩) (p2 + 1 + 1) hc2, Value.slice (some ⟨ub2, 0, none⟩) (vs.length + 1) uc2, tw]) :: (slp 4 1 hb2 hc2 (((Z.1 ++ [false], Z.2) : Sd).1.map Value.bool)) :: (sl 3 1 tw Z.2.length (Z.2.map natV)) :: (storeI s ts) :: (slp 41 1 ub2 uc2 ws) :: (grp (inners ws (gU u (U ++ [[]]) (p2 + 1) 2))) :: (pt tb 28 [Value.int .u8 ((u.kind : Nat) : Int), Value.int .i64 u.n, Value.int .i64 u.a, Value.int .i64 u.b]) :: (pt ab 3 [Value.int .i64 u.a, Value.int .i64 u.b]) :: []) (by kernel_rfl) ?_
            refine Wr.pure (v := Value.pointer (some ⟨k, 0, none⟩)) 0 rfl (by kernel_rfl) (.inr (fun _ h => st_take [0, 0, 0, 0, 0, 0, 0, 0] h)) (.inl ⟨rfl, fun _ => q_move hE0_4⟩) ?_
            refine Wr.pure (v := Value.pointer (some ⟨k, 0, none⟩)) 1 rfl (by kernel_rfl) (.inr (fun _ h => st_take [0, 0, 0, 0, 0, 0, 0, 0] h)) (.inl ⟨rfl, fun _ => q_nil_ptr rfl⟩) ?_
            refine Wr.pure (v := Value.pointer (some ⟨k, 0, none⟩)) 2 rfl (by kernel_rfl) (.inr (fun _ h => st_take [0, 0, 0, 0, 0, 0, 0, 0] h)) (.inl ⟨rfl, fun _ => q_field (m := 0) fo_74_0 rfl rfl⟩) ?_
            refine Wr.take (v := Value.pointer (some ⟨s, 0, none⟩)) 3 rfl (by kernel_rfl) (fun _ h => st_take [0, 0, 0, 0, 0, 0, 0, 0] h) (.inl ⟨rfl, q_load sc_22 rfl (.cel (i := 0) rfl rfl)⟩) ?_
            refine Wr.pure (v := Value.pointer (some ⟨tb, 2, none⟩)) 4 rfl (by kernel_rfl) (.inr (fun _ h => st_take [0, 0, 0, 0, 0, 0, 0, 0] h)) (.inl ⟨rfl, fun _ => q_field (m := 2) fo_28_2 hE3_4 rfl⟩) ?_
            refine Wr.take (v := Value.int .i64 u.a) 5 rfl (by kernel_rfl) (fun _ h => st_take [0, 0, 0, 0, 0, 0, 0, 0] h) (.inl ⟨rfl, q_load sc_3 rfl (.cel (i := 6) rfl rfl)⟩) ?_
            refine Wr.some [6, 10] (by kernel_rfl) (by decide) (List.forall_mem_cons.2 ⟨?_, (List.forall_mem_cons.2 ⟨?_, (fun _ h => by cases h)⟩)⟩)
            ·
              refine Wo.imp (L' := (storeI s ts) :: (pt k 74 [Value.pointer (some ⟨s, 0, none⟩), Value.slice (some ⟨hb2, 0, none⟩) (p2 + 1 + 1) hc2, Value.slice (some ⟨ub2, 0, none⟩) (vs.length + 1) uc2, tw]) :: (slp 4 1 hb2 hc2 (((Z.1 ++ [false], Z.2) : Sd).1.map Value.bool)) :: (sl 3 1 tw Z.2.length (Z.2.map natV)) :: (slp 41 1 ub2 uc2 ws) :: (grp (inners ws (gU u (U ++ [[]]) (p2 + 1) 2))) :: (pt tb 28 [Value.int .u8 ((u.kind : Nat) : Int), Value.int .i64 u.n, Value.int .i64 u.a, Value.int .i64 u.b]) :: (pt ab 3 [Value.int .i64 u.a, Value.int .i64 u.b]) :: F) (fun _ h => st_pull [3] h) ?_
              refine Wo.e 6 rfl (e_call (F := (pt k 74 [Value.pointer (some ⟨s, 0, none⟩), Value.slice (some ⟨hb2, 0, none⟩) (p2 + 1 + 1) hc2, Value.slice (some ⟨ub2, 0, none⟩) (vs.length + 1) uc2, tw]) :: (slp 4 1 hb2 hc2 (((Z.1 ++ [false], Z.2) : Sd).1.map Value.bool)) :: (sl 3 1 tw Z.2.length (Z.2.map natV)) :: (slp 41 1 ub2 uc2 ws) :: (grp (inners ws (gU u (U ++ [[]]) (p2 + 1) 2))) :: (pt tb 28 [Value.int .u8 ((u.kind : Nat) : Int), Value.int .i64 u.n, Value.int .i64 u.a, Value.int .i64 u.b]) :: (pt ab 3 [Value.int .i64 u.a, Value.int .i64 u.b]) :: F) (args := [Value.pointer (some ⟨s, 0, none⟩), Value.int .i64 u.a]) Try.call22 rfl (get_c W0 s ts u.a hl kk (by omega) (atN_geti hkk))) (.inr fun _ _ _ h => st_take [1, 1, 1, 0, 0, 0, 0, 0] h) (fun _ _ => ?_)
              refine Wr.imp (L' := (storeI s ts) :: (pt k 74 [Value.pointer (some ⟨s, 0, none⟩), Value.slice (some ⟨hb2, 0, none⟩) (p2 + 1 + 1) hc2, Value.slice (some ⟨ub2, 0, none⟩) (vs.length + 1) uc2, tw]) :: (slp 4 1 hb2 hc2 (((Z.1 ++ [false], Z.2) : Sd).1.map Value.bool)) :: (sl 3 1 tw Z.2.length (Z.2.map natV)) :: (slp 41 1 ub2 uc2 ws) :: (grp (inners ws (gU u (U ++ [[]]) (p2 + 1) 2))) :: (pt tb 28 [Value.int .u8 ((u.kind : Nat) : Int), Value.int .i64 u.n, Value.int .i64 u.a, Value.int .i64 u.b]) :: (pt ab 3 [Value.int .i64 u.a, Value.int .i64 u.b]) :: F) (fun _ h => h) ?_
              refine Wr.pure (v := Value.tuple #[Value.agg #[Value.int .u8 ((kk.kind : Nat) : Int), Value.int .i64 kk.n, Value.int .i64 kk.a, Value.int .i64 kk.b], Value.bool true]) 7 rfl (by kernel_rfl) (.inr (fun _ h => st_take [1, 1, 1, 0, 0, 0, 0, 0] h)) (.inl ⟨rfl, fun _ => q_move rfl⟩) ?_
              refine Wr.pure (v := Value.agg #[Value.int .u8 ((kk.kind : Nat) : Int), Value.int .i64 kk.n, Value.int .i64 kk.a, Value.int .i64 kk.b]) 8 rfl (by kernel_rfl) (.inr (fun _ h => st_take [1, 1, 1, 0, 0, 0, 0, 0] h)) (.inl ⟨rfl, fun _ => q_extract (i := 0) rfl rfl⟩) ?_
              refine Wr.pure (v := Value.bool true) 9 rfl (by kernel_rfl) (.inr (fun _ h => st_take [1, 1, 1, 0, 0, 0, 0, 0] h)) (.inl ⟨rfl, fun _ => q_extract (i := 1) rfl rfl⟩) ?_
              refine Wr.e 10 (by kernel_rfl) rfl (e_alloc (vs := [Value.int .u8 0, Value.int .i64 0, Value.int .i64 0, Value.int .i64 0]) zo_28 rfl) (.inr fun _ _ _ h => st_take [2, 2, 2, 1, 1, 1, 1, 1] h) (fun tb2 _ => ?_)
              refine Wr.imp (L' := (pt tb2 28 [Value.int .u8 0, Value.int .i64 0, Value.int .i64 0, Value.int .i64 0]) :: (storeI s ts) :: (pt k 74 [Value.pointer (some ⟨s, 0, none⟩), Value.slice (some ⟨hb2, 0, none⟩) (p2 + 1 + 1) hc2, Value.slice (some ⟨ub2, 0, none⟩) (vs.length + 1) uc2, tw]) :: (slp 4 1 hb2 hc2 (((Z.1 ++ [false], Z.2) : Sd).1.map Value.bool)) :: (sl 3 1 tw Z.2.length (Z.2.map natV)) :: (slp 41 1 ub2 uc2 ws) :: (grp (inners ws (gU u (U ++ [[]]) (p2 + 1) 2))) :: (pt tb 28 [Value.int .u8 ((u.kind : Nat) : Int), Value.int .i64 u.n, Value.int .i64 u.a, Value.int .i64 u.b]) :: (pt ab 3 [Value.int .i64 u.a, Value.int .i64 u.b]) :: F) (fun _ h => h) ?_
              refine Wr.more (S' := (pt tb2 28 [Value.int .u8 0, Value.int .i64 0, Value.int .i64 0, Value.int .i64 0]) :: (pt k 74 [Value.pointer (some ⟨s, 0, none⟩), Value.slice (some ⟨hb2, 0, none⟩) (p2 + 1 + 1) hc2, Value.slice (some ⟨ub2, 0, none⟩) (vs.length + 1) uc2, tw]) :: (slp 4 1 hb2 hc2 (((Z.1 ++ [false], Z.2) : Sd).1.map Value.bool)) :: (sl 3 1 tw Z.2.length (Z.2.map natV)) :: (storeI s ts) :: (slp 41 1 ub2 uc2 ws) :: (grp (inners ws (gU u (U ++ [[]]) (p2 + 1) 2))) :: (pt tb 28 [Value.int .u8 ((u.kind : Nat) : Int), Value.int .i64 u.n, Value.int .i64 u.a, Value.int .i64 u.b]) :: (pt ab 3 [Value.int .i64 u.a, Value.int .i64 u.b]) :: []) (fun _ h => st_drop h) ?_
              refine Wr.e 11 (by kernel_rfl) rfl (e_storeAgg (i := 0) (vs := [Value.int .u8 ((kk.kind : Nat) : Int), Value.int .i64 kk.n, Value.int .i64 kk.a, Value.int .i64 kk.b]) (c' := [Value.int .u8 ((kk.kind : Nat) : Int), Value.int .i64 kk.n, Value.int .i64 kk.a, Value.int .i64 kk.b]) sz_28 rfl rfl rfl rfl (by simp) rfl) (.inl (by kernel_rfl)) (fun _ _ => ?_)
              refine Wr.imp (L' := (pt tb2 28 [Value.int .u8 ((kk.kind : Nat) : Int), Value.int .i64 kk.n, Value.int .i64 kk.a, Value.int .i64 kk.b]) :: (storeI s ts) :: (pt k 74 [Value.pointer (some ⟨s, 0, none⟩), Value.slice (some ⟨hb2, 0, none⟩) (p2 + 1 + 1) hc2, Value.slice (some ⟨ub2, 0, none⟩) (vs.length + 1) uc2, tw]) :: (slp 4 1 hb2 hc2 (((Z.1 ++ [false], Z.2) : Sd).1.map Value.bool)) :: (sl 3 1 tw Z.2.length (Z.2.map natV)) :: (slp 41 1 ub2 uc2 ws) :: (grp (inners ws (gU u (U ++ [[]]) (p2 + 1) 2))) :: (pt tb 28 [Value.int .u8 ((u.kind : Nat) : Int), Value.int .i64 u.n, Value.int .i64 u.a, Value.int .i64 u.b]) :: (pt ab 3 [Value.int .i64 u.a, Value.int .i64 u.b]) :: F) (fun _ h => h) ?_
              refine Wr.rebaseS [] ((pt tb2 28 [Value.int .u8 ((kk.kind : Nat) : Int), Value.int .i64 kk.n, Value.int .i64 kk.a, Value.int .i64 kk.b]) :: (storeI s ts) :: (pt k 74 [Value.pointer (some ⟨s, 0, none⟩), Value.slice (some ⟨hb2, 0, none⟩) (p2 + 1 + 1) hc2, Value.slice (some ⟨ub2, 0, none⟩) (vs.length + 1) uc2, tw]) :: (slp 4 1 hb2 hc2 (((Z.1 ++ [false], Z.2) : Sd).1.map Value.bool)) :: (sl 3 1 tw Z.2.length (Z.2.map natV)) :: (slp 41 1 ub2 uc2 ws) :: (grp (inners ws (gU u (U ++ [[]]) (p2 + 1) 2))) :: (pt tb 28 [Value.int .u8 ((u.kind : Nat) : Int), Value.int .i64 u.n, Value.int .i64 u.a, Value.int .i64 u.b]) :: (pt ab 3 [Value.int .i64 u.a, Value.int .i64 u.b]) :: []) (by kernel_rfl) ?_
              refine Wr.pure (v := Value.bool true) 12 rfl (by kernel_rfl) (.inr (fun _ h => st_take [0, 0, 0, 0, 0, 0, 0, 0, 0] h)) (.inl ⟨rfl, fun _ => q_assign rfl⟩) ?_
              refine Wr.done (by kernel_rfl) ?_
              refine Wx.go ?_
              refine Wc.seq ?_
              refine Wc.region ?_
              refine Wl.q (v := Value.pointer (some ⟨tb2, 0, none⟩)) (q_field (m := 0) fo_28_0 rfl rfl) ?_
              refine Wl.q (v := Value.int .u8 ((kk.kind : Nat) : Int)) (q_load sc_26 rfl (.cel (i := 0) rfl rfl)) ?_
              by_cases hk5 : ((kk.kind : Nat) : Int) = 5
              ·
                have hwl2 : ws.length = (gU u (U ++ [[]]) (p2 + 1) 2).length := by rw [gU_len]; exact hwl
                have hlw : ws.length = vs.length + 1 := by rw [hwl, List.length_append, List.length_singleton]; omega
                have hul3 : ((gU u (U ++ [[]]) (p2 + 1) 2).getD kk.a.toNat []).length ≤ 3 * p2 + 2 := gU_le hun kk.a.toNat (by omega) (by omega)
                obtain ⟨vn, hvn⟩ : ∃ v, ws[kk.a.toNat]? = some v := ⟨ws[kk.a.toNat]'(by omega), List.getElem?_eq_getElem (by omega)⟩
                refine Wl.imp (L' := (sl 3 1 vn (((gU u (U ++ [[]]) (p2 + 1) 2).getD kk.a.toNat []).length) (((gU u (U ++ [[]]) (p2 + 1) 2).getD kk.a.toNat []).map natV)) :: (grp ((inners ws (gU u (U ++ [[]]) (p2 + 1) 2)).eraseIdx kk.a.toNat)) :: (pt tb2 28 [Value.int .u8 ((kk.kind : Nat) : Int), Value.int .i64 kk.n, Value.int .i64 kk.a, Value.int .i64 kk.b]) :: (storeI s ts) :: (pt k 74 [Value.pointer (some ⟨s, 0, none⟩), Value.slice (some ⟨hb2, 0, none⟩) (p2 + 1 + 1) hc2, Value.slice (some ⟨ub2, 0, none⟩) (vs.length + 1) uc2, tw]) :: (slp 4 1 hb2 hc2 (((Z.1 ++ [false], Z.2) : Sd).1.map Value.bool)) :: (sl 3 1 tw Z.2.length (Z.2.map natV)) :: (slp 41 1 ub2 uc2 ws) :: (pt tb 28 [Value.int .u8 ((u.kind : Nat) : Int), Value.int .i64 u.n, Value.int .i64 u.a, Value.int .i64 u.b]) :: (pt ab 3 [Value.int .i64 u.a, Value.int .i64 u.b]) :: F) (fun w hs => st_inner hvn hwl2 (st_pull [6, 0, 0, 0, 0, 0, 0, 0, 0] (hs))) ?_
                refine Wl.q (v := Value.bool true) (q_eql (r := true) rfl rfl (decide_eq_true hk5)) ?_
                refine Wl.done ?_
                refine Wx.go ?_
                refine Wc.yes rfl ?_
                refine Wc.drawsS [18] ((grp ((inners ws (gU u (U ++ [[]]) (p2 + 1) 2)).eraseIdx kk.a.toNat)) :: (pt tb2 28 [Value.int .u8 ((kk.kind : Nat) : Int), Value.int .i64 kk.n, Value.int .i64 kk.a, Value.int .i64 kk.b]) :: (storeI s ts) :: (pt k 74 [Value.pointer (some ⟨s, 0, none⟩), Value.slice (some ⟨hb2, 0, none⟩) (p2 + 1 + 1) hc2, Value.slice (some ⟨ub2, 0, none⟩) (vs.length + 1) uc2, tw]) :: (slp 4 1 hb2 hc2 (((Z.1 ++ [false], Z.2) : Sd).1.map Value.bool)) :: (slp 41 1 ub2 uc2 ws) :: (pt tb 28 [Value.int .u8 ((u.kind : Nat) : Int), Value.int .i64 u.n, Value.int .i64 u.a, Value.int .i64 u.b]) :: (pt ab 3 [Value.int .i64 u.a, Value.int .i64 u.b]) :: []) (by kernel_rfl) ?_
                refine Wr.pure (v := Value.pointer (some ⟨k, 0, none⟩)) 0 rfl (by kernel_rfl) (.inr (fun _ h => st_take [1, 1, 1, 1, 1, 2, 2, 2] h)) (.inl ⟨rfl, fun _ => q_move hE0_4⟩) ?_
                refine Wr.pure (v := Value.pointer (some ⟨k, 0, none⟩)) 1 rfl (by kernel_rfl) (.inr (fun _ h => st_take [1, 1, 1, 1, 1, 2, 2, 2] h)) (.inl ⟨rfl, fun _ => q_nil_ptr rfl⟩) ?_
                refine Wr.pure (v := Value.pointer (some ⟨k, 2, none⟩)) 2 rfl (by kernel_rfl) (.inr (fun _ h => st_take [1, 1, 1, 1, 1, 2, 2, 2] h)) (.inl ⟨rfl, fun _ => q_field (m := 2) fo_74_2 rfl rfl⟩) ?_
                refine Wr.take (v := Value.slice (some ⟨ub2, 0, none⟩) (vs.length + 1) uc2) 3 rfl (by kernel_rfl) (fun _ h => st_take [1, 1, 1, 1, 1, 2, 2, 2] h) (.inl ⟨rfl, q_load sc_72 rfl (.cel (i := 3) rfl rfl)⟩) ?_
                refine Wr.pure (v := Value.pointer (some ⟨tb2, 2, none⟩)) 4 rfl (by kernel_rfl) (.inr (fun _ h => st_take [1, 1, 1, 1, 1, 2, 2, 2] h)) (.inl ⟨rfl, fun _ => q_field (m := 2) fo_28_2 rfl rfl⟩) ?_
                refine Wr.take (v := Value.int .i64 kk.a) 5 rfl (by kernel_rfl) (fun _ h => st_take [1, 1, 1, 1, 1, 2, 2, 2] h) (.inl ⟨rfl, q_load sc_3 rfl (.cel (i := 1) rfl rfl)⟩) ?_
                refine Wr.pure (v := Value.pointer (some ⟨k, 0, none⟩)) 6 rfl (by kernel_rfl) (.inr (fun _ h => st_take [1, 1, 1, 1, 1, 2, 2, 2] h)) (.inl ⟨rfl, fun _ => q_move hE0_4⟩) ?_
                refine Wr.pure (v := Value.pointer (some ⟨k, 0, none⟩)) 7 rfl (by kernel_rfl) (.inr (fun _ h => st_take [1, 1, 1, 1, 1, 2, 2, 2] h)) (.inl ⟨rfl, fun _ => q_nil_ptr rfl⟩) ?_
                refine Wr.pure (v := Value.pointer (some ⟨k, 2, none⟩)) 8 rfl (by kernel_rfl) (.inr (fun _ h => st_take [1, 1, 1, 1, 1, 2, 2, 2] h)) (.inl ⟨rfl, fun _ => q_field (m := 2) fo_74_2 rfl rfl⟩) ?_
                refine Wr.take (v := Value.slice (some ⟨ub2, 0, none⟩) (vs.length + 1) uc2) 9 rfl (by kernel_rfl) (fun _ h => st_take [1, 1, 1, 1, 1, 2, 2, 2] h) (.inl ⟨rfl, q_load sc_72 rfl (.cel (i := 3) rfl rfl)⟩) ?_
                refine Wr.pure (v := Value.pointer (some ⟨tb2, 2, none⟩)) 10 rfl (by kernel_rfl) (.inr (fun _ h => st_take [1, 1, 1, 1, 1, 2, 2, 2] h)) (.inl ⟨rfl, fun _ => q_field (m := 2) fo_28_2 rfl rfl⟩) ?_
                refine Wr.take (v := Value.int .i64 kk.a) 11 rfl (by kernel_rfl) (fun _ h => st_take [1, 1, 1, 1, 1, 2, 2, 2] h) (.inl ⟨rfl, q_load sc_3 rfl (.cel (i := 1) rfl rfl)⟩) ?_
                refine Wr.pure (v := Value.pointer (some ⟨ub2, (kk.a).toNat, none⟩)) 12 rfl (by kernel_rfl) (.inr (fun _ h => st_take [1, 1, 1, 1, 1, 2, 2, 2] h)) (.inl ⟨rfl, fun _ => q_idx (m := (kk.a).toNat) se_72 rfl rfl (by omega) (by omega) (by simp)⟩) ?_
                refine Wr.take (v := vn) 13 rfl (by kernel_rfl) (fun _ h => st_take [1, 1, 1, 1, 1, 2, 2, 2] h) (.inl ⟨rfl, q_load sc_41 rfl (.row (i := 5) rfl hvn)⟩) ?_
                refine Wr.pure (v := Value.int .i64 (((p2 + 1) : Nat) : Int)) 14 rfl (by kernel_rfl) (.inr (fun _ h => st_take [1, 1, 1, 1, 1, 2, 2, 2] h)) (.inl ⟨rfl, fun _ => q_move hE2_4⟩) ?_
                refine Wr.e 15 (by kernel_rfl) rfl (e_buildSlice (cs := [Value.int .i64 (((p2 + 1) : Nat) : Int)]) se_41 zo_3 (by decide) (by decide) (by kernel_rfl)) (.inr fun _ _ _ h => st_take [2, 2, 2, 2, 2, 3, 3, 3] h) (fun b9 _ => ?_)
                refine Wr.imp (L' := (pt b9 3 [Value.int .i64 (((p2 + 1) : Nat) : Int)]) :: (sl 3 1 vn (((gU u (U ++ [[]]) (p2 + 1) 2).getD kk.a.toNat []).length) (((gU u (U ++ [[]]) (p2 + 1) 2).getD kk.a.toNat []).map natV)) :: (grp ((inners ws (gU u (U ++ [[]]) (p2 + 1) 2)).eraseIdx kk.a.toNat)) :: (pt tb2 28 [Value.int .u8 ((kk.kind : Nat) : Int), Value.int .i64 kk.n, Value.int .i64 kk.a, Value.int .i64 kk.b]) :: (storeI s ts) :: (pt k 74 [Value.pointer (some ⟨s, 0, none⟩), Value.slice (some ⟨hb2, 0, none⟩) (p2 + 1 + 1) hc2, Value.slice (some ⟨ub2, 0, none⟩) (vs.length + 1) uc2, tw]) :: (slp 4 1 hb2 hc2 (((Z.1 ++ [false], Z.2) : Sd).1.map Value.bool)) :: (sl 3 1 tw Z.2.length (Z.2.map natV)) :: (slp 41 1 ub2 uc2 ws) :: (pt tb 28 [Value.int .u8 ((u.kind : Nat) : Int), Value.int .i64 u.n, Value.int .i64 u.a, Value.int .i64 u.b]) :: (pt ab 3 [Value.int .i64 u.a, Value.int .i64 u.b]) :: F) (fun _ h => h) ?_
                refine Wr.more (S' := (pt b9 3 [Value.int .i64 (((p2 + 1) : Nat) : Int)]) :: (grp ((inners ws (gU u (U ++ [[]]) (p2 + 1) 2)).eraseIdx kk.a.toNat)) :: (pt tb2 28 [Value.int .u8 ((kk.kind : Nat) : Int), Value.int .i64 kk.n, Value.int .i64 kk.a, Value.int .i64 kk.b]) :: (storeI s ts) :: (pt k 74 [Value.pointer (some ⟨s, 0, none⟩), Value.slice (some ⟨hb2, 0, none⟩) (p2 + 1 + 1) hc2, Value.slice (some ⟨ub2, 0, none⟩) (vs.length + 1) uc2, tw]) :: (slp 4 1 hb2 hc2 (((Z.1 ++ [false], Z.2) : Sd).1.map Value.bool)) :: (slp 41 1 ub2 uc2 ws) :: (pt tb 28 [Value.int .u8 ((u.kind : Nat) : Int), Value.int .i64 u.n, Value.int .i64 u.a, Value.int .i64 u.b]) :: (pt ab 3 [Value.int .i64 u.a, Value.int .i64 u.b]) :: []) (fun _ h => st_drop h) ?_
                refine Wr.e 16 (by kernel_rfl) rfl (e_append (i := 1) (k := 1) (m := 1) (off := 0) (news := [Value.int .i64 (((p2 + 1) : Nat) : Int)]) Try.underlying41 sz_3 by_3 zo_3 rfl rfl rfl rfl rfl (Has.of_pt (i := 0) rfl rfl) rfl (by decide) (by simp only [maxLen]; omega) (by omega)) (.inr fun _ _ _ h => st_take [0, 1, 1, 1, 1, 1, 2, 2, 2] h) (fun vn2 _ => ?_)
                refine Wr.imp (L' := (pt b9 3 [Value.int .i64 (((p2 + 1) : Nat) : Int)]) :: (sl 3 1 vn2 ((((gU u (U ++ [[]]) (p2 + 1) 2).getD kk.a.toNat []).length) + 1) ((((gU u (U ++ [[]]) (p2 + 1) 2).getD kk.a.toNat []).map natV) ++ [Value.int .i64 (((p2 + 1) : Nat) : Int)])) :: (grp ((inners ws (gU u (U ++ [[]]) (p2 + 1) 2)).eraseIdx kk.a.toNat)) :: (pt tb2 28 [Value.int .u8 ((kk.kind : Nat) : Int), Value.int .i64 kk.n, Value.int .i64 kk.a, Value.int .i64 kk.b]) :: (storeI s ts) :: (pt k 74 [Value.pointer (some ⟨s, 0, none⟩), Value.slice (some ⟨hb2, 0, none⟩) (p2 + 1 + 1) hc2, Value.slice (some ⟨ub2, 0, none⟩) (vs.length + 1) uc2, tw]) :: (slp 4 1 hb2 hc2 (((Z.1 ++ [false], Z.2) : Sd).1.map Value.bool)) :: (sl 3 1 tw Z.2.length (Z.2.map natV)) :: (slp 41 1 ub2 uc2 ws) :: (pt tb 28 [Value.int .u8 ((u.kind : Nat) : Int), Value.int .i64 u.n, Value.int .i64 u.a, Value.int .i64 u.b]) :: (pt ab 3 [Value.int .i64 u.a, Value.int .i64 u.b]) :: F) (fun _ h => h) ?_
                refine Wr.pure (v := Value.pointer (some ⟨ub2, (kk.a).toNat, none⟩)) 17 rfl (by kernel_rfl) (.inr (fun _ h => st_take [0, 1, 1, 1, 1, 1, 2, 2, 2] h)) (.inl ⟨rfl, fun _ => q_idx (m := (kk.a).toNat) se_72 rfl rfl (by omega) (by omega) (by simp)⟩) ?_
                refine Wr.e 18 (by kernel_rfl) rfl (e_store_slpS (i := 8) (v := vn2) (c' := (ws.set ((kk.a).toNat) vn2)) sz_41 rfl rfl (fun w hs => sl_cells (i := 1) hs rfl) rfl (by omega) (splice_id (by omega))) (.inl (by kernel_rfl)) (fun _ _ => ?_)
                refine Wr.imp (L' := (pt b9 3 [Value.int .i64 (((p2 + 1) : Nat) : Int)]) :: (sl 3 1 vn2 ((((gU u (U ++ [[]]) (p2 + 1) 2).getD kk.a.toNat []).length) + 1) ((((gU u (U ++ [[]]) (p2 + 1) 2).getD kk.a.toNat []).map natV) ++ [Value.int .i64 (((p2 + 1) : Nat) : Int)])) :: (grp ((inners ws (gU u (U ++ [[]]) (p2 + 1) 2)).eraseIdx kk.a.toNat)) :: (pt tb2 28 [Value.int .u8 ((kk.kind : Nat) : Int), Value.int .i64 kk.n, Value.int .i64 kk.a, Value.int .i64 kk.b]) :: (storeI s ts) :: (pt k 74 [Value.pointer (some ⟨s, 0, none⟩), Value.slice (some ⟨hb2, 0, none⟩) (p2 + 1 + 1) hc2, Value.slice (some ⟨ub2, 0, none⟩) (vs.length + 1) uc2, tw]) :: (slp 4 1 hb2 hc2 (((Z.1 ++ [false], Z.2) : Sd).1.map Value.bool)) :: (sl 3 1 tw Z.2.length (Z.2.map natV)) :: (slp 41 1 ub2 uc2 (ws.set ((kk.a).toNat) vn2)) :: (pt tb 28 [Value.int .u8 ((u.kind : Nat) : Int), Value.int .i64 u.n, Value.int .i64 u.a, Value.int .i64 u.b]) :: (pt ab 3 [Value.int .i64 u.a, Value.int .i64 u.b]) :: F) (fun _ h => h) ?_
                refine Wr.rebaseS [] ((pt b9 3 [Value.int .i64 (((p2 + 1) : Nat) : Int)]) :: (sl 3 1 vn2 ((((gU u (U ++ [[]]) (p2 + 1) 2).getD kk.a.toNat []).length) + 1) ((((gU u (U ++ [[]]) (p2 + 1) 2).getD kk.a.toNat []).map natV) ++ [Value.int .i64 (((p2 + 1) : Nat) : Int)])) :: (grp ((inners ws (gU u (U ++ [[]]) (p2 + 1) 2)).eraseIdx kk.a.toNat)) :: (pt tb2 28 [Value.int .u8 ((kk.kind : Nat) : Int), Value.int .i64 kk.n, Value.int .i64 kk.a, Value.int .i64 kk.b]) :: (storeI s ts) :: (pt k 74 [Value.pointer (some ⟨s, 0, none⟩), Value.slice (some ⟨hb2, 0, none⟩) (p2 + 1 + 1) hc2, Value.slice (some ⟨ub2, 0, none⟩) (vs.length + 1) uc2, tw]) :: (slp 4 1 hb2 hc2 (((Z.1 ++ [false], Z.2) : Sd).1.map Value.bool)) :: (sl 3 1 tw Z.2.length (Z.2.map natV)) :: (slp 41 1 ub2 uc2 (ws.set ((kk.a).toNat) vn2)) :: (pt tb 28 [Value.int .u8 ((u.kind : Nat) : Int), Value.int .i64 u.n, Value.int .i64 u.a, Value.int .i64 u.b]) :: (pt ab 3 [Value.int .i64 u.a, Value.int .i64 u.b]) :: []) (by kernel_rfl) ?_
                refine Wr.done (by kernel_rfl) ?_
                refine Wx.go ?_
                refine Wc.region ?_
                refine Wl.q (v := Value.pointer (some ⟨k, 0, none⟩)) (q_move hE0_4) ?_
                refine Wl.q (v := Value.int .i64 (((p2 + 1) : Nat) : Int)) (q_move hE2_4) ?_
                refine Wl.imp (L' := (pt k 74 [Value.pointer (some ⟨s, 0, none⟩), Value.slice (some ⟨hb2, 0, none⟩) (p2 + 1 + 1) hc2, Value.slice (some ⟨ub2, 0, none⟩) (vs.length + 1) uc2, tw]) :: (slp 4 1 hb2 hc2 (((Z.1 ++ [false], Z.2) : Sd).1.map Value.bool)) :: (sl 3 1 tw Z.2.length (Z.2.map natV)) :: (storeI s ts) :: (pt b9 3 [Value.int .i64 (((p2 + 1) : Nat) : Int)]) :: (sl 3 1 vn2 ((((gU u (U ++ [[]]) (p2 + 1) 2).getD kk.a.toNat []).length) + 1) ((((gU u (U ++ [[]]) (p2 + 1) 2).getD kk.a.toNat []).map natV) ++ [Value.int .i64 (((p2 + 1) : Nat) : Int)])) :: (grp ((inners ws (gU u (U ++ [[]]) (p2 + 1) 2)).eraseIdx kk.a.toNat)) :: (pt tb2 28 [Value.int .u8 ((kk.kind : Nat) : Int), Value.int .i64 kk.n, Value.int .i64 kk.a, Value.int .i64 kk.b]) :: (slp 41 1 ub2 uc2 (ws.set ((kk.a).toNat) vn2)) :: (pt tb 28 [Value.int .u8 ((u.kind : Nat) : Int), Value.int .i64 u.n, Value.int .i64 u.a, Value.int .i64 u.b]) :: (pt ab 3 [Value.int .i64 u.a, Value.int .i64 u.b]) :: F) (fun _ h => st_pull [5, 5, 5, 4] h) ?_
                refine Wl.e (e_call (F := (pt b9 3 [Value.int .i64 (((p2 + 1) : Nat) : Int)]) :: (sl 3 1 vn2 ((((gU u (U ++ [[]]) (p2 + 1) 2).getD kk.a.toNat []).length) + 1) ((((gU u (U ++ [[]]) (p2 + 1) 2).getD kk.a.toNat []).map natV) ++ [Value.int .i64 (((p2 + 1) : Nat) : Int)])) :: (grp ((inners ws (gU u (U ++ [[]]) (p2 + 1) 2)).eraseIdx kk.a.toNat)) :: (pt tb2 28 [Value.int .u8 ((kk.kind : Nat) : Int), Value.int .i64 kk.n, Value.int .i64 kk.a, Value.int .i64 kk.b]) :: (slp 41 1 ub2 uc2 (ws.set ((kk.a).toNat) vn2)) :: (pt tb 28 [Value.int .u8 ((u.kind : Nat) : Int), Value.int .i64 u.n, Value.int .i64 u.a, Value.int .i64 u.b]) :: (pt ab 3 [Value.int .i64 u.a, Value.int .i64 u.b]) :: F) (args := [Value.pointer (some ⟨k, 0, none⟩), Value.int .i64 (((p2 + 1) : Nat) : Int)]) Try.call43 rfl (kmake_c W0 k s hb2 hc2 ub2 uc2 (vs.length + 1) (p2 + 1 + 1) (tw) ts ((Z.1 ++ [false], Z.2) : Sd) (p2 + 1) (by simp only [List.length_append, List.length_singleton]; omega) hI.wf hl u hu (by omega) (by simp only; omega))) (fun tv10 _ => ?_)
                refine Wl.imp (L' := (pt k 74 [Value.pointer (some ⟨s, 0, none⟩), Value.slice (some ⟨hb2, 0, none⟩) (p2 + 1 + 1) hc2, Value.slice (some ⟨ub2, 0, none⟩) (vs.length + 1) uc2, tv10]) :: (slp 4 1 hb2 hc2 ((maF ts ((Z.1 ++ [false], Z.2) : Sd) (p2 + 1)).1.map Value.bool)) :: (sl 3 1 tv10 ((maF ts ((Z.1 ++ [false], Z.2) : Sd) (p2 + 1)).2.length) ((maF ts ((Z.1 ++ [false], Z.2) : Sd) (p2 + 1)).2.map natV)) :: (storeI s ts) :: (pt b9 3 [Value.int .i64 (((p2 + 1) : Nat) : Int)]) :: (sl 3 1 vn2 ((((gU u (U ++ [[]]) (p2 + 1) 2).getD kk.a.toNat []).length) + 1) ((((gU u (U ++ [[]]) (p2 + 1) 2).getD kk.a.toNat []).map natV) ++ [Value.int .i64 (((p2 + 1) : Nat) : Int)])) :: (grp ((inners ws (gU u (U ++ [[]]) (p2 + 1) 2)).eraseIdx kk.a.toNat)) :: (pt tb2 28 [Value.int .u8 ((kk.kind : Nat) : Int), Value.int .i64 kk.n, Value.int .i64 kk.a, Value.int .i64 kk.b]) :: (slp 41 1 ub2 uc2 (ws.set ((kk.a).toNat) vn2)) :: (pt tb 28 [Value.int .u8 ((u.kind : Nat) : Int), Value.int .i64 u.n, Value.int .i64 u.a, Value.int .i64 u.b]) :: (pt ab 3 [Value.int .i64 u.a, Value.int .i64 u.b]) :: F) (fun _ h => h) ?_
                refine Wl.done ?_
                refine Wx.blockEnd ?_
                refine Wx.go ?_
                refine Wc.region ?_
                refine Wl.q (v := Value.int .i64 (((p2 + 1) : Nat) : Int)) (q_move hE2_4) ?_
                refine Wl.q (v := Value.int .i64 (((p2 + 1) + 1 : Nat) : Int)) (q_add (c := (((p2 + 1) + 1 : Nat) : Int)) rfl rfl (by rw [wrap_i64] <;> omega)) ?_
                refine Wl.q (v := Value.int .i64 (((p2 + 1) + 1 : Nat) : Int)) (q_assign rfl) ?_
                refine Wl.done ?_
                refine Wx.at ((p2 + 1, maF ts (Z.1 ++ [false], Z.2) (p2 + 1), grU ts U u (p2 + 1)), (hb2, hc2, ub2, uc2), tv10, (ws.set ((kk.a).toNat) vn2)) ⟨(by simp only; omega), rfl, hE0_4, hg.1, (fun x hx => hg.2 x (hmo x hx)), (by have h1 : ((ws.set ((kk.a).toNat) vn2)).length = (U ++ [[]]).length := (by rw [List.length_set]; exact hwl); have h2 := hg.1.ul; have h3 := hI.ul; simp only [List.length_append, List.length_singleton] at h1; simp only; omega)⟩ (fun w hs => by rw [grU_y (by omega) hkk (by omega)]; have hs := (fun hs => st_pull [1, 1, 1, 1, 1, 0] (st_inner_set (u' := (gU u (U ++ [[]]) (p2 + 1) 2).getD kk.a.toNat [] ++ [p2 + 1]) hvn hwl2 (by rw [List.length_append, List.map_append]; exact hs))) (st_pull [4, 4, 0, 0, 0, 0, 0] (st_drop (st_drop (st_drop (st_drop (st_pull [4, 6, 7, 7] hs)))))); rw [show vs.length + 1 = ((ws.set ((kk.a).toNat) vn2)).length from by have h1 : ((ws.set ((kk.a).toNat) vn2)).length = (U ++ [[]]).length := (by rw [List.length_set]; exact hwl); simp only [List.length_append, List.length_singleton] at h1; omega] at hs; exact hs)
              ·
                refine Wl.q (v := Value.bool false) (q_eql (r := false) rfl rfl (decide_eq_false hk5)) ?_
                refine Wl.done ?_
                refine Wx.go ?_
                refine Wc.no rfl ?_
                refine Wc.skip ?_
                refine Wx.go ?_
                refine Wc.region ?_
                refine Wl.q (v := Value.pointer (some ⟨k, 0, none⟩)) (q_move hE0_4) ?_
                refine Wl.q (v := Value.int .i64 (((p2 + 1) : Nat) : Int)) (q_move hE2_4) ?_
                refine Wl.imp (L' := (pt k 74 [Value.pointer (some ⟨s, 0, none⟩), Value.slice (some ⟨hb2, 0, none⟩) (p2 + 1 + 1) hc2, Value.slice (some ⟨ub2, 0, none⟩) (vs.length + 1) uc2, tw]) :: (slp 4 1 hb2 hc2 (((Z.1 ++ [false], Z.2) : Sd).1.map Value.bool)) :: (sl 3 1 tw Z.2.length (Z.2.map natV)) :: (storeI s ts) :: (pt tb2 28 [Value.int .u8 ((kk.kind : Nat) : Int), Value.int .i64 kk.n, Value.int .i64 kk.a, Value.int .i64 kk.b]) :: (slp 41 1 ub2 uc2 ws) :: (grp (inners ws (gU u (U ++ [[]]) (p2 + 1) 2))) :: (pt tb 28 [Value.int .u8 ((u.kind : Nat) : Int), Value.int .i64 u.n, Value.int .i64 u.a, Value.int .i64 u.b]) :: (pt ab 3 [Value.int .i64 u.a, Value.int .i64 u.b]) :: F) (fun _ h => st_pull [2, 2, 2, 1] h) ?_
                refine Wl.e (e_call (F := (pt tb2 28 [Value.int .u8 ((kk.kind : Nat) : Int), Value.int .i64 kk.n, Value.int .i64 kk.a, Value.int .i64 kk.b]) :: (slp 41 1 ub2 uc2 ws) :: (grp (inners ws (gU u (U ++ [[]]) (p2 + 1) 2))) :: (pt tb 28 [Value.int .u8 ((u.kind : Nat) : Int), Value.int .i64 u.n, Value.int .i64 u.a, Value.int .i64 u.b]) :: (pt ab 3 [Value.int .i64 u.a, Value.int .i64 u.b]) :: F) (args := [Value.pointer (some ⟨k, 0, none⟩), Value.int .i64 (((p2 + 1) : Nat) : Int)]) Try.call43 rfl (kmake_c W0 k s hb2 hc2 ub2 uc2 (vs.length + 1) (p2 + 1 + 1) (tw) ts ((Z.1 ++ [false], Z.2) : Sd) (p2 + 1) (by simp only [List.length_append, List.length_singleton]; omega) hI.wf hl u hu (by omega) (by simp only; omega))) (fun tv11 _ => ?_)
                refine Wl.imp (L' := (pt k 74 [Value.pointer (some ⟨s, 0, none⟩), Value.slice (some ⟨hb2, 0, none⟩) (p2 + 1 + 1) hc2, Value.slice (some ⟨ub2, 0, none⟩) (vs.length + 1) uc2, tv11]) :: (slp 4 1 hb2 hc2 ((maF ts ((Z.1 ++ [false], Z.2) : Sd) (p2 + 1)).1.map Value.bool)) :: (sl 3 1 tv11 ((maF ts ((Z.1 ++ [false], Z.2) : Sd) (p2 + 1)).2.length) ((maF ts ((Z.1 ++ [false], Z.2) : Sd) (p2 + 1)).2.map natV)) :: (storeI s ts) :: (pt tb2 28 [Value.int .u8 ((kk.kind : Nat) : Int), Value.int .i64 kk.n, Value.int .i64 kk.a, Value.int .i64 kk.b]) :: (slp 41 1 ub2 uc2 ws) :: (grp (inners ws (gU u (U ++ [[]]) (p2 + 1) 2))) :: (pt tb 28 [Value.int .u8 ((u.kind : Nat) : Int), Value.int .i64 u.n, Value.int .i64 u.a, Value.int .i64 u.b]) :: (pt ab 3 [Value.int .i64 u.a, Value.int .i64 u.b]) :: F) (fun _ h => h) ?_
                refine Wl.done ?_
                refine Wx.blockEnd ?_
                refine Wx.go ?_
                refine Wc.region ?_
                refine Wl.q (v := Value.int .i64 (((p2 + 1) : Nat) : Int)) (q_move hE2_4) ?_
                refine Wl.q (v := Value.int .i64 (((p2 + 1) + 1 : Nat) : Int)) (q_add (c := (((p2 + 1) + 1 : Nat) : Int)) rfl rfl (by rw [wrap_i64] <;> omega)) ?_
                refine Wl.q (v := Value.int .i64 (((p2 + 1) + 1 : Nat) : Int)) (q_assign rfl) ?_
                refine Wl.done ?_
                refine Wx.at ((p2 + 1, maF ts (Z.1 ++ [false], Z.2) (p2 + 1), grU ts U u (p2 + 1)), (hb2, hc2, ub2, uc2), tv11, ws) ⟨(by simp only; omega), rfl, hE0_4, hg.1, (fun x hx => hg.2 x (hmo x hx)), (by have h1 : (ws).length = (U ++ [[]]).length := hwl; have h2 := hg.1.ul; have h3 := hI.ul; simp only [List.length_append, List.length_singleton] at h1; simp only; omega)⟩ (fun w hs => by rw [grU_n (pub_n5 hkk (by omega))]; have hs := (st_drop (st_drop (st_drop (st_pull [4, 6, 6] hs)))); rw [show vs.length + 1 = (ws).length from by have h1 : (ws).length = (U ++ [[]]).length := hwl; simp only [List.length_append, List.length_singleton] at h1; omega] at hs; exact hs)
            ·
              refine Wo.e 10 rfl (e_alloc (vs := [Value.int .u8 0, Value.int .i64 0, Value.int .i64 0, Value.int .i64 0]) zo_28 rfl) (.inr fun _ _ _ h => st_take [1, 1, 1, 1, 1, 1, 1, 1] h) (fun tb2 _ => ?_)
              refine Wr.imp (L' := (pt tb2 28 [Value.int .u8 0, Value.int .i64 0, Value.int .i64 0, Value.int .i64 0]) :: (pt k 74 [Value.pointer (some ⟨s, 0, none⟩), Value.slice (some ⟨hb2, 0, none⟩) (p2 + 1 + 1) hc2, Value.slice (some ⟨ub2, 0, none⟩) (vs.length + 1) uc2, tw]) :: (slp 4 1 hb2 hc2 (((Z.1 ++ [false], Z.2) : Sd).1.map Value.bool)) :: (sl 3 1 tw Z.2.length (Z.2.map natV)) :: (storeI s ts) :: (slp 41 1 ub2 uc2 ws) :: (grp (inners ws (gU u (U ++ [[]]) (p2 + 1) 2))) :: (pt tb 28 [Value.int .u8 ((u.kind : Nat) : Int), Value.int .i64 u.n, Value.int .i64 u.a, Value.int .i64 u.b]) :: (pt ab 3 [Value.int .i64 u.a, Value.int .i64 u.b]) :: F) (fun _ h => h) ?_
              refine Wr.more (S' := (pt tb2 28 [Value.int .u8 0, Value.int .i64 0, Value.int .i64 0, Value.int .i64 0]) :: (pt k 74 [Value.pointer (some ⟨s, 0, none⟩), Value.slice (some ⟨hb2, 0, none⟩) (p2 + 1 + 1) hc2, Value.slice (some ⟨ub2, 0, none⟩) (vs.length + 1) uc2, tw]) :: (slp 4 1 hb2 hc2 (((Z.1 ++ [false], Z.2) : Sd).1.map Value.bool)) :: (sl 3 1 tw Z.2.length (Z.2.map natV)) :: (storeI s ts) :: (slp 41 1 ub2 uc2 ws) :: (grp (inners ws (gU u (U ++ [[]]) (p2 + 1) 2))) :: (pt tb 28 [Value.int .u8 ((u.kind : Nat) : Int), Value.int .i64 u.n, Value.int .i64 u.a, Value.int .i64 u.b]) :: (pt ab 3 [Value.int .i64 u.a, Value.int .i64 u.b]) :: []) (fun _ h => st_drop h) ?_
              refine Wr.imp (L' := (storeI s ts) :: (pt tb2 28 [Value.int .u8 0, Value.int .i64 0, Value.int .i64 0, Value.int .i64 0]) :: (pt k 74 [Value.pointer (some ⟨s, 0, none⟩), Value.slice (some ⟨hb2, 0, none⟩) (p2 + 1 + 1) hc2, Value.slice (some ⟨ub2, 0, none⟩) (vs.length + 1) uc2, tw]) :: (slp 4 1 hb2 hc2 (((Z.1 ++ [false], Z.2) : Sd).1.map Value.bool)) :: (sl 3 1 tw Z.2.length (Z.2.map natV)) :: (slp 41 1 ub2 uc2 ws) :: (grp (inners ws (gU u (U ++ [[]]) (p2 + 1) 2))) :: (pt tb 28 [Value.int .u8 ((u.kind : Nat) : Int), Value.int .i64 u.n, Value.int .i64 u.a, Value.int .i64 u.b]) :: (pt ab 3 [Value.int .i64 u.a, Value.int .i64 u.b]) :: F) (fun _ h => st_pull [4] h) ?_
              refine Wr.e 6 (by kernel_rfl) rfl (e_call (F := (pt tb2 28 [Value.int .u8 0, Value.int .i64 0, Value.int .i64 0, Value.int .i64 0]) :: (pt k 74 [Value.pointer (some ⟨s, 0, none⟩), Value.slice (some ⟨hb2, 0, none⟩) (p2 + 1 + 1) hc2, Value.slice (some ⟨ub2, 0, none⟩) (vs.length + 1) uc2, tw]) :: (slp 4 1 hb2 hc2 (((Z.1 ++ [false], Z.2) : Sd).1.map Value.bool)) :: (sl 3 1 tw Z.2.length (Z.2.map natV)) :: (slp 41 1 ub2 uc2 ws) :: (grp (inners ws (gU u (U ++ [[]]) (p2 + 1) 2))) :: (pt tb 28 [Value.int .u8 ((u.kind : Nat) : Int), Value.int .i64 u.n, Value.int .i64 u.a, Value.int .i64 u.b]) :: (pt ab 3 [Value.int .i64 u.a, Value.int .i64 u.b]) :: F) (args := [Value.pointer (some ⟨s, 0, none⟩), Value.int .i64 u.a]) Try.call22 rfl (get_c W0 s ts u.a hl kk (by omega) (atN_geti hkk))) (.inr fun _ _ _ h => st_take [1, 1, 1, 1, 0, 0, 0, 0, 0] h) (fun _ _ => ?_)
              refine Wr.imp (L' := (storeI s ts) :: (pt tb2 28 [Value.int .u8 0, Value.int .i64 0, Value.int .i64 0, Value.int .i64 0]) :: (pt k 74 [Value.pointer (some ⟨s, 0, none⟩), Value.slice (some ⟨hb2, 0, none⟩) (p2 + 1 + 1) hc2, Value.slice (some ⟨ub2, 0, none⟩) (vs.length + 1) uc2, tw]) :: (slp 4 1 hb2 hc2 (((Z.1 ++ [false], Z.2) : Sd).1.map Value.bool)) :: (sl 3 1 tw Z.2.length (Z.2.map natV)) :: (slp 41 1 ub2 uc2 ws) :: (grp (inners ws (gU u (U ++ [[]]) (p2 + 1) 2))) :: (pt tb 28 [Value.int .u8 ((u.kind : Nat) : Int), Value.int .i64 u.n, Value.int .i64 u.a, Value.int .i64 u.b]) :: (pt ab 3 [Value.int .i64 u.a, Value.int .i64 u.b]) :: F) (fun _ h => h) ?_
              refine Wr.pure (v := Value.tuple #[Value.agg #[Value.int .u8 ((kk.kind : Nat) : Int), Value.int .i64 kk.n, Value.int .i64 kk.a, Value.int .i64 kk.b], Value.bool true]) 7 rfl (by kernel_rfl) (.inr (fun _ h => st_take [1, 1, 1, 1, 0, 0, 0, 0, 0] h)) (.inl ⟨rfl, fun _ => q_move rfl⟩) ?_
              refine Wr.pure (v := Value.agg #[Value.int .u8 ((kk.kind : Nat) : Int), Value.int .i64 kk.n, Value.int .i64 kk.a, Value.int .i64 kk.b]) 8 rfl (by kernel_rfl) (.inr (fun _ h => st_take [1, 1, 1, 1, 0, 0, 0, 0, 0] h)) (.inl ⟨rfl, fun _ => q_extract (i := 0) rfl rfl⟩) ?_
              refine Wr.pure (v := Value.bool true) 9 rfl (by kernel_rfl) (.inr (fun _ h => st_take [1, 1, 1, 1, 0, 0, 0, 0, 0] h)) (.inl ⟨rfl, fun _ => q_extract (i := 1) rfl rfl⟩) ?_
              refine Wr.e 11 (by kernel_rfl) rfl (e_storeAgg (i := 1) (vs := [Value.int .u8 ((kk.kind : Nat) : Int), Value.int .i64 kk.n, Value.int .i64 kk.a, Value.int .i64 kk.b]) (c' := [Value.int .u8 ((kk.kind : Nat) : Int), Value.int .i64 kk.n, Value.int .i64 kk.a, Value.int .i64 kk.b]) sz_28 rfl rfl rfl rfl (by simp) rfl) (.inl (by kernel_rfl)) (fun _ _ => ?_)
              refine Wr.imp (L' := (storeI s ts) :: (pt tb2 28 [Value.int .u8 ((kk.kind : Nat) : Int), Value.int .i64 kk.n, Value.int .i64 kk.a, Value.int .i64 kk.b]) :: (pt k 74 [Value.pointer (some ⟨s, 0, none⟩), Value.slice (some ⟨hb2, 0, none⟩) (p2 + 1 + 1) hc2, Value.slice (some ⟨ub2, 0, none⟩) (vs.length + 1) uc2, tw]) :: (slp 4 1 hb2 hc2 (((Z.1 ++ [false], Z.2) : Sd).1.map Value.bool)) :: (sl 3 1 tw Z.2.length (Z.2.map natV)) :: (slp 41 1 ub2 uc2 ws) :: (grp (inners ws (gU u (U ++ [[]]) (p2 + 1) 2))) :: (pt tb 28 [Value.int .u8 ((u.kind : Nat) : Int), Value.int .i64 u.n, Value.int .i64 u.a, Value.int .i64 u.b]) :: (pt ab 3 [Value.int .i64 u.a, Value.int .i64 u.b]) :: F) (fun _ h => h) ?_
              refine Wr.rebaseS [] ((storeI s ts) :: (pt tb2 28 [Value.int .u8 ((kk.kind : Nat) : Int), Value.int .i64 kk.n, Value.int .i64 kk.a, Value.int .i64 kk.b]) :: (pt k 74 [Value.pointer (some ⟨s, 0, none⟩), Value.slice (some ⟨hb2, 0, none⟩) (p2 + 1 + 1) hc2, Value.slice (some ⟨ub2, 0, none⟩) (vs.length + 1) uc2, tw]) :: (slp 4 1 hb2 hc2 (((Z.1 ++ [false], Z.2) : Sd).1.map Value.bool)) :: (sl 3 1 tw Z.2.length (Z.2.map natV)) :: (slp 41 1 ub2 uc2 ws) :: (grp (inners ws (gU u (U ++ [[]]) (p2 + 1) 2))) :: (pt tb 28 [Value.int .u8 ((u.kind : Nat) : Int), Value.int .i64 u.n, Value.int .i64 u.a, Value.int .i64 u.b]) :: (pt ab 3 [Value.int .i64 u.a, Value.int .i64 u.b]) :: []) (by kernel_rfl) ?_
              refine Wr.pure (v := Value.bool true) 12 rfl (by kernel_rfl) (.inr (fun _ h => st_take [0, 0, 0, 0, 0, 0, 0, 0, 0] h)) (.inl ⟨rfl, fun _ => q_assign rfl⟩) ?_
              refine Wr.done (by kernel_rfl) ?_
              refine Wx.go ?_
              refine Wc.seq ?_
              refine Wc.region ?_
              refine Wl.q (v := Value.pointer (some ⟨tb2, 0, none⟩)) (q_field (m := 0) fo_28_0 rfl rfl) ?_
              refine Wl.q (v := Value.int .u8 ((kk.kind : Nat) : Int)) (q_load sc_26 rfl (.cel (i := 1) rfl rfl)) ?_
              by_cases hk5 : ((kk.kind : Nat) : Int) = 5
              ·
                have hwl2 : ws.length = (gU u (U ++ [[]]) (p2 + 1) 2).length := by rw [gU_len]; exact hwl
                have hlw : ws.length = vs.length + 1 := by rw [hwl, List.length_append, List.length_singleton]; omega
                have hul3 : ((gU u (U ++ [[]]) (p2 + 1) 2).getD kk.a.toNat []).length ≤ 3 * p2 + 2 := gU_le hun kk.a.toNat (by omega) (by omega)
                obtain ⟨vn, hvn⟩ : ∃ v, ws[kk.a.toNat]? = some v := ⟨ws[kk.a.toNat]'(by omega), List.getElem?_eq_getElem (by omega)⟩
                refine Wl.imp (L' := (sl 3 1 vn (((gU u (U ++ [[]]) (p2 + 1) 2).getD kk.a.toNat []).length) (((gU u (U ++ [[]]) (p2 + 1) 2).getD kk.a.toNat []).map natV)) :: (grp ((inners ws (gU u (U ++ [[]]) (p2 + 1) 2)).eraseIdx kk.a.toNat)) :: (storeI s ts) :: (pt tb2 28 [Value.int .u8 ((kk.kind : Nat) : Int), Value.int .i64 kk.n, Value.int .i64 kk.a, Value.int .i64 kk.b]) :: (pt k 74 [Value.pointer (some ⟨s, 0, none⟩), Value.slice (some ⟨hb2, 0, none⟩) (p2 + 1 + 1) hc2, Value.slice (some ⟨ub2, 0, none⟩) (vs.length + 1) uc2, tw]) :: (slp 4 1 hb2 hc2 (((Z.1 ++ [false], Z.2) : Sd).1.map Value.bool)) :: (sl 3 1 tw Z.2.length (Z.2.map natV)) :: (slp 41 1 ub2 uc2 ws) :: (pt tb 28 [Value.int .u8 ((u.kind : Nat) : Int), Value.int .i64 u.n, Value.int .i64 u.a, Value.int .i64 u.b]) :: (pt ab 3 [Value.int .i64 u.a, Value.int .i64 u.b]) :: F) (fun w hs => st_inner hvn hwl2 (st_pull [6, 0, 0, 0, 0, 0, 0, 0, 0] (hs))) ?_
                refine Wl.q (v := Value.bool true) (q_eql (r := true) rfl rfl (decide_eq_true hk5)) ?_
                refine Wl.done ?_
                refine Wx.go ?_
                refine Wc.yes rfl ?_
                refine Wc.drawsS [18] ((grp ((inners ws (gU u (U ++ [[]]) (p2 + 1) 2)).eraseIdx kk.a.toNat)) :: (storeI s ts) :: (pt tb2 28 [Value.int .u8 ((kk.kind : Nat) : Int), Value.int .i64 kk.n, Value.int .i64 kk.a, Value.int .i64 kk.b]) :: (pt k 74 [Value.pointer (some ⟨s, 0, none⟩), Value.slice (some ⟨hb2, 0, none⟩) (p2 + 1 + 1) hc2, Value.slice (some ⟨ub2, 0, none⟩) (vs.length + 1) uc2, tw]) :: (slp 4 1 hb2 hc2 (((Z.1 ++ [false], Z.2) : Sd).1.map Value.bool)) :: (slp 41 1 ub2 uc2 ws) :: (pt tb 28 [Value.int .u8 ((u.kind : Nat) : Int), Value.int .i64 u.n, Value.int .i64 u.a, Value.int .i64 u.b]) :: (pt ab 3 [Value.int .i64 u.a, Value.int .i64 u.b]) :: []) (by kernel_rfl) ?_
                refine Wr.pure (v := Value.pointer (some ⟨k, 0, none⟩)) 0 rfl (by kernel_rfl) (.inr (fun _ h => st_take [1, 1, 1, 1, 1, 2, 2, 2] h)) (.inl ⟨rfl, fun _ => q_move hE0_4⟩) ?_
                refine Wr.pure (v := Value.pointer (some ⟨k, 0, none⟩)) 1 rfl (by kernel_rfl) (.inr (fun _ h => st_take [1, 1, 1, 1, 1, 2, 2, 2] h)) (.inl ⟨rfl, fun _ => q_nil_ptr rfl⟩) ?_
                refine Wr.pure (v := Value.pointer (some ⟨k, 2, none⟩)) 2 rfl (by kernel_rfl) (.inr (fun _ h => st_take [1, 1, 1, 1, 1, 2, 2, 2] h)) (.inl ⟨rfl, fun _ => q_field (m := 2) fo_74_2 rfl rfl⟩) ?_
                refine Wr.take (v := Value.slice (some ⟨ub2, 0, none⟩) (vs.length + 1) uc2) 3 rfl (by kernel_rfl) (fun _ h => st_take [1, 1, 1, 1, 1, 2, 2, 2] h) (.inl ⟨rfl, q_load sc_72 rfl (.cel (i := 3) rfl rfl)⟩) ?_
                refine Wr.pure (v := Value.pointer (some ⟨tb2, 2, none⟩)) 4 rfl (by kernel_rfl) (.inr (fun _ h => st_take [1, 1, 1, 1, 1, 2, 2, 2] h)) (.inl ⟨rfl, fun _ => q_field (m := 2) fo_28_2 rfl rfl⟩) ?_
                refine Wr.take (v := Value.int .i64 kk.a) 5 rfl (by kernel_rfl) (fun _ h => st_take [1, 1, 1, 1, 1, 2, 2, 2] h) (.inl ⟨rfl, q_load sc_3 rfl (.cel (i := 2) rfl rfl)⟩) ?_
                refine Wr.pure (v := Value.pointer (some ⟨k, 0, none⟩)) 6 rfl (by kernel_rfl) (.inr (fun _ h => st_take [1, 1, 1, 1, 1, 2, 2, 2] h)) (.inl ⟨rfl, fun _ => q_move hE0_4⟩) ?_
                refine Wr.pure (v := Value.pointer (some ⟨k, 0, none⟩)) 7 rfl (by kernel_rfl) (.inr (fun _ h => st_take [1, 1, 1, 1, 1, 2, 2, 2] h)) (.inl ⟨rfl, fun _ => q_nil_ptr rfl⟩) ?_
                refine Wr.pure (v := Value.pointer (some ⟨k, 2, none⟩)) 8 rfl (by kernel_rfl) (.inr (fun _ h => st_take [1, 1, 1, 1, 1, 2, 2, 2] h)) (.inl ⟨rfl, fun _ => q_field (m := 2) fo_74_2 rfl rfl⟩) ?_
                refine Wr.take (v := Value.slice (some ⟨ub2, 0, none⟩) (vs.length + 1) uc2) 9 rfl (by kernel_rfl) (fun _ h => st_take [1, 1, 1, 1, 1, 2, 2, 2] h) (.inl ⟨rfl, q_load sc_72 rfl (.cel (i := 3) rfl rfl)⟩) ?_
                refine Wr.pure (v := Value.pointer (some ⟨tb2, 2, none⟩)) 10 rfl (by kernel_rfl) (.inr (fun _ h => st_take [1, 1, 1, 1, 1, 2, 2, 2] h)) (.inl ⟨rfl, fun _ => q_field (m := 2) fo_28_2 rfl rfl⟩) ?_
                refine Wr.take (v := Value.int .i64 kk.a) 11 rfl (by kernel_rfl) (fun _ h => st_take [1, 1, 1, 1, 1, 2, 2, 2] h) (.inl ⟨rfl, q_load sc_3 rfl (.cel (i := 2) rfl rfl)⟩) ?_
                refine Wr.pure (v := Value.pointer (some ⟨ub2, (kk.a).toNat, none⟩)) 12 rfl (by kernel_rfl) (.inr (fun _ h => st_take [1, 1, 1, 1, 1, 2, 2, 2] h)) (.inl ⟨rfl, fun _ => q_idx (m := (kk.a).toNat) se_72 rfl rfl (by omega) (by omega) (by simp)⟩) ?_
                refine Wr.take (v := vn) 13 rfl (by kernel_rfl) (fun _ h => st_take [1, 1, 1, 1, 1, 2, 2, 2] h) (.inl ⟨rfl, q_load sc_41 rfl (.row (i := 5) rfl hvn)⟩) ?_
                refine Wr.pure (v := Value.int .i64 (((p2 + 1) : Nat) : Int)) 14 rfl (by kernel_rfl) (.inr (fun _ h => st_take [1, 1, 1, 1, 1, 2, 2, 2] h)) (.inl ⟨rfl, fun _ => q_move hE2_4⟩) ?_
                refine Wr.e 15 (by kernel_rfl) rfl (e_buildSlice (cs := [Value.int .i64 (((p2 + 1) : Nat) : Int)]) se_41 zo_3 (by decide) (by decide) (by kernel_rfl)) (.inr fun _ _ _ h => st_take [2, 2, 2, 2, 2, 3, 3, 3] h) (fun b12 _ => ?_)
                refine Wr.imp (L' := (pt b12 3 [Value.int .i64 (((p2 + 1) : Nat) : Int)]) :: (sl 3 1 vn (((gU u (U ++ [[]]) (p2 + 1) 2).getD kk.a.toNat []).length) (((gU u (U ++ [[]]) (p2 + 1) 2).getD kk.a.toNat []).map natV)) :: (grp ((inners ws (gU u (U ++ [[]]) (p2 + 1) 2)).eraseIdx kk.a.toNat)) :: (storeI s ts) :: (pt tb2 28 [Value.int .u8 ((kk.kind : Nat) : Int), Value.int .i64 kk.n, Value.int .i64 kk.a, Value.int .i64 kk.b]) :: (pt k 74 [Value.pointer (some ⟨s, 0, none⟩), Value.slice (some ⟨hb2, 0, none⟩) (p2 + 1 + 1) hc2, Value.slice (some ⟨ub2, 0, none⟩) (vs.length + 1) uc2, tw]) :: (slp 4 1 hb2 hc2 (((Z.1 ++ [false], Z.2) : Sd).1.map Value.bool)) :: (sl 3 1 tw Z.2.length (Z.2.map natV)) :: (slp 41 1 ub2 uc2 ws) :: (pt tb 28 [Value.int .u8 ((u.kind : Nat) : Int), Value.int .i64 u.n, Value.int .i64 u.a, Value.int .i64 u.b]) :: (pt ab 3 [Value.int .i64 u.a, Value.int .i64 u.b]) :: F) (fun _ h => h) ?_
                refine Wr.more (S' := (pt b12 3 [Value.int .i64 (((p2 + 1) : Nat) : Int)]) :: (grp ((inners ws (gU u (U ++ [[]]) (p2 + 1) 2)).eraseIdx kk.a.toNat)) :: (storeI s ts) :: (pt tb2 28 [Value.int .u8 ((kk.kind : Nat) : Int), Value.int .i64 kk.n, Value.int .i64 kk.a, Value.int .i64 kk.b]) :: (pt k 74 [Value.pointer (some ⟨s, 0, none⟩), Value.slice (some ⟨hb2, 0, none⟩) (p2 + 1 + 1) hc2, Value.slice (some ⟨ub2, 0, none⟩) (vs.length + 1) uc2, tw]) :: (slp 4 1 hb2 hc2 (((Z.1 ++ [false], Z.2) : Sd).1.map Value.bool)) :: (slp 41 1 ub2 uc2 ws) :: (pt tb 28 [Value.int .u8 ((u.kind : Nat) : Int), Value.int .i64 u.n, Value.int .i64 u.a, Value.int .i64 u.b]) :: (pt ab 3 [Value.int .i64 u.a, Value.int .i64 u.b]) :: []) (fun _ h => st_drop h) ?_
                refine Wr.e 16 (by kernel_rfl) rfl (e_append (i := 1) (k := 1) (m := 1) (off := 0) (news := [Value.int .i64 (((p2 + 1) : Nat) : Int)]) Try.underlying41 sz_3 by_3 zo_3 rfl rfl rfl rfl rfl (Has.of_pt (i := 0) rfl rfl) rfl (by decide) (by simp only [maxLen]; omega) (by omega)) (.inr fun _ _ _ h => st_take [0, 1, 1, 1, 1, 1, 2, 2, 2] h) (fun vn2 _ => ?_)
                refine Wr.imp (L' := (pt b12 3 [Value.int .i64 (((p2 + 1) : Nat) : Int)]) :: (sl 3 1 vn2 ((((gU u (U ++ [[]]) (p2 + 1) 2).getD kk.a.toNat []).length) + 1) ((((gU u (U ++ [[]]) (p2 + 1) 2).getD kk.a.toNat []).map natV) ++ [Value.int .i64 (((p2 + 1) : Nat) : Int)])) :: (grp ((inners ws (gU u (U ++ [[]]) (p2 + 1) 2)).eraseIdx kk.a.toNat)) :: (storeI s ts) :: (pt tb2 28 [Value.int .u8 ((kk.kind : Nat) : Int), Value.int .i64 kk.n, Value.int .i64 kk.a, Value.int .i64 kk.b]) :: (pt k 74 [Value.pointer (some ⟨s, 0, none⟩), Value.slice (some ⟨hb2, 0, none⟩) (p2 + 1 + 1) hc2, Value.slice (some ⟨ub2, 0, none⟩) (vs.length + 1) uc2, tw]) :: (slp 4 1 hb2 hc2 (((Z.1 ++ [false], Z.2) : Sd).1.map Value.bool)) :: (sl 3 1 tw Z.2.length (Z.2.map natV)) :: (slp 41 1 ub2 uc2 ws) :: (pt tb 28 [Value.int .u8 ((u.kind : Nat) : Int), Value.int .i64 u.n, Value.int .i64 u.a, Value.int .i64 u.b]) :: (pt ab 3 [Value.int .i64 u.a, Value.int .i64 u.b]) :: F) (fun _ h => h) ?_
                refine Wr.pure (v := Value.pointer (some ⟨ub2, (kk.a).toNat, none⟩)) 17 rfl (by kernel_rfl) (.inr (fun _ h => st_take [0, 1, 1, 1, 1, 1, 2, 2, 2] h)) (.inl ⟨rfl, fun _ => q_idx (m := (kk.a).toNat) se_72 rfl rfl (by omega) (by omega) (by simp)⟩) ?_
                refine Wr.e 18 (by kernel_rfl) rfl (e_store_slpS (i := 8) (v := vn2) (c' := (ws.set ((kk.a).toNat) vn2)) sz_41 rfl rfl (fun w hs => sl_cells (i := 1) hs rfl) rfl (by omega) (splice_id (by omega))) (.inl (by kernel_rfl)) (fun _ _ => ?_)
                refine Wr.imp (L' := (pt b12 3 [Value.int .i64 (((p2 + 1) : Nat) : Int)]) :: (sl 3 1 vn2 ((((gU u (U ++ [[]]) (p2 + 1) 2).getD kk.a.toNat []).length) + 1) ((((gU u (U ++ [[]]) (p2 + 1) 2).getD kk.a.toNat []).map natV) ++ [Value.int .i64 (((p2 + 1) : Nat) : Int)])) :: (grp ((inners ws (gU u (U ++ [[]]) (p2 + 1) 2)).eraseIdx kk.a.toNat)) :: (storeI s ts) :: (pt tb2 28 [Value.int .u8 ((kk.kind : Nat) : Int), Value.int .i64 kk.n, Value.int .i64 kk.a, Value.int .i64 kk.b]) :: (pt k 74 [Value.pointer (some ⟨s, 0, none⟩), Value.slice (some ⟨hb2, 0, none⟩) (p2 + 1 + 1) hc2, Value.slice (some ⟨ub2, 0, none⟩) (vs.length + 1) uc2, tw]) :: (slp 4 1 hb2 hc2 (((Z.1 ++ [false], Z.2) : Sd).1.map Value.bool)) :: (sl 3 1 tw Z.2.length (Z.2.map natV)) :: (slp 41 1 ub2 uc2 (ws.set ((kk.a).toNat) vn2)) :: (pt tb 28 [Value.int .u8 ((u.kind : Nat) : Int), Value.int .i64 u.n, Value.int .i64 u.a, Value.int .i64 u.b]) :: (pt ab 3 [Value.int .i64 u.a, Value.int .i64 u.b]) :: F) (fun _ h => h) ?_
                refine Wr.rebaseS [] ((pt b12 3 [Value.int .i64 (((p2 + 1) : Nat) : Int)]) :: (sl 3 1 vn2 ((((gU u (U ++ [[]]) (p2 + 1) 2).getD kk.a.toNat []).length) + 1) ((((gU u (U ++ [[]]) (p2 + 1) 2).getD kk.a.toNat []).map natV) ++ [Value.int .i64 (((p2 + 1) : Nat) : Int)])) :: (grp ((inners ws (gU u (U ++ [[]]) (p2 + 1) 2)).eraseIdx kk.a.toNat)) :: (storeI s ts) :: (pt tb2 28 [Value.int .u8 ((kk.kind : Nat) : Int), Value.int .i64 kk.n, Value.int .i64 kk.a, Value.int .i64 kk.b]) :: (pt k 74 [Value.pointer (some ⟨s, 0, none⟩), Value.slice (some ⟨hb2, 0, none⟩) (p2 + 1 + 1) hc2, Value.slice (some ⟨ub2, 0, none⟩) (vs.length + 1) uc2, tw]) :: (slp 4 1 hb2 hc2 (((Z.1 ++ [false], Z.2) : Sd).1.map Value.bool)) :: (sl 3 1 tw Z.2.length (Z.2.map natV)) :: (slp 41 1 ub2 uc2 (ws.set ((kk.a).toNat) vn2)) :: (pt tb 28 [Value.int .u8 ((u.kind : Nat) : Int), Value.int .i64 u.n, Value.int .i64 u.a, Value.int .i64 u.b]) :: (pt ab 3 [Value.int .i64 u.a, Value.int .i64 u.b]) :: []) (by kernel_rfl) ?_
                refine Wr.done (by kernel_rfl) ?_
                refine Wx.go ?_
                refine Wc.region ?_
                refine Wl.q (v := Value.pointer (some ⟨k, 0, none⟩)) (q_move hE0_4) ?_
                refine Wl.q (v := Value.int .i64 (((p2 + 1) : Nat) : Int)) (q_move hE2_4) ?_
                refine Wl.imp (L' := (pt k 74 [Value.pointer (some ⟨s, 0, none⟩), Value.slice (some ⟨hb2, 0, none⟩) (p2 + 1 + 1) hc2, Value.slice (some ⟨ub2, 0, none⟩) (vs.length + 1) uc2, tw]) :: (slp 4 1 hb2 hc2 (((Z.1 ++ [false], Z.2) : Sd).1.map Value.bool)) :: (sl 3 1 tw Z.2.length (Z.2.map natV)) :: (storeI s ts) :: (pt b12 3 [Value.int .i64 (((p2 + 1) : Nat) : Int)]) :: (sl 3 1 vn2 ((((gU u (U ++ [[]]) (p2 + 1) 2).getD kk.a.toNat []).length) + 1) ((((gU u (U ++ [[]]) (p2 + 1) 2).getD kk.a.toNat []).map natV) ++ [Value.int .i64 (((p2 + 1) : Nat) : Int)])) :: (grp ((inners ws (gU u (U ++ [[]]) (p2 + 1) 2)).eraseIdx kk.a.toNat)) :: (pt tb2 28 [Value.int .u8 ((kk.kind : Nat) : Int), Value.int .i64 kk.n, Value.int .i64 kk.a, Value.int .i64 kk.b]) :: (slp 41 1 ub2 uc2 (ws.set ((kk.a).toNat) vn2)) :: (pt tb 28 [Value.int .u8 ((u.kind : Nat) : Int), Value.int .i64 u.n, Value.int .i64 u.a, Value.int .i64 u.b]) :: (pt ab 3 [Value.int .i64 u.a, Value.int .i64 u.b]) :: F) (fun _ h => st_pull [5, 5, 5, 3] h) ?_
                refine Wl.e (e_call (F := (pt b12 3 [Value.int .i64 (((p2 + 1) : Nat) : Int)]) :: (sl 3 1 vn2 ((((gU u (U ++ [[]]) (p2 + 1) 2).getD kk.a.toNat []).length) + 1) ((((gU u (U ++ [[]]) (p2 + 1) 2).getD kk.a.toNat []).map natV) ++ [Value.int .i64 (((p2 + 1) : Nat) : Int)])) :: (grp ((inners ws (gU u (U ++ [[]]) (p2 + 1) 2)).eraseIdx kk.a.toNat)) :: (pt tb2 28 [Value.int .u8 ((kk.kind : Nat) : Int), Value.int .i64 kk.n, Value.int .i64 kk.a, Value.int .i64 kk.b]) :: (slp 41 1 ub2 uc2 (ws.set ((kk.a).toNat) vn2)) :: (pt tb 28 [Value.int .u8 ((u.kind : Nat) : Int), Value.int .i64 u.n, Value.int .i64 u.a, Value.int .i64 u.b]) :: (pt ab 3 [Value.int .i64 u.a, Value.int .i64 u.b]) :: F) (args := [Value.pointer (some ⟨k, 0, none⟩), Value.int .i64 (((p2 + 1) : Nat) : Int)]) Try.call43 rfl (kmake_c W0 k s hb2 hc2 ub2 uc2 (vs.length + 1) (p2 + 1 + 1) (tw) ts ((Z.1 ++ [false], Z.2) : Sd) (p2 + 1) (by simp only [List.length_append, List.length_singleton]; omega) hI.wf hl u hu (by omega) (by simp only; omega))) (fun tv13 _ => ?_)
                refine Wl.imp (L' := (pt k 74 [Value.pointer (some ⟨s, 0, none⟩), Value.slice (some ⟨hb2, 0, none⟩) (p2 + 1 + 1) hc2, Value.slice (some ⟨ub2, 0, none⟩) (vs.length + 1) uc2, tv13]) :: (slp 4 1 hb2 hc2 ((maF ts ((Z.1 ++ [false], Z.2) : Sd) (p2 + 1)).1.map Value.bool)) :: (sl 3 1 tv13 ((maF ts ((Z.1 ++ [false], Z.2) : Sd) (p2 + 1)).2.length) ((maF ts ((Z.1 ++ [false], Z.2) : Sd) (p2 + 1)).2.map natV)) :: (storeI s ts) :: (pt b12 3 [Value.int .i64 (((p2 + 1) : Nat) : Int)]) :: (sl 3 1 vn2 ((((gU u (U ++ [[]]) (p2 + 1) 2).getD kk.a.toNat []).length) + 1) ((((gU u (U ++ [[]]) (p2 + 1) 2).getD kk.a.toNat []).map natV) ++ [Value.int .i64 (((p2 + 1) : Nat) : Int)])) :: (grp ((inners ws (gU u (U ++ [[]]) (p2 + 1) 2)).eraseIdx kk.a.toNat)) :: (pt tb2 28 [Value.int .u8 ((kk.kind : Nat) : Int), Value.int .i64 kk.n, Value.int .i64 kk.a, Value.int .i64 kk.b]) :: (slp 41 1 ub2 uc2 (ws.set ((kk.a).toNat) vn2)) :: (pt tb 28 [Value.int .u8 ((u.kind : Nat) : Int), Value.int .i64 u.n, Value.int .i64 u.a, Value.int .i64 u.b]) :: (pt ab 3 [Value.int .i64 u.a, Value.int .i64 u.b]) :: F) (fun _ h => h) ?_
                refine Wl.done ?_
                refine Wx.blockEnd ?_
                refine Wx.go ?_
                refine Wc.region ?_
                refine Wl.q (v := Value.int .i64 (((p2 + 1) : Nat) : Int)) (q_move hE2_4) ?_
                refine Wl.q (v := Value.int .i64 (((p2 + 1) + 1 : Nat) : Int)) (q_add (c := (((p2 + 1) + 1 : Nat) : Int)) rfl rfl (by rw [wrap_i64] <;> omega)) ?_
                refine Wl.q (v := Value.int .i64 (((p2 + 1) + 1 : Nat) : Int)) (q_assign rfl) ?_
                refine Wl.done ?_
                refine Wx.at ((p2 + 1, maF ts (Z.1 ++ [false], Z.2) (p2 + 1), grU ts U u (p2 + 1)), (hb2, hc2, ub2, uc2), tv13, (ws.set ((kk.a).toNat) vn2)) ⟨(by simp only; omega), rfl, hE0_4, hg.1, (fun x hx => hg.2 x (hmo x hx)), (by have h1 : ((ws.set ((kk.a).toNat) vn2)).length = (U ++ [[]]).length := (by rw [List.length_set]; exact hwl); have h2 := hg.1.ul; have h3 := hI.ul; simp only [List.length_append, List.length_singleton] at h1; simp only; omega)⟩ (fun w hs => by rw [grU_y (by omega) hkk (by omega)]; have hs := (fun hs => st_pull [1, 1, 1, 1, 1, 0] (st_inner_set (u' := (gU u (U ++ [[]]) (p2 + 1) 2).getD kk.a.toNat [] ++ [p2 + 1]) hvn hwl2 (by rw [List.length_append, List.map_append]; exact hs))) (st_pull [4, 4, 0, 0, 0, 0, 0] (st_drop (st_drop (st_drop (st_drop (st_pull [4, 6, 7, 7] hs)))))); rw [show vs.length + 1 = ((ws.set ((kk.a).toNat) vn2)).length from by have h1 : ((ws.set ((kk.a).toNat) vn2)).length = (U ++ [[]]).length := (by rw [List.length_set]; exact hwl); simp only [List.length_append, List.length_singleton] at h1; omega] at hs; exact hs)
              ·
                refine Wl.q (v := Value.bool false) (q_eql (r := false) rfl rfl (decide_eq_false hk5)) ?_
                refine Wl.done ?_
                refine Wx.go ?_
                refine Wc.no rfl ?_
                refine Wc.skip ?_
                refine Wx.go ?_
                refine Wc.region ?_
                refine Wl.q (v := Value.pointer (some ⟨k, 0, none⟩)) (q_move hE0_4) ?_
                refine Wl.q (v := Value.int .i64 (((p2 + 1) : Nat) : Int)) (q_move hE2_4) ?_
                refine Wl.imp (L' := (pt k 74 [Value.pointer (some ⟨s, 0, none⟩), Value.slice (some ⟨hb2, 0, none⟩) (p2 + 1 + 1) hc2, Value.slice (some ⟨ub2, 0, none⟩) (vs.length + 1) uc2, tw]) :: (slp 4 1 hb2 hc2 (((Z.1 ++ [false], Z.2) : Sd).1.map Value.bool)) :: (sl 3 1 tw Z.2.length (Z.2.map natV)) :: (storeI s ts) :: (pt tb2 28 [Value.int .u8 ((kk.kind : Nat) : Int), Value.int .i64 kk.n, Value.int .i64 kk.a, Value.int .i64 kk.b]) :: (slp 41 1 ub2 uc2 ws) :: (grp (inners ws (gU u (U ++ [[]]) (p2 + 1) 2))) :: (pt tb 28 [Value.int .u8 ((u.kind : Nat) : Int), Value.int .i64 u.n, Value.int .i64 u.a, Value.int .i64 u.b]) :: (pt ab 3 [Value.int .i64 u.a, Value.int .i64 u.b]) :: F) (fun _ h => st_pull [2, 2, 2, 0] h) ?_
                refine Wl.e (e_call (F := (pt tb2 28 [Value.int .u8 ((kk.kind : Nat) : Int), Value.int .i64 kk.n, Value.int .i64 kk.a, Value.int .i64 kk.b]) :: (slp 41 1 ub2 uc2 ws) :: (grp (inners ws (gU u (U ++ [[]]) (p2 + 1) 2))) :: (pt tb 28 [Value.int .u8 ((u.kind : Nat) : Int), Value.int .i64 u.n, Value.int .i64 u.a, Value.int .i64 u.b]) :: (pt ab 3 [Value.int .i64 u.a, Value.int .i64 u.b]) :: F) (args := [Value.pointer (some ⟨k, 0, none⟩), Value.int .i64 (((p2 + 1) : Nat) : Int)]) Try.call43 rfl (kmake_c W0 k s hb2 hc2 ub2 uc2 (vs.length + 1) (p2 + 1 + 1) (tw) ts ((Z.1 ++ [false], Z.2) : Sd) (p2 + 1) (by simp only [List.length_append, List.length_singleton]; omega) hI.wf hl u hu (by omega) (by simp only; omega))) (fun tv14 _ => ?_)
                refine Wl.imp (L' := (pt k 74 [Value.pointer (some ⟨s, 0, none⟩), Value.slice (some ⟨hb2, 0, none⟩) (p2 + 1 + 1) hc2, Value.slice (some ⟨ub2, 0, none⟩) (vs.length + 1) uc2, tv14]) :: (slp 4 1 hb2 hc2 ((maF ts ((Z.1 ++ [false], Z.2) : Sd) (p2 + 1)).1.map Value.bool)) :: (sl 3 1 tv14 ((maF ts ((Z.1 ++ [false], Z.2) : Sd) (p2 + 1)).2.length) ((maF ts ((Z.1 ++ [false], Z.2) : Sd) (p2 + 1)).2.map natV)) :: (storeI s ts) :: (pt tb2 28 [Value.int .u8 ((kk.kind : Nat) : Int), Value.int .i64 kk.n, Value.int .i64 kk.a, Value.int .i64 kk.b]) :: (slp 41 1 ub2 uc2 ws) :: (grp (inners ws (gU u (U ++ [[]]) (p2 + 1) 2))) :: (pt tb 28 [Value.int .u8 ((u.kind : Nat) : Int), Value.int .i64 u.n, Value.int .i64 u.a, Value.int .i64 u.b]) :: (pt ab 3 [Value.int .i64 u.a, Value.int .i64 u.b]) :: F) (fun _ h => h) ?_
                refine Wl.done ?_
                refine Wx.blockEnd ?_
                refine Wx.go ?_
                refine Wc.region ?_
                refine Wl.q (v := Value.int .i64 (((p2 + 1) : Nat) : Int)) (q_move hE2_4) ?_
                refine Wl.q (v := Value.int .i64 (((p2 + 1) + 1 : Nat) : Int)) (q_add (c := (((p2 + 1) + 1 : Nat) : Int)) rfl rfl (by rw [wrap_i64] <;> omega)) ?_
                refine Wl.q (v := Value.int .i64 (((p2 + 1) + 1 : Nat) : Int)) (q_assign rfl) ?_
                refine Wl.done ?_
                refine Wx.at ((p2 + 1, maF ts (Z.1 ++ [false], Z.2) (p2 + 1), grU ts U u (p2 + 1)), (hb2, hc2, ub2, uc2), tv14, ws) ⟨(by simp only; omega), rfl, hE0_4, hg.1, (fun x hx => hg.2 x (hmo x hx)), (by have h1 : (ws).length = (U ++ [[]]).length := hwl; have h2 := hg.1.ul; have h3 := hI.ul; simp only [List.length_append, List.length_singleton] at h1; simp only; omega)⟩ (fun w hs => by rw [grU_n (pub_n5 hkk (by omega))]; have hs := (st_drop (st_drop (st_drop (st_pull [4, 6, 6] hs)))); rw [show vs.length + 1 = (ws).length from by have h1 : (ws).length = (U ++ [[]]).length := hwl; simp only [List.length_append, List.length_singleton] at h1; omega] at hs; exact hs)
          ·
            refine Wl.q (v := Value.bool false) (q_eql (r := false) rfl rfl (decide_eq_false hk6)) ?_
            refine Wl.done ?_
            refine Wx.go ?_
            refine Wc.no rfl ?_
            refine Wc.skip ?_
            refine Wx.go ?_
            refine Wc.region ?_
            refine Wl.q (v := Value.pointer (some ⟨k, 0, none⟩)) (q_move hE0_4) ?_
            refine Wl.q (v := Value.int .i64 (((p2 + 1) : Nat) : Int)) (q_move hE2_4) ?_
            refine Wl.e (e_call (F := (slp 41 1 ub2 uc2 ws) :: (grp (inners ws (gU u (U ++ [[]]) (p2 + 1) 2))) :: (pt tb 28 [Value.int .u8 ((u.kind : Nat) : Int), Value.int .i64 u.n, Value.int .i64 u.a, Value.int .i64 u.b]) :: (pt ab 3 [Value.int .i64 u.a, Value.int .i64 u.b]) :: F) (args := [Value.pointer (some ⟨k, 0, none⟩), Value.int .i64 (((p2 + 1) : Nat) : Int)]) Try.call43 rfl (kmake_c W0 k s hb2 hc2 ub2 uc2 (vs.length + 1) (p2 + 1 + 1) (tw) ts ((Z.1 ++ [false], Z.2) : Sd) (p2 + 1) (by simp only [List.length_append, List.length_singleton]; omega) hI.wf hl u hu (by omega) (by simp only; omega))) (fun tv15 _ => ?_)
            refine Wl.imp (L' := (pt k 74 [Value.pointer (some ⟨s, 0, none⟩), Value.slice (some ⟨hb2, 0, none⟩) (p2 + 1 + 1) hc2, Value.slice (some ⟨ub2, 0, none⟩) (vs.length + 1) uc2, tv15]) :: (slp 4 1 hb2 hc2 ((maF ts ((Z.1 ++ [false], Z.2) : Sd) (p2 + 1)).1.map Value.bool)) :: (sl 3 1 tv15 ((maF ts ((Z.1 ++ [false], Z.2) : Sd) (p2 + 1)).2.length) ((maF ts ((Z.1 ++ [false], Z.2) : Sd) (p2 + 1)).2.map natV)) :: (storeI s ts) :: (slp 41 1 ub2 uc2 ws) :: (grp (inners ws (gU u (U ++ [[]]) (p2 + 1) 2))) :: (pt tb 28 [Value.int .u8 ((u.kind : Nat) : Int), Value.int .i64 u.n, Value.int .i64 u.a, Value.int .i64 u.b]) :: (pt ab 3 [Value.int .i64 u.a, Value.int .i64 u.b]) :: F) (fun _ h => h) ?_
            refine Wl.done ?_
            refine Wx.blockEnd ?_
            refine Wx.go ?_
            refine Wc.region ?_
            refine Wl.q (v := Value.int .i64 (((p2 + 1) : Nat) : Int)) (q_move hE2_4) ?_
            refine Wl.q (v := Value.int .i64 (((p2 + 1) + 1 : Nat) : Int)) (q_add (c := (((p2 + 1) + 1 : Nat) : Int)) rfl rfl (by rw [wrap_i64] <;> omega)) ?_
            refine Wl.q (v := Value.int .i64 (((p2 + 1) + 1 : Nat) : Int)) (q_assign rfl) ?_
            refine Wl.done ?_
            refine Wx.at ((p2 + 1, maF ts (Z.1 ++ [false], Z.2) (p2 + 1), grU ts U u (p2 + 1)), (hb2, hc2, ub2, uc2), tv15, ws) ⟨(by simp only; omega), rfl, hE0_4, hg.1, (fun x hx => hg.2 x (hmo x hx)), (by have h1 : (ws).length = (U ++ [[]]).length := hwl; have h2 := hg.1.ul; have h3 := hI.ul; simp only [List.length_append, List.length_singleton] at h1; simp only; omega)⟩ (fun w hs => by rw [grU_n (pub_n6 (by omega))]; have hs := (st_drop (st_drop (st_pull [6, 6] hs))); rw [show vs.length + 1 = (ws).length from by have h1 : (ws).length = (U ++ [[]]).length := hwl; simp only [List.length_append, List.length_singleton] at h1; omega] at hs; exact hs)
    ·
      have hzl := hI.len
      have hzu := hI.ul
      have hle := hI.le
      have hpl := hI.pl
      have hpe : p2 = ts.length := by omega
      refine Wl.q (v := Value.bool false) (q_leq (r := false) rfl rfl (decide_eq_false hnl)) ?_
      refine Wl.done ?_
      refine Wx.go ?_
      refine Wc.no rfl ?_
      refine Wc.exit ?_
      refine Wx.thenExit ?_
      refine Wx.thenExit ?_
      refine Wx.out ?_
      refine Wx.go ?_
      refine Wc.region ?_
      refine Wl.q (v := Value.pointer (some ⟨k, 0, none⟩)) (q_move hE0_0) ?_
      refine Wl.imp (L' := (pt k 74 [Value.pointer (some ⟨s, 0, none⟩), Value.slice (some ⟨hb, 0, none⟩) (p2 + 1) hc, Value.slice (some ⟨ub, 0, none⟩) vs.length uc, tw]) :: (slp 4 1 hb hc (Z.1.map Value.bool)) :: (sl 3 1 tw Z.2.length (Z.2.map natV)) :: (storeI s ts) :: (slp 41 1 ub uc vs) :: (grp (inners vs U)) :: F) (fun _ h => st_pull [1, 1, 1, 0, 0, 0] h) ?_
      refine Wl.e (e_call (F := F) (args := [Value.pointer (some ⟨k, 0, none⟩)]) Try.call33 rfl (krun_c W0 k s hb hc ub uc vs.length (p2 + 1) (tw) vs U ts p2 K Z hI hl rfl hvu rfl)) (fun y ⟨hy, hyu⟩ => ?_)
      refine Wl.imp (L' := (pt k 74 [Value.pointer (some ⟨s, 0, none⟩), Value.slice (some ⟨hb, 0, none⟩) (p2 + 1) hc, Value.slice (some ⟨ub, 0, none⟩) vs.length uc, y.1]) :: (slp 4 1 hb hc (y.2.map Value.bool)) :: (sl 3 1 y.1 0 []) :: (storeI s ts) :: (slp 41 1 ub uc vs) :: (grp (inners vs U)) :: F) (fun _ h => h) ?_
      refine Wl.done ?_
      refine Wx.fin0 rfl (.inr rfl) (fun w hs => ?_)
      subst hpe
      exact ⟨(y.2, U), ⟨hy, fun x hx => hyu x (hmo x hx)⟩, rfl, by have hs := (st_pull [0, 0, 0, 1, 1, 0] (hs)); rw [show ts.length + 1 = y.2.length from hy.len.symm] at hs; exact knowI_mk hvu hs⟩

end Go.Proofs.Ytjjghmkjdgogiaa
