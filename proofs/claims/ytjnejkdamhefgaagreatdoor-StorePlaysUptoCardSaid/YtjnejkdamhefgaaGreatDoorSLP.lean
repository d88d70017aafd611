/- A part of the proof. -/
import Derived.Test.YtjnejkdamhefgaaGreatDoorStDg
import Derived.Test.YtjnejkdamhefgaaGreatDoorStE
import Derived.ProofKit
import Derived.OpenShut
import Derived.JoinedCond
import Derived.Deep.Slices
import Derived.Deep.Fields
namespace Go.Proofs.YtjnejkdamhefgaaGreatDoor
open Tryz
open Go Go.SL Go.St Go.Wr Go.RowKit
open Go.Dk (DS WF)
open Go.Jn (JS Ok openD_up)
set_option linter.unusedVariables false
set_option maxRecDepth 8000
open Go.Jn (openD)
theorem sopen_bad (W0 : World) (dp : Nat) (d : DS) (hw : WF d) (hn1 : 1 ≤ d.secs.length) (hsn : d.since.length < 1099511627776) (c : Int) (hc : ¬ c = 0) (hop : openD d = (c, none)) :
  Con1 prog W0 9 #[Vp dp] [isDisk dp d] (.tuple #[.pointer none, .int .i64 c]) [isDisk dp d] := by
 refine Con.of func9 rfl ntmps9 rfl (fun F => ?_)
 show Wc _ W0 _ _ _ _ _ ((isDisk dp d) :: F)
 refine Wc.a 2 rfl (Wc.b 1 rfl (Wl.e (e_c call33 (open_bad W0 dp d hw hn1 hsn hop)) (fun _ _ => Wl.rg 5 rfl (Wc.seq (Wc.b 1 rfl (Wl.q (q_neq rfl rfl (df (hc))) (Wl.dg (Wc.yes rfl (Wc.a 3 rfl (Wc.ret (Wx.thenRet (Wx.f2 rfl (fun w hs => ?_)))))))))))))
 exact ⟨(), trivial, rfl, hs⟩
theorem sopen_zero (W0 : World) (dp : Nat) (d : DS) (hw : WF d) (hn1 : 1 ≤ d.secs.length) (hsn : d.since.length < 1099511627776) (t : ByteArray) (q : Int) (hop : openD d = (0, some (t, q))) (hq : q = 0) :
  Con prog W0 9 #[Vp dp] [isDisk dp d] (X := Nat × Nat × Nat) (fun _ => True) (fun y => .tuple #[.pointer (some ⟨y.1, 0, none⟩), .int .i64 0]) (fun y => [pt y.1 114 [.pointer (some ⟨y.2.1, 0, none⟩), .map (some y.2.2)], mp y.2.2 (strV []), isJ y.2.1 dp ⟨t, q, false⟩, isDisk dp d]) := by
 refine Con.of func9 rfl ntmps9 rfl (fun F => ?_)
 show Wc _ W0 _ _ _ _ _ ((isDisk dp d) :: F)
 refine Wc.a 2 rfl (Wc.b 1 rfl (Wl.e (e_c call33 (open_ok W0 dp d hw hn1 hsn hop)) (fun j _ => Wl.rg 5 rfl (Wc.seq (Wc.b 1 rfl (Wl.q (q_neq rfl rfl (dt (by decide))) (Wl.dg (Wc.no rfl (Wc.skip (Wx.go (Wc.b 1 rfl (Wl.e (e_makeMap) (fun mb _ => Wl.q (v := Value.agg #[Vp j, Value.map (some mb)]) (q_build (pl := [(0, 1), (1, 1)]) underlying114 zo_114 (by kernel_rfl) (by kernel_rfl)) (Wl.e (e_box (x := .tmp 21) (vs := [Vp j, Value.map (some mb)]) rfl) (fun sp _ => Wl.rg 1 rfl (Wc.seq (Wc.b 1 rfl (Wl.imp (L' := (isJ j dp ⟨t, q, false⟩) :: (pt sp 114 [Vp j, Value.map (some mb)]) :: (mp mb []) :: (isDisk dp d) :: F) (fun _ h => st_pull [2] h) (Wl.e (e_c call34 (seq_in W0 j dp t q false)) (fun _ _ => Wl.q (q_eql rfl rfl (dt (hq))) (Wl.dg (Wc.yes rfl (Wc.a 3 rfl ?_)))))))))))))))))))))))
 refine Wc.ret (Wx.thenRet (Wx.f2 rfl (fun w hs => ?_)))
 exact ⟨(sp, j, mb), trivial, rfl, (st_pull [1, 1, 0, 0] (hs))⟩
theorem sopen_broken (W0 : World) (dp : Nat) (d : DS) (hw : WF d) (hn1 : 1 ≤ d.secs.length) (hsn : d.since.length < 1099511627776) (t : ByteArray) (q : Int) (htz : t.size ≤ 9223372036854775807) (hop : openD d = (0, some (t, q))) (hup : d.down = false) (hq : ¬ q = 0) (hu : ¬ unpackE t = 0) :
  Con1 prog W0 9 #[Vp dp] [isDisk dp d] (.tuple #[.pointer none, .int .i64 14]) [isDisk dp d] := by
 refine Con.of func9 rfl ntmps9 rfl (fun F => ?_)
 show Wc _ W0 _ _ _ _ _ ((isDisk dp d) :: F)
 refine Wc.a 2 rfl (Wc.b 1 rfl (Wl.e (e_c call33 (open_ok W0 dp d hw hn1 hsn hop)) (fun j _ => Wl.rg 5 rfl (Wc.seq (Wc.b 1 rfl (Wl.q (q_neq rfl rfl (dt (by decide))) (Wl.dg (Wc.no rfl (Wc.skip (Wx.go (Wc.b 1 rfl (Wl.e (e_makeMap) (fun mb _ => Wl.q (v := Value.agg #[Vp j, Value.map (some mb)]) (q_build (pl := [(0, 1), (1, 1)]) underlying114 zo_114 (by kernel_rfl) (by kernel_rfl)) (Wl.e (e_box (x := .tmp 21) (vs := [Vp j, Value.map (some mb)]) rfl) (fun sp _ => Wl.rg 1 rfl (Wc.seq (Wc.b 1 rfl (Wl.imp (L' := (isJ j dp ⟨t, q, false⟩) :: (pt sp 114 [Vp j, Value.map (some mb)]) :: (mp mb []) :: (isDisk dp d) :: F) (fun _ h => st_pull [2] h) (Wl.e (e_c call34 (seq_in W0 j dp t q false)) (fun _ _ => Wl.q (q_eql rfl rfl (df (hq))) (Wl.dg (Wc.no rfl (Wc.skip ?_)))))))))))))))))))))))
 refine Wx.go (Wc.b 1 rfl (Wl.imp (L' := (isJ j dp ⟨t, q, false⟩) :: (isDisk dp d) :: (pt sp 114 [Vp j, Value.map (some mb)]) :: (mp mb []) :: F) (fun _ h => st_pull [0, 2] h) (Wl.e (e_c call35 (Con.eqs (val' := fun _ => .tuple #[.string t, .int .i64 0]) (post' := fun _ => [isJ j dp ⟨t, q, false⟩, isDisk dp d]) (get_on W0 j dp t q d hup) (fun _ => rfl) (fun _ => rfl))) (fun _ _ => Wl.imp (L' := (isJ j dp ⟨t, q, false⟩) :: (isDisk dp d) :: (pt sp 114 [Vp j, Value.map (some mb)]) :: (mp mb []) :: F) (fun _ h => h) (Wl.rg 5 rfl (Wc.seq (Wc.b 1 rfl (Wl.q (q_neq rfl rfl (dt (by decide))) (Wl.dg (Wc.no rfl (Wc.skip (Wx.go (Wc.b 1 rfl (Wl.e (e_c call36 (unpack_w W0 t htz)) (fun uv _ => Wl.rg 5 rfl (Wc.seq (Wc.b 1 rfl (Wl.q (q_neq rfl rfl (df (hu))) (Wl.dg (Wc.yes rfl (Wc.a 2 rfl (Wc.ret (Wx.thenRet ?_)))))))))))))))))))))))
 refine Wx.f2 rfl (fun w hs => ?_)
 exact ⟨(), trivial, rfl, (st_drop (st_drop (st_drop (st_drop (st_pull [0, 0, 1, 1] hs)))))⟩
theorem sopen_text (W0 : World) (dp : Nat) (d : DS) (hw : WF d) (hn1 : 1 ≤ d.secs.length) (hsn : d.since.length < 1099511627776) (t : ByteArray) (q : Int) (htz : t.size ≤ 9223372036854775807) (hop : openD d = (0, some (t, q))) (hup : d.down = false) (hq : ¬ q = 0) (hu : unpackE t = 0) (hT : okA (ofL (unpackL t))) (hlm : (unpackL t).length ≤ 9223372036854775807) :
    Con prog W0 9 #[Vp dp] [isDisk dp d] (X := Nat × Nat × Nat) (fun _ => True) (fun y => .tuple #[.pointer (some ⟨y.1, 0, none⟩), .int .i64 0]) (fun y => [pt y.1 114 [.pointer (some ⟨y.2.1, 0, none⟩), .map (some y.2.2)], mp y.2.2 (strV (ofL (unpackL t))), isJ y.2.1 dp ⟨t, q, false⟩, isDisk dp d]) := by
  refine Con.of func9 rfl ntmps9 rfl (fun F => ?_)
  show Wc _ W0 _ _ _ _ _ ((isDisk dp d) :: F)
  refine Wc.a 2 rfl (Wc.b 1 rfl (Wl.e (e_c call33 (open_ok W0 dp d hw hn1 hsn hop)) (fun j _ => Wl.rg 5 rfl (Wc.seq (Wc.b 1 rfl (Wl.q (q_neq rfl rfl (dt (by decide))) (Wl.dg (Wc.no rfl (Wc.skip (Wx.go (Wc.b 1 rfl (Wl.e (e_makeMap) (fun mb _ => Wl.q (v := Value.agg #[Vp j, Value.map (some mb)]) (q_build (pl := [(0, 1), (1, 1)]) underlying114 zo_114 (by kernel_rfl) (by kernel_rfl)) (Wl.e (e_box (x := .tmp 21) (vs := [Vp j, Value.map (some mb)]) rfl) (fun sp _ => Wl.rg 1 rfl (Wc.seq (Wc.b 1 rfl (Wl.imp (L' := (isJ j dp ⟨t, q, false⟩) :: (pt sp 114 [Vp j, Value.map (some mb)]) :: (mp mb []) :: (isDisk dp d) :: F) (fun _ h => st_pull [2] h) (Wl.e (e_c call34 (seq_in W0 j dp t q false)) (fun _ _ => Wl.q (q_eql rfl rfl (df (hq))) (Wl.dg (Wc.no rfl (Wc.skip ?_)))))))))))))))))))))))
  refine Wx.go (Wc.b 1 rfl (Wl.imp (L' := (isJ j dp ⟨t, q, false⟩) :: (isDisk dp d) :: (pt sp 114 [Vp j, Value.map (some mb)]) :: (mp mb []) :: F) (fun _ h => st_pull [0, 2] h) (Wl.e (e_c call35 (Con.eqs (val' := fun _ => .tuple #[.string t, .int .i64 0]) (post' := fun _ => [isJ j dp ⟨t, q, false⟩, isDisk dp d]) (get_on W0 j dp t q d hup) (fun _ => rfl) (fun _ => rfl))) (fun _ _ => Wl.imp (L' := (isJ j dp ⟨t, q, false⟩) :: (isDisk dp d) :: (pt sp 114 [Vp j, Value.map (some mb)]) :: (mp mb []) :: F) (fun _ h => h) (Wl.rg 5 rfl (Wc.seq (Wc.b 1 rfl (Wl.q (q_neq rfl rfl (dt (by decide))) (Wl.dg (Wc.no rfl (Wc.skip (Wx.go (Wc.b 1 rfl (Wl.e (e_c call36 (unpack_w W0 t htz)) (fun uv _ => Wl.rg 5 rfl (Wc.seq (Wc.b 1 rfl (Wl.q (q_neq rfl rfl (dt (hu))) (Wl.dg (Wc.no rfl (Wc.skip (Wx.go (Wc.seq ?_)))))))))))))))))))))))
  refine Wc.b 1 rfl (Wl.q (q_len_sl (i := 0) underlying39 rfl rfl) (Wl.rg 1 rfl (Wc.block ?_)))
  refine Wc.loop (X := Nat) (fun i E => E 44 = Vi ((i : Nat) : Int) ∧ E 6 = Vp sp ∧ E 42 = uv ∧ E 43 = Vi (((unpackL t).length : Nat) : Int) ∧ i ≤ (unpackL t).length) (fun i => (sl 53 3 uv ((unpackL t).length) ((unpackL t).flatMap pairCells)) :: (pt sp 114 [Vp j, Value.map (some mb)]) :: (mp mb (strV (ofL ((unpackL t).take i)))) :: (isJ j dp ⟨t, q, false⟩) :: (isDisk dp d) :: F) (fun i => (unpackL t).length - i) 0 ?_ ?_ ?_
  · exact ⟨rfl, rfl, rfl, rfl, (Nat.zero_le _)⟩
  · exact fun w hs => (st_pull [0, 2, 2, 0, 0] (hs))
  · rintro i E2 ⟨hE44_0, hE6_0, hE42_0, hE43_0, hi⟩
    have hoT := okA_take hT i
    refine Wc.sr ?_
    by_cases hlt : ((i : Nat) : Int) < (((unpackL t).length : Nat) : Int)
    ·
      obtain ⟨o, hget⟩ : ∃ o, (unpackL t)[i]? = some o := ⟨(unpackL t)[i]'(by omega), List.getElem?_eq_getElem (by omega)⟩
      have hos := ofL_size hT (List.mem_of_getElem? hget)
      have hnew := ofL_new (by rw [← ofL_keys]; exact hT.1) hget
      refine Wl.sl (i := 0) (m := (unpackL t).length) rfl (by omega) (fun vb vc hv hcl => ?_)
      subst hv
      refine Wl.q (q_lss hE44_0 hE43_0 (dt hlt)) (Wl.dg (Wc.seq (Wc.yes rfl (Wc.skip (Wx.go (Wc.seq (Wc.block (Wc.sr (Wl.q (q_idx (m := i * 3) se_39 hE42_0 hE44_0 (by omega) (by omega) (by simp)) (Wl.q (v := Value.agg #[Vs o.n, Vs o.t, Value.bool o.g]) (q_loadAgg (vs := [Vs o.n, Vs o.t, Value.bool o.g]) ag_53 rfl (fun j u hj => .row (i := 0) rfl (flat3P hget j u hj))) (Wl.e (e_alloc (vs := [Vs (⟨#[]⟩), Vs (⟨#[]⟩), Vf]) zo_53 rfl) (fun pb _ => Wl.e (e_storeAgg (i := 0) (vs := [Vs o.n, Vs o.t, Value.bool o.g]) (c' := [Vs o.n, Vs o.t, Value.bool o.g]) sz_53 rfl rfl rfl rfl (by simp) rfl) (fun _ _ => Wl.dg (Wc.drawsS [8] ((pt pb 53 [Vs o.n, Vs o.t, Value.bool o.g]) :: (slp 53 3 vb vc ((unpackL t).flatMap pairCells)) :: (pt sp 114 [Vp j, Value.map (some mb)]) :: (mp mb (strV (ofL ((unpackL t).take i)))) :: (isJ j dp ⟨t, q, false⟩) :: (isDisk dp d) :: []) (by kernel_rfl) (Wr.p 0 oo6 rfl (q_move hE6_0) (Wr.p 1 oo6 rfl (q_nil_ptr rfl) (Wr.p 2 oo6 rfl (q_field fo_114_1 rfl rfl) (Wr.t 3 oo6 rfl (q_c 2 sc_112 rfl rfl rfl) (Wr.p 4 oo6 rfl (q_field fo_53_0 rfl rfl) (Wr.t 5 oo6 rfl (q_c 0 sc_9 rfl rfl rfl) (Wr.p 6 oo6 rfl (q_field fo_53_1 rfl rfl) (Wr.t 7 oo6 rfl (q_c 0 sc_9 rfl rfl rfl) (Wr.x0 8 rfl (e_mapNew (i := 3) (key := .string o.n) (val := .string o.t) underlying112 (Maps.string_keyed underlying9) rfl rfl rfl rfl (keyS hos.1) (keysS hoT) (strV_no (getA_none.2 hnew))) (fun _ _ => ?_))))))))))))))))))))))))
      refine Wr.rebaseS [] ((pt pb 53 [Vs o.n, Vs o.t, Value.bool o.g]) :: (slp 53 3 vb vc ((unpackL t).flatMap pairCells)) :: (pt sp 114 [Vp j, Value.map (some mb)]) :: (mp mb (strV (ofL ((unpackL t).take i)) ++ [(Vs o.n, Vs o.t)])) :: (isJ j dp ⟨t, q, false⟩) :: (isDisk dp d) :: []) (by kernel_rfl) (Wr.z (Wx.blockEnd (Wx.go (Wc.region (Wl.q (q_add (c := ((i + 1 : Nat) : Int)) hE44_0 rfl (by rw [wrap_i64] <;> omega)) (Wl.run 1 rfl (Wl.done ?_)))))))
      refine Wx.at (i + 1) ⟨(by omega), rfl, hE6_0, hE42_0, hE43_0, (by omega)⟩ (fun w hs => by rw [ofL_take hget, strV_app]; exact (fun hs => st_sl_mk (e := 53) (flat_len3P (unpackL t)) hcl hs) (st_drop (st_pull [0] hs)))
    ·
      have hie : i = (unpackL t).length := by omega
      refine Wl.q (q_lss hE44_0 hE43_0 (df hlt)) (Wl.dg (Wc.seq (Wc.no rfl (Wc.exit (Wx.thenExit (Wx.thenExit (Wx.out (Wx.go (Wc.sr (Wl.q (v := Vp sp) (q_move hE6_0) (Wl.rg 2 rfl (Wc.ret (Wx.f2 rfl (fun w hs => ?_))))))))))))))
      rw [hie, List.take_length] at hs
      exact ⟨(sp, j, mb), trivial, rfl, (st_drop (st_pull [0] hs))⟩
end Go.Proofs.YtjnejkdamhefgaaGreatDoor
namespace Go.SL
open Go Go.RowKit Go.ChangeShapes Go.WideShapes Go.Deep
section
variable {H : Type} {enc : TypeId × Value → H} {P : Program}
theorem stays_all (hl : laidOutB P = true) {W W' : World} (hb : Below W.heap.size W W') : ∀ {ts : List TypeId} {vs : List Value} {ds : List (DataW H)} {ps : List MemPlace},
  (ts.all fun t => P.readableRec t && decide (t < P.types.size)) = true → DataW.TrodAll enc P W 0 (fun _ => true) true ts vs ds ps → (∀ x ∈ ps, x.block < W.heap.size) →
  DataW.TrodAll enc P W' 0 (fun b => decide (b < W.heap.size)) true ts vs ds ps
 | [], [], [], _, _, h, _ => h
 | [], _ :: _, _, _, _, h, _ => h.elim
 | [], [], _ :: _, _, _, h, _ => h.elim
 | _ :: _, [], _, _, _, h, _ => h.elim
 | _ :: _, _ :: _, [], _, _, h, _ => h.elim
 | t :: ts, v :: vs, d :: ds, ps, hr, h, hlt => by
  obtain ⟨p, q, h1, h2, rfl⟩ := h
  simp only [List.all_cons, Bool.and_eq_true, decide_eq_true_eq] at hr
  exact ⟨p, q, Below.trod hl hr.1.1 hr.1.2 h1 hb (fun x hx => hlt x (List.mem_append_left _ hx)), stays_all hl hb (by simpa using hr.2) h2 (fun x hx => hlt x (List.mem_append_right _ hx)), rfl⟩
theorem post_true {f : Func} {s : ChangeSpec} {W W' : World} {args : Array Value} {ds : List (DataW H)} {before : List MemPlace} {t : TypeId} (hW : DataW.Whole enc P f.params.toList s.vars false W args.toList ds [] before)
  (hv : s.vars = []) (hl : laidOutB P = true) (hr : (f.params.toList.all fun t => P.readableRec t && decide (t < P.types.size)) = true) (ht : P.underlying t = some .bool) (hrt : f.resultTypes = #[t])
  (hfn : s.fn H (ds ++ []) = { results := [.lit (.bool true)], args := ds }) (hb : Below W.heap.size W W') : s.post enc P f false true false false W args (.bool true) W' := by
 have hlt := hW.lt
 obtain ⟨p, q, hA, hV, rfl, _⟩ := id hW
 refine ⟨ds, [], p ++ q, [], p, [], hW, ?_, ?_, ?_, hb.frame _, fun h => by cases h⟩
 · rw [hrt, hfn]; exact trodAll_mk1 (shut_bool ht true)
 · rw [hfn]; exact stays_all hl hb hr hA (fun x hx => hlt x (List.mem_append_left _ hx))
 · rw [hfn, hv]; rfl
theorem exists_list {X : Type} {Q : Nat → X → Prop} : ∀ n : Nat, (∀ i, i < n → ∃ x, Q i x) → ∃ l : List X, l.length = n ∧ ∀ i x, l[i]? = some x → Q i x
  | 0, _ => ⟨[], rfl, fun i x h => by simp at h⟩
  | n + 1, h => by
    obtain ⟨l, hl, hq⟩ := exists_list n (fun i hi => h i (by omega))
    obtain ⟨x, hx⟩ := h n (by omega)
    refine ⟨l ++ [x], by simp [hl], fun i y hy => ?_⟩
    rw [List.getElem?_append] at hy
    split at hy
    · exact hq i y hy
    · rename_i hn
      have hi : i = n := by
        have := (List.getElem?_eq_some_iff.1 hy).1
        simp at this; omega
      subst hi
      simp [hl] at hy
      exact hy ▸ hx
theorem flat_at {X : Type} {cellsX : X → List Value} {k : Nat} (hk : ∀ x, (cellsX x).length = k) : ∀ {l : List X} {j : Nat} {u : Value}, (l.flatMap cellsX)[j]? = some u → ∃ i x m, l[i]? = some x ∧ (cellsX x)[m]? = some u ∧ j = i * k + m ∧ m < k
  | [], j, u, h => by simp at h
  | x :: l, j, u, h => by
    rw [List.flatMap_cons, List.getElem?_append] at h
    split at h
    · rename_i hj
      exact ⟨0, x, j, rfl, h, by omega, by rw [hk] at hj; exact hj⟩
    · rename_i hj
      rw [hk] at h hj
      obtain ⟨i, y, m, h1, h2, h3, h4⟩ := flat_at hk h
      exact ⟨i + 1, y, m, h1, h2, by rw [Nat.succ_mul]; omega, h4⟩
end
section
variable {H : Type} {enc : TypeId × Value → H} {P : Program}
theorem elem_str2_bool {e : Nat} {f0 f1 f2 : Field} {W : World} {base : Nat} {sp : Nat → Bool} {n : Nat} {cs : List Value} {y : DataW H × List MemPlace} (he : P.underlying e = some (.struct #[f0, f1, f2])) (hone : oneCellFields P #[f0, f1, f2] = true) (hC : P.cellsOf e = 3)
  (h0 : P.underlying f0.type = some .string) (h1 : P.underlying f1.type = some .string) (h2 : P.underlying f2.type = some .bool) (h : DataW.trod enc P W base sp true n e cs = some y) :
  ∃ (a b : ByteArray) (g : Bool), a.size ≤ maxLen ∧ b.size ≤ maxLen ∧ cs = [.string a, .string b, .bool g] := by
 obtain ⟨xs, n', _, _, hl, hlen, hg⟩ := DataW.trod_struct he h
 have hlen3 : xs.length = 3 := hlen
 have at_ : ∀ (i : Nat) (f : Field), #[f0, f1, f2][i]? = some f → ∃ z, DataW.trod enc P W base sp true n' f.type ((cs.drop i).take 1) = some z := fun i f hi => by
  obtain ⟨o, kk⟩ := hone_of hone i f hi
  have h' := hg i f hi
  rw [o, kk] at h'
  have hlt : i < xs.length := by rw [hlen]; exact (Array.getElem?_eq_some_iff.1 hi).1
  rw [List.getElem?_eq_getElem hlt] at h'
  exact ⟨_, h'⟩
 obtain ⟨_, t0⟩ := at_ 0 f0 rfl
 obtain ⟨_, t1⟩ := at_ 1 f1 rfl
 obtain ⟨_, t2⟩ := at_ 2 f2 rfl
 obtain ⟨a, ea, _, wa⟩ := DataW.trod_string h0 t0
 obtain ⟨b, eb, _, wb⟩ := DataW.trod_string h1 t1
 obtain ⟨g, eg, _⟩ := DataW.trod_bool h2 t2
 rw [hC] at hl
 match cs, hl with
 | [c0, c1, c2], _ =>
  simp at ea eb eg
  exact ⟨a, b, g, wa, wb, by rw [ea, eb, eg]⟩
end
theorem q_neq_agg {P : Program} {W0 : World} {E : Nat → Value} {L : List HP} {x y : Operand} {t t' ty : TypeId} {a b : Array Value} {r : Bool} (hx : evE E x = .agg a) (hy : evE E y = .agg b) (hg : P.eqGuardType P.depth t = false) (hr : ∀ w, (Op.equal t (.agg a) (.agg b)).run P w = .ok r w) : Quiet P W0 E L (.binOp .neq t x y t') ty (.bool (!r)) := fun w d pos aft g _ => by
 simp [execOp, eqGuard, hx, hy, binOp, hg, hr w, Result.andThen]
end Go.SL
