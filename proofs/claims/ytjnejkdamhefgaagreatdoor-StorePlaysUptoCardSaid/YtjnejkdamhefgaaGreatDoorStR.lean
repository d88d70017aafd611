/- A part of the proof. -/
import Derived.Test.YtjnejkdamhefgaaGreatDoorStQ
namespace Go.Proofs.YtjnejkdamhefgaaGreatDoor
open Tryz
open Go Go.SL Go.St Go.Wr Go.RowKit
open Go.Dk (DS WF)
open Go.Jn (JS Ok openD_up)
set_option linter.unusedVariables false
set_option maxRecDepth 8000
theorem zo_49 : zeroOf prog 49 = some (Value.agg #[Value.pointer none, Value.slice none 0 0]) := by kernel_rfl
open Go.Jn (openD)
def nameV (p : PairR) : Value := .string p.n
theorem rnames_c (W0 : World) (v jr : Nat) (vL : Value) (l : List PairR) (hll : l.length ≤ 1000000) :
    Con prog W0 27 #[Vp v] [pt v 49 [Vp jr, vL], sl 53 3 vL l.length (l.flatMap pairCells)] (X := Value) (fun _ => True) (fun y => y) (fun y => [sl 9 1 y l.length (l.map nameV), pt v 49 [Vp jr, vL], sl 53 3 vL l.length (l.flatMap pairCells)]) := by
  refine Con.of func27 rfl ntmps27 rfl (fun F => ?_)
  show Wc _ W0 _ _ _ _ _ ((pt v 49 [Vp jr, vL]) :: (sl 53 3 vL l.length (l.flatMap pairCells)) :: F)
  refine Wc.a 1 rfl (Wc.a 1 rfl (Wc.seq (Wc.a 1 rfl (Wc.block ?_))))
  refine Wc.loop (X := Nat × Value) (fun (k, nv) E => E 4 = Vi ((k : Nat) : Int) ∧ E 3 = nv ∧ E 0 = Vp v ∧ k ≤ l.length) (fun (k, nv) => (sl 9 1 nv ((l.take k).length) ((l.take k).map nameV)) :: (sl 53 3 vL l.length (l.flatMap pairCells)) :: (pt v 49 [Vp jr, vL]) :: F) (fun (k, nv) => l.length - k) (0, Vn) ?_ ?_ ?_
  · exact ⟨rfl, rfl, rfl, (Nat.zero_le _)⟩
  · exact fun w hs => st_sl_nil (st_pull [1, 0] (hs))
  · rintro ⟨k, nv⟩ E2 ⟨hE4_0, hE3_0, hE0_0, hk⟩
    dsimp only at *
    have htl := List.length_take (i := k) (l := l)
    refine Wc.seq (Wc.sr (Wl.q (v := Vi ((k : Nat) : Int)) (q_move hE4_0) (Wl.q (v := Vp v) (q_move hE0_0) (Wl.run 1 rfl (Wl.q (q_field fo_49_1 rfl rfl) (Wl.q (q_c 2 sc_39 rfl rfl rfl) (Wl.q (q_len_sl (i := 1) underlying39 rfl rfl) ?_)))))))
    by_cases hlt : ((k : Nat) : Int) < ((l.length : Nat) : Int)
    ·
      obtain ⟨o, hget⟩ : ∃ o, l[k]? = some o := ⟨l[k]'(by omega), List.getElem?_eq_getElem (by omega)⟩
      refine Wl.sl (i := 1) (m := l.length) rfl (by omega) (fun vb vc hv hcl => ?_)
      subst hv
      refine Wl.q (q_lss rfl rfl (dt hlt)) (Wl.dg (Wc.yes rfl (Wc.skip (Wx.go (Wc.seq (Wc.block (Wc.region (Wl.q (v := nv) (q_move hE3_0) (Wl.q (v := Vp v) (q_move hE0_0) (Wl.run 1 rfl (Wl.q (q_field fo_49_1 rfl rfl) (Wl.q (q_c 2 sc_39 rfl rfl rfl) (Wl.q (v := Vi ((k : Nat) : Int)) (q_move hE4_0) (Wl.q (q_idx (m := k * 3) se_39 rfl rfl (by omega) (by omega) (by simp)) (Wl.q (q_field (m := k * 3) fo_53_0 rfl rfl) (Wl.q (v := Vs o.n) (q_load sc_9 rfl (.row (i := 1) rfl (flat3P hget 0 _ rfl))) (Wl.e (e_buildSlice (cs := [Vs o.n]) se_57 zo_9 (by decide) (by decide) (by kernel_rfl)) (fun b3 _ => Wl.e (e_append (i := 1) (k := 1) (m := 1) (off := 0) (news := [Vs o.n]) underlying57 sz_9 by_9 zo_9 rfl rfl rfl rfl rfl (Has.of_pt (i := 0) rfl rfl) rfl (by decide) (by simp only [maxLen]; omega) (by omega)) (fun v2 _ => Wl.run 1 rfl (Wl.done (Wx.blockEnd (Wx.go (Wc.region ?_)))))))))))))))))))))))
      refine Wl.q (v := Vi ((k : Nat) : Int)) (q_move hE4_0) (Wl.q (q_add (c := ((k + 1 : Nat) : Int)) rfl rfl (by rw [wrap_i64] <;> omega)) (Wl.run 1 rfl (Wl.done ?_)))
      refine Wx.at (k + 1, v2) ⟨(by simp only; omega), rfl, rfl, hE0_0, (by simp only; omega)⟩ (fun w hs => by rw [takeP hget, List.map_append, List.length_append]; exact st_pull [2] ((fun hs => st_sl_mk (e := 53) (flat_len3P l) hcl hs) (st_pull [1, 1, 0] (st_drop (st_pull [0] hs)))))
    ·
      have hke : k = l.length := by omega
      refine Wl.q (q_lss rfl rfl (df hlt)) (Wl.dg (Wc.no rfl (Wc.exit (Wx.thenExit (Wx.thenExit (Wx.out (Wx.go (Wc.sr (Wl.q (v := nv) (q_move hE3_0) (Wl.rg 1 rfl (Wc.ret (Wx.f1 rfl (fun w hs => ?_)))))))))))))
      rw [hke, List.take_length] at hs
      exact ⟨nv, trivial, rfl, (st_pull [0, 1, 0] (hs))⟩
theorem find_no {l : List PairR} {n : ByteArray} (h : ∀ p ∈ l, ¬ p.n = n) : findL l n = none := by
 unfold findL; rw [List.find?_eq_none.2 fun p hp e => h p hp (of_decide_eq_true e)]; rfl
theorem find_at {l : List PairR} {n : ByteArray} {k : Nat} {o : PairR} (hm : ∀ p ∈ l.take k, ¬ p.n = n) (hg : l[k]? = some o) (he : o.n = n) : findL l n = some o.t := by
 have e : l = l.take k ++ o :: l.drop (k + 1) := by rw [← wrong_at hg, List.take_append_drop]
 unfold findL
 rw [e, List.find?_append, List.find?_eq_none.2 fun p hp e => hm p hp (of_decide_eq_true e), List.find?_cons, decide_eq_true he]
 rfl
theorem rget7_c (W0 : World) (v jr : Nat) (vL : Value) (l : List PairR) (hll : l.length ≤ 1000000) (n : ByteArray) :
    Con1 prog W0 16 #[Vp v, Vs n] [pt v 49 [Vp jr, vL], sl 53 3 vL l.length (l.flatMap pairCells)] (.tuple #[.string ((findL l n).getD ⟨#[]⟩), .bool (findL l n).isSome]) [pt v 49 [Vp jr, vL], sl 53 3 vL l.length (l.flatMap pairCells)] := by
  refine Con.of func16 rfl ntmps16 rfl (fun F => ?_)
  show Wc _ W0 _ _ _ _ _ ((pt v 49 [Vp jr, vL]) :: (sl 53 3 vL l.length (l.flatMap pairCells)) :: F)
  refine Wc.a 2 rfl (Wc.seq (Wc.a 1 rfl (Wc.block ?_)))
  refine Wc.loop (X := Nat) (fun k E => E 6 = Vi ((k : Nat) : Int) ∧ E 0 = Vp v ∧ E 1 = Vs n ∧ k ≤ l.length ∧ (∀ p ∈ l.take k, ¬ p.n = n)) (fun k => (pt v 49 [Vp jr, vL]) :: (sl 53 3 vL l.length (l.flatMap pairCells)) :: F) (fun k => l.length - k) 0 ?_ ?_ ?_
  · exact ⟨rfl, rfl, rfl, (Nat.zero_le _), (fun p hp => (by rw [List.take_zero] at hp; cases hp))⟩
  · exact fun w hs => hs
  · rintro k E2 ⟨hE6_0, hE0_0, hE1_0, hk, hm0⟩
    refine Wc.seq (Wc.sr (Wl.q (v := Vi ((k : Nat) : Int)) (q_move hE6_0) (Wl.q (v := Vp v) (q_move hE0_0) (Wl.run 1 rfl (Wl.q (q_field fo_49_1 rfl rfl) (Wl.q (q_c 0 sc_39 rfl rfl rfl) (Wl.q (q_len_sl (i := 1) underlying39 rfl rfl) ?_)))))))
    by_cases hlt : ((k : Nat) : Int) < ((l.length : Nat) : Int)
    ·
      obtain ⟨o, hget⟩ : ∃ o, l[k]? = some o := ⟨l[k]'(by omega), List.getElem?_eq_getElem (by omega)⟩
      refine Wl.sl (i := 1) (m := l.length) rfl (by omega) (fun vb vc hv hcl => ?_)
      subst hv
      refine Wl.q (q_lss rfl rfl (dt hlt)) (Wl.dg (Wc.yes rfl (Wc.skip (Wx.go (Wc.seq (Wc.block (Wc.sr (Wl.q (v := Vp v) (q_move hE0_0) (Wl.run 1 rfl (Wl.q (q_field fo_49_1 rfl rfl) (Wl.q (q_c 0 sc_39 rfl rfl rfl) (Wl.q (v := Vi ((k : Nat) : Int)) (q_move hE6_0) (Wl.q (q_idx (m := k * 3) se_39 rfl rfl (by omega) (by omega) (by simp)) (Wl.q (q_field (m := k * 3) fo_53_0 rfl rfl) (Wl.q (v := Vs o.n) (q_load sc_9 rfl (.row (i := 1) rfl (flat3P hget 0 _ rfl))) (Wl.q (v := Vs n) (q_move hE1_0) ?_))))))))))))))))
      by_cases heq : o.n = n
      ·
        refine Wl.q (q_eql_str (r := true) rfl rfl (text_true heq)) (Wl.dg (Wc.yes rfl (Wc.sr (Wl.q (v := Vp v) (q_move hE0_0) (Wl.run 1 rfl (Wl.q (q_field fo_49_1 rfl rfl) (Wl.q (q_c 0 sc_39 rfl rfl rfl) (Wl.q (v := Vi ((k : Nat) : Int)) (q_move hE6_0) (Wl.q (q_idx (m := k * 3) se_39 rfl rfl (by omega) (by omega) (by simp)) (Wl.q (q_field (m := k * 3 + 1) fo_53_1 rfl rfl) (Wl.q (v := Vs o.t) (q_load sc_9 rfl (.row (i := 1) rfl (flat3P hget 1 _ rfl))) (Wl.rg 2 rfl (Wc.ret (Wx.blockRet (Wx.thenRet (Wx.thenRet (Wx.blockRet (Wx.thenRet (Wx.f2 rfl (fun w hs => ?_))))))))))))))))))))
        exact ⟨(), trivial, by rw [find_at hm0 hget heq]; rfl, st_swap ((fun hs => st_sl_mk (e := 53) (flat_len3P l) hcl hs) (st_pull [1, 0] (hs)))⟩
      ·
        refine Wl.q (q_eql_str (r := false) rfl rfl (text_false heq)) (Wl.dg (Wc.no rfl (Wc.skip (Wx.blockEnd (Wx.go (Wc.region (Wl.q (v := Vi ((k : Nat) : Int)) (q_move hE6_0) (Wl.q (q_add (c := ((k + 1 : Nat) : Int)) rfl rfl (by rw [wrap_i64] <;> omega)) (Wl.run 1 rfl (Wl.done ?_))))))))))
        refine Wx.at (k + 1) ⟨(by omega), rfl, hE0_0, hE1_0, (by omega), (fun p hp => by rw [takeP hget] at hp; rcases List.mem_append.1 hp with hp | hp; (exact hm0 p hp); (rw [List.mem_singleton] at hp; subst hp; exact heq))⟩ (fun w hs => st_swap ((fun hs => st_sl_mk (e := 53) (flat_len3P l) hcl hs) (st_pull [1, 0] (hs))))
    ·
      have hke : k = l.length := by omega
      refine Wl.q (q_lss rfl rfl (df hlt)) (Wl.dg (Wc.no rfl (Wc.exit (Wx.thenExit (Wx.thenExit (Wx.out (Wx.go (Wc.a 2 rfl (Wc.ret (Wx.f2 rfl (fun w hs => ?_)))))))))))
      rw [hke, List.take_length] at hm0
      exact ⟨(), trivial, by rw [find_no hm0]; rfl, hs⟩
theorem rsopen_bad (W0 : World) (q : Nat) (d : DS) (hw : WF d) (hn1 : 1 ≤ d.secs.length) (hsn : d.since.length < 1099511627776) (c : Int) (hc : ¬ c = 0) (hop : openD d = (c, none)) :
  Con1 prog W0 10 #[Vp q] [isRef q d] (.tuple #[.pointer none, .int .i64 c]) [isRef q d] := by
 refine Con.of func10 rfl ntmps10 rfl (fun F => ?_)
 show Wc _ W0 _ _ _ _ _ ((isRef q d) :: F)
 refine Wc.a 2 rfl (Wc.b 1 rfl (Wl.e (e_c call37 (ropen_bad W0 q d hw hn1 hsn hop)) (fun _ _ => Wl.rg 5 rfl (Wc.seq (Wc.b 1 rfl (Wl.q (q_neq rfl rfl (df (hc))) (Wl.dg (Wc.yes rfl (Wc.a 3 rfl (Wc.ret (Wx.thenRet (Wx.f2 rfl (fun w hs => ?_)))))))))))))
 exact ⟨(), trivial, rfl, hs⟩
theorem rsopen_zero (W0 : World) (q : Nat) (d : DS) (hw : WF d) (hn1 : 1 ≤ d.secs.length) (hsn : d.since.length < 1099511627776) (t : ByteArray) (n : Int) (hop : openD d = (0, some (t, n))) (hn : n = 0) :
  Con prog W0 10 #[Vp q] [isRef q d] (X := Nat × Nat × Value) (fun _ => True) (fun y => .tuple #[.pointer (some ⟨y.1, 0, none⟩), .int .i64 0]) (fun y => [pt y.1 49 [.pointer (some ⟨y.2.1, 0, none⟩), y.2.2], sl 53 3 y.2.2 (([] : List PairR)).length ((([] : List PairR)).flatMap pairCells), isRJ y.2.1 q ⟨t, n, false⟩, isRef q d]) := by
 refine Con.of func10 rfl ntmps10 rfl (fun F => ?_)
 show Wc _ W0 _ _ _ _ _ ((isRef q d) :: F)
 refine Wc.a 2 rfl (Wc.b 1 rfl (Wl.e (e_c call37 (ropen_ok W0 q d hw hn1 hsn hop)) (fun jr _ => Wl.rg 5 rfl (Wc.seq (Wc.b 1 rfl (Wl.q (q_neq rfl rfl (dt (by decide))) (Wl.dg (Wc.no rfl (Wc.skip (Wx.go (Wc.seq (Wc.b 2 rfl (Wl.q (q_field fo_46_2 rfl rfl) (Wl.q (q_c 0 sc_3 rfl rfl rfl) (Wl.q (q_eql rfl rfl (dt (hn))) (Wl.dg (Wc.yes rfl (Wc.b 1 rfl (Wl.q (v := Value.agg #[Vp jr, Vn]) (q_build (pl := [(0, 1), (1, 1)]) underlying49 zo_49 (by kernel_rfl) (by kernel_rfl)) (Wl.e (e_box (x := .tmp 21) (vs := [Vp jr, Vn]) rfl) (fun vs _ => Wl.rg 2 rfl (Wc.ret (Wx.thenRet ?_)))))))))))))))))))))))
 refine Wx.f2 rfl (fun w hs => ?_)
 exact ⟨(vs, jr, .slice none 0 0), trivial, rfl, st_swap (st_sl_nil hs)⟩
theorem rsopen_text (W0 : World) (q : Nat) (d : DS) (hw : WF d) (hn1 : 1 ≤ d.secs.length) (hsn : d.since.length < 1099511627776) (t : ByteArray) (n : Int) (htz : t.size ≤ 9223372036854775807) (hop : openD d = (0, some (t, n))) (hn : ¬ n = 0) (hu : unpackE t = 0) :
  Con prog W0 10 #[Vp q] [isRef q d] (X := Nat × Nat × Value) (fun _ => True) (fun y => .tuple #[.pointer (some ⟨y.1, 0, none⟩), .int .i64 0]) (fun y => [pt y.1 49 [.pointer (some ⟨y.2.1, 0, none⟩), y.2.2], sl 53 3 y.2.2 (unpackL t).length ((unpackL t).flatMap pairCells), isRJ y.2.1 q ⟨t, n, false⟩, isRef q d]) := by
 refine Con.of func10 rfl ntmps10 rfl (fun F => ?_)
 show Wc _ W0 _ _ _ _ _ ((isRef q d) :: F)
 refine Wc.a 2 rfl (Wc.b 1 rfl (Wl.e (e_c call37 (ropen_ok W0 q d hw hn1 hsn hop)) (fun jr _ => Wl.imp (L' := (pt jr 46 [Vp q, Vs (((⟨t, n, false⟩ : JS) : JS).text), Vi (((⟨t, n, false⟩ : JS) : JS).seq), Value.bool (((⟨t, n, false⟩ : JS) : JS).dead)]) :: (isRef q d) :: F) (fun _ h => h) (Wl.rg 5 rfl (Wc.seq (Wc.b 1 rfl (Wl.q (q_neq rfl rfl (dt (by decide))) (Wl.dg (Wc.no rfl (Wc.skip (Wx.go (Wc.seq (Wc.b 2 rfl (Wl.q (q_field fo_46_2 rfl rfl) (Wl.q (q_c 0 sc_3 rfl rfl rfl) (Wl.q (q_eql rfl rfl (df (hn))) (Wl.dg (Wc.no rfl (Wc.skip (Wx.go (Wc.b 2 rfl (Wl.q (q_field fo_46_1 rfl rfl) (Wl.q (q_c 0 sc_9 rfl rfl rfl) ?_)))))))))))))))))))))))
 refine Wl.e (e_c call38 (refunpack_w W0 t htz)) (fun uv _ => Wl.rg 5 rfl (Wc.seq (Wc.b 1 rfl (Wl.q (q_neq rfl rfl (dt (hu))) (Wl.dg (Wc.no rfl (Wc.skip (Wx.go (Wc.sr ?_)))))))))
 refine Wl.sl2 (i := 0) rfl (fun hv => ?_) (fun vb vc hv => ?_)
 ·
  subst hv
  refine Wl.run 2 rfl (Wl.q (v := Value.agg #[Vp jr, Vn]) (q_build (pl := [(0, 1), (1, 1)]) underlying49 zo_49 (by kernel_rfl) (by kernel_rfl)) (Wl.e (e_box (x := .tmp 35) (vs := [Vp jr, Vn]) rfl) (fun vs _ => Wl.rg 2 rfl (Wc.ret (Wx.f2 rfl (fun w hs => ?_))))))
  exact ⟨(vs, jr, Vn), trivial, rfl, hs⟩
 ·
  subst hv
  refine Wl.run 2 rfl (Wl.q (v := Value.agg #[Vp jr, Vl vb ((unpackL t).length) vc]) (q_build (pl := [(0, 1), (1, 1)]) underlying49 zo_49 (by kernel_rfl) (by kernel_rfl)) (Wl.e (e_box (x := .tmp 35) (vs := [Vp jr, Vl vb ((unpackL t).length) vc]) rfl) (fun vs _ => Wl.rg 2 rfl (Wc.ret (Wx.f2 rfl (fun w hs => ?_))))))
  exact ⟨(vs, jr, Vl vb ((unpackL t).length) vc), trivial, rfl, hs⟩
theorem rsopen_broken (W0 : World) (q : Nat) (d : DS) (hw : WF d) (hn1 : 1 ≤ d.secs.length) (hsn : d.since.length < 1099511627776) (t : ByteArray) (n : Int) (htz : t.size ≤ 9223372036854775807) (hop : openD d = (0, some (t, n))) (hn : ¬ n = 0) (hu : ¬ unpackE t = 0) :
  Con1 prog W0 10 #[Vp q] [isRef q d] (.tuple #[.pointer none, .int .i64 14]) [isRef q d] := by
 refine Con.of func10 rfl ntmps10 rfl (fun F => ?_)
 show Wc _ W0 _ _ _ _ _ ((isRef q d) :: F)
 refine Wc.a 2 rfl (Wc.b 1 rfl (Wl.e (e_c call37 (ropen_ok W0 q d hw hn1 hsn hop)) (fun jr _ => Wl.imp (L' := (pt jr 46 [Vp q, Vs (((⟨t, n, false⟩ : JS) : JS).text), Vi (((⟨t, n, false⟩ : JS) : JS).seq), Value.bool (((⟨t, n, false⟩ : JS) : JS).dead)]) :: (isRef q d) :: F) (fun _ h => h) (Wl.rg 5 rfl (Wc.seq (Wc.b 1 rfl (Wl.q (q_neq rfl rfl (dt (by decide))) (Wl.dg (Wc.no rfl (Wc.skip (Wx.go (Wc.seq (Wc.b 2 rfl (Wl.q (q_field fo_46_2 rfl rfl) (Wl.q (q_c 0 sc_3 rfl rfl rfl) (Wl.q (q_eql rfl rfl (df (hn))) (Wl.dg (Wc.no rfl (Wc.skip (Wx.go (Wc.b 2 rfl (Wl.q (q_field fo_46_1 rfl rfl) (Wl.q (q_c 0 sc_9 rfl rfl rfl) ?_)))))))))))))))))))))))
 refine Wl.e (e_c call38 (refunpack_w W0 t htz)) (fun uv _ => Wl.rg 5 rfl (Wc.seq (Wc.b 1 rfl (Wl.q (q_neq rfl rfl (df (hu))) (Wl.dg (Wc.yes rfl (Wc.a 2 rfl (Wc.ret (Wx.thenRet (Wx.f2 rfl (fun w hs => ?_)))))))))))
 exact ⟨(), trivial, rfl, (st_drop (st_drop (st_pull [0, 0] hs)))⟩
end Go.Proofs.YtjnejkdamhefgaaGreatDoor
