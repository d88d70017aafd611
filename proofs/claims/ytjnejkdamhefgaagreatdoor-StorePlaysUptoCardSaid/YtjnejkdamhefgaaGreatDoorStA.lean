/- A part of the proof. -/
import Derived.Test.YtjnejkdamhefgaaGreatDoorWrI
import Derived.Test.YtjnejkdamhefgaaGreatDoorStM
import Derived.Test.YtjnejkdamhefgaaGreatDoorSLA
namespace Go.Proofs.YtjnejkdamhefgaaGreatDoor
open Tryz
open Go Go.SL Go.St Go.Wr Go.RowKit
open Go.Dk (DS WF)
open Go.Jn (JS Ok openD_up)
set_option linter.unusedVariables false
set_option maxRecDepth 8000
theorem se_39 : sliceElem prog 39 = some (53, 3) := by kernel_rfl
theorem ag_53 : aggSize prog 53 = some 3 := by kernel_rfl
theorem zo_53 : zeroOf prog 53 = some (Value.agg #[Value.string (⟨#[]⟩), Value.string (⟨#[]⟩), Value.bool false]) := by kernel_rfl
theorem sz_53 : sizeIs prog 53 = some 3 := by kernel_rfl
theorem fo_53_0 : fieldOff prog 53 0 = some 0 := by kernel_rfl
theorem fo_53_1 : fieldOff prog 53 1 = some 1 := by kernel_rfl
theorem fo_53_2 : fieldOff prog 53 2 = some 2 := by kernel_rfl
theorem packP_err {l : List PairR} {e : Int} (h1 : ¬ 256 < l.length) (hw : wrongP none l = e) (he : e ≠ 0) : packP l = (⟨#[]⟩, e) := by
 unfold packP; rw [if_neg h1, hw, if_neg he]
theorem packP_ok {l : List PairR} (h1 : ¬ 256 < l.length) (hw : wrongP none l = 0) : packP l = (ba (enc (zz (l.length : Int)) ++ bytesP l), 0) := by
 unfold packP; rw [if_neg h1, if_pos hw]
theorem packP_many {l : List PairR} (h1 : 256 < l.length) : packP l = (⟨#[]⟩, 3) := by unfold packP; rw [if_pos h1]
theorem listW_few {n : Nat} (h : n ≤ 65536) : (listW (n : Int)).2 = enc (zz (n : Int)) := by rw [listW, if_neg (by omega), if_neg (by omega)]
theorem pack_sl (W0 : World) (vl : Value) (l : List PairR) (hlm : l.length ≤ 9223372036854775807) (hsz : ∀ p ∈ l, p.n.size ≤ 9223372036854775807 ∧ p.t.size ≤ 9223372036854775807) :
    Con1 prog W0 32 #[vl] [sl 53 3 vl l.length (l.flatMap pairCells)] (.tuple #[.string (packP l).1, .int .i64 (packP l).2]) [sl 53 3 vl l.length (l.flatMap pairCells)] := by
  refine Con.of func32 rfl ntmps32 rfl (fun F => ?_)
  show Wc _ W0 _ _ _ _ _ ((sl 53 3 vl l.length (l.flatMap pairCells)) :: F)
  refine Wc.a 2 rfl (Wc.seq (Wc.b 1 rfl (Wl.q (q_len_sl (i := 0) underlying39 rfl rfl) ?_)))
  by_cases hbig : ((l.length : Nat) : Int) > 256
  ·
    refine Wl.q (q_gtr rfl rfl (dt hbig)) (Wl.dg (Wc.yes rfl (Wc.a 2 rfl (Wc.ret (Wx.thenRet (Wx.f2 rfl (fun w hs => ?_)))))))
    exact ⟨(), trivial, by rw [packP_many (by omega)]; rfl, hs⟩
  ·
    refine Wl.q (q_gtr rfl rfl (df hbig)) (Wl.dg (Wc.no rfl (Wc.skip (Wx.go (Wc.sr (Wl.e (e_c call154 (wnew_c W0)) (fun wq _ => Wl.rg 1 rfl (Wc.b 2 rfl (Wl.q (q_len_sl (i := 1) underlying39 rfl rfl) (Wl.e (e_c call155 (wlist_c W0 wq [] ((l.length : Nat) : Int) (by simp only [List.length_nil]; omega))) (fun _ _ => Wl.dg (Wc.seq (Wc.b 1 rfl (Wl.q (q_len_sl (i := 1) underlying39 rfl rfl) (Wl.rg 1 rfl (Wc.block ?_))))))))))))))))
    refine Wc.loop (X := Nat) (fun k E => E 17 = Vi ((k : Nat) : Int) ∧ E 0 = vl ∧ E 4 = Vp wq ∧ E 15 = vl ∧ E 16 = Vi ((l.length : Nat) : Int) ∧ k ≤ l.length ∧ wrongP none l = wrongP (prevP l k) (l.drop k)) (fun k => (sl 53 3 vl l.length (l.flatMap pairCells)) :: (isW wq (([] ++ (listW ((l.length : Nat) : Int)).2) ++ bytesP (l.take k))) :: F) (fun k => l.length - k) 0 ?_ ?_ ?_
    · exact ⟨rfl, rfl, rfl, rfl, rfl, (Nat.zero_le _), rfl⟩
    · exact fun w hs => by rw [show (([] ++ (listW ((l.length : Nat) : Int)).2) ++ bytesP (l.take 0)) = [] ++ (listW ((l.length : Nat) : Int)).2 from List.append_nil _]; exact (st_pull [1, 0] (hs))
    · rintro k E2 ⟨hE17_0, hE0_0, hE4_0, hE15_0, hE16_0, hk, hp0⟩
      have hbt := bytesP_take l (k := k) (by omega)
      have hlw := listW_few (n := l.length) (by omega)
      have hel := enc_len_le 9 (zz ((l.length : Nat) : Int)) (by have := zz_lt (n := ((l.length : Nat) : Int)) (by omega) (by omega); omega)
      have hll : (listW ((l.length : Nat) : Int)).2.length ≤ 10 := by rw [hlw]; exact hel
      refine Wc.sr ?_
      by_cases hlt : ((k : Nat) : Int) < ((l.length : Nat) : Int)
      ·
        obtain ⟨⟨on, ot, og⟩, hget⟩ : ∃ o, l[k]? = some o := ⟨l[k]'(by omega), List.getElem?_eq_getElem (by omega)⟩
        have hsz0 := hsz _ (List.mem_of_getElem? hget)
        simp only at hsz0
        refine Wl.sl (i := 0) (m := l.length) rfl (by omega) (fun vb vc hv hcl => ?_)
        subst hv
        refine Wl.q (q_lss hE17_0 hE16_0 (dt hlt)) (Wl.dg (Wc.seq (Wc.yes rfl (Wc.skip (Wx.go (Wc.seq (Wc.block (Wc.sr (Wl.q (v := Vi ((k : Nat) : Int)) (q_move hE17_0) (Wl.q (q_idx (m := k * 3) se_39 hE15_0 hE17_0 (by omega) (by omega) (by simp)) (Wl.q (v := Value.agg #[Vs on, Vs ot, Value.bool og]) (q_loadAgg (vs := [Vs on, Vs ot, Value.bool og]) ag_53 rfl (fun j u hj => .row (i := 0) rfl (flat3P hget j u hj))) (Wl.e (e_alloc (vs := [Vs (⟨#[]⟩), Vs (⟨#[]⟩), Vf]) zo_53 rfl) (fun b3 _ => ?_)))))))))))))
        by_cases hg : og = true
        ·
          subst hg
          refine Wl.run 1 rfl (Wl.e (e_storeAgg (i := 0) (vs := [Vs on, Vs ot, Vt]) (c' := [Vs on, Vs ot, Vt]) sz_53 rfl rfl rfl rfl (by simp) rfl) (fun _ _ => Wl.dg (Wc.seq (Wc.sr (Wl.q (q_field fo_53_0 rfl rfl) (Wl.q (q_c 0 sc_9 rfl rfl rfl) (Wl.q (q_len_str underlying9 rfl) ?_)))))))
          by_cases hn1 : ((on.size : Nat) : Int) > 65536
          ·
            have hlong : longP ⟨on, ot, true⟩ := .inl (by show 65536 < on.size; omega)
            refine Wl.q (q_gtr rfl rfl (dt hn1)) (Wl.rg 6 rfl (Wc.yes rfl (Wc.a 2 rfl (Wc.ret (Wx.thenRet (Wx.blockRet (Wx.thenRet (Wx.thenRet (Wx.blockRet (Wx.thenRet (Wx.f2 rfl (fun w hs => ?_))))))))))))
            exact ⟨(), trivial, by rw [packP_err (by omega) (hp0.trans (wrong_long hget hlong)) (by decide)]; rfl, ((fun hs => st_sl_mk (e := 53) (flat_len3P l) hcl hs) (st_drop (st_drop (st_pull [0, 1] hs))))⟩
          ·
            refine Wl.q (q_gtr rfl rfl (df hn1)) (Wl.run 1 rfl (Wl.q (q_field fo_53_1 rfl rfl) (Wl.q (q_c 0 sc_9 rfl rfl rfl) (Wl.q (q_len_str underlying9 rfl) ?_))))
            by_cases hn2 : ((ot.size : Nat) : Int) > 65536
            ·
              have hlong : longP ⟨on, ot, true⟩ := .inr (by show 65536 < ot.size; omega)
              refine Wl.q (q_gtr rfl rfl (dt hn2)) (Wl.rg 1 rfl (Wc.yes rfl (Wc.a 2 rfl (Wc.ret (Wx.thenRet (Wx.blockRet (Wx.thenRet (Wx.thenRet (Wx.blockRet (Wx.thenRet (Wx.f2 rfl (fun w hs => ?_))))))))))))
              exact ⟨(), trivial, by rw [packP_err (by omega) (hp0.trans (wrong_long hget hlong)) (by decide)]; rfl, ((fun hs => st_sl_mk (e := 53) (flat_len3P l) hcl hs) (st_drop (st_drop (st_pull [0, 1] hs))))⟩
            ·
              have hlong : ¬ longP ⟨on, ot, true⟩ := by unfold longP; simp only; omega
              refine Wl.q (q_gtr rfl rfl (df hn2)) (Wl.rg 1 rfl (Wc.no rfl (Wc.skip (Wx.go (Wc.seq (Wc.seq (Wc.drawsS [] ((pt b3 53 [Vs on, Vs ot, Vt]) :: (slp 53 3 vb vc (l.flatMap pairCells)) :: (isW wq (([] ++ (listW ((l.length : Nat) : Int)).2) ++ bytesP (l.take k))) :: []) (by kernel_rfl) (Wr.p 0 oo3 rfl (q_field fo_53_2 rfl rfl) (Wr.t 1 oo3 rfl (q_c 0 sc_4 rfl rfl rfl) (Wr.p 2 oo3 rfl (q_move rfl) (Wr.u 3 oo3 rfl (Wr.u 4 oo3 rfl (Wr.u 5 oo3 rfl (Wr.u 6 oo3 rfl (Wr.u 7 oo3 rfl (Wr.u 8 oo3 rfl (Wr.u 9 oo3 rfl (Wr.u 10 oo3 rfl (Wr.u 11 oo3 rfl (Wr.u 12 oo3 rfl (Wr.u 13 oo3 rfl (Wr.u 14 oo3 rfl (Wr.u 15 oo3 rfl ?_)))))))))))))))))))))))
              refine Wr.p 16 oo3 rfl (q_pick (t := true) rfl rfl) (Wr.z (Wx.go (Wc.yes rfl (Wc.a 2 rfl (Wc.ret (Wx.thenRet (Wx.blockRet (Wx.thenRet (Wx.thenRet (Wx.blockRet (Wx.thenRet (Wx.f2 rfl (fun w hs => ?_)))))))))))))
              exact ⟨(), trivial, by rw [packP_err (by omega) (hp0.trans (wrong_gone hget hlong rfl)) (by decide)]; rfl, ((fun hs => st_sl_mk (e := 53) (flat_len3P l) hcl hs) (st_drop (st_drop (st_pull [0, 1] hs))))⟩
        ·
          obtain rfl : og = false := Bool.eq_false_iff.2 hg
          refine Wl.run 1 rfl (Wl.e (e_storeAgg (i := 0) (vs := [Vs on, Vs ot, Vf]) (c' := [Vs on, Vs ot, Vf]) sz_53 rfl rfl rfl rfl (by simp) rfl) (fun _ _ => Wl.dg (Wc.seq (Wc.sr (Wl.q (q_field fo_53_0 rfl rfl) (Wl.q (q_c 0 sc_9 rfl rfl rfl) (Wl.q (q_len_str underlying9 rfl) ?_)))))))
          by_cases hn1 : ((on.size : Nat) : Int) > 65536
          ·
            have hlong : longP ⟨on, ot, false⟩ := .inl (by show 65536 < on.size; omega)
            refine Wl.q (q_gtr rfl rfl (dt hn1)) (Wl.rg 6 rfl (Wc.yes rfl (Wc.a 2 rfl (Wc.ret (Wx.thenRet (Wx.blockRet (Wx.thenRet (Wx.thenRet (Wx.blockRet (Wx.thenRet (Wx.f2 rfl (fun w hs => ?_))))))))))))
            exact ⟨(), trivial, by rw [packP_err (by omega) (hp0.trans (wrong_long hget hlong)) (by decide)]; rfl, ((fun hs => st_sl_mk (e := 53) (flat_len3P l) hcl hs) (st_drop (st_drop (st_pull [0, 1] hs))))⟩
          ·
            refine Wl.q (q_gtr rfl rfl (df hn1)) (Wl.run 1 rfl (Wl.q (q_field fo_53_1 rfl rfl) (Wl.q (q_c 0 sc_9 rfl rfl rfl) (Wl.q (q_len_str underlying9 rfl) ?_))))
            by_cases hn2 : ((ot.size : Nat) : Int) > 65536
            ·
              have hlong : longP ⟨on, ot, false⟩ := .inr (by show 65536 < ot.size; omega)
              refine Wl.q (q_gtr rfl rfl (dt hn2)) (Wl.rg 1 rfl (Wc.yes rfl (Wc.a 2 rfl (Wc.ret (Wx.thenRet (Wx.blockRet (Wx.thenRet (Wx.thenRet (Wx.blockRet (Wx.thenRet (Wx.f2 rfl (fun w hs => ?_))))))))))))
              exact ⟨(), trivial, by rw [packP_err (by omega) (hp0.trans (wrong_long hget hlong)) (by decide)]; rfl, ((fun hs => st_sl_mk (e := 53) (flat_len3P l) hcl hs) (st_drop (st_drop (st_pull [0, 1] hs))))⟩
            ·
              have hlong : ¬ longP ⟨on, ot, false⟩ := by unfold longP; simp only; omega
              refine Wl.q (q_gtr rfl rfl (df hn2)) (Wl.rg 1 rfl (Wc.no rfl (Wc.skip (Wx.go (Wc.seq (Wc.seq (Wc.drawsS [] ((pt b3 53 [Vs on, Vs ot, Vf]) :: (slp 53 3 vb vc (l.flatMap pairCells)) :: (isW wq (([] ++ (listW ((l.length : Nat) : Int)).2) ++ bytesP (l.take k))) :: []) (by kernel_rfl) (Wr.p 0 oo3 rfl (q_field fo_53_2 rfl rfl) (Wr.t 1 oo3 rfl (q_c 0 sc_4 rfl rfl rfl) (Wr.p 2 oo3 rfl (q_move rfl) (Wr.p 3 oo3 rfl (q_move rfl) ?_)))))))))))
              by_cases hk0 : ((k : Nat) : Int) > 0
              ·
                obtain ⟨q, hq⟩ : ∃ q, l[k - 1]? = some q := ⟨l[k - 1]'(by omega), List.getElem?_eq_getElem (by omega)⟩
                refine Wr.p 4 oo3 rfl (q_gtr rfl rfl (dt hk0)) (Wr.p 5 oo3 rfl (q_move rfl) (Wr.p 6 oo3 rfl (q_field fo_53_0 rfl rfl) (Wr.t 7 oo3 rfl (q_c 0 sc_9 rfl rfl rfl) (Wr.p 8 oo3 rfl (q_move hE0_0) (Wr.p 9 oo3 rfl (q_move rfl) (Wr.p 10 oo3 rfl (q_sub (c := (((k - 1) : Nat) : Int)) rfl rfl (by rw [wrap_i64 (by omega) (by omega)]; omega)) (Wr.p 11 oo3 rfl (q_idx (m := (k - 1) * 3) se_39 rfl rfl (by omega) (by omega) (by simp)) (Wr.p 12 oo3 rfl (q_field (m := (k - 1) * 3) fo_53_0 rfl rfl) (Wr.t (v := Vs q.n) 13 oo3 rfl (q_load sc_9 rfl (.row (i := 1) rfl (flat3P hq 0 _ rfl))) ?_)))))))))
                by_cases hlt2 : ltS q.n on
                ·
                  refine Wr.p 14 oo3 rfl (q_leq_str (r := false) rfl rfl (leq_lt hlt2)) (Wr.p 15 oo3 rfl (q_pick (t := true) rfl rfl) (Wr.p 16 oo3 rfl (q_pick (t := false) rfl rfl) (Wr.z (Wx.go (Wc.no rfl (Wc.skip (Wx.go (Wc.sr (Wl.q (v := Vp wq) (q_move hE4_0) (Wl.q (q_field fo_53_0 rfl rfl) (Wl.q (q_c 0 sc_9 rfl rfl rfl) (Wl.pull [2] (Wl.e (e_c call156 (wtextW_c W0 wq (([] ++ (listW ((l.length : Nat) : Int)).2) ++ bytesP (l.take k)) on (by simp only [List.length_append, List.length_nil]; (try have := textW_len on); omega))) (fun _ _ => Wl.dg (Wc.region (Wl.q (v := Vp wq) (q_move hE4_0) (Wl.q (q_field fo_53_1 rfl rfl) (Wl.q (q_c 1 sc_9 rfl rfl rfl) (Wl.e (e_c call156 (wtextW_c W0 wq ((([] ++ (listW ((l.length : Nat) : Int)).2) ++ bytesP (l.take k)) ++ (textW on).2) ot (by simp only [List.length_append, List.length_nil]; (try have := textW_len on); omega))) (fun _ _ => Wl.done (Wx.blockEnd (Wx.go (Wc.region ?_)))))))))))))))))))))))
                  refine Wl.q (q_add (c := ((k + 1 : Nat) : Int)) hE17_0 rfl (by rw [wrap_i64] <;> omega)) (Wl.run 1 rfl (Wl.done ?_))
                  refine Wx.at (k + 1) ⟨(by omega), rfl, hE0_0, hE4_0, hE15_0, hE16_0, (by omega), (hp0.trans (wrong_next hget hlong rfl (by omega) hq hlt2))⟩ (fun w hs => by rw [bytesP_snoc hget, ← List.append_assoc, ← List.append_assoc]; exact ((fun hs => st_sl_mk (e := 53) (flat_len3P l) hcl hs) (st_pull [1, 0] (st_drop (st_pull [1] hs)))))
                ·
                  refine Wr.p 14 oo3 rfl (q_leq_str (r := true) rfl rfl (leq_ge hlt2)) (Wr.p 15 oo3 rfl (q_pick (t := true) rfl rfl) (Wr.p 16 oo3 rfl (q_pick (t := false) rfl rfl) (Wr.z (Wx.go (Wc.yes rfl (Wc.a 2 rfl (Wc.ret (Wx.thenRet (Wx.blockRet (Wx.thenRet (Wx.thenRet (Wx.blockRet (Wx.thenRet (Wx.f2 rfl (fun w hs => ?_)))))))))))))))
                  exact ⟨(), trivial, by rw [packP_err (by omega) (hp0.trans (wrong_ord hget hlong (by omega) hq hlt2)) (by decide)]; rfl, ((fun hs => st_sl_mk (e := 53) (flat_len3P l) hcl hs) (st_drop (st_drop (st_pull [0, 1] hs))))⟩
              ·
                have hk00 : k = 0 := by omega
                refine Wr.p 4 oo3 rfl (q_gtr rfl rfl (df hk0)) (Wr.p 5 oo3 rfl (q_move rfl) (Wr.u 6 oo3 rfl (Wr.u 7 oo3 rfl (Wr.u 8 oo3 rfl (Wr.u 9 oo3 rfl (Wr.u 10 oo3 rfl (Wr.u 11 oo3 rfl (Wr.u 12 oo3 rfl (Wr.u 13 oo3 rfl (Wr.u 14 oo3 rfl (Wr.p 15 oo3 rfl (q_pick (t := false) rfl rfl) (Wr.p 16 oo3 rfl (q_pick (t := false) rfl rfl) (Wr.z (Wx.go (Wc.no rfl (Wc.skip (Wx.go (Wc.sr (Wl.q (v := Vp wq) (q_move hE4_0) (Wl.q (q_field fo_53_0 rfl rfl) (Wl.q (q_c 0 sc_9 rfl rfl rfl) (Wl.pull [2] (Wl.e (e_c call156 (wtextW_c W0 wq (([] ++ (listW ((l.length : Nat) : Int)).2) ++ bytesP (l.take k)) on (by simp only [List.length_append, List.length_nil]; (try have := textW_len on); omega))) (fun _ _ => ?_))))))))))))))))))))))))
                refine Wl.dg (Wc.region (Wl.q (v := Vp wq) (q_move hE4_0) (Wl.q (q_field fo_53_1 rfl rfl) (Wl.q (q_c 1 sc_9 rfl rfl rfl) (Wl.e (e_c call156 (wtextW_c W0 wq ((([] ++ (listW ((l.length : Nat) : Int)).2) ++ bytesP (l.take k)) ++ (textW on).2) ot (by simp only [List.length_append, List.length_nil]; (try have := textW_len on); omega))) (fun _ _ => Wl.done (Wx.blockEnd (Wx.go (Wc.region (Wl.q (q_add (c := ((k + 1 : Nat) : Int)) hE17_0 rfl (by rw [wrap_i64] <;> omega)) (Wl.run 1 rfl (Wl.done ?_))))))))))))
                refine Wx.at (k + 1) ⟨(by omega), rfl, hE0_0, hE4_0, hE15_0, hE16_0, (by omega), (hp0.trans (by subst hk00; exact wrong_first hget hlong rfl))⟩ (fun w hs => by rw [bytesP_snoc hget, ← List.append_assoc, ← List.append_assoc]; exact ((fun hs => st_sl_mk (e := 53) (flat_len3P l) hcl hs) (st_pull [1, 0] (st_drop (st_pull [1] hs)))))
      ·
        have hke : k = l.length := by omega
        refine Wl.q (q_lss hE17_0 hE16_0 (df hlt)) (Wl.dg (Wc.seq (Wc.no rfl (Wc.exit (Wx.thenExit (Wx.thenExit (Wx.out (Wx.go (Wc.sr (Wl.q (v := Vp wq) (q_move hE4_0) (Wl.pull [1] (Wl.e (e_c call157 (wbytes_c W0 wq (([] ++ (listW ((l.length : Nat) : Int)).2) ++ bytesP (l.take k)))) (fun _ _ => Wl.rg 2 rfl (Wc.ret (Wx.f2 rfl (fun w hs => ?_))))))))))))))))
        have hw0 : wrongP none l = 0 := by rw [hp0, hke, List.drop_length]; cases prevP l l.length <;> rfl
        exact ⟨(), trivial, by rw [packP_ok (by omega) hw0, hke, List.take_length, hlw]; rfl, (st_drop (st_pull [0] hs))⟩
end Go.Proofs.YtjnejkdamhefgaaGreatDoor
