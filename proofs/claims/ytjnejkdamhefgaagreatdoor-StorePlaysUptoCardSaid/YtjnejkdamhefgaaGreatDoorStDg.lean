/- A part of the proof. -/
import Derived.Test.YtjnejkdamhefgaaGreatDoorStD
import Derived.Test.YtjnejkdamhefgaaGreatDoorStY
namespace Go.Proofs.YtjnejkdamhefgaaGreatDoor
open Tryz
open Go Go.SL Go.St Go.Wr Go.RowKit
open Go.Dk (DS WF)
open Go.Jn (JS Ok openD_up)
set_option linter.unusedVariables false
set_option maxRecDepth 8000
set_option maxRecDepth 8000 in
set_option maxHeartbeats 2000000 in
theorem change_sg (W0 : World) (vl : Value) (l : List PairR) (hlm : l.length ≤ 4000000000) (hsz : ∀ p ∈ l, p.n.size ≤ 9223372036854775807 ∧ p.t.size ≤ 9223372036854775807) (sp j mb dp : Nat) (T : AL) (hT : okA T) (hTl : T.length ≤ 256) (hfew : (chgA T [] l).1 = 0 → l.length ≤ 600000) (js : JS) (d : DS) (hwf : WF d) (hS1 : 1 ≤ d.secs.length) (hsn : d.since.length < 1000000000000) (hk0 : d.count < 4000000000000000000) (hq0 : 0 ≤ js.seq) (hq1 : js.seq < 9223372036854775807) :
    Con prog W0 11 #[Vp sp, vl] [sl 53 3 vl l.length (l.flatMap pairCells), pt sp 114 [Vp j, Value.map (some mb)], mp mb (strV T), isJ j dp js, isDisk dp d] (X := Nat) (fun _ => True) (fun _ => .int .i64 (chgS d ⟨js, T⟩ l).1) (fun y => [sl 53 3 vl l.length (l.flatMap pairCells), pt sp 114 [.pointer (some ⟨j, 0, none⟩), .map (some y)], mp y (strV (chgS d ⟨js, T⟩ l).2.2.T), isJ j dp (chgS d ⟨js, T⟩ l).2.2.js, isDisk dp (chgS d ⟨js, T⟩ l).2.1]) := by
  refine Con.of func11 rfl ntmps11 rfl (fun F => ?_)
  show Wc _ W0 _ _ _ _ _ ((sl 53 3 vl l.length (l.flatMap pairCells)) :: (pt sp 114 [Vp j, Value.map (some mb)]) :: (mp mb (strV T)) :: (isJ j dp js) :: (isDisk dp d) :: F)
  refine Wc.a 1 rfl (Wc.seq (Wc.b 1 rfl (Wl.pull [1] (Wl.e (e_c call39 (st_there W0 sp j mb)) (fun _ _ => Wl.q (q_not rfl rfl) (Wl.dg (Wc.no rfl (Wc.skip (Wx.go (Wc.b 2 rfl (Wl.q (q_field fo_114_1 rfl rfl) (Wl.q (q_c 0 sc_112 rfl rfl rfl) (Wl.pull [2] (Wl.e (e_c call40 (clone_w W0 mb T)) (fun nb _ => Wl.e (e_makeMap) (fun mm _ => Wl.rg 2 rfl (Wc.seq (Wc.b 1 rfl (Wl.q (q_len_sl (i := 4) underlying39 rfl rfl) (Wl.rg 1 rfl (Wc.block ?_)))))))))))))))))))))
  refine Wc.loop (X := Nat × AL × List ByteArray) (fun (k, T1, met) E => E 25 = Vi ((k : Nat) : Int) ∧ E 0 = Vp sp ∧ E 5 = Value.map (some nb) ∧ E 6 = Value.map (some mm) ∧ E 23 = vl ∧ E 24 = Vi ((l.length : Nat) : Int) ∧ k ≤ l.length ∧ chgA T [] l = chgA T1 met (l.drop k) ∧ okA T1 ∧ T1.length ≤ T.length + k ∧ (∀ n ∈ met, n.size ≤ 65536)) (fun (k, T1, met) => (sl 53 3 vl l.length (l.flatMap pairCells)) :: (pt sp 114 [Vp j, Value.map (some mb)]) :: (mp mb (strV T)) :: (mp nb (strV T1)) :: (mp mm (metV met)) :: (isJ j dp js) :: (isDisk dp d) :: F) (fun (k, T1, met) => l.length - k) (0, T, []) ?_ ?_ ?_
  · exact ⟨rfl, rfl, rfl, rfl, rfl, rfl, (Nat.zero_le _), rfl, hT, (Nat.le_refl _), (fun n hn => by cases hn)⟩
  · exact fun w hs => (st_pull [4, 3, 2, 1, 0, 0, 0] (hs))
  · rintro ⟨k, T1, met⟩ E2 ⟨hE25_0, hE0_0, hE5_0, hE6_0, hE23_0, hE24_0, hk, hp0, hT1, hTn, hmt⟩
    dsimp only at *
    refine Wc.sr ?_
    by_cases hlt : ((k : Nat) : Int) < ((l.length : Nat) : Int)
    ·
      obtain ⟨⟨on, ot, og⟩, hget⟩ : ∃ o, l[k]? = some o := ⟨l[k]'(by omega), List.getElem?_eq_getElem (by omega)⟩
      have hsz0 := hsz _ (List.mem_of_getElem? hget)
      simp only at hsz0
      refine Wl.sl (i := 0) (m := l.length) rfl (by omega) (fun vb vc hv hcl => ?_)
      subst hv
      refine Wl.q (q_lss hE25_0 hE24_0 (dt hlt)) (Wl.dg (Wc.seq (Wc.yes rfl (Wc.skip (Wx.go (Wc.seq (Wc.block (Wc.sr ?_))))))))
      by_cases hg : og = true
      ·
        subst hg
        refine Wl.q (q_idx (m := k * 3) se_39 hE23_0 hE25_0 (by omega) (by omega) (by simp)) (Wl.q (v := Value.agg #[Vs on, Vs ot, Vt]) (q_loadAgg (vs := [Vs on, Vs ot, Vt]) ag_53 rfl (fun j u hj => .row (i := 0) rfl (flat3P hget j u hj))) (Wl.e (e_alloc (vs := [Vs (⟨#[]⟩), Vs (⟨#[]⟩), Vf]) zo_53 rfl) (fun b3 _ => Wl.e (e_storeAgg (i := 0) (vs := [Vs on, Vs ot, Vt]) (c' := [Vs on, Vs ot, Vt]) sz_53 rfl rfl rfl rfl (by simp) rfl) (fun _ _ => Wl.dg (Wc.seq (Wc.block (Wc.sr (Wl.q (q_field fo_53_0 rfl rfl) (Wl.q (q_c 0 sc_9 rfl rfl rfl) (Wl.q (q_len_str underlying9 rfl) ?_))))))))))
        by_cases hn1 : ((on.size : Nat) : Int) > 65536
        ·
          have hlong : longP ⟨on, ot, true⟩ := .inl (by show 65536 < on.size; omega)
          refine Wl.q (q_gtr rfl rfl (dt hn1)) (Wl.rg 7 rfl (Wc.yes rfl (Wc.a 1 rfl (Wc.ret (Wx.blockRet (Wx.thenRet (Wx.blockRet (Wx.thenRet (Wx.thenRet (Wx.blockRet (Wx.thenRet (Wx.f1 rfl (fun w hs => ?_)))))))))))))
          have hS := chgS_bad (d := d) (s := ⟨js, T⟩) (l := l) (e := 3) (by show (chgA T [] l).1 = _; rw [hp0, chg_at hget, if_pos hlong]) (by decide)
          exact ⟨mb, trivial, by rw [hS]; rfl, by rw [hS]; exact ((fun hs => st_sl_mk (e := 53) (flat_len3P l) hcl hs) (st_drop (st_drop (st_drop (st_pull [0, 3, 3] hs)))))⟩
        ·
          refine Wl.q (q_gtr rfl rfl (df hn1)) (Wl.run 1 rfl (Wl.q (q_field fo_53_1 rfl rfl) (Wl.q (q_c 0 sc_9 rfl rfl rfl) (Wl.q (q_len_str underlying9 rfl) ?_))))
          by_cases hn2 : ((ot.size : Nat) : Int) > 65536
          ·
            have hlong : longP ⟨on, ot, true⟩ := .inr (by show 65536 < ot.size; omega)
            refine Wl.q (q_gtr rfl rfl (dt hn2)) (Wl.rg 2 rfl (Wc.yes rfl (Wc.a 1 rfl (Wc.ret (Wx.blockRet (Wx.thenRet (Wx.blockRet (Wx.thenRet (Wx.thenRet (Wx.blockRet (Wx.thenRet (Wx.f1 rfl (fun w hs => ?_)))))))))))))
            have hS := chgS_bad (d := d) (s := ⟨js, T⟩) (l := l) (e := 3) (by show (chgA T [] l).1 = _; rw [hp0, chg_at hget, if_pos hlong]) (by decide)
            exact ⟨mb, trivial, by rw [hS]; rfl, by rw [hS]; exact ((fun hs => st_sl_mk (e := 53) (flat_len3P l) hcl hs) (st_drop (st_drop (st_drop (st_pull [0, 3, 3] hs)))))⟩
          ·
            have hlong : ¬ longP ⟨on, ot, true⟩ := by unfold longP; simp only; omega
            have hon : on.size ≤ 65536 := by omega
            have hot : ot.size ≤ 65536 := by omega
            refine Wl.q (q_gtr rfl rfl (df hn2)) (Wl.rg 2 rfl (Wc.no rfl (Wc.sr (Wl.q (q_field fo_53_2 rfl rfl) (Wl.q (q_c 0 sc_4 rfl rfl rfl) (Wl.run 1 rfl (Wl.q (q_field fo_53_1 rfl rfl) (Wl.q (q_c 0 sc_9 rfl rfl rfl) ?_))))))))
            by_cases hte : ot = (⟨#[]⟩)
            ·
              refine Wl.q (q_neq_str (r := true) rfl rfl (text_true hte)) (Wl.rg 2 rfl (Wc.no rfl (Wc.sr ?_)))
              by_cases hmet : on ∈ met
              ·
                refine Wl.q (v := Value.map (some mm)) (q_move hE6_0) (Wl.q (q_field fo_53_0 rfl rfl) (Wl.q (q_c 0 sc_9 rfl rfl rfl) (Wl.q (q_lookup1 (i := 5) (key := .string on) (r := Vi 1) underlying121 (Maps.string_keyed underlying9) zo_3 rfl rfl rfl (keyS hon) (keysM hmt) (.inr (metV_yes hmet))) (Wl.q (q_gtr rfl rfl (dt (by decide))) (Wl.rg 1 rfl (Wc.yes rfl (Wc.a 1 rfl (Wc.ret (Wx.blockRet (Wx.thenRet (Wx.blockRet (Wx.thenRet (Wx.thenRet (Wx.blockRet (Wx.thenRet (Wx.f1 rfl (fun w hs => ?_)))))))))))))))))
                have hS := chgS_bad (d := d) (s := ⟨js, T⟩) (l := l) (e := 13) (by show (chgA T [] l).1 = _; rw [hp0, chg_at hget, if_neg hlong, if_neg (fun h => h.2 hte), if_pos hmet]) (by decide)
                exact ⟨mb, trivial, by rw [hS]; rfl, by rw [hS]; exact ((fun hs => st_sl_mk (e := 53) (flat_len3P l) hcl hs) (st_drop (st_drop (st_drop (st_pull [0, 3, 3] hs)))))⟩
              ·
                refine Wl.q (v := Value.map (some mm)) (q_move hE6_0) (Wl.q (q_field fo_53_0 rfl rfl) (Wl.q (q_c 0 sc_9 rfl rfl rfl) (Wl.q (q_lookup1 (i := 5) (key := .string on) (r := Vi 0) underlying121 (Maps.string_keyed underlying9) zo_3 rfl rfl rfl (keyS hon) (keysM hmt) (.inl ⟨metV_no hmet, rfl⟩)) (Wl.q (q_gtr rfl rfl (df (by decide))) (Wl.rg 1 rfl (Wc.no rfl (Wc.skip (Wx.blockEnd (Wx.go (Wc.sr (Wl.q (v := Value.map (some mm)) (q_move hE6_0) (Wl.q (q_field fo_53_0 rfl rfl) (Wl.q (q_c 0 sc_9 rfl rfl rfl) (Wl.q (q_lookup1 (i := 5) (key := .string on) (r := Vi 0) underlying121 (Maps.string_keyed underlying9) zo_3 rfl rfl rfl (keyS hon) (keysM hmt) (.inl ⟨metV_no hmet, rfl⟩)) (Wl.q (q_add (c := 1) rfl rfl (by decide)) (Wl.e (e_mapNew (i := 5) (key := .string on) (val := .int .i64 1) underlying121 (Maps.string_keyed underlying9) rfl rfl rfl rfl (keyS hon) (keysM hmt) (metV_no hmet)) (fun _ _ => Wl.dg (Wc.sr ?_))))))))))))))))))
                by_cases hin : on ∈ keysA T1
                ·
                  obtain ⟨j2, u2, hj2⟩ := keysA_at hin
                  refine Wl.q (v := Value.map (some nb)) (q_move hE5_0) (Wl.q (q_field fo_53_0 rfl rfl) (Wl.q (q_c 0 sc_9 rfl rfl rfl) (Wl.q (q_field fo_53_1 rfl rfl) (Wl.q (q_c 0 sc_9 rfl rfl rfl) (Wl.e (e_mapSet (i := 4) (j := j2) (key := .string on) (val := .string ot) underlying112 (Maps.string_keyed underlying9) rfl rfl rfl rfl (keyS hon) (keysS hT1) (strV_at hj2) (strV_one hT1.1 hj2)) (fun _ _ => Wl.dg (Wc.sr (Wl.imp (L' := (pt b3 53 [Vs on, Vs ot, Vt]) :: (slp 53 3 vb vc (l.flatMap pairCells)) :: (pt sp 114 [Vp j, Value.map (some mb)]) :: (mp mb (strV T)) :: (mp nb (strV (putA on ot T1))) :: (mp mm (metV met ++ [(Vs on, Vi 1)])) :: (isJ j dp js) :: (isDisk dp d) :: F) (fun w hs => by rw [← strV_set on ot hT1.1 hj2]; exact hs) (Wl.q (q_field fo_53_2 rfl rfl) (Wl.q (q_c 0 sc_4 rfl rfl rfl) (Wl.dg (Wc.yes rfl (Wc.region (Wl.q (v := Value.map (some nb)) (q_move hE5_0) (Wl.q (q_field fo_53_0 rfl rfl) (Wl.q (q_c 0 sc_9 rfl rfl rfl) ?_))))))))))))))))
                  obtain ⟨j3, u3, hj3⟩ := keysA_at (keysA_self on ot T1)
                  have hT2 := okA_put hT1 hon hot
                  refine Wl.e (e_delete (i := 4) (j := j3) (key := .string on) (r := .string u3) underlying112 (Maps.string_keyed underlying9) rfl rfl rfl (keyS hon) (keysS hT2) (strV_at hj3) (strV_one hT2.1 hj3)) (fun _ _ => Wl.done (Wx.blockEnd (Wx.go (Wc.region (Wl.q (q_add (c := ((k + 1 : Nat) : Int)) hE25_0 rfl (by rw [wrap_i64] <;> omega)) (Wl.run 1 rfl (Wl.done ?_)))))))
                  refine Wx.at (k + 1, delA on T1, met ++ [on]) ⟨(by simp only; omega), rfl, hE0_0, hE5_0, hE6_0, hE23_0, hE24_0, (by simp only; omega), (hp0.trans (by rw [chg_at hget, if_neg hlong, if_neg (fun h => h.2 hte), if_neg hmet]; rfl)), (okA_del hT1 on), (by have := delA_len on T1; simp only; omega), (fun n hn => (List.mem_append.1 hn).elim (hmt n) (fun h => by rw [List.mem_singleton] at h; subst h; exact hon))⟩ (fun w hs => by rw [strV_del on (keysA_put on ot hT1.1) hj3, delA_put] at hs; rw [metV_snoc]; exact ((fun hs => st_sl_mk (e := 53) (flat_len3P l) hcl hs) (st_drop (st_pull [0] hs))))
                ·
                  refine Wl.q (v := Value.map (some nb)) (q_move hE5_0) (Wl.q (q_field fo_53_0 rfl rfl) (Wl.q (q_c 0 sc_9 rfl rfl rfl) (Wl.q (q_field fo_53_1 rfl rfl) (Wl.q (q_c 0 sc_9 rfl rfl rfl) (Wl.e (e_mapNew (i := 4) (key := .string on) (val := .string ot) underlying112 (Maps.string_keyed underlying9) rfl rfl rfl rfl (keyS hon) (keysS hT1) (strV_no (getA_none.2 hin))) (fun _ _ => Wl.dg (Wc.sr (Wl.imp (L' := (pt b3 53 [Vs on, Vs ot, Vt]) :: (slp 53 3 vb vc (l.flatMap pairCells)) :: (pt sp 114 [Vp j, Value.map (some mb)]) :: (mp mb (strV T)) :: (mp nb (strV (putA on ot T1))) :: (mp mm (metV met ++ [(Vs on, Vi 1)])) :: (isJ j dp js) :: (isDisk dp d) :: F) (fun w hs => by rw [← strV_new hin]; exact hs) (Wl.q (q_field fo_53_2 rfl rfl) (Wl.q (q_c 0 sc_4 rfl rfl rfl) (Wl.dg (Wc.yes rfl (Wc.region (Wl.q (v := Value.map (some nb)) (q_move hE5_0) (Wl.q (q_field fo_53_0 rfl rfl) (Wl.q (q_c 0 sc_9 rfl rfl rfl) ?_))))))))))))))))
                  obtain ⟨j3, u3, hj3⟩ := keysA_at (keysA_self on ot T1)
                  have hT2 := okA_put hT1 hon hot
                  refine Wl.e (e_delete (i := 4) (j := j3) (key := .string on) (r := .string u3) underlying112 (Maps.string_keyed underlying9) rfl rfl rfl (keyS hon) (keysS hT2) (strV_at hj3) (strV_one hT2.1 hj3)) (fun _ _ => Wl.done (Wx.blockEnd (Wx.go (Wc.region (Wl.q (q_add (c := ((k + 1 : Nat) : Int)) hE25_0 rfl (by rw [wrap_i64] <;> omega)) (Wl.run 1 rfl (Wl.done ?_)))))))
                  refine Wx.at (k + 1, delA on T1, met ++ [on]) ⟨(by simp only; omega), rfl, hE0_0, hE5_0, hE6_0, hE23_0, hE24_0, (by simp only; omega), (hp0.trans (by rw [chg_at hget, if_neg hlong, if_neg (fun h => h.2 hte), if_neg hmet]; rfl)), (okA_del hT1 on), (by have := delA_len on T1; simp only; omega), (fun n hn => (List.mem_append.1 hn).elim (hmt n) (fun h => by rw [List.mem_singleton] at h; subst h; exact hon))⟩ (fun w hs => by rw [strV_del on (keysA_put on ot hT1.1) hj3, delA_put] at hs; rw [metV_snoc]; exact ((fun hs => st_sl_mk (e := 53) (flat_len3P l) hcl hs) (st_drop (st_pull [0] hs))))
            ·
              refine Wl.q (q_neq_str (r := false) rfl rfl (text_false hte)) (Wl.rg 2 rfl (Wc.yes rfl (Wc.a 1 rfl (Wc.ret (Wx.blockRet (Wx.thenRet (Wx.blockRet (Wx.thenRet (Wx.thenRet (Wx.blockRet (Wx.thenRet (Wx.f1 rfl (fun w hs => ?_)))))))))))))
              have hS := chgS_bad (d := d) (s := ⟨js, T⟩) (l := l) (e := 1) (by show (chgA T [] l).1 = _; rw [hp0, chg_at hget, if_neg hlong, if_pos ⟨rfl, hte⟩]) (by decide)
              exact ⟨mb, trivial, by rw [hS]; rfl, by rw [hS]; exact ((fun hs => st_sl_mk (e := 53) (flat_len3P l) hcl hs) (st_drop (st_drop (st_drop (st_pull [0, 3, 3] hs)))))⟩
      ·
        obtain rfl : og = false := Bool.eq_false_iff.2 hg
        refine Wl.q (q_idx (m := k * 3) se_39 hE23_0 hE25_0 (by omega) (by omega) (by simp)) (Wl.q (v := Value.agg #[Vs on, Vs ot, Vf]) (q_loadAgg (vs := [Vs on, Vs ot, Vf]) ag_53 rfl (fun j u hj => .row (i := 0) rfl (flat3P hget j u hj))) (Wl.e (e_alloc (vs := [Vs (⟨#[]⟩), Vs (⟨#[]⟩), Vf]) zo_53 rfl) (fun b4 _ => Wl.e (e_storeAgg (i := 0) (vs := [Vs on, Vs ot, Vf]) (c' := [Vs on, Vs ot, Vf]) sz_53 rfl rfl rfl rfl (by simp) rfl) (fun _ _ => Wl.dg (Wc.seq (Wc.block (Wc.sr (Wl.q (q_field fo_53_0 rfl rfl) (Wl.q (q_c 0 sc_9 rfl rfl rfl) (Wl.q (q_len_str underlying9 rfl) ?_))))))))))
        by_cases hn1 : ((on.size : Nat) : Int) > 65536
        ·
          have hlong : longP ⟨on, ot, false⟩ := .inl (by show 65536 < on.size; omega)
          refine Wl.q (q_gtr rfl rfl (dt hn1)) (Wl.rg 7 rfl (Wc.yes rfl (Wc.a 1 rfl (Wc.ret (Wx.blockRet (Wx.thenRet (Wx.blockRet (Wx.thenRet (Wx.thenRet (Wx.blockRet (Wx.thenRet (Wx.f1 rfl (fun w hs => ?_)))))))))))))
          have hS := chgS_bad (d := d) (s := ⟨js, T⟩) (l := l) (e := 3) (by show (chgA T [] l).1 = _; rw [hp0, chg_at hget, if_pos hlong]) (by decide)
          exact ⟨mb, trivial, by rw [hS]; rfl, by rw [hS]; exact ((fun hs => st_sl_mk (e := 53) (flat_len3P l) hcl hs) (st_drop (st_drop (st_drop (st_pull [0, 3, 3] hs)))))⟩
        ·
          refine Wl.q (q_gtr rfl rfl (df hn1)) (Wl.run 1 rfl (Wl.q (q_field fo_53_1 rfl rfl) (Wl.q (q_c 0 sc_9 rfl rfl rfl) (Wl.q (q_len_str underlying9 rfl) ?_))))
          by_cases hn2 : ((ot.size : Nat) : Int) > 65536
          ·
            have hlong : longP ⟨on, ot, false⟩ := .inr (by show 65536 < ot.size; omega)
            refine Wl.q (q_gtr rfl rfl (dt hn2)) (Wl.rg 2 rfl (Wc.yes rfl (Wc.a 1 rfl (Wc.ret (Wx.blockRet (Wx.thenRet (Wx.blockRet (Wx.thenRet (Wx.thenRet (Wx.blockRet (Wx.thenRet (Wx.f1 rfl (fun w hs => ?_)))))))))))))
            have hS := chgS_bad (d := d) (s := ⟨js, T⟩) (l := l) (e := 3) (by show (chgA T [] l).1 = _; rw [hp0, chg_at hget, if_pos hlong]) (by decide)
            exact ⟨mb, trivial, by rw [hS]; rfl, by rw [hS]; exact ((fun hs => st_sl_mk (e := 53) (flat_len3P l) hcl hs) (st_drop (st_drop (st_drop (st_pull [0, 3, 3] hs)))))⟩
          ·
            have hlong : ¬ longP ⟨on, ot, false⟩ := by unfold longP; simp only; omega
            have hon : on.size ≤ 65536 := by omega
            have hot : ot.size ≤ 65536 := by omega
            refine Wl.q (q_gtr rfl rfl (df hn2)) (Wl.rg 2 rfl (Wc.no rfl (Wc.sr (Wl.q (q_field fo_53_2 rfl rfl) (Wl.q (q_c 0 sc_4 rfl rfl rfl) (Wl.rg 6 rfl (Wc.no rfl (Wc.sr ?_))))))))
            by_cases hmet : on ∈ met
            ·
              refine Wl.q (v := Value.map (some mm)) (q_move hE6_0) (Wl.q (q_field fo_53_0 rfl rfl) (Wl.q (q_c 0 sc_9 rfl rfl rfl) (Wl.q (q_lookup1 (i := 5) (key := .string on) (r := Vi 1) underlying121 (Maps.string_keyed underlying9) zo_3 rfl rfl rfl (keyS hon) (keysM hmt) (.inr (metV_yes hmet))) (Wl.q (q_gtr rfl rfl (dt (by decide))) (Wl.rg 1 rfl (Wc.yes rfl (Wc.a 1 rfl (Wc.ret (Wx.blockRet (Wx.thenRet (Wx.blockRet (Wx.thenRet (Wx.thenRet (Wx.blockRet (Wx.thenRet (Wx.f1 rfl (fun w hs => ?_)))))))))))))))))
              have hS := chgS_bad (d := d) (s := ⟨js, T⟩) (l := l) (e := 13) (by show (chgA T [] l).1 = _; rw [hp0, chg_at hget, if_neg hlong, if_neg (fun h => (by cases h.1)), if_pos hmet]) (by decide)
              exact ⟨mb, trivial, by rw [hS]; rfl, by rw [hS]; exact ((fun hs => st_sl_mk (e := 53) (flat_len3P l) hcl hs) (st_drop (st_drop (st_drop (st_pull [0, 3, 3] hs)))))⟩
            ·
              refine Wl.q (v := Value.map (some mm)) (q_move hE6_0) (Wl.q (q_field fo_53_0 rfl rfl) (Wl.q (q_c 0 sc_9 rfl rfl rfl) (Wl.q (q_lookup1 (i := 5) (key := .string on) (r := Vi 0) underlying121 (Maps.string_keyed underlying9) zo_3 rfl rfl rfl (keyS hon) (keysM hmt) (.inl ⟨metV_no hmet, rfl⟩)) (Wl.q (q_gtr rfl rfl (df (by decide))) (Wl.rg 1 rfl (Wc.no rfl (Wc.skip (Wx.blockEnd (Wx.go (Wc.sr (Wl.q (v := Value.map (some mm)) (q_move hE6_0) (Wl.q (q_field fo_53_0 rfl rfl) (Wl.q (q_c 0 sc_9 rfl rfl rfl) (Wl.q (q_lookup1 (i := 5) (key := .string on) (r := Vi 0) underlying121 (Maps.string_keyed underlying9) zo_3 rfl rfl rfl (keyS hon) (keysM hmt) (.inl ⟨metV_no hmet, rfl⟩)) (Wl.q (q_add (c := 1) rfl rfl (by decide)) (Wl.e (e_mapNew (i := 5) (key := .string on) (val := .int .i64 1) underlying121 (Maps.string_keyed underlying9) rfl rfl rfl rfl (keyS hon) (keysM hmt) (metV_no hmet)) (fun _ _ => Wl.dg (Wc.sr ?_))))))))))))))))))
              by_cases hin : on ∈ keysA T1
              ·
                obtain ⟨j2, u2, hj2⟩ := keysA_at hin
                refine Wl.q (v := Value.map (some nb)) (q_move hE5_0) (Wl.q (q_field fo_53_0 rfl rfl) (Wl.q (q_c 0 sc_9 rfl rfl rfl) (Wl.q (q_field fo_53_1 rfl rfl) (Wl.q (q_c 0 sc_9 rfl rfl rfl) (Wl.e (e_mapSet (i := 4) (j := j2) (key := .string on) (val := .string ot) underlying112 (Maps.string_keyed underlying9) rfl rfl rfl rfl (keyS hon) (keysS hT1) (strV_at hj2) (strV_one hT1.1 hj2)) (fun _ _ => Wl.dg (Wc.sr (Wl.imp (L' := (pt b4 53 [Vs on, Vs ot, Vf]) :: (slp 53 3 vb vc (l.flatMap pairCells)) :: (pt sp 114 [Vp j, Value.map (some mb)]) :: (mp mb (strV T)) :: (mp nb (strV (putA on ot T1))) :: (mp mm (metV met ++ [(Vs on, Vi 1)])) :: (isJ j dp js) :: (isDisk dp d) :: F) (fun w hs => by rw [← strV_set on ot hT1.1 hj2]; exact hs) (Wl.q (q_field fo_53_2 rfl rfl) (Wl.q (q_c 0 sc_4 rfl rfl rfl) (Wl.dg (Wc.no rfl (Wc.skip (Wx.blockEnd (Wx.go (Wc.region (Wl.q (q_add (c := ((k + 1 : Nat) : Int)) hE25_0 rfl (by rw [wrap_i64] <;> omega)) (Wl.run 1 rfl (Wl.done ?_)))))))))))))))))))
                refine Wx.at (k + 1, putA on ot T1, met ++ [on]) ⟨(by simp only; omega), rfl, hE0_0, hE5_0, hE6_0, hE23_0, hE24_0, (by simp only; omega), (hp0.trans (by rw [chg_at hget, if_neg hlong, if_neg (fun h => (by cases h.1)), if_neg hmet]; rfl)), (okA_put hT1 hon hot), (by have := putA_len on ot T1; simp only; omega), (fun n hn => (List.mem_append.1 hn).elim (hmt n) (fun h => by rw [List.mem_singleton] at h; subst h; exact hon))⟩ (fun w hs => by rw [metV_snoc]; exact ((fun hs => st_sl_mk (e := 53) (flat_len3P l) hcl hs) (st_drop (st_pull [0] hs))))
              ·
                refine Wl.q (v := Value.map (some nb)) (q_move hE5_0) (Wl.q (q_field fo_53_0 rfl rfl) (Wl.q (q_c 0 sc_9 rfl rfl rfl) (Wl.q (q_field fo_53_1 rfl rfl) (Wl.q (q_c 0 sc_9 rfl rfl rfl) (Wl.e (e_mapNew (i := 4) (key := .string on) (val := .string ot) underlying112 (Maps.string_keyed underlying9) rfl rfl rfl rfl (keyS hon) (keysS hT1) (strV_no (getA_none.2 hin))) (fun _ _ => Wl.dg (Wc.sr (Wl.imp (L' := (pt b4 53 [Vs on, Vs ot, Vf]) :: (slp 53 3 vb vc (l.flatMap pairCells)) :: (pt sp 114 [Vp j, Value.map (some mb)]) :: (mp mb (strV T)) :: (mp nb (strV (putA on ot T1))) :: (mp mm (metV met ++ [(Vs on, Vi 1)])) :: (isJ j dp js) :: (isDisk dp d) :: F) (fun w hs => by rw [← strV_new hin]; exact hs) (Wl.q (q_field fo_53_2 rfl rfl) (Wl.q (q_c 0 sc_4 rfl rfl rfl) (Wl.dg (Wc.no rfl (Wc.skip (Wx.blockEnd (Wx.go (Wc.region (Wl.q (q_add (c := ((k + 1 : Nat) : Int)) hE25_0 rfl (by rw [wrap_i64] <;> omega)) (Wl.run 1 rfl (Wl.done ?_)))))))))))))))))))
                refine Wx.at (k + 1, putA on ot T1, met ++ [on]) ⟨(by simp only; omega), rfl, hE0_0, hE5_0, hE6_0, hE23_0, hE24_0, (by simp only; omega), (hp0.trans (by rw [chg_at hget, if_neg hlong, if_neg (fun h => (by cases h.1)), if_neg hmet]; rfl)), (okA_put hT1 hon hot), (by have := putA_len on ot T1; simp only; omega), (fun n hn => (List.mem_append.1 hn).elim (hmt n) (fun h => by rw [List.mem_singleton] at h; subst h; exact hon))⟩ (fun w hs => by rw [metV_snoc]; exact ((fun hs => st_sl_mk (e := 53) (flat_len3P l) hcl hs) (st_drop (st_pull [0] hs))))
    ·
      have hke : k = l.length := by omega
      have hc0 : chgA T [] l = (0, T1) := by rw [hp0, hke, List.drop_length]; rfl
      have hfew1 := hfew (by rw [hc0])
      refine Wl.q (q_lss hE25_0 hE24_0 (df hlt)) (Wl.dg (Wc.seq (Wc.no rfl (Wc.exit (Wx.thenExit (Wx.thenExit (Wx.out (Wx.go (Wc.a 1 rfl (Wc.seq (Wc.sr (Wl.q (v := Value.map (some nb)) (q_move hE5_0) (Wl.e (e_c call42 (keys_w W0 nb)) (fun kq _ => Wl.pull [0, 3] (Wl.e (e_c call41 (sorted_w W0 kq nb T1 hT1 (by omega))) (fun nv _ => Wl.q (q_len_sl (i := 0) underlying57 rfl rfl) (Wl.rg 1 rfl (Wc.block ?_))))))))))))))))))
      refine Wc.loop (X := Nat × Value) (fun (i, v) E => E 74 = Vi ((i : Nat) : Int) ∧ E 9 = v ∧ E 0 = Vp sp ∧ E 5 = Value.map (some nb) ∧ E 72 = nv ∧ E 73 = Vi ((T1.length : Nat) : Int) ∧ i ≤ T1.length) (fun (i, v) => (sl 53 3 v (((allA T1).take i).length) (((allA T1).take i).flatMap pairCells)) :: (sl 9 1 nv T1.length ((namesA T1).map Go.Proofs.encStr)) :: (sl 53 3 vl l.length (l.flatMap pairCells)) :: (pt sp 114 [Vp j, Value.map (some mb)]) :: (mp mb (strV T)) :: (mp nb (strV T1)) :: (isJ j dp js) :: (isDisk dp d) :: F) (fun (i, v) => T1.length - i) (0, Vn) ?_ ?_ ?_
      · exact ⟨rfl, rfl, hE0_0, hE5_0, rfl, rfl, (Nat.zero_le _)⟩
      · exact fun w hs => st_sl_nil (st_pull [0, 1, 1, 1, 0, 0, 0] (st_drop (st_drop (st_pull [1, 5] hs))))
      · rintro ⟨i, v⟩ E6 ⟨hE74_4, hE9_4, hE0_4, hE5_4, hE72_4, hE73_4, hi⟩
        dsimp only at *
        have hall := allA_len T1
        have htl := List.length_take (i := i) (l := allA T1)
        refine Wc.sr ?_
        by_cases hlt2 : ((i : Nat) : Int) < ((T1.length : Nat) : Int)
        ·
          obtain ⟨nm, hnm⟩ : ∃ nm, (namesA T1)[i]? = some nm := ⟨(namesA T1)[i]'(by rw [namesA_len]; omega), List.getElem?_eq_getElem _⟩
          obtain ⟨tx, htx, hal⟩ := names_at hT1.1 hnm
          have hb := hT1.2 _ ((getA_mem hT1.1).1 htx)
          simp only at hb
          refine Wl.sl (i := 1) (m := T1.length) rfl (by omega) (fun nb2 nc2 hvn hcn => ?_)
          subst hvn
          refine Wl.q (q_lss hE74_4 hE73_4 (dt hlt2)) (Wl.dg (Wc.seq (Wc.yes rfl (Wc.skip (Wx.go (Wc.seq (Wc.block (Wc.sr (Wl.q (q_idx (m := i) se_57 hE72_4 hE74_4 (by omega) (by omega) (by simp)) (Wl.q (v := Vs (ba nm)) (q_load sc_9 rfl (.row (i := 1) rfl (nm_at hnm))) (Wl.rg 1 rfl (Wc.region (Wl.q (v := v) (q_move hE9_4) (Wl.run 1 rfl (Wl.q (v := Value.map (some nb)) (q_move hE5_4) (Wl.run 1 rfl (Wl.q (q_lookup1 (i := 5) (key := .string (ba nm)) (r := .string tx) underlying112 (Maps.string_keyed underlying9) zo_9 rfl rfl rfl (keyS hb.1) (keysS hT1) (.inr (strV_yes hT1.1 htx))) (Wl.q (v := Value.agg #[Vs (ba nm), Vs tx, Vf]) (q_build (pl := [(0, 1), (1, 1), (2, 1)]) underlying53 zo_53 (by kernel_rfl) (by kernel_rfl)) (Wl.e (e_buildSlice (cs := [Vs (ba nm), Vs tx, Vf]) se_39 zo_53 (by decide) (by decide) (by kernel_rfl)) (fun b7 _ => Wl.e (e_append (i := 1) (k := 3) (m := 1) (off := 0) (news := [Vs (ba nm), Vs tx, Vf]) underlying39 sz_53 by_53 zo_53 rfl rfl rfl rfl rfl (Has.of_pt (i := 0) rfl rfl) rfl (by decide) (by simp only [maxLen]; omega) (by omega)) (fun v2 _ => Wl.run 1 rfl (Wl.done (Wx.blockEnd ?_)))))))))))))))))))))))
          refine Wx.go (Wc.region (Wl.q (q_add (c := ((i + 1 : Nat) : Int)) hE74_4 rfl (by rw [wrap_i64] <;> omega)) (Wl.run 1 rfl (Wl.done ?_))))
          refine Wx.at (i + 1, v2) ⟨(by simp only; omega), rfl, rfl, hE0_4, hE5_4, hE72_4, hE73_4, (by simp only; omega)⟩ (fun w hs => by rw [takeP hal, List.flatMap_append, List.length_append]; exact (fun hs => st_pull [1, 0] (st_sl_mk (e := 9) (by simp [namesA_len]) hcn hs)) (st_pull [1, 0, 0, 0, 0, 0, 0, 0] (st_drop (st_pull [0] hs))))
        ·
          have hie : i = (allA T1).length := by omega
          refine Wl.q (q_lss hE74_4 hE73_4 (df hlt2)) (Wl.dg (Wc.seq (Wc.no rfl (Wc.exit (Wx.thenExit (Wx.thenExit (Wx.out (Wx.go (Wc.sr (Wl.imp (L' := (sl 53 3 v ((allA T1).length) ((allA T1).flatMap pairCells)) :: (sl 9 1 nv T1.length ((namesA T1).map Go.Proofs.encStr)) :: (sl 53 3 vl l.length (l.flatMap pairCells)) :: (pt sp 114 [Vp j, Value.map (some mb)]) :: (mp mb (strV T)) :: (mp nb (strV T1)) :: (isJ j dp js) :: (isDisk dp d) :: F) (fun w hs => by rw [hie, List.take_length] at hs; exact hs) (Wl.q (v := v) (q_move hE9_4) (Wl.e (e_c call32 (pack_sl W0 v (allA T1) (by omega) (allA_size hT1))) (fun _ _ => Wl.rg 5 rfl (Wc.seq (Wc.b 1 rfl ?_)))))))))))))))
          by_cases hpk : (packP (allA T1)).2 = 0
          ·
            refine Wl.q (q_eql rfl rfl (dt hpk)) (Wl.dg (Wc.yes rfl (Wc.region (Wl.q (v := Vp sp) (q_move hE0_4) (Wl.run 1 rfl (Wl.q (q_field fo_114_0 rfl rfl) (Wl.q (q_c 3 sc_109 rfl rfl rfl) (Wl.run 1 rfl (Wl.pull [6, 6] (Wl.e (e_c call43 (Put_c W0 j dp js d (packP (allA T1)).1 hwf hS1 hsn hk0 hq0 hq1)) (fun _ _ => Wl.rg 1 rfl (Wc.seq (Wc.b 1 rfl ?_)))))))))))))
            by_cases hpe : (JS.put js d (packP (allA T1)).1).1 = 0
            ·
              refine Wl.q (q_eql rfl rfl (dt hpe)) (Wl.dg (Wc.yes rfl (Wc.region (Wl.q (v := Vp sp) (q_move hE0_4) (Wl.q (v := Value.map (some nb)) (q_move hE5_4) (Wl.run 1 rfl (Wl.q (q_field fo_114_1 rfl rfl) (Wl.e (e_store (i := 5) (v := Value.map (some nb)) sz_112 rfl rfl (fun _ _ => rfl) rfl (by simp)) (fun _ _ => Wl.dg (Wc.a 2 rfl (Wc.ret (Wx.f1 rfl (fun w hs => ?_)))))))))))))
              have hS := chgS_ok (d := d) (s := ⟨js, T⟩) (l := l) hc0 hpk hpe
              exact ⟨nb, trivial, by rw [hS]; rfl, by rw [hS]; exact (st_pull [2, 2, 2, 0, 0] (st_drop (st_drop (st_drop (st_pull [2, 2, 4] hs)))))⟩
            ·
              refine Wl.q (q_eql rfl rfl (df hpe)) (Wl.dg (Wc.no rfl (Wc.skip (Wx.go (Wc.a 2 rfl (Wc.ret (Wx.f1 rfl (fun w hs => ?_))))))))
              have hS := chgS_put (d := d) (s := ⟨js, T⟩) (l := l) hc0 hpk hpe
              exact ⟨mb, trivial, by rw [hS]; rfl, by rw [hS]; exact (st_pull [2, 2, 2, 0, 0] (st_drop (st_drop (st_drop (st_pull [2, 2, 5] hs)))))⟩
          ·
            refine Wl.q (q_eql rfl rfl (df hpk)) (Wl.dg (Wc.no rfl (Wc.skip (Wx.go (Wc.seq (Wc.b 1 rfl (Wl.q (q_eql rfl rfl (df (hpk))) (Wl.dg (Wc.no rfl (Wc.skip (Wx.go (Wc.a 2 rfl (Wc.ret (Wx.f1 rfl (fun w hs => ?_)))))))))))))))
            have hS := chgS_pk (d := d) (s := ⟨js, T⟩) (l := l) hc0 hpk
            exact ⟨mb, trivial, by rw [hS]; rfl, by rw [hS]; exact (st_drop (st_drop (st_drop (st_pull [0, 0, 3] hs))))⟩
end Go.Proofs.YtjnejkdamhefgaaGreatDoor
