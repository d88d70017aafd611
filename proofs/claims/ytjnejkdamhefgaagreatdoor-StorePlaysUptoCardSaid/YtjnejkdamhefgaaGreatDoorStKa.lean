/- A part of the proof. -/
import Derived.Test.YtjnejkdamhefgaaGreatDoorStK
namespace Go.Proofs.YtjnejkdamhefgaaGreatDoor
open Tryz
open Go Go.SL Go.St Go.Wr Go.RowKit
open Go.Dk (DS WF)
open Go.Jn (JS Ok openD_up)
set_option linter.unusedVariables false
set_option maxRecDepth 8000
theorem zo_161 : zeroOf prog 161 = some (Value.agg #[Value.slice none 0 0, Value.int .i64 0]) := by kernel_rfl
set_option maxHeartbeats 4000000 in
theorem refpack_sl (W0 : World) (vl : Value) (l : List PairR) (hlm : l.length ≤ 9223372036854775807) (hsz : ∀ p ∈ l, p.n.size ≤ 9223372036854775807 ∧ p.t.size ≤ 9223372036854775807) :
    Con prog W0 46 #[vl] [sl 53 3 vl l.length (l.flatMap pairCells)] (X := Unit) (fun _ => True) (fun _ => .tuple #[.string (packP l).1, .int .i64 (packP l).2]) (fun _ => [sl 53 3 vl l.length (l.flatMap pairCells)]) := by
  refine Con.of func46 rfl ntmps46 rfl (fun F => ?_)
  show Wc _ W0 _ _ _ _ _ ((sl 53 3 vl l.length (l.flatMap pairCells)) :: F)
  refine Wc.a 2 rfl (Wc.seq (Wc.b 1 rfl (Wl.q (q_len_sl (i := 0) underlying39 rfl rfl) ?_)))
  by_cases hbig : ((l.length : Nat) : Int) > 256
  ·
    refine Wl.q (q_gtr rfl rfl (dt hbig)) (Wl.dg (Wc.yes rfl (Wc.a 2 rfl (Wc.ret (Wx.thenRet (Wx.f2 rfl (fun w hs => ?_)))))))
    exact ⟨(), trivial, by rw [packP_many (by omega)]; rfl, hs⟩
  ·
    refine Wl.q (q_gtr rfl rfl (df hbig)) (Wl.dg (Wc.no rfl (Wc.skip (Wx.go (Wc.sr (Wl.q (v := Value.agg #[Vn, Vi 0]) (q_build (pl := [(0, 1), (1, 1)]) underlying161 zo_161 (by kernel_rfl) (by kernel_rfl)) (Wl.e (e_box (x := .tmp 9) (vs := [Vn, Vi 0]) rfl) (fun q _ => Wl.rg 1 rfl (Wc.sr (Wl.imp (L' := (isO q []) :: (sl 53 3 vl l.length (l.flatMap pairCells)) :: F) (fun w hs => isO_mk (st_swap (st_sl_nil hs))) (Wl.run 2 rfl (Wl.q (q_len_sl (i := 1) underlying39 rfl rfl) (Wl.e (e_c call183 (olist_c W0 q [] ((l.length : Nat) : Int) (listW_zero (by omega)) (by have hlw := listW_few (n := l.length) (by omega); have hel := enc_len_le 9 (zz ((l.length : Nat) : Int)) (by have := zz_lt (n := ((l.length : Nat) : Int)) (by omega) (by omega); omega); rw [hlw, List.length_nil]; omega))) (fun _ _ => Wl.dg (Wc.seq (Wc.a 1 rfl (Wc.block ?_)))))))))))))))))
    refine Wc.loop (X := Nat) (fun k E => E 5 = Vi ((k : Nat) : Int) ∧ E 0 = vl ∧ E 4 = Vp q ∧ k ≤ l.length ∧ wrongP none l = wrongP (prevP l k) (l.drop k)) (fun k => (sl 53 3 vl l.length (l.flatMap pairCells)) :: (isO q (([] ++ (listW ((l.length : Nat) : Int)).2) ++ bytesP (l.take k))) :: F) (fun k => l.length - k) 0 ?_ ?_ ?_
    · exact ⟨rfl, rfl, rfl, (Nat.zero_le _), rfl⟩
    · exact fun w hs => by rw [show (([] ++ (listW ((l.length : Nat) : Int)).2) ++ bytesP (l.take 0)) = [] ++ (listW ((l.length : Nat) : Int)).2 from List.append_nil _]; exact (st_pull [1, 0] (hs))
    · rintro k E2 ⟨hE5_0, hE0_0, hE4_0, hk, hp0⟩
      have hbt := bytesP_take l (k := k) (by omega)
      have hlw := listW_few (n := l.length) (by omega)
      have hel := enc_len_le 9 (zz ((l.length : Nat) : Int)) (by have := zz_lt (n := ((l.length : Nat) : Int)) (by omega) (by omega); omega)
      have hll : (listW ((l.length : Nat) : Int)).2.length ≤ 10 := by rw [hlw]; exact hel
      refine Wc.seq (Wc.sr (Wl.q (v := Vi ((k : Nat) : Int)) (q_move hE5_0) (Wl.q (v := vl) (q_move hE0_0) (Wl.q (q_len_sl (i := 0) underlying39 rfl rfl) ?_))))
      by_cases hlt : ((k : Nat) : Int) < ((l.length : Nat) : Int)
      ·
        obtain ⟨⟨on, ot, og⟩, hget⟩ : ∃ o, l[k]? = some o := ⟨l[k]'(by omega), List.getElem?_eq_getElem (by omega)⟩
        have hsz0 := hsz _ (List.mem_of_getElem? hget)
        simp only at hsz0
        refine Wl.sl (i := 0) (m := l.length) rfl (by omega) (fun vb vc hv hcl => ?_)
        subst hv
        refine Wl.q (q_lss rfl rfl (dt hlt)) (Wl.dg (Wc.yes rfl (Wc.skip (Wx.go (Wc.seq (Wc.block (Wc.seq (Wc.sr ?_))))))))
        by_cases hg : og = true
        ·
          subst hg
          by_cases hlong : longP ⟨on, ot, true⟩
          ·
            refine Wl.q (v := Vl vb l.length vc) (q_move hE0_0) (Wl.q (v := Vi ((k : Nat) : Int)) (q_move hE5_0) (Wl.q (q_idx (m := k * 3) se_39 rfl rfl (by omega) (by omega) (by simp)) (Wl.q (v := Value.agg #[Vs on, Vs ot, Vt]) (q_loadAgg (vs := [Vs on, Vs ot, Vt]) ag_53 rfl (fun j u hj => .row (i := 0) rfl (flat3P hget j u hj))) (Wl.e (e_c call182 (Con.eqs (val' := fun _ => .bool true) (post' := fun _ => []) (long_c W0 on ot true) (fun _ => by rw [dt hlong]) (fun _ => rfl))) (fun _ _ => Wl.dg (Wc.yes rfl (Wc.a 2 rfl (Wc.ret (Wx.thenRet (Wx.blockRet (Wx.thenRet (Wx.thenRet (Wx.blockRet (Wx.thenRet (Wx.f2 rfl (fun w hs => ?_))))))))))))))))
            exact ⟨(), trivial, by rw [packP_err (by omega) (hp0.trans (wrong_long hget hlong)) (by decide)]; rfl, ((fun hs => st_sl_mk (e := 53) (flat_len3P l) hcl hs) (st_drop (st_pull [1] hs)))⟩
          ·
            have hon : on.size ≤ 65536 := by unfold longP at hlong; simp only at hlong; omega
            have hot : ot.size ≤ 65536 := by unfold longP at hlong; simp only at hlong; omega
            refine Wl.q (v := Vl vb l.length vc) (q_move hE0_0) (Wl.q (v := Vi ((k : Nat) : Int)) (q_move hE5_0) (Wl.q (q_idx (m := k * 3) se_39 rfl rfl (by omega) (by omega) (by simp)) (Wl.q (v := Value.agg #[Vs on, Vs ot, Vt]) (q_loadAgg (vs := [Vs on, Vs ot, Vt]) ag_53 rfl (fun j u hj => .row (i := 0) rfl (flat3P hget j u hj))) (Wl.e (e_c call182 (Con.eqs (val' := fun _ => .bool false) (post' := fun _ => []) (long_c W0 on ot true) (fun _ => by rw [df hlong]) (fun _ => rfl))) (fun _ _ => Wl.dg (Wc.no rfl (Wc.skip (Wx.go (Wc.seq (Wc.seq (Wc.drawsS [] ((slp 53 3 vb vc (l.flatMap pairCells)) :: (isO q (([] ++ (listW ((l.length : Nat) : Int)).2) ++ bytesP (l.take k))) :: []) (by kernel_rfl) (Wr.p 0 oo2 rfl (q_move hE0_0) (Wr.p 1 oo2 rfl (q_move hE5_0) (Wr.p 2 oo2 rfl (q_idx (m := k * 3) se_39 rfl rfl (by omega) (by omega) (by simp)) (Wr.p 3 oo2 rfl (q_field (m := k * 3 + 2) fo_53_2 rfl rfl) (Wr.t (v := Vt) 4 oo2 rfl (q_load sc_4 rfl (.row (i := 0) rfl (flat3P hget 2 _ rfl))) (Wr.p 5 oo2 rfl (q_move rfl) (Wr.u 6 oo2 rfl (Wr.u 7 oo2 rfl (Wr.u 8 oo2 rfl (Wr.u 9 oo2 rfl (Wr.u 10 oo2 rfl (Wr.u 11 oo2 rfl ?_)))))))))))))))))))))))
            refine Wr.u 12 oo2 rfl (Wr.u 13 oo2 rfl (Wr.u 14 oo2 rfl (Wr.u 15 oo2 rfl (Wr.u 16 oo2 rfl (Wr.u 17 oo2 rfl (Wr.u 18 oo2 rfl (Wr.u 19 oo2 rfl (Wr.u 20 oo2 rfl (Wr.u 21 oo2 rfl (Wr.p 22 oo2 rfl (q_pick (t := true) rfl rfl) (Wr.z (Wx.go (Wc.yes rfl (Wc.a 2 rfl (Wc.ret (Wx.thenRet (Wx.blockRet (Wx.thenRet (Wx.thenRet (Wx.blockRet (Wx.thenRet (Wx.f2 rfl (fun w hs => ?_)))))))))))))))))))))))
            exact ⟨(), trivial, by rw [packP_err (by omega) (hp0.trans (wrong_gone hget hlong rfl)) (by decide)]; rfl, ((fun hs => st_sl_mk (e := 53) (flat_len3P l) hcl hs) (st_drop (st_pull [1] hs)))⟩
        ·
          obtain rfl : og = false := Bool.eq_false_iff.2 hg
          by_cases hlong : longP ⟨on, ot, false⟩
          ·
            refine Wl.q (v := Vl vb l.length vc) (q_move hE0_0) (Wl.q (v := Vi ((k : Nat) : Int)) (q_move hE5_0) (Wl.q (q_idx (m := k * 3) se_39 rfl rfl (by omega) (by omega) (by simp)) (Wl.q (v := Value.agg #[Vs on, Vs ot, Vf]) (q_loadAgg (vs := [Vs on, Vs ot, Vf]) ag_53 rfl (fun j u hj => .row (i := 0) rfl (flat3P hget j u hj))) (Wl.e (e_c call182 (Con.eqs (val' := fun _ => .bool true) (post' := fun _ => []) (long_c W0 on ot false) (fun _ => by rw [dt hlong]) (fun _ => rfl))) (fun _ _ => Wl.dg (Wc.yes rfl (Wc.a 2 rfl (Wc.ret (Wx.thenRet (Wx.blockRet (Wx.thenRet (Wx.thenRet (Wx.blockRet (Wx.thenRet (Wx.f2 rfl (fun w hs => ?_))))))))))))))))
            exact ⟨(), trivial, by rw [packP_err (by omega) (hp0.trans (wrong_long hget hlong)) (by decide)]; rfl, ((fun hs => st_sl_mk (e := 53) (flat_len3P l) hcl hs) (st_drop (st_pull [1] hs)))⟩
          ·
            have hon : on.size ≤ 65536 := by unfold longP at hlong; simp only at hlong; omega
            have hot : ot.size ≤ 65536 := by unfold longP at hlong; simp only at hlong; omega
            refine Wl.q (v := Vl vb l.length vc) (q_move hE0_0) (Wl.q (v := Vi ((k : Nat) : Int)) (q_move hE5_0) (Wl.q (q_idx (m := k * 3) se_39 rfl rfl (by omega) (by omega) (by simp)) (Wl.q (v := Value.agg #[Vs on, Vs ot, Vf]) (q_loadAgg (vs := [Vs on, Vs ot, Vf]) ag_53 rfl (fun j u hj => .row (i := 0) rfl (flat3P hget j u hj))) (Wl.e (e_c call182 (Con.eqs (val' := fun _ => .bool false) (post' := fun _ => []) (long_c W0 on ot false) (fun _ => by rw [df hlong]) (fun _ => rfl))) (fun _ _ => Wl.dg (Wc.no rfl (Wc.skip (Wx.go (Wc.seq (Wc.seq (Wc.drawsS [] ((slp 53 3 vb vc (l.flatMap pairCells)) :: (isO q (([] ++ (listW ((l.length : Nat) : Int)).2) ++ bytesP (l.take k))) :: []) (by kernel_rfl) (Wr.p 0 oo2 rfl (q_move hE0_0) (Wr.p 1 oo2 rfl (q_move hE5_0) (Wr.p 2 oo2 rfl (q_idx (m := k * 3) se_39 rfl rfl (by omega) (by omega) (by simp)) (Wr.p 3 oo2 rfl (q_field (m := k * 3 + 2) fo_53_2 rfl rfl) (Wr.t (v := Vf) 4 oo2 rfl (q_load sc_4 rfl (.row (i := 0) rfl (flat3P hget 2 _ rfl))) (Wr.p 5 oo2 rfl (q_move rfl) (Wr.p 6 oo2 rfl (q_move hE5_0) ?_))))))))))))))))))
            by_cases hk0 : ((k : Nat) : Int) > 0
            ·
              obtain ⟨q', hq⟩ : ∃ q, l[k - 1]? = some q := ⟨l[k - 1]'(by omega), List.getElem?_eq_getElem (by omega)⟩
              refine Wr.p 7 oo2 rfl (q_gtr rfl rfl (dt hk0)) (Wr.p 8 oo2 rfl (q_move rfl) (Wr.p 9 oo2 rfl (q_move hE0_0) (Wr.p 10 oo2 rfl (q_move hE5_0) (Wr.p 11 oo2 rfl (q_idx (m := k * 3) se_39 rfl rfl (by omega) (by omega) (by simp)) (Wr.p 12 oo2 rfl (q_field (m := k * 3) fo_53_0 rfl rfl) (Wr.t (v := Vs on) 13 oo2 rfl (q_load sc_9 rfl (.row (i := 0) rfl (flat3P hget 0 _ rfl))) (Wr.p 14 oo2 rfl (q_move hE0_0) (Wr.p 15 oo2 rfl (q_move hE5_0) (Wr.p 16 oo2 rfl (q_sub (c := (((k - 1) : Nat) : Int)) rfl rfl (by rw [wrap_i64 (by omega) (by omega)]; omega)) (Wr.p 17 oo2 rfl (q_idx (m := (k - 1) * 3) se_39 rfl rfl (by omega) (by omega) (by simp)) (Wr.p 18 oo2 rfl (q_field (m := (k - 1) * 3) fo_53_0 rfl rfl) (Wr.t (v := Vs q'.n) 19 oo2 rfl (q_load sc_9 rfl (.row (i := 0) rfl (flat3P hq 0 _ rfl))) ?_))))))))))))
              by_cases hlt2 : ltS q'.n on
              ·
                refine Wr.p 20 oo2 rfl (q_leq_str (r := false) rfl rfl (leq_lt hlt2)) (Wr.p 21 oo2 rfl (q_pick (t := true) rfl rfl) (Wr.p 22 oo2 rfl (q_pick (t := false) rfl rfl) (Wr.z (Wx.go (Wc.no rfl (Wc.skip (Wx.go (Wc.sr (Wl.q (v := Vp q) (q_move hE4_0) (Wl.q (v := Vl vb l.length vc) (q_move hE0_0) (Wl.q (v := Vi ((k : Nat) : Int)) (q_move hE5_0) (Wl.q (q_idx (m := k * 3) se_39 rfl rfl (by omega) (by omega) (by simp)) (Wl.q (q_field (m := k * 3) fo_53_0 rfl rfl) (Wl.q (v := Vs on) (q_load sc_9 rfl (.row (i := 0) rfl (flat3P hget 0 _ rfl))) (Wl.pull [1] (Wl.e (e_c call184 (otext_c W0 q (([] ++ (listW ((l.length : Nat) : Int)).2) ++ bytesP (l.take k)) on (textW_zero hon) (by simp only [List.length_append, List.length_nil]; have := textW_len on; have := textW_len ot; omega))) (fun _ _ => Wl.dg (Wc.region (Wl.q (v := Vp q) (q_move hE4_0) (Wl.q (v := Vl vb l.length vc) (q_move hE0_0) (Wl.q (v := Vi ((k : Nat) : Int)) (q_move hE5_0) (Wl.q (q_idx (m := k * 3) se_39 rfl rfl (by omega) (by omega) (by simp)) (Wl.q (q_field (m := k * 3 + 1) fo_53_1 rfl rfl) ?_)))))))))))))))))))))))
                refine Wl.q (v := Vs ot) (q_load sc_9 rfl (.row (i := 1) rfl (flat3P hget 1 _ rfl))) (Wl.e (e_c call184 (otext_c W0 q ((([] ++ (listW ((l.length : Nat) : Int)).2) ++ bytesP (l.take k)) ++ (textW on).2) ot (textW_zero hot) (by simp only [List.length_append, List.length_nil]; have := textW_len on; have := textW_len ot; omega))) (fun _ _ => Wl.done (Wx.blockEnd (Wx.go (Wc.region (Wl.q (v := Vi ((k : Nat) : Int)) (q_move hE5_0) (Wl.q (q_add (c := ((k + 1 : Nat) : Int)) rfl rfl (by rw [wrap_i64] <;> omega)) (Wl.run 1 rfl (Wl.done ?_)))))))))
                refine Wx.at (k + 1) ⟨(by omega), rfl, hE0_0, hE4_0, (by omega), (hp0.trans (wrong_next hget hlong rfl (by omega) hq hlt2))⟩ (fun w hs => by rw [bytesP_snoc hget, ← List.append_assoc, ← List.append_assoc]; exact ((fun hs => st_sl_mk (e := 53) (flat_len3P l) hcl hs) (st_pull [1, 0] (hs))))
              ·
                refine Wr.p 20 oo2 rfl (q_leq_str (r := true) rfl rfl (leq_ge hlt2)) (Wr.p 21 oo2 rfl (q_pick (t := true) rfl rfl) (Wr.p 22 oo2 rfl (q_pick (t := false) rfl rfl) (Wr.z (Wx.go (Wc.yes rfl (Wc.a 2 rfl (Wc.ret (Wx.thenRet (Wx.blockRet (Wx.thenRet (Wx.thenRet (Wx.blockRet (Wx.thenRet (Wx.f2 rfl (fun w hs => ?_)))))))))))))))
                exact ⟨(), trivial, by rw [packP_err (by omega) (hp0.trans (wrong_ord hget hlong (by omega) hq hlt2)) (by decide)]; rfl, ((fun hs => st_sl_mk (e := 53) (flat_len3P l) hcl hs) (st_drop (st_pull [1] hs)))⟩
            ·
              have hk00 : k = 0 := by omega
              refine Wr.p 7 oo2 rfl (q_gtr rfl rfl (df hk0)) (Wr.p 8 oo2 rfl (q_move rfl) (Wr.u 9 oo2 rfl (Wr.u 10 oo2 rfl (Wr.u 11 oo2 rfl (Wr.u 12 oo2 rfl (Wr.u 13 oo2 rfl (Wr.u 14 oo2 rfl (Wr.u 15 oo2 rfl (Wr.u 16 oo2 rfl (Wr.u 17 oo2 rfl (Wr.u 18 oo2 rfl (Wr.u 19 oo2 rfl (Wr.u 20 oo2 rfl (Wr.p 21 oo2 rfl (q_pick (t := false) rfl rfl) (Wr.p 22 oo2 rfl (q_pick (t := false) rfl rfl) (Wr.z (Wx.go (Wc.no rfl (Wc.skip (Wx.go (Wc.sr (Wl.q (v := Vp q) (q_move hE4_0) (Wl.q (v := Vl vb l.length vc) (q_move hE0_0) ?_)))))))))))))))))))))))
              refine Wl.q (v := Vi ((k : Nat) : Int)) (q_move hE5_0) (Wl.q (q_idx (m := k * 3) se_39 rfl rfl (by omega) (by omega) (by simp)) (Wl.q (q_field (m := k * 3) fo_53_0 rfl rfl) (Wl.q (v := Vs on) (q_load sc_9 rfl (.row (i := 0) rfl (flat3P hget 0 _ rfl))) (Wl.pull [1] (Wl.e (e_c call184 (otext_c W0 q (([] ++ (listW ((l.length : Nat) : Int)).2) ++ bytesP (l.take k)) on (textW_zero hon) (by simp only [List.length_append, List.length_nil]; have := textW_len on; have := textW_len ot; omega))) (fun _ _ => Wl.dg (Wc.region (Wl.q (v := Vp q) (q_move hE4_0) (Wl.q (v := Vl vb l.length vc) (q_move hE0_0) (Wl.q (v := Vi ((k : Nat) : Int)) (q_move hE5_0) (Wl.q (q_idx (m := k * 3) se_39 rfl rfl (by omega) (by omega) (by simp)) (Wl.q (q_field (m := k * 3 + 1) fo_53_1 rfl rfl) (Wl.q (v := Vs ot) (q_load sc_9 rfl (.row (i := 1) rfl (flat3P hget 1 _ rfl))) (Wl.e (e_c call184 (otext_c W0 q ((([] ++ (listW ((l.length : Nat) : Int)).2) ++ bytesP (l.take k)) ++ (textW on).2) ot (textW_zero hot) (by simp only [List.length_append, List.length_nil]; have := textW_len on; have := textW_len ot; omega))) (fun _ _ => Wl.done (Wx.blockEnd (Wx.go (Wc.region (Wl.q (v := Vi ((k : Nat) : Int)) (q_move hE5_0) (Wl.q (q_add (c := ((k + 1 : Nat) : Int)) rfl rfl (by rw [wrap_i64] <;> omega)) (Wl.run 1 rfl (Wl.done ?_))))))))))))))))))))))
              refine Wx.at (k + 1) ⟨(by omega), rfl, hE0_0, hE4_0, (by omega), (hp0.trans (by subst hk00; exact wrong_first hget hlong rfl))⟩ (fun w hs => by rw [bytesP_snoc hget, ← List.append_assoc, ← List.append_assoc]; exact ((fun hs => st_sl_mk (e := 53) (flat_len3P l) hcl hs) (st_pull [1, 0] (hs))))
      ·
        have hke : k = l.length := by omega
        refine Wl.q (q_lss rfl rfl (df hlt)) (Wl.dg (Wc.no rfl (Wc.exit (Wx.thenExit (Wx.thenExit (Wx.out (Wx.go (Wc.sr (Wl.q (v := Vp q) (q_move hE4_0) (Wl.pull [1] (Wl.e (e_c call185 (obytes_c W0 q (([] ++ (listW ((l.length : Nat) : Int)).2) ++ bytesP (l.take k)))) (fun _ _ => Wl.rg 2 rfl (Wc.ret (Wx.f2 rfl (fun w hs => ?_)))))))))))))))
        have hw0 : wrongP none l = 0 := by rw [hp0, hke, List.drop_length]; cases prevP l l.length <;> rfl
        have hlw := listW_few (n := l.length) (by omega)
        exact ⟨(), trivial, by rw [packP_ok (by omega) hw0, hke, List.take_length, hlw]; rfl, (st_drop (st_pull [0] hs))⟩
end Go.Proofs.YtjnejkdamhefgaaGreatDoor
