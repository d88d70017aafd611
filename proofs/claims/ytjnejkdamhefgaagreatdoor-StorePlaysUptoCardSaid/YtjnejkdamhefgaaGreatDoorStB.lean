/- A part of the proof. -/
import Derived.Test.YtjnejkdamhefgaaGreatDoorStA
namespace Go.Proofs.YtjnejkdamhefgaaGreatDoor
open Tryz
open Go Go.SL Go.St Go.Wr Go.RowKit
open Go.Dk (DS WF)
open Go.Jn (JS Ok openD_up)
set_option linter.unusedVariables false
set_option maxRecDepth 8000
theorem by_53 : (prog.info? 53).map (·.bytes) = some 40 := by kernel_rfl
theorem rtext_no (W0 : World) (r : Nat) (s : ByteArray) (a : Nat) (ha : a ≤ s.size) (hsz : s.size ≤ 9223372036854775807) (h : takeText s a = none) : Con1 prog W0 168 #[Vp r] [pt r 438 [Vt, Vs s, Vi ((a : Nat) : Int)]] (.tuple #[.string ⟨#[]⟩, .int .i64 4]) [pt r 438 [Vt, Vs s, Vi ((a : Nat) : Int)]] := by
 have := rtext_c W0 r s a ha hsz; rw [h] at this; exact this
theorem rtext_yes (W0 : World) (r : Nat) (s : ByteArray) (a : Nat) (ha : a ≤ s.size) (hsz : s.size ≤ 9223372036854775807) (x : ByteArray) (b : Nat) (h : takeText s a = some (x, b)) : Con1 prog W0 168 #[Vp r] [pt r 438 [Vt, Vs s, Vi ((a : Nat) : Int)]] (.tuple #[.string x, .int .i64 0]) [pt r 438 [Vt, Vs s, Vi ((b : Nat) : Int)]] := by
 have := rtext_c W0 r s a ha hsz; rw [h] at this; exact this
theorem rlist_no (W0 : World) (r : Nat) (s : ByteArray) (a : Nat) (ha : a ≤ s.size) (hsz : s.size ≤ 9223372036854775807) (h : takeList s a = none) : Con1 prog W0 167 #[Vp r] [pt r 438 [Vt, Vs s, Vi ((a : Nat) : Int)]] (.tuple #[.int .i64 0, .int .i64 4]) [pt r 438 [Vt, Vs s, Vi ((a : Nat) : Int)]] := by
 have := rlist_c W0 r s a ha hsz; rw [h] at this; exact this
theorem rlist_yes (W0 : World) (r : Nat) (s : ByteArray) (a : Nat) (ha : a ≤ s.size) (hsz : s.size ≤ 9223372036854775807) (n b : Nat) (h : takeList s a = some (n, b)) : Con1 prog W0 167 #[Vp r] [pt r 438 [Vt, Vs s, Vi ((a : Nat) : Int)]] (.tuple #[.int .i64 ((n : Nat) : Int), .int .i64 0]) [pt r 438 [Vt, Vs s, Vi ((b : Nat) : Int)]] := by
 have := rlist_c W0 r s a ha hsz; rw [h] at this; exact this
theorem unpack_w (W0 : World) (s : ByteArray) (hsz : s.size ≤ 9223372036854775807) :
    Con prog W0 36 #[Vs s] [] (X := Value) (fun _ => True) (fun v => .tuple #[v, .int .i64 (unpackE s)]) (fun v => [sl 53 3 v (unpackL s).length ((unpackL s).flatMap pairCells)]) := by
  refine Con.of func36 rfl ntmps36 rfl (fun F => ?_)
  show Wc _ W0 _ _ _ _ _ (F)
  refine Wc.sr (Wl.q (v := Vn) (q_assign rfl) (Wl.q (v := Vi 0) (q_assign rfl) (Wl.dg (Wc.sr (Wl.q (v := Vs s) (q_move rfl) (Wl.e (e_c call166 (rnew_c W0 s)) (fun r _ => Wl.q (v := Vp r) (q_assign rfl) (Wl.dg (Wc.sr ?_)))))))))
  by_cases hno0 : takeList s 0 = none
  ·
    refine Wl.q (v := Vp r) (q_move rfl) (Wl.e (e_c call167 (rlist_no W0 r s 0 (Nat.zero_le _) hsz hno0)) (fun _ _ => Wl.q (v := Value.tuple #[Vi 0, Vi 4]) (q_move rfl) (Wl.q (q_extract (i := 0) rfl rfl) (Wl.q (q_extract (i := 1) rfl rfl) (Wl.q (v := Vi 0) (q_assign rfl) (Wl.q (v := Vi 4) (q_assign rfl) (Wl.dg (Wc.seq (Wc.sr (Wl.q (v := Vi 4) (q_move rfl) (Wl.q (v := Vt) (q_neq rfl rfl (df (by decide))) (Wl.q (v := Vt) (q_move rfl) (Wl.no (Wl.no (Wl.q (v := Vt) (q_pick (t := true) rfl rfl) (Wl.dg (Wc.yes rfl (Wc.sr (Wl.q (v := Vn) (q_assign rfl) (Wl.q (v := Vi 4) (q_assign rfl) (Wl.dg (Wc.ret (Wx.thenRet ?_)))))))))))))))))))))))
    refine Wx.f2 rfl (fun w hs => ?_)
    obtain ⟨e1, e2⟩ := unpackE_none (unpack_head hno0)
    refine ⟨.slice none 0 0, trivial, by rw [e1]; rfl, ?_⟩
    rw [e2]
    exact st_sl_nil (st_drop (st_pull [0] hs))
  ·
    obtain ⟨n, a0, hl0, ha0⟩ : ∃ n a, takeList s 0 = some (n, a) ∧ a ≤ s.size := by rcases h : takeList s 0 with _ | ⟨u, v⟩; (exact absurd h hno0); (exact ⟨u, v, rfl, (takeList_le h).1⟩)
    refine Wl.q (v := Vp r) (q_move rfl) (Wl.e (e_c call167 (rlist_yes W0 r s 0 (Nat.zero_le _) hsz n a0 hl0)) (fun _ _ => Wl.q (v := Value.tuple #[Vi ((n : Nat) : Int), Vi 0]) (q_move rfl) (Wl.q (q_extract (i := 0) rfl rfl) (Wl.q (q_extract (i := 1) rfl rfl) (Wl.q (v := Vi ((n : Nat) : Int)) (q_assign rfl) (Wl.q (v := Vi 0) (q_assign rfl) (Wl.dg (Wc.seq (Wc.sr (Wl.q (v := Vi 0) (q_move rfl) (Wl.q (v := Vf) (q_neq rfl rfl (dt (by decide))) (Wl.q (v := Vf) (q_move rfl) (Wl.q (v := Vi ((n : Nat) : Int)) (q_move rfl) ?_)))))))))))))
    by_cases hmany : ((n : Nat) : Int) > 256
    ·
      refine Wl.q (q_gtr rfl rfl (dt hmany)) (Wl.q (v := Vt) (q_pick (t := false) rfl rfl) (Wl.dg (Wc.yes rfl (Wc.sr (Wl.q (v := Vn) (q_assign rfl) (Wl.q (v := Vi 4) (q_assign rfl) (Wl.dg (Wc.ret (Wx.thenRet (Wx.f2 rfl (fun w hs => ?_)))))))))))
      obtain ⟨e1, e2⟩ := unpackE_none (unpack_many hl0 (by omega))
      refine ⟨.slice none 0 0, trivial, by rw [e1]; rfl, ?_⟩
      rw [e2]
      exact st_sl_nil (st_drop (st_pull [0] hs))
    ·
      refine Wl.q (q_gtr rfl rfl (df hmany)) (Wl.q (v := Vf) (q_pick (t := false) rfl rfl) (Wl.dg (Wc.no rfl (Wc.skip (Wx.go (Wc.sr (Wl.q (v := Vn) (q_assign rfl) (Wl.dg (Wc.seq (Wc.sr (Wl.q (v := Vi ((n : Nat) : Int)) (q_move rfl) (Wl.q (v := Vi 0) (q_move rfl) (Wl.dg (Wc.block ?_))))))))))))))
      refine Wc.loop (X := Nat × List PairR × Nat × Value) (fun (k, ls, a, v) E => E 26 = Vi ((k : Nat) : Int) ∧ E 7 = v ∧ E 4 = Vp r ∧ E 25 = Vi ((n : Nat) : Int) ∧ k ≤ n ∧ ls.length = k ∧ a ≤ s.size ∧ RelP s n a0 k ls a) (fun (k, ls, a, v) => (sl 53 3 v ls.length (ls.flatMap pairCells)) :: (pt r 438 [Vt, Vs s, Vi ((a : Nat) : Int)]) :: F) (fun (k, ls, a, v) => n - k) (0, [], a0, Vn) ?_ ?_ ?_
      · exact ⟨rfl, rfl, rfl, rfl, (Nat.zero_le _), rfl, ha0, (RelP.start s n a0)⟩
      · exact fun w hs => st_sl_nil hs
      · rintro ⟨k, ls, a, v⟩ E2 ⟨hE26_0, hE7_0, hE4_0, hE25_0, hk, hls, ha, hR⟩
        dsimp only at *
        refine Wc.sr ?_
        by_cases hlt : ((k : Nat) : Int) < ((n : Nat) : Int)
        ·
          refine Wl.q (q_lss hE26_0 hE25_0 (dt hlt)) (Wl.dg (Wc.seq (Wc.yes rfl (Wc.skip (Wx.go (Wc.seq (Wc.block (Wc.sr ?_))))))))
          by_cases hno1 : takeText s a = none
          ·
            refine Wl.q (v := Vp r) (q_move hE4_0) (Wl.pull [1] (Wl.e (e_c call168 (rtext_no W0 r s a ha hsz hno1)) (fun _ _ => Wl.imp (L' := (pt r 438 [Vt, Vs s, Vi ((a : Nat) : Int)]) :: (sl 53 3 v ls.length (ls.flatMap pairCells)) :: F) (fun _ h => h) (Wl.q (v := Value.tuple #[Vs (⟨#[]⟩), Vi 4]) (q_move rfl) (Wl.q (q_extract (i := 0) rfl rfl) (Wl.q (q_extract (i := 1) rfl rfl) (Wl.q (v := Vs (⟨#[]⟩)) (q_assign rfl) (Wl.q (v := Vi 4) (q_assign rfl) (Wl.dg (Wc.sr (Wl.q (v := Vp r) (q_move hE4_0) (Wl.e (e_c call168 (rtext_no W0 r s a ha hsz hno1)) (fun _ _ => Wl.q (v := Value.tuple #[Vs (⟨#[]⟩), Vi 4]) (q_move rfl) (Wl.q (q_extract (i := 0) rfl rfl) (Wl.q (q_extract (i := 1) rfl rfl) (Wl.q (v := Vs (⟨#[]⟩)) (q_assign rfl) (Wl.q (v := Vi 4) (q_assign rfl) (Wl.dg (Wc.seq (Wc.sr (Wl.q (v := Vi 4) (q_move rfl) (Wl.q (v := Vt) (q_neq rfl rfl (df (by decide))) (Wl.q (v := Vt) (q_move rfl) ?_)))))))))))))))))))))))
            refine Wl.no (Wl.no (Wl.q (v := Vt) (q_pick (t := true) rfl rfl) (Wl.q (v := Vt) (q_move rfl) (Wl.no (Wl.no (Wl.no (Wl.no (Wl.no (Wl.no (Wl.no (Wl.no (Wl.no (Wl.no (Wl.no (Wl.no (Wl.no (Wl.no (Wl.q (v := Vt) (q_pick (t := true) rfl rfl) (Wl.dg (Wc.yes rfl (Wc.sr (Wl.q (v := Vn) (q_assign rfl) (Wl.q (v := Vi 4) (q_assign rfl) ?_)))))))))))))))))))))))
            refine Wl.dg (Wc.ret (Wx.thenRet (Wx.blockRet (Wx.thenRet (Wx.thenRet (Wx.blockRet (Wx.thenRet (Wx.f2 rfl (fun w hs => ?_)))))))))
            obtain ⟨e1, e2⟩ := unpackE_none (unpack_bad hl0 (hR.bad1 (by omega) hno1))
            refine ⟨.slice none 0 0, trivial, by rw [e1]; rfl, ?_⟩
            rw [e2]
            exact st_sl_nil (st_drop (st_drop (st_pull [0, 0] hs)))
          ·
            obtain ⟨x, b, htx⟩ : ∃ x b, takeText s a = some (x, b) := by rcases h : takeText s a with _ | ⟨u, v⟩; (exact absurd h hno1); (exact ⟨u, v, rfl⟩)
            refine Wl.q (v := Vp r) (q_move hE4_0) (Wl.pull [1] (Wl.e (e_c call168 (rtext_yes W0 r s a ha hsz x b htx)) (fun _ _ => Wl.q (v := Value.tuple #[Vs x, Vi 0]) (q_move rfl) (Wl.q (q_extract (i := 0) rfl rfl) (Wl.q (q_extract (i := 1) rfl rfl) (Wl.q (v := Vs x) (q_assign rfl) (Wl.q (v := Vi 0) (q_assign rfl) (Wl.dg (Wc.sr ?_)))))))))
            by_cases hno2 : takeText s b = none
            ·
              refine Wl.q (v := Vp r) (q_move hE4_0) (Wl.e (e_c call168 (rtext_no W0 r s b (takeText_le htx) hsz hno2)) (fun _ _ => Wl.q (v := Value.tuple #[Vs (⟨#[]⟩), Vi 4]) (q_move rfl) (Wl.q (q_extract (i := 0) rfl rfl) (Wl.q (q_extract (i := 1) rfl rfl) (Wl.q (v := Vs (⟨#[]⟩)) (q_assign rfl) (Wl.q (v := Vi 4) (q_assign rfl) (Wl.dg (Wc.seq (Wc.sr (Wl.q (v := Vi 0) (q_move rfl) (Wl.q (v := Vf) (q_neq rfl rfl (dt (by decide))) (Wl.q (v := Vf) (q_move rfl) (Wl.q (v := Vi 4) (q_move rfl) (Wl.q (v := Vt) (q_neq rfl rfl (df (by decide))) (Wl.q (v := Vt) (q_pick (t := false) rfl rfl) (Wl.q (v := Vt) (q_move rfl) (Wl.no (Wl.no (Wl.no (Wl.no (Wl.no (Wl.no (Wl.no ?_)))))))))))))))))))))))
              refine Wl.no (Wl.no (Wl.no (Wl.no (Wl.no (Wl.no (Wl.no (Wl.q (v := Vt) (q_pick (t := true) rfl rfl) (Wl.dg (Wc.yes rfl (Wc.sr (Wl.q (v := Vn) (q_assign rfl) (Wl.q (v := Vi 4) (q_assign rfl) (Wl.dg (Wc.ret (Wx.thenRet (Wx.blockRet (Wx.thenRet (Wx.thenRet (Wx.blockRet (Wx.thenRet (Wx.f2 rfl (fun w hs => ?_))))))))))))))))))))))
              obtain ⟨e1, e2⟩ := unpackE_none (unpack_bad hl0 (hR.bad2 (by omega) htx hno2))
              refine ⟨.slice none 0 0, trivial, by rw [e1]; rfl, ?_⟩
              rw [e2]
              exact st_sl_nil (st_drop (st_drop (st_pull [0, 0] hs)))
            ·
              obtain ⟨t, c, htt⟩ : ∃ t c, takeText s b = some (t, c) := by rcases h : takeText s b with _ | ⟨u, v⟩; (exact absurd h hno2); (exact ⟨u, v, rfl⟩)
              refine Wl.q (v := Vp r) (q_move hE4_0) (Wl.e (e_c call168 (rtext_yes W0 r s b (takeText_le htx) hsz t c htt)) (fun _ _ => Wl.q (v := Value.tuple #[Vs t, Vi 0]) (q_move rfl) (Wl.q (q_extract (i := 0) rfl rfl) (Wl.q (q_extract (i := 1) rfl rfl) (Wl.q (v := Vs t) (q_assign rfl) (Wl.q (v := Vi 0) (q_assign rfl) (Wl.dg (Wc.seq (Wc.sr (Wl.q (v := Vi 0) (q_move rfl) (Wl.q (v := Vf) (q_neq rfl rfl (dt (by decide))) (Wl.q (v := Vf) (q_move rfl) (Wl.q (v := Vi 0) (q_move rfl) (Wl.q (v := Vf) (q_neq rfl rfl (dt (by decide))) (Wl.q (v := Vf) (q_pick (t := false) rfl rfl) (Wl.q (v := Vf) (q_move rfl) (Wl.q (v := v) (q_move hE7_0) (Wl.q (q_len_sl (i := 1) underlying39 rfl rfl) ?_))))))))))))))))))
              by_cases hk0 : ((ls.length : Nat) : Int) > 0
              ·
                refine Wl.q (q_gtr rfl rfl (dt hk0)) (Wl.q (v := Vt) (q_move rfl) ?_)
                obtain ⟨q, hq⟩ : ∃ q, ls[ls.length - 1]? = some q := ⟨ls[ls.length - 1]'(by omega), List.getElem?_eq_getElem (by omega)⟩
                refine Wl.sl (i := 1) (m := ls.length) rfl (by omega) (fun vb vc hv hcl => ?_)
                subst hv
                refine Wl.q (v := Vs x) (q_move rfl) (Wl.q (v := Vl vb ls.length vc) (q_move hE7_0) (Wl.q (v := Vl vb ls.length vc) (q_move hE7_0) (Wl.q (q_len_slice underlying39 rfl) (Wl.q (v := Vi (((ls.length - 1) : Nat) : Int)) (q_sub (c := (((ls.length - 1) : Nat) : Int)) rfl rfl (by rw [wrap_i64 (by omega) (by omega)]; omega)) (Wl.q (q_idx (m := (ls.length - 1) * 3) se_39 rfl rfl (by omega) (by omega) (by simp)) (Wl.q (q_field (m := (ls.length - 1) * 3) fo_53_0 rfl rfl) (Wl.q (v := Vs q.n) (q_load sc_9 rfl (.row (i := 1) rfl (flat3P hq 0 _ rfl))) ?_)))))))
                by_cases hlt2 : ltS q.n x
                ·
                  refine Wl.q (v := Vf) (q_leq_str (r := false) rfl rfl (leq_lt hlt2)) (Wl.q (v := Vf) (q_pick (t := true) rfl rfl) (Wl.q (v := Vf) (q_pick (t := false) rfl rfl) (Wl.dg (Wc.no rfl (Wc.skip (Wx.go (Wc.region (Wl.imp (L' := (sl 53 3 (Vl vb ls.length vc) ls.length (ls.flatMap pairCells)) :: (pt r 438 [Vt, Vs s, Vi ((c : Nat) : Int)]) :: F) (fun w hs => st_sl_mk (e := 53) (flat_len3P ls) hcl (st_pull [1, 0] (hs))) (Wl.q (v := Vl vb ls.length vc) (q_move hE7_0) (Wl.q (v := Vs x) (q_move rfl) (Wl.q (v := Vs t) (q_move rfl) (Wl.q (v := Value.agg #[Vs x, Vs t, Vf]) (q_build (pl := [(0, 1), (1, 1), (2, 1)]) underlying53 zo_53 (by kernel_rfl) (by kernel_rfl)) (Wl.e (e_buildSlice (cs := [Vs x, Vs t, Vf]) se_39 zo_53 (by decide) (by decide) (by kernel_rfl)) (fun b3 _ => Wl.e (e_append (i := 1) (k := 3) (m := 1) (off := 0) (news := [Vs x, Vs t, Vf]) underlying39 sz_53 by_53 zo_53 rfl rfl rfl rfl rfl (Has.of_pt (i := 0) rfl rfl) rfl (by decide) (by simp only [maxLen]; omega) (by omega)) (fun v2 _ => Wl.q (v := v2) (q_assign rfl) (Wl.done (Wx.blockEnd (Wx.go (Wc.region (Wl.q (v := Vi ((k + 1 : Nat) : Int)) (q_add (c := ((k + 1 : Nat) : Int)) hE26_0 rfl (by rw [wrap_i64] <;> omega)) (Wl.q (v := Vi ((k + 1 : Nat) : Int)) (q_move rfl) (Wl.done ?_))))))))))))))))))))))
                  refine Wx.at (k + 1, ls ++ [⟨x, t, false⟩], c, v2) ⟨(by simp only; omega), rfl, rfl, hE4_0, hE25_0, (by simp only; omega), (by simp only [List.length_append, List.length_singleton]; omega), (takeText_le htt), (hR.next (by omega) htx htt (fun q' hq' => by rw [hq] at hq'; cases hq'; exact hlt2))⟩ (fun w hs => by rw [List.flatMap_append, List.length_append]; exact (st_drop (st_pull [0] hs)))
                ·
                  refine Wl.q (v := Vt) (q_leq_str (r := true) rfl rfl (leq_ge hlt2)) (Wl.q (v := Vt) (q_pick (t := true) rfl rfl) (Wl.q (v := Vt) (q_pick (t := false) rfl rfl) (Wl.dg (Wc.yes rfl (Wc.sr (Wl.q (v := Vn) (q_assign rfl) (Wl.q (v := Vi 4) (q_assign rfl) (Wl.dg (Wc.ret (Wx.thenRet (Wx.blockRet (Wx.thenRet (Wx.thenRet (Wx.blockRet (Wx.thenRet (Wx.f2 rfl (fun w hs => ?_)))))))))))))))))
                  obtain ⟨e1, e2⟩ := unpackE_none (unpack_bad hl0 (hR.bad3 (by omega) htx htt hq hlt2))
                  refine ⟨.slice none 0 0, trivial, by rw [e1]; rfl, ?_⟩
                  rw [e2]
                  exact st_sl_nil (st_drop (st_drop (st_pull [0, 0] hs)))
              ·
                refine Wl.q (q_gtr rfl rfl (df hk0)) (Wl.q (v := Vf) (q_move rfl) (Wl.no (Wl.no (Wl.no (Wl.no (Wl.no (Wl.no (Wl.no (Wl.no (Wl.no (Wl.q (v := Vf) (q_pick (t := false) rfl rfl) (Wl.q (v := Vf) (q_pick (t := false) rfl rfl) (Wl.dg (Wc.no rfl (Wc.skip (Wx.go (Wc.region (Wl.q (v := v) (q_move hE7_0) (Wl.q (v := Vs x) (q_move rfl) (Wl.q (v := Vs t) (q_move rfl) (Wl.q (v := Value.agg #[Vs x, Vs t, Vf]) (q_build (pl := [(0, 1), (1, 1), (2, 1)]) underlying53 zo_53 (by kernel_rfl) (by kernel_rfl)) (Wl.e (e_buildSlice (cs := [Vs x, Vs t, Vf]) se_39 zo_53 (by decide) (by decide) (by kernel_rfl)) (fun b4 _ => Wl.e (e_append (i := 2) (k := 3) (m := 1) (off := 0) (news := [Vs x, Vs t, Vf]) underlying39 sz_53 by_53 zo_53 rfl rfl rfl rfl rfl (Has.of_pt (i := 0) rfl rfl) rfl (by decide) (by simp only [maxLen]; omega) (by omega)) (fun v2 _ => ?_))))))))))))))))))))))))
                refine Wl.q (v := v2) (q_assign rfl) (Wl.done (Wx.blockEnd (Wx.go (Wc.region (Wl.q (v := Vi ((k + 1 : Nat) : Int)) (q_add (c := ((k + 1 : Nat) : Int)) hE26_0 rfl (by rw [wrap_i64] <;> omega)) (Wl.q (v := Vi ((k + 1 : Nat) : Int)) (q_move rfl) (Wl.done ?_)))))))
                refine Wx.at (k + 1, ls ++ [⟨x, t, false⟩], c, v2) ⟨(by simp only; omega), rfl, rfl, hE4_0, hE25_0, (by simp only; omega), (by simp only [List.length_append, List.length_singleton]; omega), (takeText_le htt), (hR.next (by omega) htx htt (fun q' hq' => by rw [List.getElem?_eq_none (by omega)] at hq'; cases hq'))⟩ (fun w hs => by rw [List.flatMap_append, List.length_append]; exact (st_pull [1, 0] (st_drop (st_pull [0] hs))))
        ·
          refine Wl.q (q_lss hE26_0 hE25_0 (df hlt)) (Wl.dg (Wc.seq (Wc.no rfl (Wc.exit (Wx.thenExit (Wx.thenExit (Wx.out (Wx.go (Wc.seq (Wc.sr (Wl.q (v := Vp r) (q_move hE4_0) (Wl.pull [1] (Wl.e (e_c call169 (end_c W0 r s a)) (fun _ _ => ?_))))))))))))))
          by_cases hend : (if a = s.size then (0 : Int) else 4) = 0
          ·
            refine Wl.q (q_neq rfl rfl (dt hend)) (Wl.dg (Wc.no rfl (Wc.skip (Wx.go (Wc.sr (Wl.q (v := v) (q_move hE7_0) (Wl.q (v := v) (q_assign rfl) (Wl.q (v := Vi 0) (q_assign rfl) (Wl.dg (Wc.ret (Wx.f2 rfl (fun w hs => ?_))))))))))))
            have hkn : k = n := by omega
            subst hkn
            have hD := hR.done
            obtain ⟨e1, e2⟩ := unpackE_some (unpack_ok hl0 (by omega) hD (end_iff.1 hend))
            refine ⟨v, trivial, by rw [e1]; rfl, ?_⟩
            rw [e2]
            exact (st_drop (st_pull [0] hs))
          ·
            refine Wl.q (q_neq rfl rfl (df hend)) (Wl.dg (Wc.yes rfl (Wc.sr (Wl.q (v := Vn) (q_assign rfl) (Wl.q (v := Vi 4) (q_assign rfl) (Wl.dg (Wc.ret (Wx.thenRet (Wx.f2 rfl (fun w hs => ?_))))))))))
            have hkn : k = n := by omega
            subst hkn
            have hD := hR.done
            obtain ⟨e1, e2⟩ := unpackE_none (unpack_end hl0 hD (fun e => hend (end_iff.2 e)))
            refine ⟨.slice none 0 0, trivial, by rw [e1]; rfl, ?_⟩
            rw [e2]
            exact st_sl_nil (st_drop (st_drop (st_pull [0, 0] hs)))
end Go.Proofs.YtjnejkdamhefgaaGreatDoor
