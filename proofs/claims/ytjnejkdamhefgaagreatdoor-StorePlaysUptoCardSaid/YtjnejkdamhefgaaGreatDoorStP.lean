/- A part of the proof. -/
import Derived.Test.YtjnejkdamhefgaaGreatDoorStKc
namespace Go.Proofs.YtjnejkdamhefgaaGreatDoor
open Tryz
open Go Go.SL Go.St Go.Wr Go.RowKit
open Go.Dk (DS WF)
open Go.Jn (JS Ok openD_up)
set_option linter.unusedVariables false
set_option maxRecDepth 8000
theorem take_in {α : Type} {l : List α} {j i : Nat} {o : α} (h : l[j]? = some o) (hj : j < i) : o ∈ l.take i := List.mem_iff_getElem?.2 ⟨j, by rw [List.getElem?_take, if_pos hj]; exact h⟩
set_option maxHeartbeats 4000000 in
theorem rwrong_c (W0 : World) (vl : Value) (l : List PairR) (hl : Rd W0 vl l.length (l.flatMap pairCells)) (hlm : l.length ≤ 9223372036854775807) (hsz : ∀ p ∈ l, p.n.size ≤ 9223372036854775807 ∧ p.t.size ≤ 9223372036854775807) :
    Con prog W0 44 #[vl] [] (X := Unit) (fun _ => True) (fun _ => .int .i64 (errL [] l)) (fun _ => []) := by
  refine Con.of func44 rfl ntmps44 rfl (fun F => ?_)
  show Wc _ W0 _ _ _ _ _ (F)
  refine Wc.a 1 rfl (Wc.seq (Wc.a 1 rfl (Wc.block ?_)))
  refine Wc.loop (X := Nat) (fun i E => E 3 = Vi ((i : Nat) : Int) ∧ E 0 = vl ∧ i ≤ l.length ∧ errL [] l = errL ((l.take i).map (·.n)) (l.drop i)) (fun i => F) (fun i => l.length - i) 0 ?_ ?_ ?_
  · exact ⟨rfl, rfl, (Nat.zero_le _), rfl⟩
  · exact fun w hs => hs
  · rintro i E2 ⟨hE3_0, hE0_0, hi, hp0⟩
    refine Wc.seq (Wc.sr (Wl.q (v := Vi ((i : Nat) : Int)) (q_move hE3_0) (Wl.q (v := vl) (q_move hE0_0) (Wl.q (q_len_is underlying39 rfl hl.shape) ?_))))
    by_cases hlt : ((i : Nat) : Int) < ((l.length : Nat) : Int)
    ·
      obtain ⟨⟨on, ot, og⟩, hget⟩ : ∃ o, l[i]? = some o := ⟨l[i]'(by omega), List.getElem?_eq_getElem (by omega)⟩
      have hsz0 := hsz _ (List.mem_of_getElem? hget)
      simp only at hsz0
      refine Wl.q (q_lss rfl rfl (dt hlt)) (Wl.dg (Wc.yes rfl (Wc.skip (Wx.go (Wc.seq (Wc.block (Wc.seq (Wc.sr ?_))))))))
      by_cases hg : og = true
      ·
        subst hg
        by_cases hlong : longP ⟨on, ot, true⟩
        ·
          refine Wl.q (v := vl) (q_move hE0_0) (Wl.q (v := Vi ((i : Nat) : Int)) (q_move hE3_0) (Wl.q (q_idx_is (m := ro vl + i * 3) se_39 rfl (hl.some_ (by omega)) rfl (by omega) (by omega) rfl) (Wl.q (v := Value.agg #[Vs on, Vs ot, Vt]) (q_loadAgg (vs := [Vs on, Vs ot, Vt]) ag_53 rfl (fun j u hj => .old (rdP hl hget j hj))) (Wl.e (e_c call182 (Con.eqs (val' := fun _ => .bool true) (post' := fun _ => []) (long_c W0 on ot true) (fun _ => by rw [dt hlong]) (fun _ => rfl))) (fun _ _ => Wl.dg (Wc.yes rfl (Wc.a 1 rfl (Wc.ret (Wx.thenRet (Wx.blockRet (Wx.thenRet (Wx.thenRet (Wx.blockRet (Wx.thenRet (Wx.f1 rfl (fun w hs => ?_))))))))))))))))
          exact ⟨(), trivial, by rw [hp0, err_at hget, if_pos hlong]; rfl, hs⟩
        ·
          refine Wl.q (v := vl) (q_move hE0_0) (Wl.q (v := Vi ((i : Nat) : Int)) (q_move hE3_0) (Wl.q (q_idx_is (m := ro vl + i * 3) se_39 rfl (hl.some_ (by omega)) rfl (by omega) (by omega) rfl) (Wl.q (v := Value.agg #[Vs on, Vs ot, Vt]) (q_loadAgg (vs := [Vs on, Vs ot, Vt]) ag_53 rfl (fun j u hj => .old (rdP hl hget j hj))) (Wl.e (e_c call182 (Con.eqs (val' := fun _ => .bool false) (post' := fun _ => []) (long_c W0 on ot true) (fun _ => by rw [df hlong]) (fun _ => rfl))) (fun _ _ => Wl.dg (Wc.no rfl (Wc.skip (Wx.go (Wc.seq (Wc.sr (Wl.q (v := vl) (q_move hE0_0) (Wl.q (v := Vi ((i : Nat) : Int)) (q_move hE3_0) (Wl.q (q_idx_is (m := ro vl + i * 3) se_39 rfl (hl.some_ (by omega)) rfl (by omega) (by omega) rfl) (Wl.q (q_field (m := ro vl + i * 3 + 2) fo_53_2 rfl rfl) (Wl.q (v := Vt) (q_load sc_4 rfl (.old (rdP hl hget 2 rfl))) (Wl.run 1 rfl (Wl.q (v := vl) (q_move hE0_0) (Wl.q (v := Vi ((i : Nat) : Int)) (q_move hE3_0) (Wl.q (q_idx_is (m := ro vl + i * 3) se_39 rfl (hl.some_ (by omega)) rfl (by omega) (by omega) rfl) (Wl.q (q_field (m := ro vl + i * 3 + 1) fo_53_1 rfl rfl) (Wl.q (v := Vs ot) (q_load sc_9 rfl (.old (rdP hl hget 1 rfl))) ?_)))))))))))))))))))))
          by_cases hte : ot = (⟨#[]⟩)
          ·
            refine Wl.q (q_neq_str (r := true) rfl rfl (text_true hte)) (Wl.rg 1 rfl (Wc.no rfl (Wc.skip (Wx.go (Wc.a 1 rfl (Wc.block ?_))))))
            refine Wc.loop (X := Nat) (fun j E => E 4 = Vi ((j : Nat) : Int) ∧ E 0 = vl ∧ E 3 = Vi ((i : Nat) : Int) ∧ j ≤ i ∧ (∀ p ∈ l.take j, ¬ p.n = on)) (fun j => F) (fun j => i - j) 0 ?_ ?_ ?_
            · exact ⟨rfl, hE0_0, hE3_0, (Nat.zero_le _), (fun p hp => (by rw [List.take_zero] at hp; cases hp))⟩
            · exact fun w hs => hs
            · rintro j E4 ⟨hE4_2, hE0_2, hE3_2, hj, hm0⟩
              refine Wc.seq (Wc.sr (Wl.q (v := Vi ((j : Nat) : Int)) (q_move hE4_2) (Wl.q (v := Vi ((i : Nat) : Int)) (q_move hE3_2) ?_)))
              by_cases hlj : ((j : Nat) : Int) < ((i : Nat) : Int)
              ·
                obtain ⟨o2, hg2⟩ : ∃ o, l[j]? = some o := ⟨l[j]'(by omega), List.getElem?_eq_getElem (by omega)⟩
                refine Wl.q (q_lss rfl rfl (dt hlj)) (Wl.dg (Wc.yes rfl (Wc.skip (Wx.go (Wc.seq (Wc.block (Wc.seq (Wc.drawsS [] ([]) (by kernel_rfl) (Wr.p 0 [] rfl (q_move hE0_2) (Wr.p 1 [] rfl (q_move hE4_2) (Wr.p 2 [] rfl (q_idx_is (m := ro vl + j * 3) se_39 rfl (hl.some_ (by omega)) rfl (by omega) (by omega) rfl) (Wr.p 3 [] rfl (q_field (m := ro vl + j * 3) fo_53_0 rfl rfl) (Wr.t (v := Vs o2.n) 4 [] rfl (q_load sc_9 rfl (.old (rdP hl hg2 0 rfl))) (Wr.p 5 [] rfl (q_move hE0_2) (Wr.p 6 [] rfl (q_move hE3_2) (Wr.p 7 [] rfl (q_idx_is (m := ro vl + i * 3) se_39 rfl (hl.some_ (by omega)) rfl (by omega) (by omega) rfl) (Wr.p 8 [] rfl (q_field (m := ro vl + i * 3) fo_53_0 rfl rfl) (Wr.t (v := Vs on) 9 [] rfl (q_load sc_9 rfl (.old (rdP hl hget 0 rfl))) ?_))))))))))))))))))
                by_cases heq : o2.n = on
                ·
                  refine Wr.p 10 [] rfl (q_eql_str (r := true) rfl rfl (text_true heq)) (Wr.z (Wx.go (Wc.yes rfl (Wc.a 1 rfl (Wc.ret (Wx.blockRet (Wx.thenRet (Wx.thenRet (Wx.blockRet (Wx.blockRet (Wx.thenRet (Wx.thenRet (Wx.blockRet (Wx.thenRet (Wx.f1 rfl (fun w hs => ?_))))))))))))))))
                  exact ⟨(), trivial, by rw [hp0, err_at hget, if_neg hlong, if_neg (fun h => h.2 hte), if_pos (List.mem_map.2 ⟨o2, take_in hg2 (by omega), heq⟩)]; rfl, hs⟩
                ·
                  refine Wr.p 10 [] rfl (q_eql_str (r := false) rfl rfl (text_false heq)) (Wr.z (Wx.go (Wc.no rfl (Wc.skip (Wx.blockEnd (Wx.go (Wc.region (Wl.q (v := Vi ((j : Nat) : Int)) (q_move hE4_2) (Wl.q (q_add (c := ((j + 1 : Nat) : Int)) rfl rfl (by rw [wrap_i64] <;> omega)) (Wl.run 1 rfl (Wl.done ?_)))))))))))
                  refine Wx.at (j + 1) ⟨(by omega), rfl, hE0_2, hE3_2, (by omega), (fun p hp => by rw [takeP hg2] at hp; rcases List.mem_append.1 hp with hp | hp; (exact hm0 p hp); (rw [List.mem_singleton] at hp; subst hp; exact heq))⟩ (fun w hs => hs)
              ·
                have hje : j = i := by omega
                have hmet : on ∉ (l.take i).map (·.n) := fun h => by obtain ⟨p, h1, h2⟩ := List.mem_map.1 h; exact hm0 p (by rw [hje]; exact h1) h2
                refine Wl.q (q_lss rfl rfl (df hlj)) (Wl.dg (Wc.no rfl (Wc.exit (Wx.thenExit (Wx.thenExit (Wx.out (Wx.blockEnd (Wx.go (Wc.region (Wl.q (v := Vi ((i : Nat) : Int)) (q_move hE3_2) (Wl.q (q_add (c := ((i + 1 : Nat) : Int)) rfl rfl (by rw [wrap_i64] <;> omega)) (Wl.run 1 rfl (Wl.done ?_)))))))))))))
                refine Wx.at (i + 1) ⟨(by omega), rfl, hE0_2, (by omega), (by rw [hp0, err_at hget, if_neg hlong, if_neg (fun h => h.2 hte), if_neg hmet, takeP hget, List.map_append]; rfl)⟩ (fun w hs => hs)
          ·
            refine Wl.q (q_neq_str (r := false) rfl rfl (text_false hte)) (Wl.rg 1 rfl (Wc.yes rfl (Wc.a 1 rfl (Wc.ret (Wx.thenRet (Wx.blockRet (Wx.thenRet (Wx.thenRet (Wx.blockRet (Wx.thenRet (Wx.f1 rfl (fun w hs => ?_))))))))))))
            exact ⟨(), trivial, by rw [hp0, err_at hget, if_neg hlong, if_pos ⟨rfl, hte⟩]; rfl, hs⟩
      ·
        obtain rfl : og = false := Bool.eq_false_iff.2 hg
        by_cases hlong : longP ⟨on, ot, false⟩
        ·
          refine Wl.q (v := vl) (q_move hE0_0) (Wl.q (v := Vi ((i : Nat) : Int)) (q_move hE3_0) (Wl.q (q_idx_is (m := ro vl + i * 3) se_39 rfl (hl.some_ (by omega)) rfl (by omega) (by omega) rfl) (Wl.q (v := Value.agg #[Vs on, Vs ot, Vf]) (q_loadAgg (vs := [Vs on, Vs ot, Vf]) ag_53 rfl (fun j u hj => .old (rdP hl hget j hj))) (Wl.e (e_c call182 (Con.eqs (val' := fun _ => .bool true) (post' := fun _ => []) (long_c W0 on ot false) (fun _ => by rw [dt hlong]) (fun _ => rfl))) (fun _ _ => Wl.dg (Wc.yes rfl (Wc.a 1 rfl (Wc.ret (Wx.thenRet (Wx.blockRet (Wx.thenRet (Wx.thenRet (Wx.blockRet (Wx.thenRet (Wx.f1 rfl (fun w hs => ?_))))))))))))))))
          exact ⟨(), trivial, by rw [hp0, err_at hget, if_pos hlong]; rfl, hs⟩
        ·
          refine Wl.q (v := vl) (q_move hE0_0) (Wl.q (v := Vi ((i : Nat) : Int)) (q_move hE3_0) (Wl.q (q_idx_is (m := ro vl + i * 3) se_39 rfl (hl.some_ (by omega)) rfl (by omega) (by omega) rfl) (Wl.q (v := Value.agg #[Vs on, Vs ot, Vf]) (q_loadAgg (vs := [Vs on, Vs ot, Vf]) ag_53 rfl (fun j u hj => .old (rdP hl hget j hj))) (Wl.e (e_c call182 (Con.eqs (val' := fun _ => .bool false) (post' := fun _ => []) (long_c W0 on ot false) (fun _ => by rw [df hlong]) (fun _ => rfl))) (fun _ _ => Wl.dg (Wc.no rfl (Wc.skip (Wx.go (Wc.seq (Wc.sr (Wl.q (v := vl) (q_move hE0_0) (Wl.q (v := Vi ((i : Nat) : Int)) (q_move hE3_0) (Wl.q (q_idx_is (m := ro vl + i * 3) se_39 rfl (hl.some_ (by omega)) rfl (by omega) (by omega) rfl) (Wl.q (q_field (m := ro vl + i * 3 + 2) fo_53_2 rfl rfl) (Wl.q (v := Vf) (q_load sc_4 rfl (.old (rdP hl hget 2 rfl))) (Wl.rg 8 rfl (Wc.no rfl (Wc.skip (Wx.go (Wc.a 1 rfl (Wc.block ?_)))))))))))))))))))))
          refine Wc.loop (X := Nat) (fun j E => E 4 = Vi ((j : Nat) : Int) ∧ E 0 = vl ∧ E 3 = Vi ((i : Nat) : Int) ∧ j ≤ i ∧ (∀ p ∈ l.take j, ¬ p.n = on)) (fun j => F) (fun j => i - j) 0 ?_ ?_ ?_
          · exact ⟨rfl, hE0_0, hE3_0, (Nat.zero_le _), (fun p hp => (by rw [List.take_zero] at hp; cases hp))⟩
          · exact fun w hs => hs
          · rintro j E6 ⟨hE4_4, hE0_4, hE3_4, hj, hm0⟩
            refine Wc.seq (Wc.sr (Wl.q (v := Vi ((j : Nat) : Int)) (q_move hE4_4) (Wl.q (v := Vi ((i : Nat) : Int)) (q_move hE3_4) ?_)))
            by_cases hlj : ((j : Nat) : Int) < ((i : Nat) : Int)
            ·
              obtain ⟨o2, hg2⟩ : ∃ o, l[j]? = some o := ⟨l[j]'(by omega), List.getElem?_eq_getElem (by omega)⟩
              refine Wl.q (q_lss rfl rfl (dt hlj)) (Wl.dg (Wc.yes rfl (Wc.skip (Wx.go (Wc.seq (Wc.block (Wc.seq (Wc.drawsS [] ([]) (by kernel_rfl) (Wr.p 0 [] rfl (q_move hE0_4) (Wr.p 1 [] rfl (q_move hE4_4) (Wr.p 2 [] rfl (q_idx_is (m := ro vl + j * 3) se_39 rfl (hl.some_ (by omega)) rfl (by omega) (by omega) rfl) (Wr.p 3 [] rfl (q_field (m := ro vl + j * 3) fo_53_0 rfl rfl) (Wr.t (v := Vs o2.n) 4 [] rfl (q_load sc_9 rfl (.old (rdP hl hg2 0 rfl))) (Wr.p 5 [] rfl (q_move hE0_4) (Wr.p 6 [] rfl (q_move hE3_4) (Wr.p 7 [] rfl (q_idx_is (m := ro vl + i * 3) se_39 rfl (hl.some_ (by omega)) rfl (by omega) (by omega) rfl) (Wr.p 8 [] rfl (q_field (m := ro vl + i * 3) fo_53_0 rfl rfl) (Wr.t (v := Vs on) 9 [] rfl (q_load sc_9 rfl (.old (rdP hl hget 0 rfl))) ?_))))))))))))))))))
              by_cases heq : o2.n = on
              ·
                refine Wr.p 10 [] rfl (q_eql_str (r := true) rfl rfl (text_true heq)) (Wr.z (Wx.go (Wc.yes rfl (Wc.a 1 rfl (Wc.ret (Wx.blockRet (Wx.thenRet (Wx.thenRet (Wx.blockRet (Wx.blockRet (Wx.thenRet (Wx.thenRet (Wx.blockRet (Wx.thenRet (Wx.f1 rfl (fun w hs => ?_))))))))))))))))
                exact ⟨(), trivial, by rw [hp0, err_at hget, if_neg hlong, if_neg (fun h => (by cases h.1)), if_pos (List.mem_map.2 ⟨o2, take_in hg2 (by omega), heq⟩)]; rfl, hs⟩
              ·
                refine Wr.p 10 [] rfl (q_eql_str (r := false) rfl rfl (text_false heq)) (Wr.z (Wx.go (Wc.no rfl (Wc.skip (Wx.blockEnd (Wx.go (Wc.region (Wl.q (v := Vi ((j : Nat) : Int)) (q_move hE4_4) (Wl.q (q_add (c := ((j + 1 : Nat) : Int)) rfl rfl (by rw [wrap_i64] <;> omega)) (Wl.run 1 rfl (Wl.done ?_)))))))))))
                refine Wx.at (j + 1) ⟨(by omega), rfl, hE0_4, hE3_4, (by omega), (fun p hp => by rw [takeP hg2] at hp; rcases List.mem_append.1 hp with hp | hp; (exact hm0 p hp); (rw [List.mem_singleton] at hp; subst hp; exact heq))⟩ (fun w hs => hs)
            ·
              have hje : j = i := by omega
              have hmet : on ∉ (l.take i).map (·.n) := fun h => by obtain ⟨p, h1, h2⟩ := List.mem_map.1 h; exact hm0 p (by rw [hje]; exact h1) h2
              refine Wl.q (q_lss rfl rfl (df hlj)) (Wl.dg (Wc.no rfl (Wc.exit (Wx.thenExit (Wx.thenExit (Wx.out (Wx.blockEnd (Wx.go (Wc.region (Wl.q (v := Vi ((i : Nat) : Int)) (q_move hE3_4) (Wl.q (q_add (c := ((i + 1 : Nat) : Int)) rfl rfl (by rw [wrap_i64] <;> omega)) (Wl.run 1 rfl (Wl.done ?_)))))))))))))
              refine Wx.at (i + 1) ⟨(by omega), rfl, hE0_4, (by omega), (by rw [hp0, err_at hget, if_neg hlong, if_neg (fun h => (by cases h.1)), if_neg hmet, takeP hget, List.map_append]; rfl)⟩ (fun w hs => hs)
    ·
      have hke : i = l.length := by omega
      refine Wl.q (q_lss rfl rfl (df hlt)) (Wl.dg (Wc.no rfl (Wc.exit (Wx.thenExit (Wx.thenExit (Wx.out (Wx.go (Wc.a 1 rfl (Wc.ret (Wx.f1 rfl (fun w hs => ?_)))))))))))
      exact ⟨(), trivial, by rw [hp0, hke, List.drop_length]; rfl, hs⟩
set_option maxHeartbeats 4000000 in
theorem rwith_c (W0 : World) (vl : Value) (l : List PairR) (hlm : l.length ≤ 1000000) (on ot : ByteArray) (og : Bool) :
    Con prog W0 45 #[vl, Value.agg #[Vs on, Vs ot, Value.bool og]] [sl 53 3 vl l.length (l.flatMap pairCells)] (X := Value) (fun _ => True) (fun y => y) (fun y => [sl 53 3 y (withF (⟨on, ot, og⟩ : PairR) og l).length ((withF (⟨on, ot, og⟩ : PairR) og l).flatMap pairCells), sl 53 3 vl l.length (l.flatMap pairCells)]) := by
  refine Con.of func45 rfl ntmps45 rfl (fun F => ?_)
  refine Wc.sr (Wl.e (e_box (x := .tmp 1) (vs := [Vs on, Vs ot, Value.bool og]) rfl) (fun pb _ => Wl.rg 1 rfl (Wc.a 1 rfl (Wc.sr (Wl.q (q_field fo_53_2 rfl rfl) (Wl.q (q_c 0 sc_4 rfl rfl rfl) (Wl.rg 1 rfl (Wc.seq (Wc.a 1 rfl (Wc.block ?_))))))))))
  refine Wc.loop (X := Nat × List PairR × Bool × Value) (fun (k, out, dn, v) E => E 7 = Vi ((k : Nat) : Int) ∧ E 6 = Value.bool dn ∧ E 5 = v ∧ E 0 = vl ∧ E 3 = Vp pb ∧ k ≤ l.length ∧ withP (⟨on, ot, og⟩ : PairR) l k out dn ∧ out.length ≤ 2 * k) (fun (k, out, dn, v) => (sl 53 3 v out.length (out.flatMap pairCells)) :: (sl 53 3 vl l.length (l.flatMap pairCells)) :: (pt pb 53 [Vs on, Vs ot, Value.bool og]) :: F) (fun (k, out, dn, v) => l.length - k) (0, [], og, Vn) ?_ ?_ ?_
  · exact ⟨rfl, rfl, rfl, rfl, rfl, (Nat.zero_le _), (withP.start _ _), (Nat.le_refl _)⟩
  · exact fun w hs => st_sl_nil (st_pull [1, 0] (hs))
  · rintro ⟨k, out, dn, v⟩ E2 ⟨hE7_0, hE6_0, hE5_0, hE0_0, hE3_0, hk, hP, hol⟩
    dsimp only at *
    refine Wc.seq (Wc.sr (Wl.q (v := Vi ((k : Nat) : Int)) (q_move hE7_0) (Wl.q (v := vl) (q_move hE0_0) (Wl.q (q_len_sl (i := 1) underlying39 rfl rfl) ?_))))
    by_cases hlt : ((k : Nat) : Int) < ((l.length : Nat) : Int)
    ·
      obtain ⟨⟨xn, xt, xg⟩, hget⟩ : ∃ o, l[k]? = some o := ⟨l[k]'(by omega), List.getElem?_eq_getElem (by omega)⟩
      refine Wl.sl (i := 1) (m := l.length) rfl (by omega) (fun vb vc hv hcl => ?_)
      subst hv
      refine Wl.q (q_lss rfl rfl (dt hlt)) (Wl.dg (Wc.yes rfl (Wc.skip (Wx.go (Wc.seq (Wc.block (Wc.seq (Wc.seq (Wc.drawsS [] ((sl 53 3 v out.length (out.flatMap pairCells)) :: (slp 53 3 vb vc (l.flatMap pairCells)) :: (pt pb 53 [Vs on, Vs ot, Value.bool og]) :: []) (by kernel_rfl) ?_)))))))))
      by_cases hdn : dn = true
      ·
        subst hdn
        refine Wr.p 0 oo3 rfl (q_move hE6_0) (Wr.p 1 oo3 rfl (q_not rfl rfl) (Wr.p 2 oo3 rfl (q_move rfl) (Wr.u 3 oo3 rfl (Wr.u 4 oo3 rfl (Wr.u 5 oo3 rfl (Wr.u 6 oo3 rfl (Wr.u 7 oo3 rfl (Wr.u 8 oo3 rfl (Wr.u 9 oo3 rfl (Wr.u 10 oo3 rfl (Wr.p 11 oo3 rfl (q_pick (t := false) rfl rfl) (Wr.z (Wx.go (Wc.no rfl (Wc.skip (Wx.go (Wc.seq (Wc.drawsS [] ((sl 53 3 v out.length (out.flatMap pairCells)) :: (slp 53 3 vb vc (l.flatMap pairCells)) :: (pt pb 53 [Vs on, Vs ot, Value.bool og]) :: []) (by kernel_rfl) (Wr.p 0 oo3 rfl (q_move hE0_0) (Wr.p 1 oo3 rfl (q_move hE7_0) (Wr.p 2 oo3 rfl (q_idx (m := k * 3) se_39 rfl rfl (by omega) (by omega) (by simp)) (Wr.p 3 oo3 rfl (q_field (m := k * 3) fo_53_0 rfl rfl) (Wr.t (v := Vs xn) 4 oo3 rfl (q_load sc_9 rfl (.row (i := 1) rfl (flat3P hget 0 _ rfl))) ?_)))))))))))))))))))))))
        refine Wr.p 5 oo3 rfl (q_field fo_53_0 hE3_0 rfl) (Wr.t 6 oo3 rfl (q_c 2 sc_9 rfl rfl rfl) ?_)
        by_cases hxe : xn = on
        ·
          refine Wr.p 7 oo3 rfl (q_neq_str (r := true) rfl rfl (text_true hxe)) (Wr.z (Wx.go (Wc.no rfl (Wc.skip (Wx.blockEnd (Wx.go (Wc.region (Wl.q (v := Vi ((k : Nat) : Int)) (q_move hE7_0) (Wl.q (q_add (c := ((k + 1 : Nat) : Int)) rfl rfl (by rw [wrap_i64] <;> omega)) (Wl.run 1 rfl (Wl.done ?_)))))))))))
          have h9 := hP.next hget
          dsimp only at h9
          rw [if_neg (fun h => (by cases h.1)), if_pos hxe, Bool.true_or] at h9
          rw [List.append_nil, List.append_nil] at h9
          refine Wx.at (k + 1, out, true, v) ⟨(by simp only; omega), rfl, hE6_0, hE5_0, hE0_0, hE3_0, (by simp only; omega), h9, (by simp only; omega)⟩ (fun w hs => by exact (fun hs => st_pull [1, 0] (st_sl_mk (e := 53) (flat_len3P l) hcl hs)) (st_pull [1, 0, 0] (hs)))
        ·
          refine Wr.p 7 oo3 rfl (q_neq_str (r := false) rfl rfl (text_false hxe)) (Wr.z (Wx.go (Wc.yes rfl (Wc.region (Wl.q (v := v) (q_move hE5_0) (Wl.q (v := Vl vb l.length vc) (q_move hE0_0) (Wl.q (v := Vi ((k : Nat) : Int)) (q_move hE7_0) (Wl.q (q_idx (m := k * 3) se_39 rfl rfl (by omega) (by omega) (by simp)) (Wl.q (v := Value.agg #[Vs xn, Vs xt, Value.bool xg]) (q_loadAgg (vs := [Vs xn, Vs xt, Value.bool xg]) ag_53 rfl (fun j u hj => .row (i := 1) rfl (flat3P hget j u hj))) (Wl.e (e_buildSlice (cs := [Vs xn, Vs xt, Value.bool xg]) se_39 zo_53 (by decide) (by decide) (by kernel_rfl)) (fun b3 _ => Wl.e (e_append (i := 1) (k := 3) (m := 1) (off := 0) (news := [Vs xn, Vs xt, Value.bool xg]) underlying39 sz_53 by_53 zo_53 rfl rfl rfl rfl rfl (Has.of_pt (i := 0) rfl rfl) rfl (by decide) (by simp only [maxLen]; omega) (by omega)) (fun v3 _ => Wl.run 1 rfl (Wl.done (Wx.blockEnd (Wx.go (Wc.region (Wl.q (v := Vi ((k : Nat) : Int)) (q_move hE7_0) (Wl.q (q_add (c := ((k + 1 : Nat) : Int)) rfl rfl (by rw [wrap_i64] <;> omega)) (Wl.run 1 rfl (Wl.done ?_))))))))))))))))))))
          have h9 := hP.next hget
          dsimp only at h9
          rw [if_neg (fun h => (by cases h.1)), if_neg hxe, Bool.true_or] at h9
          refine Wx.at (k + 1, out ++ [⟨xn, xt, xg⟩], true, v3) ⟨(by simp only; omega), rfl, hE6_0, rfl, hE0_0, hE3_0, (by simp only; omega), h9, (by simp only [List.length_append, List.length_singleton]; omega)⟩ (fun w hs => by rw [List.flatMap_append, List.length_append]; exact (fun hs => st_pull [1, 0] (st_sl_mk (e := 53) (flat_len3P l) hcl hs)) (st_pull [1, 0, 0] (st_drop (st_pull [0] hs))))
      ·
        obtain rfl : dn = false := Bool.eq_false_iff.2 hdn
        refine Wr.p 0 oo3 rfl (q_move hE6_0) (Wr.p 1 oo3 rfl (q_not rfl rfl) (Wr.p 2 oo3 rfl (q_move rfl) (Wr.p 3 oo3 rfl (q_move hE0_0) (Wr.p 4 oo3 rfl (q_move hE7_0) (Wr.p 5 oo3 rfl (q_idx (m := k * 3) se_39 rfl rfl (by omega) (by omega) (by simp)) (Wr.p 6 oo3 rfl (q_field (m := k * 3) fo_53_0 rfl rfl) (Wr.t (v := Vs xn) 7 oo3 rfl (q_load sc_9 rfl (.row (i := 1) rfl (flat3P hget 0 _ rfl))) (Wr.p 8 oo3 rfl (q_field fo_53_0 hE3_0 rfl) (Wr.t 9 oo3 rfl (q_c 2 sc_9 rfl rfl rfl) ?_)))))))))
        by_cases hlx : ltS xn on
        ·
          refine Wr.p 10 oo3 rfl (q_geq_str (r := true) rfl rfl (less_lt hlx)) (Wr.p 11 oo3 rfl (q_pick (t := true) rfl rfl) (Wr.z (Wx.go (Wc.no rfl (Wc.skip (Wx.go (Wc.seq (Wc.drawsS [] ((sl 53 3 v out.length (out.flatMap pairCells)) :: (slp 53 3 vb vc (l.flatMap pairCells)) :: (pt pb 53 [Vs on, Vs ot, Value.bool og]) :: []) (by kernel_rfl) (Wr.p 0 oo3 rfl (q_move hE0_0) (Wr.p 1 oo3 rfl (q_move hE7_0) (Wr.p 2 oo3 rfl (q_idx (m := k * 3) se_39 rfl rfl (by omega) (by omega) (by simp)) (Wr.p 3 oo3 rfl (q_field (m := k * 3) fo_53_0 rfl rfl) (Wr.t (v := Vs xn) 4 oo3 rfl (q_load sc_9 rfl (.row (i := 1) rfl (flat3P hget 0 _ rfl))) (Wr.p 5 oo3 rfl (q_field fo_53_0 hE3_0 rfl) (Wr.t 6 oo3 rfl (q_c 2 sc_9 rfl rfl rfl) ?_)))))))))))))))
          by_cases hxe : xn = on
          ·
            refine Wr.p 7 oo3 rfl (q_neq_str (r := true) rfl rfl (text_true hxe)) (Wr.z (Wx.go (Wc.no rfl (Wc.skip (Wx.blockEnd (Wx.go (Wc.region (Wl.q (v := Vi ((k : Nat) : Int)) (q_move hE7_0) (Wl.q (q_add (c := ((k + 1 : Nat) : Int)) rfl rfl (by rw [wrap_i64] <;> omega)) (Wl.run 1 rfl (Wl.done ?_)))))))))))
            have h9 := hP.next hget
            dsimp only at h9
            rw [if_neg (fun h => h.2 hlx), if_pos hxe, df (fun h => h hlx)] at h9
            rw [List.append_nil, List.append_nil] at h9
            refine Wx.at (k + 1, out, false, v) ⟨(by simp only; omega), rfl, hE6_0, hE5_0, hE0_0, hE3_0, (by simp only; omega), h9, (by simp only; omega)⟩ (fun w hs => by exact (fun hs => st_pull [1, 0] (st_sl_mk (e := 53) (flat_len3P l) hcl hs)) (st_pull [1, 0, 0] (hs)))
          ·
            refine Wr.p 7 oo3 rfl (q_neq_str (r := false) rfl rfl (text_false hxe)) (Wr.z (Wx.go (Wc.yes rfl (Wc.region (Wl.q (v := v) (q_move hE5_0) (Wl.q (v := Vl vb l.length vc) (q_move hE0_0) (Wl.q (v := Vi ((k : Nat) : Int)) (q_move hE7_0) (Wl.q (q_idx (m := k * 3) se_39 rfl rfl (by omega) (by omega) (by simp)) (Wl.q (v := Value.agg #[Vs xn, Vs xt, Value.bool xg]) (q_loadAgg (vs := [Vs xn, Vs xt, Value.bool xg]) ag_53 rfl (fun j u hj => .row (i := 1) rfl (flat3P hget j u hj))) (Wl.e (e_buildSlice (cs := [Vs xn, Vs xt, Value.bool xg]) se_39 zo_53 (by decide) (by decide) (by kernel_rfl)) (fun b4 _ => Wl.e (e_append (i := 1) (k := 3) (m := 1) (off := 0) (news := [Vs xn, Vs xt, Value.bool xg]) underlying39 sz_53 by_53 zo_53 rfl rfl rfl rfl rfl (Has.of_pt (i := 0) rfl rfl) rfl (by decide) (by simp only [maxLen]; omega) (by omega)) (fun v3 _ => Wl.run 1 rfl (Wl.done (Wx.blockEnd (Wx.go (Wc.region (Wl.q (v := Vi ((k : Nat) : Int)) (q_move hE7_0) (Wl.q (q_add (c := ((k + 1 : Nat) : Int)) rfl rfl (by rw [wrap_i64] <;> omega)) (Wl.run 1 rfl (Wl.done ?_))))))))))))))))))))
            have h9 := hP.next hget
            dsimp only at h9
            rw [if_neg (fun h => h.2 hlx), if_neg hxe, df (fun h => h hlx)] at h9
            refine Wx.at (k + 1, out ++ [⟨xn, xt, xg⟩], false, v3) ⟨(by simp only; omega), rfl, hE6_0, rfl, hE0_0, hE3_0, (by simp only; omega), h9, (by simp only [List.length_append, List.length_singleton]; omega)⟩ (fun w hs => by rw [List.flatMap_append, List.length_append]; exact (fun hs => st_pull [1, 0] (st_sl_mk (e := 53) (flat_len3P l) hcl hs)) (st_pull [1, 0, 0] (st_drop (st_pull [0] hs))))
        ·
          refine Wr.p 10 oo3 rfl (q_geq_str (r := false) rfl rfl (less_ge hlx)) (Wr.p 11 oo3 rfl (q_pick (t := true) rfl rfl) (Wr.z (Wx.go (Wc.yes rfl (Wc.sr (Wl.q (v := v) (q_move hE5_0) (Wl.q (v := Value.agg #[Vs on, Vs ot, Value.bool og]) (q_loadAgg (vs := [Vs on, Vs ot, Value.bool og]) ag_53 hE3_0 (Has.of_pt (i := 2) rfl rfl)) (Wl.e (e_buildSlice (cs := [Vs on, Vs ot, Value.bool og]) se_39 zo_53 (by decide) (by decide) (by kernel_rfl)) (fun b5 _ => Wl.e (e_append (i := 1) (k := 3) (m := 1) (off := 0) (news := [Vs on, Vs ot, Value.bool og]) underlying39 sz_53 by_53 zo_53 rfl rfl rfl rfl rfl (Has.of_pt (i := 0) rfl rfl) rfl (by decide) (by simp only [maxLen]; omega) (by omega)) (fun v2 _ => Wl.rg 1 rfl (Wc.region (Wl.rg 1 rfl (Wc.seq (Wc.drawsS [] ((pt b5 53 [Vs on, Vs ot, Value.bool og]) :: (sl 53 3 v2 (out.length + 1) ((out.flatMap pairCells) ++ [Vs on, Vs ot, Value.bool og])) :: (slp 53 3 vb vc (l.flatMap pairCells)) :: (pt pb 53 [Vs on, Vs ot, Value.bool og]) :: []) (by kernel_rfl) (Wr.p 0 oo4 rfl (q_move hE0_0) (Wr.p 1 oo4 rfl (q_move hE7_0) (Wr.p 2 oo4 rfl (q_idx (m := k * 3) se_39 rfl rfl (by omega) (by omega) (by simp)) (Wr.p 3 oo4 rfl (q_field (m := k * 3) fo_53_0 rfl rfl) (Wr.t (v := Vs xn) 4 oo4 rfl (q_load sc_9 rfl (.row (i := 2) rfl (flat3P hget 0 _ rfl))) (Wr.p 5 oo4 rfl (q_field fo_53_0 hE3_0 rfl) (Wr.t 6 oo4 rfl (q_c 3 sc_9 rfl rfl rfl) ?_)))))))))))))))))))))
          by_cases hxe : xn = on
          ·
            refine Wr.p 7 oo4 rfl (q_neq_str (r := true) rfl rfl (text_true hxe)) (Wr.z (Wx.go (Wc.no rfl (Wc.skip (Wx.blockEnd (Wx.go (Wc.region (Wl.q (v := Vi ((k : Nat) : Int)) (q_move hE7_0) (Wl.q (q_add (c := ((k + 1 : Nat) : Int)) rfl rfl (by rw [wrap_i64] <;> omega)) (Wl.run 1 rfl (Wl.done ?_)))))))))))
            have h9 := hP.next hget
            dsimp only at h9
            rw [if_pos ⟨rfl, hlx⟩, if_pos hxe, dt hlx] at h9
            refine Wx.at (k + 1, out ++ [(⟨on, ot, og⟩ : PairR)], true, v2) ⟨(by simp only; omega), rfl, rfl, rfl, hE0_0, hE3_0, (by simp only; omega), h9, (by simp only [List.length_append, List.length_singleton]; omega)⟩ (fun w hs => by rw [List.flatMap_append, List.length_append]; exact (fun hs => st_pull [1, 0] (st_sl_mk (e := 53) (flat_len3P l) hcl hs)) (st_pull [1, 0, 0] (st_drop (st_pull [0] hs))))
          ·
            refine Wr.p 7 oo4 rfl (q_neq_str (r := false) rfl rfl (text_false hxe)) (Wr.z (Wx.go (Wc.yes rfl (Wc.region (Wl.run 1 rfl (Wl.q (v := Vl vb l.length vc) (q_move hE0_0) (Wl.q (v := Vi ((k : Nat) : Int)) (q_move hE7_0) (Wl.q (q_idx (m := k * 3) se_39 rfl rfl (by omega) (by omega) (by simp)) (Wl.q (v := Value.agg #[Vs xn, Vs xt, Value.bool xg]) (q_loadAgg (vs := [Vs xn, Vs xt, Value.bool xg]) ag_53 rfl (fun j u hj => .row (i := 2) rfl (flat3P hget j u hj))) (Wl.e (e_buildSlice (cs := [Vs xn, Vs xt, Value.bool xg]) se_39 zo_53 (by decide) (by decide) (by kernel_rfl)) (fun b6 _ => Wl.e (e_append (i := 2) (k := 3) (m := 1) (off := 0) (news := [Vs xn, Vs xt, Value.bool xg]) underlying39 sz_53 by_53 zo_53 rfl rfl rfl rfl rfl (Has.of_pt (i := 0) rfl rfl) rfl (by decide) (by simp only [maxLen]; omega) (by omega)) (fun v3 _ => Wl.run 1 rfl (Wl.done (Wx.blockEnd (Wx.go (Wc.region (Wl.q (v := Vi ((k : Nat) : Int)) (q_move hE7_0) (Wl.q (q_add (c := ((k + 1 : Nat) : Int)) rfl rfl (by rw [wrap_i64] <;> omega)) (Wl.run 1 rfl (Wl.done ?_))))))))))))))))))))
            have h9 := hP.next hget
            dsimp only at h9
            rw [if_pos ⟨rfl, hlx⟩, if_neg hxe, dt hlx] at h9
            rw [← List.append_assoc] at h9
            refine Wx.at (k + 1, out ++ [(⟨on, ot, og⟩ : PairR)] ++ [⟨xn, xt, xg⟩], true, v3) ⟨(by simp only; omega), rfl, rfl, rfl, hE0_0, hE3_0, (by simp only; omega), h9, (by simp only [List.length_append, List.length_singleton]; omega)⟩ (fun w hs => by rw [List.flatMap_append, List.flatMap_append, List.length_append, List.length_append]; exact (fun hs => st_pull [1, 0] (st_sl_mk (e := 53) (flat_len3P l) hcl hs)) (st_pull [1, 0, 0] (st_drop (st_drop (st_pull [0, 0] hs)))))
    ·
      have hke : k = l.length := by omega
      refine Wl.q (q_lss rfl rfl (df hlt)) (Wl.dg (Wc.no rfl (Wc.exit (Wx.thenExit (Wx.thenExit (Wx.out (Wx.go (Wc.seq (Wc.sr ?_)))))))))
      by_cases hdn : dn = true
      ·
        subst hdn
        refine Wl.q (v := Vt) (q_move hE6_0) (Wl.q (q_not rfl rfl) (Wl.dg (Wc.no rfl (Wc.skip (Wx.go (Wc.sr (Wl.q (v := v) (q_move hE5_0) (Wl.rg 1 rfl (Wc.ret (Wx.f1 rfl (fun w hs => ?_)))))))))))
        have e : withF (⟨on, ot, og⟩ : PairR) og l = out := by rw [show withF (⟨on, ot, og⟩ : PairR) og l = _ from withP.done (by rw [hke] at hP; exact hP)]; exact List.append_nil _
        exact ⟨v, trivial, rfl, by rw [e]; exact (st_drop (st_pull [2] hs))⟩
      ·
        obtain rfl : dn = false := Bool.eq_false_iff.2 hdn
        refine Wl.q (v := Vf) (q_move hE6_0) (Wl.q (q_not rfl rfl) (Wl.dg (Wc.yes rfl (Wc.region (Wl.q (v := v) (q_move hE5_0) (Wl.q (v := Value.agg #[Vs on, Vs ot, Value.bool og]) (q_loadAgg (vs := [Vs on, Vs ot, Value.bool og]) ag_53 hE3_0 (Has.of_pt (i := 2) rfl rfl)) (Wl.e (e_buildSlice (cs := [Vs on, Vs ot, Value.bool og]) se_39 zo_53 (by decide) (by decide) (by kernel_rfl)) (fun b7 _ => Wl.e (e_append (i := 1) (k := 3) (m := 1) (off := 0) (news := [Vs on, Vs ot, Value.bool og]) underlying39 sz_53 by_53 zo_53 rfl rfl rfl rfl rfl (Has.of_pt (i := 0) rfl rfl) rfl (by decide) (by simp only [maxLen]; omega) (by omega)) (fun v4 _ => Wl.rg 1 rfl (Wc.a 2 rfl (Wc.ret (Wx.f1 rfl (fun w hs => ?_)))))))))))))
        have e : withF (⟨on, ot, og⟩ : PairR) og l = out ++ [(⟨on, ot, og⟩ : PairR)] := by rw [show withF (⟨on, ot, og⟩ : PairR) og l = _ from withP.done (by rw [hke] at hP; exact hP)]; rfl
        exact ⟨v4, trivial, rfl, by rw [e, List.flatMap_append, List.length_append]; exact (st_drop (st_drop (st_pull [0, 2] hs)))⟩
end Go.Proofs.YtjnejkdamhefgaaGreatDoor
