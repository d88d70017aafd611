/- A part of the proof. -/
import Derived.Test.YtjnejkdamhefgaaGreatDoorStKb
namespace Go.Proofs.YtjnejkdamhefgaaGreatDoor
open Tryz
open Go Go.SL Go.St Go.Wr Go.RowKit
open Go.Dk (DS WF)
open Go.Jn (JS Ok openD_up)
set_option linter.unusedVariables false
set_option maxRecDepth 8000
theorem zo_155 : zeroOf prog 155 = some (Value.agg #[Value.string (⟨#[]⟩), Value.int .i64 0, Value.int .i64 0]) := by kernel_rfl
theorem refunpack_no (W0 : World) (s : ByteArray) (hsz : s.size ≤ 9223372036854775807) (h : takeList s 0 = none) :
  Con prog W0 38 #[Vs s] [] (X := Value) (fun _ => True) (fun v => .tuple #[v, .int .i64 (unpackE s)]) (fun v => [sl 53 3 v (unpackL s).length ((unpackL s).flatMap pairCells)]) := by
 refine Con.of func38 rfl ntmps38 rfl (fun F => ?_)
 show Wc _ W0 _ _ _ _ _ (F)
 refine Wc.sr (Wl.q (v := Vn) (q_assign rfl) (Wl.q (v := Vi 0) (q_assign rfl) (Wl.dg (Wc.sr (Wl.q (v := Vs s) (q_move rfl) (Wl.q (v := Value.agg #[Vs s, Vi 0, Vi 0]) (q_build (pl := [(0, 1), (1, 1), (2, 1)]) underlying155 zo_155 (by kernel_rfl) (by kernel_rfl)) (Wl.e (e_box (x := .tmp 12) (vs := [Vs s, Vi 0, Vi 0]) rfl) (fun r _ => Wl.imp (L' := (pt r 155 [Vs s, Vi 0, Vi 0]) :: F) (fun _ h => h) (Wl.q (v := Vp r) (q_assign rfl) (Wl.dg (Wc.sr (Wl.q (v := Vp r) (q_move rfl) (Wl.e (e_c call174 (ilist_no W0 r s 0 (Nat.zero_le _) hsz h)) (fun _ _ => Wl.q (v := Vi 0) (q_assign rfl) (Wl.dg (Wc.sr (Wl.q (v := Vn) (q_assign rfl) (Wl.dg (Wc.seq (Wc.sr (Wl.q (v := Vi 0) (q_assign rfl) (Wl.dg (Wc.block ?_)))))))))))))))))))))))
 refine Wc.rounds 1 ?_
 refine Wn.round ?_
 refine Wc.seq (Wc.sr (Wl.q (v := Vi 0) (q_move rfl) (Wl.q (v := Vi 0) (q_move rfl) (Wl.q (v := Vf) (q_lss rfl rfl (df (by decide))) (Wl.q (v := Vf) (q_move rfl) (Wl.no (Wl.no (Wl.no (Wl.no (Wl.no (Wl.q (v := Vf) (q_pick (t := false) rfl rfl) (Wl.dg (Wc.no rfl (Wc.exit (Wx.thenExit (Wx.thenExit (Wx.out (Wx.go (Wc.seq (Wc.sr (Wl.q (v := Vp r) (q_move rfl) (Wl.q (q_nil_ptr rfl) (Wl.q (q_field fo_155_2 rfl rfl) ?_)))))))))))))))))))))))
 refine Wl.q (q_c 0 sc_26 rfl rfl rfl) (Wl.q (v := Vt) (q_neq rfl rfl (df (by decide))) (Wl.q (v := Vt) (q_move rfl) (Wl.no (Wl.no (Wl.no (Wl.no (Wl.no (Wl.no (Wl.no (Wl.q (v := Vt) (q_pick (t := true) rfl rfl) (Wl.dg (Wc.yes rfl (Wc.sr (Wl.q (v := Vn) (q_assign rfl) (Wl.q (v := Vi 4) (q_assign rfl) (Wl.dg (Wc.ret (Wx.thenRet (Wx.f2 rfl (fun w hs => ?_))))))))))))))))))))
 obtain ⟨e1, e2⟩ := unpackE_none (unpack_head h)
 refine ⟨.slice none 0 0, trivial, by rw [e1]; rfl, ?_⟩
 rw [e2]
 exact st_sl_nil (st_drop (st_pull [0] hs))
theorem readU_sz {s : ByteArray} : ∀ {n a b : Nat} {l : List PairR}, readU s n a = some (l, b) → ∀ p ∈ l, p.n.size ≤ 9223372036854775807 ∧ p.t.size ≤ 9223372036854775807
  | 0, a, b, l, h => by unfold readU at h; cases h; exact fun p hp => (by cases hp)
  | n + 1, a, b, l, h => by
    unfold readU at h
    rcases h1 : takeText s a with _ | ⟨x, c⟩
    · rw [h1] at h; cases h
    rw [h1] at h
    simp only at h
    rcases h2 : takeText s c with _ | ⟨t, d⟩
    · rw [h2] at h; cases h
    rw [h2] at h
    simp only at h
    rcases h3 : readU s n d with _ | ⟨l', b'⟩
    · rw [h3] at h; cases h
    rw [h3] at h
    simp only [Option.map_some, Option.some.injEq, Prod.mk.injEq] at h
    obtain ⟨rfl, rfl⟩ := h
    intro p hp
    rcases List.mem_cons.1 hp with rfl | hp
    · have e2 := (takeText_enc h1).2.1
      have f2 := (takeText_enc h2).2.1
      simp only
      omega
    · exact readU_sz h3 p hp
set_option maxHeartbeats 4000000 in
theorem refunpack_yes (W0 : World) (s : ByteArray) (hsz : s.size ≤ 9223372036854775807) (n a0 : Nat) (hl0 : takeList s 0 = some (n, a0)) (ha0 : a0 ≤ s.size) (hn : n ≤ 65536) :
    Con prog W0 38 #[Vs s] [] (X := Value) (fun _ => True) (fun v => .tuple #[v, .int .i64 (unpackE s)]) (fun v => [sl 53 3 v (unpackL s).length ((unpackL s).flatMap pairCells)]) := by
  refine Con.of func38 rfl ntmps38 rfl (fun F => ?_)
  show Wc _ W0 _ _ _ _ _ (F)
  refine Wc.sr (Wl.q (v := Vn) (q_assign rfl) (Wl.q (v := Vi 0) (q_assign rfl) (Wl.dg (Wc.sr (Wl.q (v := Vs s) (q_move rfl) (Wl.q (v := Value.agg #[Vs s, Vi 0, Vi 0]) (q_build (pl := [(0, 1), (1, 1), (2, 1)]) underlying155 zo_155 (by kernel_rfl) (by kernel_rfl)) (Wl.e (e_box (x := .tmp 12) (vs := [Vs s, Vi 0, Vi 0]) rfl) (fun r _ => Wl.imp (L' := (pt r 155 [Vs s, Vi 0, Vi 0]) :: F) (fun _ h => h) (Wl.q (v := Vp r) (q_assign rfl) (Wl.dg (Wc.sr (Wl.q (v := Vp r) (q_move rfl) (Wl.e (e_c call174 (ilist_yes W0 r s 0 (Nat.zero_le _) hsz n a0 hl0)) (fun _ _ => Wl.q (v := Vi ((n : Nat) : Int)) (q_assign rfl) (Wl.dg (Wc.sr (Wl.q (v := Vn) (q_assign rfl) (Wl.dg (Wc.seq (Wc.sr (Wl.q (v := Vi 0) (q_assign rfl) (Wl.dg (Wc.block ?_)))))))))))))))))))))))
  refine Wc.loop (X := Nat × List PairR × Nat × Value × Int) (fun (k, ls, a, v, e) E => E 7 = Vi ((k : Nat) : Int) ∧ E 6 = v ∧ E 0 = Vs s ∧ E 4 = Vp r ∧ E 5 = Vi ((n : Nat) : Int) ∧ k ≤ n ∧ ls.length = k ∧ a ≤ s.size ∧ (e = 0 ∨ e = 4) ∧ (e = 0 → RelU s n a0 k ls a) ∧ (e = 4 → unpackP s = none)) (fun (k, ls, a, v, e) => (sl 53 3 v ls.length (ls.flatMap pairCells)) :: (pt r 155 [Vs s, Vi ((a : Nat) : Int), Vi e]) :: F) (fun (k, ls, a, v, e) => n - k) (0, [], a0, Vn, 0) ?_ ?_ ?_
  · exact ⟨rfl, rfl, rfl, rfl, rfl, (Nat.zero_le _), rfl, ha0, (.inl rfl), (fun _ => RelU.start s n a0), (fun h => absurd (show (0 : Int) = 4 from h) (by decide))⟩
  · exact fun w hs => st_sl_nil hs
  · rintro ⟨k, ls, a, v, e⟩ E2 ⟨hE7_0, hE6_0, hE0_0, hE4_0, hE5_0, hk, hls, ha, he, hR, hN⟩
    dsimp only at *
    refine Wc.seq (Wc.sr ?_)
    by_cases he0 : e = 0
    ·
      subst he0
      refine Wl.q (v := Vi ((k : Nat) : Int)) (q_move hE7_0) (Wl.q (v := Vi ((n : Nat) : Int)) (q_move hE5_0) ?_)
      by_cases hlt : ((k : Nat) : Int) < ((n : Nat) : Int)
      ·
        refine Wl.q (q_lss rfl rfl (dt hlt)) (Wl.q (v := Vt) (q_move rfl) (Wl.q (v := Vp r) (q_move hE4_0) (Wl.q (q_nil_ptr rfl) (Wl.q (q_field fo_155_2 rfl rfl) (Wl.q (q_c 1 sc_26 rfl rfl rfl) (Wl.q (v := Vt) (q_eql rfl rfl (dt (by decide))) (Wl.q (v := Vt) (q_pick (t := true) rfl rfl) (Wl.dg (Wc.yes rfl (Wc.skip (Wx.go (Wc.seq (Wc.block (Wc.sr ?_))))))))))))))
        by_cases hno1 : takeText s a = none
        ·
          refine Wl.q (v := Vp r) (q_move hE4_0) (Wl.pull [1] (Wl.e (e_c call175 (itext_no0 W0 r s a ha hsz hno1)) (fun _ _ => Wl.q (v := Value.agg #[Vs (⟨#[]⟩), Vs (⟨#[]⟩), Vf]) (q_build (pl := [(0, 1), (1, 1), (2, 1)]) underlying53 zo_53 (by kernel_rfl) (by kernel_rfl)) (Wl.e (e_alloc (vs := [Vs (⟨#[]⟩), Vs (⟨#[]⟩), Vf]) zo_53 rfl) (fun pb _ => Wl.e (e_storeAgg (i := 0) (vs := [Vs (⟨#[]⟩), Vs (⟨#[]⟩), Vf]) (c' := [Vs (⟨#[]⟩), Vs (⟨#[]⟩), Vf]) sz_53 rfl rfl rfl rfl (by simp) rfl) (fun _ _ => Wl.dg (Wc.sr (Wl.q (v := Vp r) (q_move hE4_0) (Wl.pull [1] (Wl.e (e_c call175 (itext_no4 W0 r s a ha hsz hno1)) (fun _ _ => Wl.q (q_field fo_53_1 rfl rfl) (Wl.e (e_store (i := 1) (v := Vs (⟨#[]⟩)) sz_9 rfl rfl (fun _ _ => rfl) rfl (by simp)) (fun _ _ => Wl.dg (Wc.region (Wl.q (v := v) (q_move hE6_0) (Wl.q (v := Value.agg #[Vs (⟨#[]⟩), Vs (⟨#[]⟩), Vf]) (q_loadAgg (vs := [Vs (⟨#[]⟩), Vs (⟨#[]⟩), Vf]) ag_53 rfl (Has.of_pt (i := 1) rfl rfl)) (Wl.e (e_buildSlice (cs := [Vs (⟨#[]⟩), Vs (⟨#[]⟩), Vf]) se_39 zo_53 (by decide) (by decide) (by kernel_rfl)) (fun b3 _ => Wl.e (e_append (i := 3) (k := 3) (m := 1) (off := 0) (news := [Vs (⟨#[]⟩), Vs (⟨#[]⟩), Vf]) underlying39 sz_53 by_53 zo_53 rfl rfl rfl rfl rfl (Has.of_pt (i := 0) rfl rfl) rfl (by decide) (by simp only [maxLen]; omega) (by omega)) (fun v2 _ => Wl.q (v := v2) (q_assign rfl) (Wl.done (Wx.blockEnd (Wx.go (Wc.region ?_)))))))))))))))))))))))
          refine Wl.q (v := Vi ((k : Nat) : Int)) (q_move hE7_0) (Wl.q (v := Vi ((k + 1 : Nat) : Int)) (q_add (c := ((k + 1 : Nat) : Int)) rfl rfl (by rw [wrap_i64] <;> omega)) (Wl.q (v := Vi ((k + 1 : Nat) : Int)) (q_assign rfl) (Wl.done ?_)))
          refine Wx.at (k + 1, ls ++ [⟨⟨#[]⟩, ⟨#[]⟩, false⟩], a, v2, 4) ⟨(by simp only; omega), rfl, rfl, hE0_0, hE4_0, hE5_0, (by simp only; omega), (by simp only [List.length_append, List.length_singleton]; omega), ha, (.inr rfl), (fun h => absurd (show (4 : Int) = 0 from h) (by decide)), (fun _ => u_none hl0 ((hR rfl).bad1 (by omega) hno1))⟩ (fun w hs => by rw [List.flatMap_append, List.length_append]; exact (st_pull [1, 0] (st_drop (st_drop (st_pull [0, 1] hs)))))
        ·
          obtain ⟨x, b, htx⟩ : ∃ x b, takeText s a = some (x, b) := by rcases h : takeText s a with _ | ⟨u, v⟩; (exact absurd h hno1); (exact ⟨u, v, rfl⟩)
          refine Wl.q (v := Vp r) (q_move hE4_0) (Wl.pull [1] (Wl.e (e_c call175 (itext_yes W0 r s a ha hsz x b htx)) (fun _ _ => Wl.q (v := Value.agg #[Vs x, Vs (⟨#[]⟩), Vf]) (q_build (pl := [(0, 1), (1, 1), (2, 1)]) underlying53 zo_53 (by kernel_rfl) (by kernel_rfl)) (Wl.e (e_alloc (vs := [Vs (⟨#[]⟩), Vs (⟨#[]⟩), Vf]) zo_53 rfl) (fun pb _ => Wl.e (e_storeAgg (i := 0) (vs := [Vs x, Vs (⟨#[]⟩), Vf]) (c' := [Vs x, Vs (⟨#[]⟩), Vf]) sz_53 rfl rfl rfl rfl (by simp) rfl) (fun _ _ => Wl.dg (Wc.sr ?_)))))))
          by_cases hno2 : takeText s b = none
          ·
            refine Wl.q (v := Vp r) (q_move hE4_0) (Wl.pull [1] (Wl.e (e_c call175 (itext_no0 W0 r s b (takeText_le htx) hsz hno2)) (fun _ _ => Wl.q (q_field fo_53_1 rfl rfl) (Wl.e (e_store (i := 1) (v := Vs (⟨#[]⟩)) sz_9 rfl rfl (fun _ _ => rfl) rfl (by simp)) (fun _ _ => Wl.dg (Wc.region (Wl.q (v := v) (q_move hE6_0) (Wl.q (v := Value.agg #[Vs x, Vs (⟨#[]⟩), Vf]) (q_loadAgg (vs := [Vs x, Vs (⟨#[]⟩), Vf]) ag_53 rfl (Has.of_pt (i := 1) rfl rfl)) (Wl.e (e_buildSlice (cs := [Vs x, Vs (⟨#[]⟩), Vf]) se_39 zo_53 (by decide) (by decide) (by kernel_rfl)) (fun b4 _ => Wl.e (e_append (i := 3) (k := 3) (m := 1) (off := 0) (news := [Vs x, Vs (⟨#[]⟩), Vf]) underlying39 sz_53 by_53 zo_53 rfl rfl rfl rfl rfl (Has.of_pt (i := 0) rfl rfl) rfl (by decide) (by simp only [maxLen]; omega) (by omega)) (fun v2 _ => Wl.q (v := v2) (q_assign rfl) (Wl.done (Wx.blockEnd (Wx.go (Wc.region (Wl.q (v := Vi ((k : Nat) : Int)) (q_move hE7_0) (Wl.q (v := Vi ((k + 1 : Nat) : Int)) (q_add (c := ((k + 1 : Nat) : Int)) rfl rfl (by rw [wrap_i64] <;> omega)) (Wl.q (v := Vi ((k + 1 : Nat) : Int)) (q_assign rfl) (Wl.done ?_)))))))))))))))))))
            refine Wx.at (k + 1, ls ++ [⟨x, ⟨#[]⟩, false⟩], b, v2, 4) ⟨(by simp only; omega), rfl, rfl, hE0_0, hE4_0, hE5_0, (by simp only; omega), (by simp only [List.length_append, List.length_singleton]; omega), (takeText_le htx), (.inr rfl), (fun h => absurd (show (4 : Int) = 0 from h) (by decide)), (fun _ => u_none hl0 ((hR rfl).bad2 (by omega) htx hno2))⟩ (fun w hs => by rw [List.flatMap_append, List.length_append]; exact (st_pull [1, 0] (st_drop (st_drop (st_pull [0, 1] hs)))))
          ·
            obtain ⟨t, c, htt⟩ : ∃ t c, takeText s b = some (t, c) := by rcases h : takeText s b with _ | ⟨u, v⟩; (exact absurd h hno2); (exact ⟨u, v, rfl⟩)
            refine Wl.q (v := Vp r) (q_move hE4_0) (Wl.pull [1] (Wl.e (e_c call175 (itext_yes W0 r s b (takeText_le htx) hsz t c htt)) (fun _ _ => Wl.q (q_field fo_53_1 rfl rfl) (Wl.e (e_store (i := 1) (v := Vs t) sz_9 rfl rfl (fun _ _ => rfl) rfl (by simp)) (fun _ _ => Wl.dg (Wc.region (Wl.q (v := v) (q_move hE6_0) (Wl.q (v := Value.agg #[Vs x, Vs t, Vf]) (q_loadAgg (vs := [Vs x, Vs t, Vf]) ag_53 rfl (Has.of_pt (i := 1) rfl rfl)) (Wl.e (e_buildSlice (cs := [Vs x, Vs t, Vf]) se_39 zo_53 (by decide) (by decide) (by kernel_rfl)) (fun b5 _ => Wl.e (e_append (i := 3) (k := 3) (m := 1) (off := 0) (news := [Vs x, Vs t, Vf]) underlying39 sz_53 by_53 zo_53 rfl rfl rfl rfl rfl (Has.of_pt (i := 0) rfl rfl) rfl (by decide) (by simp only [maxLen]; omega) (by omega)) (fun v2 _ => Wl.q (v := v2) (q_assign rfl) (Wl.done (Wx.blockEnd (Wx.go (Wc.region (Wl.q (v := Vi ((k : Nat) : Int)) (q_move hE7_0) (Wl.q (v := Vi ((k + 1 : Nat) : Int)) (q_add (c := ((k + 1 : Nat) : Int)) rfl rfl (by rw [wrap_i64] <;> omega)) (Wl.q (v := Vi ((k + 1 : Nat) : Int)) (q_assign rfl) (Wl.done ?_)))))))))))))))))))
            refine Wx.at (k + 1, ls ++ [⟨x, t, false⟩], c, v2, 0) ⟨(by simp only; omega), rfl, rfl, hE0_0, hE4_0, hE5_0, (by simp only; omega), (by simp only [List.length_append, List.length_singleton]; omega), (takeText_le htt), (.inl rfl), (fun _ => (hR rfl).next (by omega) htx htt), (fun h => absurd (show (0 : Int) = 4 from h) (by decide))⟩ (fun w hs => by rw [List.flatMap_append, List.length_append]; exact (st_pull [1, 0] (st_drop (st_drop (st_pull [0, 1] hs)))))
      ·
        refine Wl.q (q_lss rfl rfl (df hlt)) (Wl.q (v := Vf) (q_move rfl) (Wl.no (Wl.no (Wl.no (Wl.no (Wl.no (Wl.q (v := Vf) (q_pick (t := false) rfl rfl) (Wl.dg (Wc.no rfl (Wc.exit (Wx.thenExit (Wx.thenExit (Wx.out (Wx.go (Wc.seq (Wc.sr (Wl.q (v := Vp r) (q_move hE4_0) (Wl.q (q_nil_ptr rfl) (Wl.q (q_field fo_155_2 rfl rfl) (Wl.q (q_c 1 sc_26 rfl rfl rfl) (Wl.q (v := Vf) (q_neq rfl rfl (dt (by decide))) (Wl.q (v := Vf) (q_move rfl) (Wl.q (v := Vp r) (q_move hE4_0) ?_)))))))))))))))))))))))
        refine Wl.q (q_nil_ptr rfl) (Wl.q (q_field fo_155_1 rfl rfl) (Wl.q (q_c 1 sc_3 rfl rfl rfl) (Wl.q (v := Vs s) (q_move hE0_0) (Wl.q (q_len_str underlying9 rfl) ?_))))
        by_cases hend : ((a : Nat) : Int) = ((s.size : Nat) : Int)
        ·
          have hsl : k = n → ∀ p ∈ ls, p.n.size ≤ 9223372036854775807 ∧ p.t.size ≤ 9223372036854775807 := fun hkn => by subst hkn; exact readU_sz (hR rfl).done
          refine Wl.q (q_neq rfl rfl (dt hend)) (Wl.q (v := Vf) (q_pick (t := false) rfl rfl) (Wl.dg (Wc.no rfl (Wc.skip (Wx.go (Wc.sr (Wl.q (v := v) (q_move hE6_0) (Wl.e (e_c call46 (refpack_sl W0 v ls (by omega) (hsl (by omega)))) (fun _ _ => Wl.q (v := Value.tuple #[Vs ((packP ls).1), Vi ((packP ls).2)]) (q_move rfl) (Wl.q (q_extract (i := 0) rfl rfl) (Wl.q (q_extract (i := 1) rfl rfl) (Wl.q (v := Vs ((packP ls).1)) (q_assign rfl) (Wl.q (v := Vi ((packP ls).2)) (q_assign rfl) (Wl.dg (Wc.seq (Wc.sr (Wl.q (v := Vi ((packP ls).2)) (q_move rfl) ?_)))))))))))))))))
          by_cases hpk : (packP ls).2 = 0
          ·
            refine Wl.q (q_neq rfl rfl (dt hpk)) (Wl.dg (Wc.no rfl (Wc.skip (Wx.go (Wc.sr (Wl.q (v := v) (q_move hE6_0) (Wl.q (v := v) (q_assign rfl) (Wl.q (v := Vi 0) (q_assign rfl) (Wl.dg (Wc.ret (Wx.f2 rfl (fun w hs => ?_))))))))))))
            have hkn : k = n := by omega
            subst hkn
            have hD := (hR rfl).done
            have hb : a = s.size := by omega
            obtain ⟨e1, e2⟩ := unpackE_some (u_ok hl0 hD hb hpk)
            refine ⟨v, trivial, by rw [e1]; rfl, ?_⟩
            rw [e2]
            exact (st_drop (st_pull [1] hs))
          ·
            refine Wl.q (q_neq rfl rfl (df hpk)) (Wl.dg (Wc.yes rfl (Wc.sr (Wl.q (v := Vn) (q_assign rfl) (Wl.q (v := Vi 4) (q_assign rfl) (Wl.dg (Wc.ret (Wx.thenRet (Wx.f2 rfl (fun w hs => ?_))))))))))
            have hkn : k = n := by omega
            subst hkn
            have hD := (hR rfl).done
            have hb : a = s.size := by omega
            obtain ⟨e1, e2⟩ := unpackE_none (u_pack hl0 hD hpk)
            refine ⟨.slice none 0 0, trivial, by rw [e1]; rfl, ?_⟩
            rw [e2]
            exact st_sl_nil (st_drop (st_drop (st_pull [0, 0] hs)))
        ·
          refine Wl.q (q_neq rfl rfl (df hend)) (Wl.q (v := Vt) (q_pick (t := false) rfl rfl) (Wl.dg (Wc.yes rfl (Wc.sr (Wl.q (v := Vn) (q_assign rfl) (Wl.q (v := Vi 4) (q_assign rfl) (Wl.dg (Wc.ret (Wx.thenRet (Wx.f2 rfl (fun w hs => ?_)))))))))))
          have hkn : k = n := by omega
          subst hkn
          have hD := (hR rfl).done
          obtain ⟨e1, e2⟩ := unpackE_none (u_end hl0 hD (fun e => hend (by rw [e])))
          refine ⟨.slice none 0 0, trivial, by rw [e1]; rfl, ?_⟩
          rw [e2]
          exact st_sl_nil (st_drop (st_drop (st_pull [0, 0] hs)))
    ·
      obtain rfl : e = 4 := he.resolve_left he0
      refine Wl.q (v := Vi ((k : Nat) : Int)) (q_move hE7_0) (Wl.q (v := Vi ((n : Nat) : Int)) (q_move hE5_0) ?_)
      by_cases hlt : ((k : Nat) : Int) < ((n : Nat) : Int)
      ·
        refine Wl.q (q_lss rfl rfl (dt hlt)) (Wl.q (v := Vt) (q_move rfl) (Wl.q (v := Vp r) (q_move hE4_0) (Wl.q (q_nil_ptr rfl) (Wl.q (q_field fo_155_2 rfl rfl) (Wl.q (q_c 1 sc_26 rfl rfl rfl) (Wl.q (v := Vf) (q_eql rfl rfl (df (by decide))) (Wl.q (v := Vf) (q_pick (t := true) rfl rfl) (Wl.dg (Wc.no rfl (Wc.exit (Wx.thenExit (Wx.thenExit (Wx.out (Wx.go (Wc.seq (Wc.sr (Wl.q (v := Vp r) (q_move hE4_0) (Wl.q (q_nil_ptr rfl) (Wl.q (q_field fo_155_2 rfl rfl) (Wl.q (q_c 1 sc_26 rfl rfl rfl) (Wl.q (v := Vt) (q_neq rfl rfl (df (by decide))) (Wl.q (v := Vt) (q_move rfl) (Wl.no ?_)))))))))))))))))))))))
        refine Wl.no (Wl.no (Wl.no (Wl.no (Wl.no (Wl.no (Wl.q (v := Vt) (q_pick (t := true) rfl rfl) (Wl.dg (Wc.yes rfl (Wc.sr (Wl.q (v := Vn) (q_assign rfl) (Wl.q (v := Vi 4) (q_assign rfl) (Wl.dg (Wc.ret (Wx.thenRet (Wx.f2 rfl (fun w hs => ?_))))))))))))))))
        obtain ⟨e1, e2⟩ := unpackE_none (hN rfl)
        refine ⟨.slice none 0 0, trivial, by rw [e1]; rfl, ?_⟩
        rw [e2]
        exact st_sl_nil (st_drop (st_drop (st_pull [0, 0] hs)))
      ·
        refine Wl.q (q_lss rfl rfl (df hlt)) (Wl.q (v := Vf) (q_move rfl) (Wl.no (Wl.no (Wl.no (Wl.no (Wl.no (Wl.q (v := Vf) (q_pick (t := false) rfl rfl) (Wl.dg (Wc.no rfl (Wc.exit (Wx.thenExit (Wx.thenExit (Wx.out (Wx.go (Wc.seq (Wc.sr (Wl.q (v := Vp r) (q_move hE4_0) (Wl.q (q_nil_ptr rfl) (Wl.q (q_field fo_155_2 rfl rfl) (Wl.q (q_c 1 sc_26 rfl rfl rfl) (Wl.q (v := Vt) (q_neq rfl rfl (df (by decide))) (Wl.q (v := Vt) (q_move rfl) (Wl.no ?_)))))))))))))))))))))))
        refine Wl.no (Wl.no (Wl.no (Wl.no (Wl.no (Wl.no (Wl.q (v := Vt) (q_pick (t := true) rfl rfl) (Wl.dg (Wc.yes rfl (Wc.sr (Wl.q (v := Vn) (q_assign rfl) (Wl.q (v := Vi 4) (q_assign rfl) (Wl.dg (Wc.ret (Wx.thenRet (Wx.f2 rfl (fun w hs => ?_))))))))))))))))
        obtain ⟨e1, e2⟩ := unpackE_none (hN rfl)
        refine ⟨.slice none 0 0, trivial, by rw [e1]; rfl, ?_⟩
        rw [e2]
        exact st_sl_nil (st_drop (st_drop (st_pull [0, 0] hs)))
theorem refunpack_w (W0 : World) (s : ByteArray) (hsz : s.size ≤ 9223372036854775807) : Con prog W0 38 #[.string s] [] (X := Value) (fun _ => True) (fun v => .tuple #[v, .int .i64 (unpackE s)]) (fun v => [sl 53 3 v (unpackL s).length ((unpackL s).flatMap pairCells)]) := by
  rcases h : takeList s 0 with _ | ⟨n, a0⟩
  · exact refunpack_no W0 s hsz h
  · have hle := takeList_le h
    exact refunpack_yes W0 s hsz n a0 h hle.1 hle.2.2
end Go.Proofs.YtjnejkdamhefgaaGreatDoor
