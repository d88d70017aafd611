import Derived.Test.YtkndmgfahghcjaaGreatStKb
/- Contracts of the calls. -/
namespace Go.Proofs.YtkndmgfahghcjaaGreat
open Go Go.SL Go.St Go.Wr Go.RowKit
open Go.Dk (DS WF)
open Go.Jn (JS Ok openD_up)
set_option linter.unusedVariables false
set_option maxRecDepth 8000
theorem zo_78 : zeroOf Tryz.prog 78 = some (Value.agg #[Value.string (⟨#[]⟩), Value.int .i64 0, Value.int .i64 0]) := by kernel_rfl
theorem refunpack_no (W0 : World) (s : ByteArray) (hsz : s.size ≤ 9223372036854775807) (h : takeList s 0 = none) :
  Con Tryz.prog W0 15 #[Value.string s] [] (X := Value) (fun _ => True) (fun v => .tuple #[v, .int .i64 (unpackE s)]) (fun v => [sl 44 3 v (unpackL s).length ((unpackL s).flatMap pairCells)]) := by
 refine Con.of (args := [Value.string s]) Tryz.func15 rfl Tryz.ntmps15 rfl (fun F => ?_)
 show Wc _ W0 _ _ _ _ _ (F)
 refine Wc.seq (Wc.region (Wl.q (v := Value.slice none 0 0) (q_assign rfl) (Wl.q (v := Value.int .i64 0) (q_assign rfl) (Wl.done (Wx.go (Wc.seq (Wc.region (Wl.q (v := Value.string s) (q_move rfl) (Wl.q (v := Value.agg #[Value.string s, Value.int .i64 0, Value.int .i64 0]) (q_build (pl := [(0, 1), (1, 1), (2, 1)]) Tryz.underlying78 zo_78 (by kernel_rfl) (by kernel_rfl)) (Wl.e (e_box (x := .tmp 12) (vs := [Value.string s, Value.int .i64 0, Value.int .i64 0]) rfl) (fun r _ => Wl.imp (L' := (pt r 78 [Value.string s, Value.int .i64 0, Value.int .i64 0]) :: F) (fun _ h => h) ?_)))))))))))
 refine Wl.q (v := Value.pointer (some ⟨r, 0, none⟩)) (q_assign rfl) (Wl.done (Wx.go (Wc.seq (Wc.region (Wl.q (v := Value.pointer (some ⟨r, 0, none⟩)) (q_move rfl) (Wl.e (e_call (F := F) (args := [Value.pointer (some ⟨r, 0, none⟩)]) Tryz.call44 rfl (ilist_no W0 r s 0 (Nat.zero_le _) hsz h)) (fun _ _ => Wl.imp (L' := (pt r 78 [Value.string s, Value.int .i64 0, Value.int .i64 4]) :: F) (fun _ h => h) (Wl.q (v := Value.int .i64 0) (q_assign rfl) (Wl.done (Wx.go (Wc.seq ?_)))))))))))
 refine Wc.region (Wl.q (v := Value.slice none 0 0) (q_assign rfl) (Wl.done (Wx.go (Wc.seq (Wc.seq (Wc.region (Wl.q (v := Value.int .i64 0) (q_assign rfl) (Wl.done (Wx.go (Wc.block (Wc.rounds 1 ?_)))))))))))
 refine Wn.round ?_
 refine Wc.seq (Wc.seq (Wc.region (Wl.q (v := Value.int .i64 0) (q_move rfl) (Wl.q (v := Value.int .i64 0) (q_move rfl) (Wl.q (v := Value.bool false) (q_lss (r := false) rfl rfl (decide_eq_false (by decide))) (Wl.q (v := Value.bool false) (q_move rfl) (Wl.no (Wl.no (Wl.no (Wl.no (Wl.no ?_)))))))))))
 refine Wl.q (v := Value.bool false) (q_pick (t := false) rfl rfl) (Wl.done (Wx.go (Wc.no rfl (Wc.exit (Wx.thenExit (Wx.thenExit (Wx.out (Wx.go (Wc.seq (Wc.seq (Wc.region ?_)))))))))))
 refine Wl.q (v := Value.pointer (some ⟨r, 0, none⟩)) (q_move rfl) (Wl.q (v := Value.pointer (some ⟨r, 0, none⟩)) (q_nil_ptr rfl) (Wl.q (v := Value.pointer (some ⟨r, 2, none⟩)) (q_field (m := 2) fo_78_2 rfl rfl) (Wl.q (v := Value.int .i64 4) (q_load sc_25 rfl (.cel (i := 0) rfl rfl)) (Wl.q (v := Value.bool true) (q_neq (r := false) rfl rfl (decide_eq_false (by decide))) (Wl.q (v := Value.bool true) (q_move rfl) (Wl.no (Wl.no (Wl.no (Wl.no (Wl.no (Wl.no ?_)))))))))))
 refine Wl.no (Wl.q (v := Value.bool true) (q_pick (t := true) rfl rfl) (Wl.done (Wx.go (Wc.yes rfl (Wc.seq (Wc.region (Wl.q (v := Value.slice none 0 0) (q_assign rfl) (Wl.q (v := Value.int .i64 4) (q_assign rfl) (Wl.done (Wx.go (Wc.ret ?_)))))))))))
 refine Wx.thenRet (Wx.fin2 rfl (.inl rfl) (fun w hs => ?_))
 obtain ⟨e1, e2⟩ := unpackE_none (unpack_head h)
 refine ⟨.slice none 0 0, trivial, by rw [e1]; rfl, ?_⟩
 rw [e2]
 exact st_sl_nil (st_drop (st_pull [0] hs))

theorem readU_sz {s : ByteArray} : ∀ {n a b : Nat} {l : List PairR}, readU s n a = some (l, b) → ∀ p ∈ l, p.n.size ≤ 9223372036854775807 ∧ p.t.size ≤ 9223372036854775807
  | 0, a, b, l, h => by unfold readU at h; cases h; exact fun p hp => (by cases hp)
  | n + 1, a, b, l, h => by
    unfold readU at h
    rcases h1 : takeText s a with _ | ⟨x, c⟩
    · rw [h1] at h; cases h
    rw [h1] at h
    simp only at h
    rcases h2 : takeText s c with _ | ⟨t, d⟩
    · rw [h2] at h; cases h
    rw [h2] at h
    simp only at h
    rcases h3 : readU s n d with _ | ⟨l', b'⟩
    · rw [h3] at h; cases h
    rw [h3] at h
    simp only [Option.map_some, Option.some.injEq, Prod.mk.injEq] at h
    obtain ⟨rfl, rfl⟩ := h
    intro p hp
    rcases List.mem_cons.1 hp with rfl | hp
    · have e2 := (takeText_enc h1).2.1
      have f2 := (takeText_enc h2).2.1
      simp only
      omega
    · exact readU_sz h3 p hp

set_option maxHeartbeats 4000000 in
theorem refunpack_yes (W0 : World) (s : ByteArray) (hsz : s.size ≤ 9223372036854775807) (n a0 : Nat) (hl0 : takeList s 0 = some (n, a0)) (ha0 : a0 ≤ s.size) (hn : n ≤ 65536) :
    Con Tryz.prog W0 15 #[Value.string s] [] (X := Value) (fun _ => True) (fun v => .tuple #[v, .int .i64 (unpackE s)]) (fun v => [sl 44 3 v (unpackL s).length ((unpackL s).flatMap pairCells)]) := by
  refine Con.of (args := [Value.string s]) Tryz.func15 rfl Tryz.ntmps15 rfl (fun F => ?_)
  show Wc _ W0 _ _ _ _ _ (F)
  refine Wc.seq (Wc.region (Wl.q (v := Value.slice none 0 0) (q_assign rfl) (Wl.q (v := Value.int .i64 0) (q_assign rfl) (Wl.done (Wx.go (Wc.seq (Wc.region (Wl.q (v := Value.string s) (q_move rfl) (Wl.q (v := Value.agg #[Value.string s, Value.int .i64 0, Value.int .i64 0]) (q_build (pl := [(0, 1), (1, 1), (2, 1)]) Tryz.underlying78 zo_78 (by kernel_rfl) (by kernel_rfl)) (Wl.e (e_box (x := .tmp 12) (vs := [Value.string s, Value.int .i64 0, Value.int .i64 0]) rfl) (fun r _ => Wl.imp (L' := (pt r 78 [Value.string s, Value.int .i64 0, Value.int .i64 0]) :: F) (fun _ h => h) ?_)))))))))))
  refine Wl.q (v := Value.pointer (some ⟨r, 0, none⟩)) (q_assign rfl) (Wl.done (Wx.go (Wc.seq (Wc.region (Wl.q (v := Value.pointer (some ⟨r, 0, none⟩)) (q_move rfl) (Wl.e (e_call (F := F) (args := [Value.pointer (some ⟨r, 0, none⟩)]) Tryz.call44 rfl (ilist_yes W0 r s 0 (Nat.zero_le _) hsz n a0 hl0)) (fun _ _ => Wl.imp (L' := (pt r 78 [Value.string s, Value.int .i64 ((a0 : Nat) : Int), Value.int .i64 0]) :: F) (fun _ h => h) (Wl.q (v := Value.int .i64 ((n : Nat) : Int)) (q_assign rfl) (Wl.done (Wx.go (Wc.seq ?_)))))))))))
  refine Wc.region (Wl.q (v := Value.slice none 0 0) (q_assign rfl) (Wl.done (Wx.go (Wc.seq (Wc.seq (Wc.region (Wl.q (v := Value.int .i64 0) (q_assign rfl) (Wl.done (Wx.go (Wc.block ?_))))))))))
  refine Wc.loop (X := Nat × List PairR × Nat × Value × Int) (fun (k, ls, a, v, e) E => E 7 = Value.int .i64 ((k : Nat) : Int) ∧ E 6 = v ∧ E 0 = Value.string s ∧ E 4 = Value.pointer (some ⟨r, 0, none⟩) ∧ E 5 = Value.int .i64 ((n : Nat) : Int) ∧ k ≤ n ∧ ls.length = k ∧ a ≤ s.size ∧ (e = 0 ∨ e = 4) ∧ (e = 0 → RelU s n a0 k ls a) ∧ (e = 4 → unpackP s = none)) (fun (k, ls, a, v, e) => (sl 44 3 v ls.length (ls.flatMap pairCells)) :: (pt r 78 [Value.string s, Value.int .i64 ((a : Nat) : Int), Value.int .i64 e]) :: F) (fun (k, ls, a, v, e) => n - k) (0, [], a0, Value.slice none 0 0, 0) ?_ ?_ ?_
  · exact ⟨rfl, rfl, rfl, rfl, rfl, (Nat.zero_le _), rfl, ha0, (.inl rfl), (fun _ => RelU.start s n a0), (fun h => absurd (show (0 : Int) = 4 from h) (by decide))⟩
  · exact fun w hs => st_sl_nil hs
  · rintro ⟨k, ls, a, v, e⟩ E2 ⟨hE7_0, hE6_0, hE0_0, hE4_0, hE5_0, hk, hls, ha, he, hR, hN⟩
    dsimp only at *
    refine Wc.seq (Wc.seq (Wc.region ?_))
    by_cases he0 : e = 0
    ·
      subst he0
      refine Wl.q (v := Value.int .i64 ((k : Nat) : Int)) (q_move hE7_0) (Wl.q (v := Value.int .i64 ((n : Nat) : Int)) (q_move hE5_0) ?_)
      by_cases hlt : ((k : Nat) : Int) < ((n : Nat) : Int)
      ·
        refine Wl.q (v := Value.bool true) (q_lss (r := true) rfl rfl (decide_eq_true hlt)) (Wl.q (v := Value.bool true) (q_move rfl) (Wl.q (v := Value.pointer (some ⟨r, 0, none⟩)) (q_move hE4_0) (Wl.q (v := Value.pointer (some ⟨r, 0, none⟩)) (q_nil_ptr rfl) (Wl.q (v := Value.pointer (some ⟨r, 2, none⟩)) (q_field (m := 2) fo_78_2 rfl rfl) (Wl.q (v := Value.int .i64 0) (q_load sc_25 rfl (.cel (i := 1) rfl rfl)) (Wl.q (v := Value.bool true) (q_eql (r := true) rfl rfl (decide_eq_true (by decide))) (Wl.q (v := Value.bool true) (q_pick (t := true) rfl rfl) (Wl.done (Wx.go (Wc.yes rfl (Wc.skip ?_)))))))))))
        refine Wx.go (Wc.seq (Wc.block (Wc.seq (Wc.region ?_))))
        by_cases hno1 : takeText s a = none
        ·
          refine Wl.q (v := Value.pointer (some ⟨r, 0, none⟩)) (q_move hE4_0) (Wl.imp (L' := (pt r 78 [Value.string s, Value.int .i64 ((a : Nat) : Int), Value.int .i64 0]) :: (sl 44 3 v ls.length (ls.flatMap pairCells)) :: F) (fun _ h => st_pull [1] h) (Wl.e (e_call (F := (sl 44 3 v ls.length (ls.flatMap pairCells)) :: F) (args := [Value.pointer (some ⟨r, 0, none⟩)]) Tryz.call45 rfl (itext_no0 W0 r s a ha hsz hno1)) (fun _ _ => Wl.imp (L' := (pt r 78 [Value.string s, Value.int .i64 ((a : Nat) : Int), Value.int .i64 4]) :: (sl 44 3 v ls.length (ls.flatMap pairCells)) :: F) (fun _ h => h) (Wl.q (v := Value.agg #[Value.string (⟨#[]⟩), Value.string (⟨#[]⟩), Value.bool false]) (q_build (pl := [(0, 1), (1, 1), (2, 1)]) Tryz.underlying44 zo_44 (by kernel_rfl) (by kernel_rfl)) (Wl.e (e_alloc (vs := [Value.string (⟨#[]⟩), Value.string (⟨#[]⟩), Value.bool false]) zo_44 rfl) (fun pb _ => Wl.imp (L' := (pt pb 44 ([Value.string (⟨#[]⟩), Value.string (⟨#[]⟩), Value.bool false])) :: (pt r 78 [Value.string s, Value.int .i64 ((a : Nat) : Int), Value.int .i64 4]) :: (sl 44 3 v ls.length (ls.flatMap pairCells)) :: F) (fun _ h => h) (Wl.e (e_storeAgg (i := 0) (vs := [Value.string (⟨#[]⟩), Value.string (⟨#[]⟩), Value.bool false]) (c' := [Value.string (⟨#[]⟩), Value.string (⟨#[]⟩), Value.bool false]) sz_44 rfl rfl rfl rfl (by simp) rfl) (fun _ _ => Wl.imp (L' := (pt pb 44 ([Value.string (⟨#[]⟩), Value.string (⟨#[]⟩), Value.bool false])) :: (pt r 78 [Value.string s, Value.int .i64 ((a : Nat) : Int), Value.int .i64 4]) :: (sl 44 3 v ls.length (ls.flatMap pairCells)) :: F) (fun _ h => h) (Wl.done (Wx.go (Wc.seq ?_)))))))))))
          refine Wc.region (Wl.q (v := Value.pointer (some ⟨r, 0, none⟩)) (q_move hE4_0) (Wl.imp (L' := (pt r 78 [Value.string s, Value.int .i64 ((a : Nat) : Int), Value.int .i64 4]) :: (pt pb 44 ([Value.string (⟨#[]⟩), Value.string (⟨#[]⟩), Value.bool false])) :: (sl 44 3 v ls.length (ls.flatMap pairCells)) :: F) (fun _ h => st_pull [1] h) (Wl.e (e_call (F := (pt pb 44 ([Value.string (⟨#[]⟩), Value.string (⟨#[]⟩), Value.bool false])) :: (sl 44 3 v ls.length (ls.flatMap pairCells)) :: F) (args := [Value.pointer (some ⟨r, 0, none⟩)]) Tryz.call45 rfl (itext_no4 W0 r s a ha hsz hno1)) (fun _ _ => Wl.imp (L' := (pt r 78 [Value.string s, Value.int .i64 ((a : Nat) : Int), Value.int .i64 4]) :: (pt pb 44 ([Value.string (⟨#[]⟩), Value.string (⟨#[]⟩), Value.bool false])) :: (sl 44 3 v ls.length (ls.flatMap pairCells)) :: F) (fun _ h => h) (Wl.q (v := Value.pointer (some ⟨pb, 1, none⟩)) (q_field (m := 1) fo_44_1 rfl rfl) (Wl.e (e_store (i := 1) (v := Value.string (⟨#[]⟩)) sz_9 rfl rfl (fun _ _ => rfl) rfl (by simp)) (fun _ _ => Wl.imp (L' := (pt r 78 [Value.string s, Value.int .i64 ((a : Nat) : Int), Value.int .i64 4]) :: (pt pb 44 ([Value.string (⟨#[]⟩), Value.string (⟨#[]⟩), Value.bool false])) :: (sl 44 3 v ls.length (ls.flatMap pairCells)) :: F) (fun _ h => h) (Wl.done (Wx.go (Wc.region (Wl.q (v := v) (q_move hE6_0) ?_)))))))))))
          refine Wl.q (v := Value.agg #[Value.string (⟨#[]⟩), Value.string (⟨#[]⟩), Value.bool false]) (q_loadAgg (vs := [Value.string (⟨#[]⟩), Value.string (⟨#[]⟩), Value.bool false]) ag_44 rfl (Has.of_pt (i := 1) rfl rfl)) (Wl.e (e_buildSlice (cs := [Value.string (⟨#[]⟩), Value.string (⟨#[]⟩), Value.bool false]) se_22 zo_44 (by decide) (by decide) (by kernel_rfl)) (fun b3 _ => Wl.imp (L' := (pt b3 44 ([Value.string (⟨#[]⟩), Value.string (⟨#[]⟩), Value.bool false])) :: (pt r 78 [Value.string s, Value.int .i64 ((a : Nat) : Int), Value.int .i64 4]) :: (pt pb 44 ([Value.string (⟨#[]⟩), Value.string (⟨#[]⟩), Value.bool false])) :: (sl 44 3 v ls.length (ls.flatMap pairCells)) :: F) (fun _ h => h) (Wl.e (e_append (i := 3) (k := 3) (m := 1) (off := 0) (news := [Value.string (⟨#[]⟩), Value.string (⟨#[]⟩), Value.bool false]) Tryz.underlying22 sz_44 by_44 zo_44 rfl rfl rfl rfl rfl (Has.of_pt (i := 0) rfl rfl) rfl (by decide) (by simp only [maxLen]; omega) (by omega)) (fun v2 _ => Wl.imp (L' := (pt b3 44 ([Value.string (⟨#[]⟩), Value.string (⟨#[]⟩), Value.bool false])) :: (pt r 78 [Value.string s, Value.int .i64 ((a : Nat) : Int), Value.int .i64 4]) :: (pt pb 44 ([Value.string (⟨#[]⟩), Value.string (⟨#[]⟩), Value.bool false])) :: (sl 44 3 v2 (ls.length + 1) ((ls.flatMap pairCells) ++ [Value.string (⟨#[]⟩), Value.string (⟨#[]⟩), Value.bool false])) :: F) (fun _ h => h) (Wl.q (v := v2) (q_assign rfl) (Wl.done (Wx.blockEnd (Wx.go (Wc.region (Wl.q (v := Value.int .i64 ((k : Nat) : Int)) (q_move hE7_0) (Wl.q (v := Value.int .i64 ((k + 1 : Nat) : Int)) (q_add (c := ((k + 1 : Nat) : Int)) rfl rfl (by rw [wrap_i64] <;> omega)) ?_)))))))))))
          refine Wl.q (v := Value.int .i64 ((k + 1 : Nat) : Int)) (q_assign rfl) (Wl.done ?_)
          refine Wx.at (k + 1, ls ++ [⟨⟨#[]⟩, ⟨#[]⟩, false⟩], a, v2, 4) ⟨(by simp only; omega), rfl, rfl, hE0_0, hE4_0, hE5_0, (by simp only; omega), (by simp only [List.length_append, List.length_singleton]; omega), ha, (.inr rfl), (fun h => absurd (show (4 : Int) = 0 from h) (by decide)), (fun _ => u_none hl0 ((hR rfl).bad1 (by omega) hno1))⟩ (fun w hs => by rw [List.flatMap_append, List.length_append]; exact (st_pull [1, 0] (st_drop (st_drop (st_pull [0, 1] hs)))))
        ·
          obtain ⟨x, b, htx⟩ : ∃ x b, takeText s a = some (x, b) := by rcases h : takeText s a with _ | ⟨u, v⟩; (exact absurd h hno1); (exact ⟨u, v, rfl⟩)
          refine Wl.q (v := Value.pointer (some ⟨r, 0, none⟩)) (q_move hE4_0) (Wl.imp (L' := (pt r 78 [Value.string s, Value.int .i64 ((a : Nat) : Int), Value.int .i64 0]) :: (sl 44 3 v ls.length (ls.flatMap pairCells)) :: F) (fun _ h => st_pull [1] h) (Wl.e (e_call (F := (sl 44 3 v ls.length (ls.flatMap pairCells)) :: F) (args := [Value.pointer (some ⟨r, 0, none⟩)]) Tryz.call45 rfl (itext_yes W0 r s a ha hsz x b htx)) (fun _ _ => Wl.imp (L' := (pt r 78 [Value.string s, Value.int .i64 ((b : Nat) : Int), Value.int .i64 0]) :: (sl 44 3 v ls.length (ls.flatMap pairCells)) :: F) (fun _ h => h) (Wl.q (v := Value.agg #[Value.string x, Value.string (⟨#[]⟩), Value.bool false]) (q_build (pl := [(0, 1), (1, 1), (2, 1)]) Tryz.underlying44 zo_44 (by kernel_rfl) (by kernel_rfl)) (Wl.e (e_alloc (vs := [Value.string (⟨#[]⟩), Value.string (⟨#[]⟩), Value.bool false]) zo_44 rfl) (fun pb _ => Wl.imp (L' := (pt pb 44 ([Value.string (⟨#[]⟩), Value.string (⟨#[]⟩), Value.bool false])) :: (pt r 78 [Value.string s, Value.int .i64 ((b : Nat) : Int), Value.int .i64 0]) :: (sl 44 3 v ls.length (ls.flatMap pairCells)) :: F) (fun _ h => h) (Wl.e (e_storeAgg (i := 0) (vs := [Value.string x, Value.string (⟨#[]⟩), Value.bool false]) (c' := [Value.string x, Value.string (⟨#[]⟩), Value.bool false]) sz_44 rfl rfl rfl rfl (by simp) rfl) (fun _ _ => Wl.imp (L' := (pt pb 44 ([Value.string x, Value.string (⟨#[]⟩), Value.bool false])) :: (pt r 78 [Value.string s, Value.int .i64 ((b : Nat) : Int), Value.int .i64 0]) :: (sl 44 3 v ls.length (ls.flatMap pairCells)) :: F) (fun _ h => h) (Wl.done (Wx.go (Wc.seq ?_)))))))))))
          refine Wc.region ?_
          by_cases hno2 : takeText s b = none
          ·
            refine Wl.q (v := Value.pointer (some ⟨r, 0, none⟩)) (q_move hE4_0) (Wl.imp (L' := (pt r 78 [Value.string s, Value.int .i64 ((b : Nat) : Int), Value.int .i64 0]) :: (pt pb 44 ([Value.string x, Value.string (⟨#[]⟩), Value.bool false])) :: (sl 44 3 v ls.length (ls.flatMap pairCells)) :: F) (fun _ h => st_pull [1] h) (Wl.e (e_call (F := (pt pb 44 ([Value.string x, Value.string (⟨#[]⟩), Value.bool false])) :: (sl 44 3 v ls.length (ls.flatMap pairCells)) :: F) (args := [Value.pointer (some ⟨r, 0, none⟩)]) Tryz.call45 rfl (itext_no0 W0 r s b (takeText_le htx) hsz hno2)) (fun _ _ => Wl.imp (L' := (pt r 78 [Value.string s, Value.int .i64 ((b : Nat) : Int), Value.int .i64 4]) :: (pt pb 44 ([Value.string x, Value.string (⟨#[]⟩), Value.bool false])) :: (sl 44 3 v ls.length (ls.flatMap pairCells)) :: F) (fun _ h => h) (Wl.q (v := Value.pointer (some ⟨pb, 1, none⟩)) (q_field (m := 1) fo_44_1 rfl rfl) (Wl.e (e_store (i := 1) (v := Value.string (⟨#[]⟩)) sz_9 rfl rfl (fun _ _ => rfl) rfl (by simp)) (fun _ _ => Wl.imp (L' := (pt r 78 [Value.string s, Value.int .i64 ((b : Nat) : Int), Value.int .i64 4]) :: (pt pb 44 ([Value.string x, Value.string (⟨#[]⟩), Value.bool false])) :: (sl 44 3 v ls.length (ls.flatMap pairCells)) :: F) (fun _ h => h) (Wl.done (Wx.go (Wc.region (Wl.q (v := v) (q_move hE6_0) (Wl.q (v := Value.agg #[Value.string x, Value.string (⟨#[]⟩), Value.bool false]) (q_loadAgg (vs := [Value.string x, Value.string (⟨#[]⟩), Value.bool false]) ag_44 rfl (Has.of_pt (i := 1) rfl rfl)) ?_)))))))))))
            refine Wl.e (e_buildSlice (cs := [Value.string x, Value.string (⟨#[]⟩), Value.bool false]) se_22 zo_44 (by decide) (by decide) (by kernel_rfl)) (fun b4 _ => Wl.imp (L' := (pt b4 44 ([Value.string x, Value.string (⟨#[]⟩), Value.bool false])) :: (pt r 78 [Value.string s, Value.int .i64 ((b : Nat) : Int), Value.int .i64 4]) :: (pt pb 44 ([Value.string x, Value.string (⟨#[]⟩), Value.bool false])) :: (sl 44 3 v ls.length (ls.flatMap pairCells)) :: F) (fun _ h => h) (Wl.e (e_append (i := 3) (k := 3) (m := 1) (off := 0) (news := [Value.string x, Value.string (⟨#[]⟩), Value.bool false]) Tryz.underlying22 sz_44 by_44 zo_44 rfl rfl rfl rfl rfl (Has.of_pt (i := 0) rfl rfl) rfl (by decide) (by simp only [maxLen]; omega) (by omega)) (fun v2 _ => Wl.imp (L' := (pt b4 44 ([Value.string x, Value.string (⟨#[]⟩), Value.bool false])) :: (pt r 78 [Value.string s, Value.int .i64 ((b : Nat) : Int), Value.int .i64 4]) :: (pt pb 44 ([Value.string x, Value.string (⟨#[]⟩), Value.bool false])) :: (sl 44 3 v2 (ls.length + 1) ((ls.flatMap pairCells) ++ [Value.string x, Value.string (⟨#[]⟩), Value.bool false])) :: F) (fun _ h => h) (Wl.q (v := v2) (q_assign rfl) (Wl.done (Wx.blockEnd (Wx.go (Wc.region (Wl.q (v := Value.int .i64 ((k : Nat) : Int)) (q_move hE7_0) (Wl.q (v := Value.int .i64 ((k + 1 : Nat) : Int)) (q_add (c := ((k + 1 : Nat) : Int)) rfl rfl (by rw [wrap_i64] <;> omega)) (Wl.q (v := Value.int .i64 ((k + 1 : Nat) : Int)) (q_assign rfl) ?_)))))))))))
            refine Wl.done ?_
            refine Wx.at (k + 1, ls ++ [⟨x, ⟨#[]⟩, false⟩], b, v2, 4) ⟨(by simp only; omega), rfl, rfl, hE0_0, hE4_0, hE5_0, (by simp only; omega), (by simp only [List.length_append, List.length_singleton]; omega), (takeText_le htx), (.inr rfl), (fun h => absurd (show (4 : Int) = 0 from h) (by decide)), (fun _ => u_none hl0 ((hR rfl).bad2 (by omega) htx hno2))⟩ (fun w hs => by rw [List.flatMap_append, List.length_append]; exact (st_pull [1, 0] (st_drop (st_drop (st_pull [0, 1] hs)))))
          ·
            obtain ⟨t, c, htt⟩ : ∃ t c, takeText s b = some (t, c) := by rcases h : takeText s b with _ | ⟨u, v⟩; (exact absurd h hno2); (exact ⟨u, v, rfl⟩)
            refine Wl.q (v := Value.pointer (some ⟨r, 0, none⟩)) (q_move hE4_0) (Wl.imp (L' := (pt r 78 [Value.string s, Value.int .i64 ((b : Nat) : Int), Value.int .i64 0]) :: (pt pb 44 ([Value.string x, Value.string (⟨#[]⟩), Value.bool false])) :: (sl 44 3 v ls.length (ls.flatMap pairCells)) :: F) (fun _ h => st_pull [1] h) (Wl.e (e_call (F := (pt pb 44 ([Value.string x, Value.string (⟨#[]⟩), Value.bool false])) :: (sl 44 3 v ls.length (ls.flatMap pairCells)) :: F) (args := [Value.pointer (some ⟨r, 0, none⟩)]) Tryz.call45 rfl (itext_yes W0 r s b (takeText_le htx) hsz t c htt)) (fun _ _ => Wl.imp (L' := (pt r 78 [Value.string s, Value.int .i64 ((c : Nat) : Int), Value.int .i64 0]) :: (pt pb 44 ([Value.string x, Value.string (⟨#[]⟩), Value.bool false])) :: (sl 44 3 v ls.length (ls.flatMap pairCells)) :: F) (fun _ h => h) (Wl.q (v := Value.pointer (some ⟨pb, 1, none⟩)) (q_field (m := 1) fo_44_1 rfl rfl) (Wl.e (e_store (i := 1) (v := Value.string t) sz_9 rfl rfl (fun _ _ => rfl) rfl (by simp)) (fun _ _ => Wl.imp (L' := (pt r 78 [Value.string s, Value.int .i64 ((c : Nat) : Int), Value.int .i64 0]) :: (pt pb 44 [Value.string x, Value.string t, Value.bool false]) :: (sl 44 3 v ls.length (ls.flatMap pairCells)) :: F) (fun _ h => h) (Wl.done (Wx.go (Wc.region (Wl.q (v := v) (q_move hE6_0) (Wl.q (v := Value.agg #[Value.string x, Value.string t, Value.bool false]) (q_loadAgg (vs := [Value.string x, Value.string t, Value.bool false]) ag_44 rfl (Has.of_pt (i := 1) rfl rfl)) ?_)))))))))))
            refine Wl.e (e_buildSlice (cs := [Value.string x, Value.string t, Value.bool false]) se_22 zo_44 (by decide) (by decide) (by kernel_rfl)) (fun b5 _ => Wl.imp (L' := (pt b5 44 [Value.string x, Value.string t, Value.bool false]) :: (pt r 78 [Value.string s, Value.int .i64 ((c : Nat) : Int), Value.int .i64 0]) :: (pt pb 44 [Value.string x, Value.string t, Value.bool false]) :: (sl 44 3 v ls.length (ls.flatMap pairCells)) :: F) (fun _ h => h) (Wl.e (e_append (i := 3) (k := 3) (m := 1) (off := 0) (news := [Value.string x, Value.string t, Value.bool false]) Tryz.underlying22 sz_44 by_44 zo_44 rfl rfl rfl rfl rfl (Has.of_pt (i := 0) rfl rfl) rfl (by decide) (by simp only [maxLen]; omega) (by omega)) (fun v2 _ => Wl.imp (L' := (pt b5 44 [Value.string x, Value.string t, Value.bool false]) :: (pt r 78 [Value.string s, Value.int .i64 ((c : Nat) : Int), Value.int .i64 0]) :: (pt pb 44 [Value.string x, Value.string t, Value.bool false]) :: (sl 44 3 v2 (ls.length + 1) ((ls.flatMap pairCells) ++ [Value.string x, Value.string t, Value.bool false])) :: F) (fun _ h => h) (Wl.q (v := v2) (q_assign rfl) (Wl.done (Wx.blockEnd (Wx.go (Wc.region (Wl.q (v := Value.int .i64 ((k : Nat) : Int)) (q_move hE7_0) (Wl.q (v := Value.int .i64 ((k + 1 : Nat) : Int)) (q_add (c := ((k + 1 : Nat) : Int)) rfl rfl (by rw [wrap_i64] <;> omega)) (Wl.q (v := Value.int .i64 ((k + 1 : Nat) : Int)) (q_assign rfl) ?_)))))))))))
            refine Wl.done ?_
            refine Wx.at (k + 1, ls ++ [⟨x, t, false⟩], c, v2, 0) ⟨(by simp only; omega), rfl, rfl, hE0_0, hE4_0, hE5_0, (by simp only; omega), (by simp only [List.length_append, List.length_singleton]; omega), (takeText_le htt), (.inl rfl), (fun _ => (hR rfl).next (by omega) htx htt), (fun h => absurd (show (0 : Int) = 4 from h) (by decide))⟩ (fun w hs => by rw [List.flatMap_append, List.length_append]; exact (st_pull [1, 0] (st_drop (st_drop (st_pull [0, 1] hs)))))
      ·
        refine Wl.q (v := Value.bool false) (q_lss (r := false) rfl rfl (decide_eq_false hlt)) (Wl.q (v := Value.bool false) (q_move rfl) (Wl.no (Wl.no (Wl.no (Wl.no (Wl.no (Wl.q (v := Value.bool false) (q_pick (t := false) rfl rfl) (Wl.done (Wx.go (Wc.no rfl (Wc.exit ?_)))))))))))
        refine Wx.thenExit (Wx.thenExit (Wx.out (Wx.go (Wc.seq (Wc.seq (Wc.region (Wl.q (v := Value.pointer (some ⟨r, 0, none⟩)) (q_move hE4_0) (Wl.q (v := Value.pointer (some ⟨r, 0, none⟩)) (q_nil_ptr rfl) (Wl.q (v := Value.pointer (some ⟨r, 2, none⟩)) (q_field (m := 2) fo_78_2 rfl rfl) (Wl.q (v := Value.int .i64 0) (q_load sc_25 rfl (.cel (i := 1) rfl rfl)) (Wl.q (v := Value.bool false) (q_neq (r := true) rfl rfl (decide_eq_true (by decide))) ?_)))))))))))
        refine Wl.q (v := Value.bool false) (q_move rfl) (Wl.q (v := Value.pointer (some ⟨r, 0, none⟩)) (q_move hE4_0) (Wl.q (v := Value.pointer (some ⟨r, 0, none⟩)) (q_nil_ptr rfl) (Wl.q (v := Value.pointer (some ⟨r, 1, none⟩)) (q_field (m := 1) fo_78_1 rfl rfl) (Wl.q (v := Value.int .i64 ((a : Nat) : Int)) (q_load sc_3 rfl (.cel (i := 1) rfl rfl)) (Wl.q (v := Value.string s) (q_move hE0_0) (Wl.q (v := Value.int .i64 ((s.size : Nat) : Int)) (q_len_str Tryz.underlying9 rfl) ?_))))))
        by_cases hend : ((a : Nat) : Int) = ((s.size : Nat) : Int)
        ·
          have hsl : k = n → ∀ p ∈ ls, p.n.size ≤ 9223372036854775807 ∧ p.t.size ≤ 9223372036854775807 := fun hkn => by subst hkn; exact readU_sz (hR rfl).done
          refine Wl.q (v := Value.bool false) (q_neq (r := true) rfl rfl (decide_eq_true hend)) (Wl.q (v := Value.bool false) (q_pick (t := false) rfl rfl) (Wl.done (Wx.go (Wc.no rfl (Wc.skip (Wx.go (Wc.seq (Wc.region (Wl.q (v := v) (q_move hE6_0) (Wl.e (e_call (F := (pt r 78 [Value.string s, Value.int .i64 ((a : Nat) : Int), Value.int .i64 0]) :: F) (args := [v]) Tryz.call13 rfl (refpack_sl W0 v ls (by omega) (hsl (by omega)))) (fun _ _ => Wl.imp (L' := (sl 44 3 v ls.length (ls.flatMap pairCells)) :: (pt r 78 [Value.string s, Value.int .i64 ((a : Nat) : Int), Value.int .i64 0]) :: F) (fun _ h => h) ?_)))))))))))
          refine Wl.q (v := Value.tuple #[Value.string ((packP ls).1), Value.int .i64 ((packP ls).2)]) (q_move rfl) (Wl.q (v := Value.string ((packP ls).1)) (q_extract (i := 0) rfl rfl) (Wl.q (v := Value.int .i64 ((packP ls).2)) (q_extract (i := 1) rfl rfl) (Wl.q (v := Value.string ((packP ls).1)) (q_assign rfl) (Wl.q (v := Value.int .i64 ((packP ls).2)) (q_assign rfl) (Wl.done (Wx.go (Wc.seq (Wc.seq (Wc.region (Wl.q (v := Value.int .i64 ((packP ls).2)) (q_move rfl) ?_))))))))))
          by_cases hpk : (packP ls).2 = 0
          ·
            refine Wl.q (v := Value.bool false) (q_neq (r := true) rfl rfl (decide_eq_true hpk)) (Wl.done (Wx.go (Wc.no rfl (Wc.skip (Wx.go (Wc.seq (Wc.region (Wl.q (v := v) (q_move hE6_0) (Wl.q (v := v) (q_assign rfl) (Wl.q (v := Value.int .i64 0) (q_assign rfl) (Wl.done ?_)))))))))))
            refine Wx.go (Wc.ret (Wx.fin2 rfl (.inl rfl) (fun w hs => ?_)))
            have hkn : k = n := by omega
            subst hkn
            have hD := (hR rfl).done
            have hb : a = s.size := by omega
            obtain ⟨e1, e2⟩ := unpackE_some (u_ok hl0 hD hb hpk)
            refine ⟨v, trivial, by rw [e1]; rfl, ?_⟩
            rw [e2]
            exact (st_drop (st_pull [1] hs))
          ·
            refine Wl.q (v := Value.bool true) (q_neq (r := false) rfl rfl (decide_eq_false hpk)) (Wl.done (Wx.go (Wc.yes rfl (Wc.seq (Wc.region (Wl.q (v := Value.slice none 0 0) (q_assign rfl) (Wl.q (v := Value.int .i64 4) (q_assign rfl) (Wl.done (Wx.go (Wc.ret (Wx.thenRet ?_)))))))))))
            refine Wx.fin2 rfl (.inl rfl) (fun w hs => ?_)
            have hkn : k = n := by omega
            subst hkn
            have hD := (hR rfl).done
            have hb : a = s.size := by omega
            obtain ⟨e1, e2⟩ := unpackE_none (u_pack hl0 hD hpk)
            refine ⟨.slice none 0 0, trivial, by rw [e1]; rfl, ?_⟩
            rw [e2]
            exact st_sl_nil (st_drop (st_drop (st_pull [0, 0] hs)))
        ·
          refine Wl.q (v := Value.bool true) (q_neq (r := false) rfl rfl (decide_eq_false hend)) (Wl.q (v := Value.bool true) (q_pick (t := false) rfl rfl) (Wl.done (Wx.go (Wc.yes rfl (Wc.seq (Wc.region (Wl.q (v := Value.slice none 0 0) (q_assign rfl) (Wl.q (v := Value.int .i64 4) (q_assign rfl) (Wl.done (Wx.go (Wc.ret ?_)))))))))))
          refine Wx.thenRet (Wx.fin2 rfl (.inl rfl) (fun w hs => ?_))
          have hkn : k = n := by omega
          subst hkn
          have hD := (hR rfl).done
          obtain ⟨e1, e2⟩ := unpackE_none (u_end hl0 hD (fun e => hend (by rw [e])))
          refine ⟨.slice none 0 0, trivial, by rw [e1]; rfl, ?_⟩
          rw [e2]
          exact st_sl_nil (st_drop (st_drop (st_pull [0, 0] hs)))
    ·
      obtain rfl : e = 4 := he.resolve_left he0
      refine Wl.q (v := Value.int .i64 ((k : Nat) : Int)) (q_move hE7_0) (Wl.q (v := Value.int .i64 ((n : Nat) : Int)) (q_move hE5_0) ?_)
      by_cases hlt : ((k : Nat) : Int) < ((n : Nat) : Int)
      ·
        refine Wl.q (v := Value.bool true) (q_lss (r := true) rfl rfl (decide_eq_true hlt)) (Wl.q (v := Value.bool true) (q_move rfl) (Wl.q (v := Value.pointer (some ⟨r, 0, none⟩)) (q_move hE4_0) (Wl.q (v := Value.pointer (some ⟨r, 0, none⟩)) (q_nil_ptr rfl) (Wl.q (v := Value.pointer (some ⟨r, 2, none⟩)) (q_field (m := 2) fo_78_2 rfl rfl) (Wl.q (v := Value.int .i64 4) (q_load sc_25 rfl (.cel (i := 1) rfl rfl)) (Wl.q (v := Value.bool false) (q_eql (r := false) rfl rfl (decide_eq_false (by decide))) (Wl.q (v := Value.bool false) (q_pick (t := true) rfl rfl) (Wl.done (Wx.go (Wc.no rfl (Wc.exit ?_)))))))))))
        refine Wx.thenExit (Wx.thenExit (Wx.out (Wx.go (Wc.seq (Wc.seq (Wc.region (Wl.q (v := Value.pointer (some ⟨r, 0, none⟩)) (q_move hE4_0) (Wl.q (v := Value.pointer (some ⟨r, 0, none⟩)) (q_nil_ptr rfl) (Wl.q (v := Value.pointer (some ⟨r, 2, none⟩)) (q_field (m := 2) fo_78_2 rfl rfl) (Wl.q (v := Value.int .i64 4) (q_load sc_25 rfl (.cel (i := 1) rfl rfl)) (Wl.q (v := Value.bool true) (q_neq (r := false) rfl rfl (decide_eq_false (by decide))) ?_)))))))))))
        refine Wl.q (v := Value.bool true) (q_move rfl) (Wl.no (Wl.no (Wl.no (Wl.no (Wl.no (Wl.no (Wl.no (Wl.q (v := Value.bool true) (q_pick (t := true) rfl rfl) (Wl.done (Wx.go (Wc.yes rfl ?_)))))))))))
        refine Wc.seq (Wc.region (Wl.q (v := Value.slice none 0 0) (q_assign rfl) (Wl.q (v := Value.int .i64 4) (q_assign rfl) (Wl.done (Wx.go (Wc.ret (Wx.thenRet (Wx.fin2 rfl (.inl rfl) (fun w hs => ?_)))))))))
        obtain ⟨e1, e2⟩ := unpackE_none (hN rfl)
        refine ⟨.slice none 0 0, trivial, by rw [e1]; rfl, ?_⟩
        rw [e2]
        exact st_sl_nil (st_drop (st_drop (st_pull [0, 0] hs)))
      ·
        refine Wl.q (v := Value.bool false) (q_lss (r := false) rfl rfl (decide_eq_false hlt)) (Wl.q (v := Value.bool false) (q_move rfl) (Wl.no (Wl.no (Wl.no (Wl.no (Wl.no (Wl.q (v := Value.bool false) (q_pick (t := false) rfl rfl) (Wl.done (Wx.go (Wc.no rfl (Wc.exit ?_)))))))))))
        refine Wx.thenExit (Wx.thenExit (Wx.out (Wx.go (Wc.seq (Wc.seq (Wc.region (Wl.q (v := Value.pointer (some ⟨r, 0, none⟩)) (q_move hE4_0) (Wl.q (v := Value.pointer (some ⟨r, 0, none⟩)) (q_nil_ptr rfl) (Wl.q (v := Value.pointer (some ⟨r, 2, none⟩)) (q_field (m := 2) fo_78_2 rfl rfl) (Wl.q (v := Value.int .i64 4) (q_load sc_25 rfl (.cel (i := 1) rfl rfl)) (Wl.q (v := Value.bool true) (q_neq (r := false) rfl rfl (decide_eq_false (by decide))) ?_)))))))))))
        refine Wl.q (v := Value.bool true) (q_move rfl) (Wl.no (Wl.no (Wl.no (Wl.no (Wl.no (Wl.no (Wl.no (Wl.q (v := Value.bool true) (q_pick (t := true) rfl rfl) (Wl.done (Wx.go (Wc.yes rfl ?_)))))))))))
        refine Wc.seq (Wc.region (Wl.q (v := Value.slice none 0 0) (q_assign rfl) (Wl.q (v := Value.int .i64 4) (q_assign rfl) (Wl.done (Wx.go (Wc.ret (Wx.thenRet (Wx.fin2 rfl (.inl rfl) (fun w hs => ?_)))))))))
        obtain ⟨e1, e2⟩ := unpackE_none (hN rfl)
        refine ⟨.slice none 0 0, trivial, by rw [e1]; rfl, ?_⟩
        rw [e2]
        exact st_sl_nil (st_drop (st_drop (st_pull [0, 0] hs)))

theorem refunpack_w (W0 : World) (s : ByteArray) (hsz : s.size ≤ 9223372036854775807) : Con Tryz.prog W0 15 #[.string s] [] (X := Value) (fun _ => True) (fun v => .tuple #[v, .int .i64 (unpackE s)]) (fun v => [sl 44 3 v (unpackL s).length ((unpackL s).flatMap pairCells)]) := by
  rcases h : takeList s 0 with _ | ⟨n, a0⟩
  · exact refunpack_no W0 s hsz h
  · have hle := takeList_le h
    exact refunpack_yes W0 s hsz n a0 h hle.1 hle.2.2

end Go.Proofs.YtkndmgfahghcjaaGreat

