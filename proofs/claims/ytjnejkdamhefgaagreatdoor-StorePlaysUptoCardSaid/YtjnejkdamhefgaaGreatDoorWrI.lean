/- A part of the proof. -/
import Derived.Test.YtjnejkdamhefgaaGreatDoorWrO
namespace Go.Proofs.YtjnejkdamhefgaaGreatDoor
open Tryz
open Go Go.SL Go.Wr Go.RowKit
open Go.Dk (beyondF beyondB beyond_step beyond_le beyond_one beyond_two)
set_option linter.unusedVariables false
set_option maxRecDepth 8000
theorem rlist_bad (W0 : World) (r : Nat) (s : ByteArray) (a0 : Nat) (ha0 : a0 ≤ s.size) (hsz : s.size ≤ 9223372036854775807) (h : takeList s a0 = none) :
    Con1 prog W0 167 #[Vp r] [pt r 438 [Vt, Vs s, Vi ((a0 : Nat) : Int)]] (.tuple #[.int .i64 0, .int .i64 4]) [pt r 438 [Vt, Vs s, Vi ((a0 : Nat) : Int)]] := by
  unfold takeList at h
  split at h
  · rename_i p hp
    split at h
    · cases h
    · rename_i hr
      by_cases h0 : p.1 < 0
      · exact rlist_neg W0 r s a0 ha0 hsz p.1 p.2 hp h0
      · exact rlist_big W0 r s a0 ha0 hsz p.1 p.2 hp (by omega) (by omega)
  · rename_i hp; exact rlist_none W0 r s a0 ha0 hsz hp
theorem text1_none (W0 : World) (r rb nb : Nat) (s : ByteArray) (a0 : Nat) (ha0 : a0 ≤ s.size) (hsz : s.size ≤ 9223372036854775807) (h : takeList s a0 = none) :
  Con prog W0 269 #[Vp rb, Vp nb] [pt rb 145 [Vp r], pt nb 9 ([Vs (⟨#[]⟩)]), pt r 438 [Vt, Vs s, Vi ((a0 : Nat) : Int)]] (X := Nat) (fun _ => True) (fun _ => .int .i64 4) (fun a => [pt rb 145 [Vp r], pt nb 9 ([Vs (⟨#[]⟩)]), pt r 438 [Vt, Vs s, Vi ((a : Nat) : Int)]]) := by
 refine Con.of func269 rfl ntmps269 rfl (fun F => ?_)
 show Wc _ W0 _ _ _ _ _ ((pt rb 145 [Vp r]) :: (pt nb 9 ([Vs (⟨#[]⟩)])) :: (pt r 438 [Vt, Vs s, Vi ((a0 : Nat) : Int)]) :: F)
 refine Wc.sr (Wl.q (v := Vi 0) (q_assign rfl) (Wl.dg (Wc.sr (Wl.q (q_c 0 sc_145 rfl rfl rfl) (Wl.pull [2] (Wl.e (e_c call167 (rlist_bad W0 r s a0 ha0 hsz h)) (fun _ _ => Wl.q (v := Value.tuple #[Vi 0, Vi 4]) (q_move rfl) (Wl.q (q_extract (i := 0) rfl rfl) (Wl.q (q_extract (i := 1) rfl rfl) (Wl.q (v := Vi 0) (q_assign rfl) (Wl.q (v := Vi 4) (q_assign rfl) (Wl.dg (Wc.seq (Wc.seq (Wc.drawsS [] ((pt r 438 [Vt, Vs s, Vi ((a0 : Nat) : Int)]) :: (pt rb 145 [Vp r]) :: (pt nb 9 ([Vs (⟨#[]⟩)])) :: []) (by kernel_rfl) (Wr.p (v := Vi 4) 0 oo3 rfl (q_move rfl) (Wr.p (v := Vt) 1 oo3 rfl (q_neq rfl rfl (df (by decide))) (Wr.p (v := Vt) 2 oo3 rfl (q_move rfl) (Wr.u 3 oo3 rfl (Wr.u 4 oo3 rfl (Wr.u 5 oo3 rfl (Wr.u 6 oo3 rfl (Wr.u 7 oo3 rfl ?_)))))))))))))))))))))))
 refine Wr.u 8 oo3 rfl (Wr.u 9 oo3 rfl (Wr.u 10 oo3 rfl (Wr.u 11 oo3 rfl (Wr.u 12 oo3 rfl (Wr.u 13 oo3 rfl (Wr.u 14 oo3 rfl (Wr.p (v := Vt) 15 oo3 rfl (q_pick (t := true) rfl rfl) (Wr.z (Wx.go (Wc.yes rfl (Wc.sr (Wl.q (v := Vi 4) (q_assign rfl) (Wl.dg (Wc.ret (Wx.thenRet (Wx.f1 rfl (fun w hs => ?_)))))))))))))))))
 exact ⟨a0, trivial, rfl, (st_pull [1, 1, 0] (hs))⟩
theorem text1_long (W0 : World) (r rb nb : Nat) (s : ByteArray) (a0 : Nat) (ha0 : a0 ≤ s.size) (hsz : s.size ≤ 9223372036854775807) (n a : Nat) (htk : takeNum s a0 = some ((n : Int), a)) (hn : n ≤ 65536) (ha : a ≤ s.size) (hna : ¬ a + n ≤ s.size) :
  Con prog W0 269 #[Vp rb, Vp nb] [pt rb 145 [Vp r], pt nb 9 ([Vs (⟨#[]⟩)]), pt r 438 [Vt, Vs s, Vi ((a0 : Nat) : Int)]] (X := Nat) (fun _ => True) (fun _ => .int .i64 4) (fun a => [pt rb 145 [Vp r], pt nb 9 ([Vs (⟨#[]⟩)]), pt r 438 [Vt, Vs s, Vi ((a : Nat) : Int)]]) := by
 refine Con.of func269 rfl ntmps269 rfl (fun F => ?_)
 show Wc _ W0 _ _ _ _ _ ((pt rb 145 [Vp r]) :: (pt nb 9 ([Vs (⟨#[]⟩)])) :: (pt r 438 [Vt, Vs s, Vi ((a0 : Nat) : Int)]) :: F)
 refine Wc.sr (Wl.q (v := Vi 0) (q_assign rfl) (Wl.dg (Wc.sr (Wl.q (q_c 0 sc_145 rfl rfl rfl) (Wl.pull [2] (Wl.e (e_c call167 (rlist_ok W0 r s a0 ha0 hsz (n : Int) a htk (by omega) (by omega))) (fun _ _ => Wl.q (v := Value.tuple #[Vi ((n : Nat) : Int), Vi 0]) (q_move rfl) (Wl.q (q_extract (i := 0) rfl rfl) (Wl.q (q_extract (i := 1) rfl rfl) (Wl.q (v := Vi ((n : Nat) : Int)) (q_assign rfl) (Wl.q (v := Vi 0) (q_assign rfl) (Wl.dg (Wc.seq (Wc.seq (Wc.drawsS [] ((pt r 438 [Vt, Vs s, Vi ((a : Nat) : Int)]) :: (pt rb 145 [Vp r]) :: (pt nb 9 ([Vs (⟨#[]⟩)])) :: []) (by kernel_rfl) (Wr.p (v := Vi 0) 0 oo3 rfl (q_move rfl) (Wr.p (v := Vf) 1 oo3 rfl (q_neq rfl rfl (dt (by decide))) (Wr.p (v := Vf) 2 oo3 rfl (q_move rfl) (Wr.p (v := Vi ((n : Nat) : Int)) 3 oo3 rfl (q_move rfl) (Wr.t 4 oo3 rfl (q_c 1 sc_145 rfl rfl rfl) (Wr.p 5 oo3 rfl (q_nil_ptr rfl) (Wr.p 6 oo3 rfl (q_field fo_438_1 rfl rfl) (Wr.t 7 oo3 rfl (q_c 0 sc_9 rfl rfl rfl) ?_)))))))))))))))))))))))
 refine Wr.t 8 oo3 rfl (q_len_str underlying9 rfl) (Wr.t 9 oo3 rfl (q_c 1 sc_145 rfl rfl rfl) (Wr.p 10 oo3 rfl (q_nil_ptr rfl) (Wr.p 11 oo3 rfl (q_field fo_438_2 rfl rfl) (Wr.t 12 oo3 rfl (q_c 0 sc_3 rfl rfl rfl) (Wr.p (v := Vi (((s.size : Nat) : Int) - ((a : Nat) : Int))) 13 oo3 rfl (q_sub (c := (((s.size : Nat) : Int) - ((a : Nat) : Int))) rfl rfl (wrap_i64 (by omega) (by omega))) (Wr.p 14 oo3 rfl (q_gtr rfl rfl (dt (by omega))) (Wr.p (v := Vt) 15 oo3 rfl (q_pick (t := false) rfl rfl) (Wr.z (Wx.go (Wc.yes rfl (Wc.sr (Wl.q (v := Vi 4) (q_assign rfl) (Wl.dg (Wc.ret (Wx.thenRet (Wx.f1 rfl (fun w hs => ?_)))))))))))))))))
 exact ⟨a, trivial, rfl, (st_pull [1, 1, 0] (hs))⟩
theorem rtext_none (W0 : World) (r : Nat) (s : ByteArray) (a0 : Nat) (ha0 : a0 ≤ s.size) (hsz : s.size ≤ 9223372036854775807) (h : takeList s a0 = none) :
  Con1 prog W0 168 #[Vp r] [pt r 438 [Vt, Vs s, Vi ((a0 : Nat) : Int)]] (.tuple #[Vs (⟨#[]⟩), .int .i64 4]) [pt r 438 [Vt, Vs s, Vi ((a0 : Nat) : Int)]] := by
 refine Con.of func168 rfl ntmps168 rfl (fun F => ?_)
 show Wc _ W0 _ _ _ _ _ ((pt r 438 [Vt, Vs s, Vi ((a0 : Nat) : Int)]) :: F)
 refine Wc.sr (Wl.e (e_box (x := .tmp 0) (vs := [Vp r]) rfl) (fun rb _ => Wl.e (e_alloc (vs := [Vs (⟨#[]⟩)]) zo_9 rfl) (fun nb _ => Wl.q (v := Vi 0) (q_assign rfl) (Wl.dg (Wc.sr (Wl.q (q_c 1 sc_145 rfl rfl rfl) (Wl.q (v := Value.func (.func 269) #[] #[Vp rb, Vp nb]) (q_makeFunc (us := []) (vs := [Vp rb, Vp nb]) rfl rfl) (Wl.pull [1, 0, 0] (Wl.e (e_c call266 (take_Text_bad W0 r rb nb s a0 (Vs (⟨#[]⟩)) (text1_none W0 r rb nb s a0 ha0 hsz h))) (fun _ _ => Wl.q (v := Vi 4) (q_assign rfl) (Wl.dg (Wc.sr (Wl.q (q_c 1 sc_9 rfl rfl rfl) (Wl.q (v := Vi 4) (q_move rfl) (Wl.e (e_store (i := 1) (v := Vs (⟨#[]⟩)) sz_9 rfl rfl (fun _ _ => rfl) rfl (by simp)) (fun _ _ => Wl.q (v := Vi 4) (q_assign rfl) (Wl.dg (Wc.ret (Wx.finC2 rfl (.inl rfl) sc_9 rfl (.cel (i := 1) rfl rfl) (fun w hs => ?_))))))))))))))))))))
 exact ⟨(), trivial, rfl, (st_drop (st_drop (st_pull [0, 0] hs)))⟩
theorem rtext_long (W0 : World) (r : Nat) (s : ByteArray) (a0 : Nat) (ha0 : a0 ≤ s.size) (hsz : s.size ≤ 9223372036854775807) (n a : Nat) (htk : takeNum s a0 = some ((n : Int), a)) (hn : n ≤ 65536) (ha : a ≤ s.size) (hna : ¬ a + n ≤ s.size) :
  Con1 prog W0 168 #[Vp r] [pt r 438 [Vt, Vs s, Vi ((a0 : Nat) : Int)]] (.tuple #[Vs (⟨#[]⟩), .int .i64 4]) [pt r 438 [Vt, Vs s, Vi ((a0 : Nat) : Int)]] := by
 refine Con.of func168 rfl ntmps168 rfl (fun F => ?_)
 show Wc _ W0 _ _ _ _ _ ((pt r 438 [Vt, Vs s, Vi ((a0 : Nat) : Int)]) :: F)
 refine Wc.sr (Wl.e (e_box (x := .tmp 0) (vs := [Vp r]) rfl) (fun rb _ => Wl.e (e_alloc (vs := [Vs (⟨#[]⟩)]) zo_9 rfl) (fun nb _ => Wl.q (v := Vi 0) (q_assign rfl) (Wl.dg (Wc.sr (Wl.q (q_c 1 sc_145 rfl rfl rfl) (Wl.q (v := Value.func (.func 269) #[] #[Vp rb, Vp nb]) (q_makeFunc (us := []) (vs := [Vp rb, Vp nb]) rfl rfl) (Wl.pull [1, 0, 0] (Wl.e (e_c call266 (take_Text_bad W0 r rb nb s a0 (Vs (⟨#[]⟩)) (text1_long W0 r rb nb s a0 ha0 hsz n a htk hn ha hna))) (fun _ _ => Wl.q (v := Vi 4) (q_assign rfl) (Wl.dg (Wc.sr (Wl.q (q_c 1 sc_9 rfl rfl rfl) (Wl.q (v := Vi 4) (q_move rfl) (Wl.e (e_store (i := 1) (v := Vs (⟨#[]⟩)) sz_9 rfl rfl (fun _ _ => rfl) rfl (by simp)) (fun _ _ => Wl.q (v := Vi 4) (q_assign rfl) (Wl.dg (Wc.ret (Wx.finC2 rfl (.inl rfl) sc_9 rfl (.cel (i := 1) rfl rfl) (fun w hs => ?_))))))))))))))))))))
 exact ⟨(), trivial, rfl, (st_drop (st_drop (st_pull [0, 0] hs)))⟩
theorem rlist_c (W0 : World) (r : Nat) (s : ByteArray) (a0 : Nat) (ha0 : a0 ≤ s.size) (hsz : s.size ≤ 9223372036854775807) :
  Con1 prog W0 167 #[Vp r] [pt r 438 [Vt, Vs s, Vi ((a0 : Nat) : Int)]] (.tuple #[.int .i64 ((gv 0 (takeList s a0) : Nat) : Int), .int .i64 (ge (takeList s a0))]) [pt r 438 [Vt, Vs s, Vi (((gn a0 (takeList s a0)) : Nat) : Int)]] := by
 rcases h : takeList s a0 with _ | ⟨n, a⟩
 · exact rlist_bad W0 r s a0 ha0 hsz h
 · have := takeList_le h; simp only at this; exact rlist_ok W0 r s a0 ha0 hsz (n : Int) a (takeList_of h) (by omega) (by omega)
theorem rtext_c (W0 : World) (r : Nat) (s : ByteArray) (a0 : Nat) (ha0 : a0 ≤ s.size) (hsz : s.size ≤ 9223372036854775807) :
  Con1 prog W0 168 #[Vp r] [pt r 438 [Vt, Vs s, Vi ((a0 : Nat) : Int)]] (.tuple #[.string (gv ⟨#[]⟩ (takeText s a0)), .int .i64 (ge (takeText s a0))]) [pt r 438 [Vt, Vs s, Vi (((gn a0 (takeText s a0)) : Nat) : Int)]] := by
 rcases h : takeList s a0 with _ | ⟨n, a⟩
 · rw [show takeText s a0 = none from by simp [takeText, h]]; exact rtext_none W0 r s a0 ha0 hsz h
 have hl := takeList_le h
 simp only at hl
 by_cases h1 : a + n ≤ s.size
 · rw [show takeText s a0 = some (s.extract a (a + n), a + n) from by simp [takeText, h, h1]]; exact rtext_ok W0 r s a0 ha0 hsz n a (takeList_of h) (by omega) h1
 · rw [show takeText s a0 = none from by simp [takeText, h, h1]]; exact rtext_long W0 r s a0 ha0 hsz n a (takeList_of h) (by omega) (by omega) h1
theorem tnum_c (W0 : World) (s : ByteArray) (a0 : Nat) (ha0 : a0 ≤ s.size) (hsz : s.size ≤ 9223372036854775807) :
    Con1 prog W0 311 #[Vs s, Vi ((a0 : Nat) : Int)] [] (.tuple #[.int .i64 (gv 0 (takeNum s a0)), .int .i64 ((gn a0 (takeNum s a0) : Nat) : Int), .int .i64 (ge (takeNum s a0))]) [] := by
  refine Con.of func311 rfl ntmps311 rfl (fun F => ?_)
  show Wc _ W0 _ _ _ _ _ (F)
  refine Wc.sr (Wl.q (v := Vi 0) (q_assign rfl) (Wl.q (v := Vi 0) (q_assign rfl) (Wl.q (v := Vi 0) (q_assign rfl) (Wl.dg (Wc.sr (Wl.q (v := Value.int .u64 0) (q_assign rfl) (Wl.dg (Wc.seq (Wc.sr (Wl.q (v := Vi 0) (q_assign rfl) (Wl.dg (Wc.block ?_))))))))))))
  refine Wc.loop (X := Nat × Nat) (fun (i, z) E => E 8 = Vi ((i : Nat) : Int) ∧ E 7 = Value.int .u64 ((z : Nat) : Int) ∧ E 0 = Vs s ∧ E 1 = Vi ((a0 : Nat) : Int) ∧ dec s a0 10 0 0 = dec s a0 (10 - i) i z ∧ z < 128 ^ i ∧ i ≤ 10 ∧ a0 + i ≤ s.size) (fun (i, z) => F) (fun (i, z) => 10 - i) (0, 0) ?_ ?_ ?_
  · exact ⟨rfl, rfl, rfl, rfl, rfl, (by decide), (by omega), (by omega)⟩
  · exact fun w hs => hs
  · rintro ⟨i, z⟩ E2 ⟨hE8_0, hE7_0, hE0_0, hE1_0, hp0, hz, hi, ha⟩
    dsimp only at *
    refine Wc.seq (Wc.sr (Wl.q (v := Vi ((i : Nat) : Int)) (q_move hE8_0) ?_))
    by_cases hi10 : ((i : Nat) : Int) < 10
    ·
      refine Wl.q (q_lss rfl rfl (dt hi10)) (Wl.dg (Wc.yes rfl (Wc.skip (Wx.go (Wc.seq (Wc.block (Wc.seq (Wc.sr (Wl.q (v := Vi ((a0 : Nat) : Int)) (q_move hE1_0) (Wl.q (v := Vi ((i : Nat) : Int)) (q_move hE8_0) (Wl.q (v := Vi ((a0 + i : Nat) : Int)) (q_add (c := ((a0 + i : Nat) : Int)) rfl rfl (by rw [wrap_i64] <;> omega)) (Wl.q (v := Vs s) (q_move hE0_0) (Wl.q (q_len_str underlying9 rfl) ?_)))))))))))))
      by_cases hend : ((a0 + i : Nat) : Int) ≥ ((s.size : Nat) : Int)
      ·
        refine Wl.q (q_geq rfl rfl (dt hend)) (Wl.dg (Wc.yes rfl (Wc.sr (Wl.q (v := Vi ((a0 : Nat) : Int)) (q_move hE1_0) (Wl.q (v := Vi 0) (q_assign rfl) (Wl.q (v := Vi ((a0 : Nat) : Int)) (q_assign rfl) (Wl.q (v := Vi 4) (q_assign rfl) (Wl.dg (Wc.ret (Wx.thenRet (Wx.blockRet (Wx.thenRet (Wx.thenRet (Wx.blockRet (Wx.thenRet (Wx.fin3 rfl (.inl rfl) (fun w hs => ?_)))))))))))))))))
        rw [show 10 - i = (10 - (i + 1)) + 1 by omega] at hp0
        have e : takeNum s a0 = none := take_none hp0 (dec_none (getElem?_neg s (a0 + i) (by omega)))
        exact ⟨(), trivial, by rw [e]; rfl, hs⟩
      ·
        obtain ⟨c, hget⟩ := get_some (show a0 + i < s.size by omega)
        refine Wl.q (q_geq rfl rfl (df hend)) (Wl.dg (Wc.no rfl (Wc.skip (Wx.go (Wc.sr (Wl.q (v := Vs s) (q_move hE0_0) (Wl.q (v := Vi ((a0 : Nat) : Int)) (q_move hE1_0) (Wl.q (v := Vi ((i : Nat) : Int)) (q_move hE8_0) (Wl.q (v := Vi ((a0 + i : Nat) : Int)) (q_add (c := ((a0 + i : Nat) : Int)) rfl rfl (by rw [wrap_i64] <;> omega)) (Wl.q (v := Value.int .u8 ((c.toNat : Nat) : Int)) (q_idx_str underlying9 rfl rfl (by omega) (by exact hget)) (Wl.q (v := Value.int .u8 ((c.toNat : Nat) : Int)) (q_assign rfl) (Wl.dg (Wc.seq (Wc.sr (Wl.q (v := Vi ((i : Nat) : Int)) (q_move hE8_0) ?_)))))))))))))))
        by_cases hi9 : ((i : Nat) : Int) = 9
        ·
          refine Wl.q (q_eql rfl rfl (dt hi9)) (Wl.q (v := Vt) (q_move rfl) (Wl.q (v := Value.int .u8 ((c.toNat : Nat) : Int)) (q_move rfl) ?_))
          by_cases hc1 : ((c.toNat : Nat) : Int) > 1
          ·
            refine Wl.q (q_gtr rfl rfl (dt hc1)) (Wl.q (v := Vt) (q_pick (t := true) rfl rfl) (Wl.q (v := Vt) (q_move rfl) (Wl.no (Wl.no (Wl.no (Wl.no (Wl.no (Wl.no (Wl.q (v := Vt) (q_pick (t := true) rfl rfl) (Wl.dg (Wc.yes rfl (Wc.sr (Wl.q (v := Vi ((a0 : Nat) : Int)) (q_move hE1_0) (Wl.q (v := Vi 0) (q_assign rfl) (Wl.q (v := Vi ((a0 : Nat) : Int)) (q_assign rfl) (Wl.q (v := Vi 4) (q_assign rfl) (Wl.dg (Wc.ret (Wx.thenRet (Wx.blockRet (Wx.thenRet (Wx.thenRet (Wx.blockRet ?_)))))))))))))))))))))))
            refine Wx.thenRet (Wx.fin3 rfl (.inl rfl) (fun w hs => ?_))
            rw [show 10 - i = (10 - (i + 1)) + 1 by omega] at hp0
            have e : takeNum s a0 = none := take_none hp0 (dec_bad hget (by omega))
            exact ⟨(), trivial, by rw [e]; rfl, hs⟩
          ·
            have hc9 : i = 9 → c.toNat % 128 ≤ 1 := fun h => by omega
            refine Wl.q (q_gtr rfl rfl (df hc1)) (Wl.q (v := Vf) (q_pick (t := true) rfl rfl) (Wl.q (v := Vf) (q_move rfl) (Wl.q (v := Vi ((i : Nat) : Int)) (q_move hE8_0) ?_)))
            by_cases hi0 : ((i : Nat) : Int) > 0
            ·
              refine Wl.q (q_gtr rfl rfl (dt hi0)) (Wl.q (v := Vt) (q_move rfl) (Wl.q (v := Value.int .u8 ((c.toNat : Nat) : Int)) (q_move rfl) ?_))
              by_cases hc0 : ((c.toNat : Nat) : Int) = 0
              ·
                refine Wl.q (q_eql rfl rfl (dt hc0)) (Wl.q (v := Vt) (q_pick (t := true) rfl rfl) (Wl.q (v := Vt) (q_pick (t := false) rfl rfl) (Wl.dg (Wc.yes rfl (Wc.sr (Wl.q (v := Vi ((a0 : Nat) : Int)) (q_move hE1_0) (Wl.q (v := Vi 0) (q_assign rfl) (Wl.q (v := Vi ((a0 : Nat) : Int)) (q_assign rfl) (Wl.q (v := Vi 4) (q_assign rfl) (Wl.dg (Wc.ret (Wx.thenRet (Wx.blockRet (Wx.thenRet (Wx.thenRet (Wx.blockRet (Wx.thenRet (Wx.fin3 rfl (.inl rfl) (fun w hs => ?_)))))))))))))))))))
                rw [show 10 - i = (10 - (i + 1)) + 1 by omega] at hp0
                have e : takeNum s a0 = none := take_none hp0 (dec_bad hget (by omega))
                exact ⟨(), trivial, by rw [e]; rfl, hs⟩
              ·
                refine Wl.q (q_eql rfl rfl (df hc0)) (Wl.q (v := Vf) (q_pick (t := true) rfl rfl) (Wl.q (v := Vf) (q_pick (t := false) rfl rfl) (Wl.dg (Wc.no rfl (Wc.skip (Wx.go (Wc.sr (Wl.q (v := Value.int .u64 ((z : Nat) : Int)) (q_move hE7_0) (Wl.q (v := Value.int .u8 ((c.toNat : Nat) : Int)) (q_move rfl) (Wl.q (v := Value.int .u8 ((c.toNat % 128 : Nat) : Int)) (q_and (c := ((c.toNat % 128 : Nat) : Int)) rfl rfl (and127 c)) (Wl.q (v := Value.int .u64 ((c.toNat % 128 : Nat) : Int)) (q_conv_int (c := ((c.toNat % 128 : Nat) : Int)) underlying457 (by rw [underlying5]; rfl) rfl (wrap_u64 (by omega) (by omega))) (Wl.q (v := Vi ((i : Nat) : Int)) (q_move hE8_0) (Wl.q (v := Vi ((7 * i : Nat) : Int)) (q_mul (c := ((7 * i : Nat) : Int)) rfl rfl (by rw [wrap_i64] <;> omega)) (Wl.q (v := Value.int .u64 ((c.toNat % 128 * 128 ^ i : Nat) : Int)) (q_shl (c := ((c.toNat % 128 * 128 ^ i : Nat) : Int)) rfl rfl (by omega) (shl7 (by omega) hc9 (by omega))) (Wl.q (v := Value.int .u64 (((z + c.toNat % 128 * 128 ^ i) : Nat) : Int)) (q_or (c := (((z + c.toNat % 128 * 128 ^ i) : Nat) : Int)) rfl rfl (or7 hz (by omega) hc9 (by omega)).2) (Wl.q (v := Value.int .u64 (((z + c.toNat % 128 * 128 ^ i) : Nat) : Int)) (q_assign rfl) (Wl.dg (Wc.sr (Wl.q (v := Value.int .u8 ((c.toNat : Nat) : Int)) (q_move rfl) ?_)))))))))))))))))))
                by_cases hc128 : ((c.toNat : Nat) : Int) < 128
                ·
                  have hZ := (or7 hz (by omega) hc9 (by omega)).1
                  refine Wl.q (q_lss rfl rfl (dt hc128)) (Wl.dg (Wc.yes rfl (Wc.sr (Wl.q (v := Value.int .u64 (((z + c.toNat % 128 * 128 ^ i) : Nat) : Int)) (q_move rfl) (Wl.q (v := Value.int .u64 (((z + c.toNat % 128 * 128 ^ i) / 2 : Nat) : Int)) (q_quo (c := (((z + c.toNat % 128 * 128 ^ i) / 2 : Nat) : Int)) rfl rfl (by decide) (by rw [Int.tdiv_eq_ediv_of_nonneg (by omega), wrap_u64 (by omega) (by omega)]; omega)) (Wl.q (v := Vi (((z + c.toNat % 128 * 128 ^ i) / 2 : Nat) : Int)) (q_conv_int (c := (((z + c.toNat % 128 * 128 ^ i) / 2 : Nat) : Int)) underlying2 (by rw [underlying457]; rfl) rfl (wrap_i64 (by omega) (by omega))) (Wl.q (v := Vi (((z + c.toNat % 128 * 128 ^ i) / 2 : Nat) : Int)) (q_assign rfl) (Wl.dg (Wc.seq (Wc.sr (Wl.q (v := Value.int .u64 (((z + c.toNat % 128 * 128 ^ i) : Nat) : Int)) (q_move rfl) (Wl.q (v := Value.int .u64 (((z + c.toNat % 128 * 128 ^ i) % 2 : Nat) : Int)) (q_rem (c := (((z + c.toNat % 128 * 128 ^ i) % 2 : Nat) : Int)) rfl rfl (by decide) (by rw [Int.tmod_eq_emod_of_nonneg (by omega)]; omega)) ?_))))))))))))
                  by_cases hodd : (((z + c.toNat % 128 * 128 ^ i) % 2 : Nat) : Int) = 1
                  ·
                    refine Wl.q (q_eql rfl rfl (dt hodd)) (Wl.dg (Wc.yes rfl (Wc.region (Wl.q (v := Vi (((z + c.toNat % 128 * 128 ^ i) / 2 : Nat) : Int)) (q_move rfl) (Wl.q (v := Vi (-(((z + c.toNat % 128 * 128 ^ i) / 2 : Nat) : Int))) (q_neg (c := (-(((z + c.toNat % 128 * 128 ^ i) / 2 : Nat) : Int))) rfl (wrap_i64 (by omega) (by omega))) (Wl.q (v := Vi (-(((z + c.toNat % 128 * 128 ^ i) / 2 : Nat) : Int) - 1)) (q_sub (c := (-(((z + c.toNat % 128 * 128 ^ i) / 2 : Nat) : Int) - 1)) rfl rfl (wrap_i64 (by omega) (by omega))) (Wl.q (v := Vi (-(((z + c.toNat % 128 * 128 ^ i) / 2 : Nat) : Int) - 1)) (q_assign rfl) (Wl.dg (Wc.sr (Wl.q (v := Vi (-(((z + c.toNat % 128 * 128 ^ i) / 2 : Nat) : Int) - 1)) (q_move rfl) (Wl.q (v := Vi ((a0 : Nat) : Int)) (q_move hE1_0) (Wl.q (v := Vi ((i : Nat) : Int)) (q_move hE8_0) (Wl.q (v := Vi ((a0 + i : Nat) : Int)) (q_add (c := ((a0 + i : Nat) : Int)) rfl rfl (by rw [wrap_i64] <;> omega)) (Wl.q (v := Vi (((a0 + i) + 1 : Nat) : Int)) (q_add (c := (((a0 + i) + 1 : Nat) : Int)) rfl rfl (by rw [wrap_i64] <;> omega)) (Wl.q (v := Vi (-(((z + c.toNat % 128 * 128 ^ i) / 2 : Nat) : Int) - 1)) (q_assign rfl) (Wl.q (v := Vi (((a0 + i) + 1 : Nat) : Int)) (q_assign rfl) (Wl.q (v := Vi 0) (q_assign rfl) (Wl.dg (Wc.ret (Wx.blockRet (Wx.thenRet (Wx.thenRet (Wx.blockRet ?_)))))))))))))))))))))))
                    refine Wx.thenRet (Wx.fin3 rfl (.inl rfl) (fun w hs => ?_))
                    rw [show 10 - i = (10 - (i + 1)) + 1 by omega] at hp0
                    have e : takeNum s a0 = some (un (z + c.toNat % 128 * 128 ^ i), a0 + i + 1) := take_some hp0 (dec_end hget (by omega) (by omega))
                    exact ⟨(), trivial, by rw [e, ← un_odd hodd]; rfl, hs⟩
                  ·
                    refine Wl.q (q_eql rfl rfl (df hodd)) (Wl.dg (Wc.no rfl (Wc.skip (Wx.go (Wc.sr (Wl.q (v := Vi (((z + c.toNat % 128 * 128 ^ i) / 2 : Nat) : Int)) (q_move rfl) (Wl.q (v := Vi ((a0 : Nat) : Int)) (q_move hE1_0) (Wl.q (v := Vi ((i : Nat) : Int)) (q_move hE8_0) (Wl.q (v := Vi ((a0 + i : Nat) : Int)) (q_add (c := ((a0 + i : Nat) : Int)) rfl rfl (by rw [wrap_i64] <;> omega)) (Wl.q (v := Vi (((a0 + i) + 1 : Nat) : Int)) (q_add (c := (((a0 + i) + 1 : Nat) : Int)) rfl rfl (by rw [wrap_i64] <;> omega)) (Wl.q (v := Vi (((z + c.toNat % 128 * 128 ^ i) / 2 : Nat) : Int)) (q_assign rfl) (Wl.q (v := Vi (((a0 + i) + 1 : Nat) : Int)) (q_assign rfl) (Wl.q (v := Vi 0) (q_assign rfl) (Wl.dg (Wc.ret (Wx.blockRet (Wx.thenRet (Wx.thenRet (Wx.blockRet (Wx.thenRet (Wx.fin3 rfl (.inl rfl) (fun w hs => ?_))))))))))))))))))))))
                    rw [show 10 - i = (10 - (i + 1)) + 1 by omega] at hp0
                    have e : takeNum s a0 = some (un (z + c.toNat % 128 * 128 ^ i), a0 + i + 1) := take_some hp0 (dec_end hget (by omega) (by omega))
                    exact ⟨(), trivial, by rw [e, ← un_even hodd]; rfl, hs⟩
                ·
                  refine Wl.q (q_lss rfl rfl (df hc128)) (Wl.dg (Wc.no rfl (Wc.skip (Wx.blockEnd (Wx.go (Wc.region (Wl.q (v := Vi ((i : Nat) : Int)) (q_move hE8_0) (Wl.q (v := Vi ((i + 1 : Nat) : Int)) (q_add (c := ((i + 1 : Nat) : Int)) rfl rfl (by rw [wrap_i64] <;> omega)) (Wl.q (v := Vi ((i + 1 : Nat) : Int)) (q_assign rfl) (Wl.done ?_))))))))))
                  refine Wx.at (i + 1, (z + c.toNat % 128 * 128 ^ i)) ⟨(by simp only; omega), rfl, rfl, hE0_0, hE1_0, (by simp only; rw [hp0, show 10 - i = (10 - (i + 1)) + 1 by omega]; exact dec_more hget (by omega) (by omega)), (pow_next hz), (by simp only; omega), (by simp only; omega)⟩ (fun w hs => hs)
            ·
              refine Wl.q (q_gtr rfl rfl (df hi0)) (Wl.q (v := Vf) (q_move rfl) (Wl.no (Wl.no (Wl.q (v := Vf) (q_pick (t := false) rfl rfl) (Wl.q (v := Vf) (q_pick (t := false) rfl rfl) (Wl.dg (Wc.no rfl (Wc.skip (Wx.go (Wc.sr (Wl.q (v := Value.int .u64 ((z : Nat) : Int)) (q_move hE7_0) (Wl.q (v := Value.int .u8 ((c.toNat : Nat) : Int)) (q_move rfl) (Wl.q (v := Value.int .u8 ((c.toNat % 128 : Nat) : Int)) (q_and (c := ((c.toNat % 128 : Nat) : Int)) rfl rfl (and127 c)) (Wl.q (v := Value.int .u64 ((c.toNat % 128 : Nat) : Int)) (q_conv_int (c := ((c.toNat % 128 : Nat) : Int)) underlying457 (by rw [underlying5]; rfl) rfl (wrap_u64 (by omega) (by omega))) (Wl.q (v := Vi ((i : Nat) : Int)) (q_move hE8_0) (Wl.q (v := Vi ((7 * i : Nat) : Int)) (q_mul (c := ((7 * i : Nat) : Int)) rfl rfl (by rw [wrap_i64] <;> omega)) (Wl.q (v := Value.int .u64 ((c.toNat % 128 * 128 ^ i : Nat) : Int)) (q_shl (c := ((c.toNat % 128 * 128 ^ i : Nat) : Int)) rfl rfl (by omega) (shl7 (by omega) hc9 (by omega))) (Wl.q (v := Value.int .u64 (((z + c.toNat % 128 * 128 ^ i) : Nat) : Int)) (q_or (c := (((z + c.toNat % 128 * 128 ^ i) : Nat) : Int)) rfl rfl (or7 hz (by omega) hc9 (by omega)).2) (Wl.q (v := Value.int .u64 (((z + c.toNat % 128 * 128 ^ i) : Nat) : Int)) (q_assign rfl) (Wl.dg (Wc.sr (Wl.q (v := Value.int .u8 ((c.toNat : Nat) : Int)) (q_move rfl) ?_))))))))))))))))))))))
              by_cases hc128 : ((c.toNat : Nat) : Int) < 128
              ·
                have hZ := (or7 hz (by omega) hc9 (by omega)).1
                refine Wl.q (q_lss rfl rfl (dt hc128)) (Wl.dg (Wc.yes rfl (Wc.sr (Wl.q (v := Value.int .u64 (((z + c.toNat % 128 * 128 ^ i) : Nat) : Int)) (q_move rfl) (Wl.q (v := Value.int .u64 (((z + c.toNat % 128 * 128 ^ i) / 2 : Nat) : Int)) (q_quo (c := (((z + c.toNat % 128 * 128 ^ i) / 2 : Nat) : Int)) rfl rfl (by decide) (by rw [Int.tdiv_eq_ediv_of_nonneg (by omega), wrap_u64 (by omega) (by omega)]; omega)) (Wl.q (v := Vi (((z + c.toNat % 128 * 128 ^ i) / 2 : Nat) : Int)) (q_conv_int (c := (((z + c.toNat % 128 * 128 ^ i) / 2 : Nat) : Int)) underlying2 (by rw [underlying457]; rfl) rfl (wrap_i64 (by omega) (by omega))) (Wl.q (v := Vi (((z + c.toNat % 128 * 128 ^ i) / 2 : Nat) : Int)) (q_assign rfl) (Wl.dg (Wc.seq (Wc.sr (Wl.q (v := Value.int .u64 (((z + c.toNat % 128 * 128 ^ i) : Nat) : Int)) (q_move rfl) (Wl.q (v := Value.int .u64 (((z + c.toNat % 128 * 128 ^ i) % 2 : Nat) : Int)) (q_rem (c := (((z + c.toNat % 128 * 128 ^ i) % 2 : Nat) : Int)) rfl rfl (by decide) (by rw [Int.tmod_eq_emod_of_nonneg (by omega)]; omega)) ?_))))))))))))
                by_cases hodd : (((z + c.toNat % 128 * 128 ^ i) % 2 : Nat) : Int) = 1
                ·
                  refine Wl.q (q_eql rfl rfl (dt hodd)) (Wl.dg (Wc.yes rfl (Wc.region (Wl.q (v := Vi (((z + c.toNat % 128 * 128 ^ i) / 2 : Nat) : Int)) (q_move rfl) (Wl.q (v := Vi (-(((z + c.toNat % 128 * 128 ^ i) / 2 : Nat) : Int))) (q_neg (c := (-(((z + c.toNat % 128 * 128 ^ i) / 2 : Nat) : Int))) rfl (wrap_i64 (by omega) (by omega))) (Wl.q (v := Vi (-(((z + c.toNat % 128 * 128 ^ i) / 2 : Nat) : Int) - 1)) (q_sub (c := (-(((z + c.toNat % 128 * 128 ^ i) / 2 : Nat) : Int) - 1)) rfl rfl (wrap_i64 (by omega) (by omega))) (Wl.q (v := Vi (-(((z + c.toNat % 128 * 128 ^ i) / 2 : Nat) : Int) - 1)) (q_assign rfl) (Wl.dg (Wc.sr (Wl.q (v := Vi (-(((z + c.toNat % 128 * 128 ^ i) / 2 : Nat) : Int) - 1)) (q_move rfl) (Wl.q (v := Vi ((a0 : Nat) : Int)) (q_move hE1_0) (Wl.q (v := Vi ((i : Nat) : Int)) (q_move hE8_0) (Wl.q (v := Vi ((a0 + i : Nat) : Int)) (q_add (c := ((a0 + i : Nat) : Int)) rfl rfl (by rw [wrap_i64] <;> omega)) (Wl.q (v := Vi (((a0 + i) + 1 : Nat) : Int)) (q_add (c := (((a0 + i) + 1 : Nat) : Int)) rfl rfl (by rw [wrap_i64] <;> omega)) (Wl.q (v := Vi (-(((z + c.toNat % 128 * 128 ^ i) / 2 : Nat) : Int) - 1)) (q_assign rfl) (Wl.q (v := Vi (((a0 + i) + 1 : Nat) : Int)) (q_assign rfl) (Wl.q (v := Vi 0) (q_assign rfl) (Wl.dg (Wc.ret (Wx.blockRet (Wx.thenRet (Wx.thenRet (Wx.blockRet ?_)))))))))))))))))))))))
                  refine Wx.thenRet (Wx.fin3 rfl (.inl rfl) (fun w hs => ?_))
                  rw [show 10 - i = (10 - (i + 1)) + 1 by omega] at hp0
                  have e : takeNum s a0 = some (un (z + c.toNat % 128 * 128 ^ i), a0 + i + 1) := take_some hp0 (dec_end hget (by omega) (by omega))
                  exact ⟨(), trivial, by rw [e, ← un_odd hodd]; rfl, hs⟩
                ·
                  refine Wl.q (q_eql rfl rfl (df hodd)) (Wl.dg (Wc.no rfl (Wc.skip (Wx.go (Wc.sr (Wl.q (v := Vi (((z + c.toNat % 128 * 128 ^ i) / 2 : Nat) : Int)) (q_move rfl) (Wl.q (v := Vi ((a0 : Nat) : Int)) (q_move hE1_0) (Wl.q (v := Vi ((i : Nat) : Int)) (q_move hE8_0) (Wl.q (v := Vi ((a0 + i : Nat) : Int)) (q_add (c := ((a0 + i : Nat) : Int)) rfl rfl (by rw [wrap_i64] <;> omega)) (Wl.q (v := Vi (((a0 + i) + 1 : Nat) : Int)) (q_add (c := (((a0 + i) + 1 : Nat) : Int)) rfl rfl (by rw [wrap_i64] <;> omega)) (Wl.q (v := Vi (((z + c.toNat % 128 * 128 ^ i) / 2 : Nat) : Int)) (q_assign rfl) (Wl.q (v := Vi (((a0 + i) + 1 : Nat) : Int)) (q_assign rfl) (Wl.q (v := Vi 0) (q_assign rfl) (Wl.dg (Wc.ret (Wx.blockRet (Wx.thenRet (Wx.thenRet (Wx.blockRet (Wx.thenRet (Wx.fin3 rfl (.inl rfl) (fun w hs => ?_))))))))))))))))))))))
                  rw [show 10 - i = (10 - (i + 1)) + 1 by omega] at hp0
                  have e : takeNum s a0 = some (un (z + c.toNat % 128 * 128 ^ i), a0 + i + 1) := take_some hp0 (dec_end hget (by omega) (by omega))
                  exact ⟨(), trivial, by rw [e, ← un_even hodd]; rfl, hs⟩
              ·
                refine Wl.q (q_lss rfl rfl (df hc128)) (Wl.dg (Wc.no rfl (Wc.skip (Wx.blockEnd (Wx.go (Wc.region (Wl.q (v := Vi ((i : Nat) : Int)) (q_move hE8_0) (Wl.q (v := Vi ((i + 1 : Nat) : Int)) (q_add (c := ((i + 1 : Nat) : Int)) rfl rfl (by rw [wrap_i64] <;> omega)) (Wl.q (v := Vi ((i + 1 : Nat) : Int)) (q_assign rfl) (Wl.done ?_))))))))))
                refine Wx.at (i + 1, (z + c.toNat % 128 * 128 ^ i)) ⟨(by simp only; omega), rfl, rfl, hE0_0, hE1_0, (by simp only; rw [hp0, show 10 - i = (10 - (i + 1)) + 1 by omega]; exact dec_more hget (by omega) (by omega)), (pow_next hz), (by simp only; omega), (by simp only; omega)⟩ (fun w hs => hs)
        ·
          have hc9 : i = 9 → c.toNat % 128 ≤ 1 := fun h => by omega
          refine Wl.q (q_eql rfl rfl (df hi9)) (Wl.q (v := Vf) (q_move rfl) (Wl.no (Wl.no (Wl.q (v := Vf) (q_pick (t := false) rfl rfl) (Wl.q (v := Vf) (q_move rfl) (Wl.q (v := Vi ((i : Nat) : Int)) (q_move hE8_0) ?_))))))
          by_cases hi0 : ((i : Nat) : Int) > 0
          ·
            refine Wl.q (q_gtr rfl rfl (dt hi0)) (Wl.q (v := Vt) (q_move rfl) (Wl.q (v := Value.int .u8 ((c.toNat : Nat) : Int)) (q_move rfl) ?_))
            by_cases hc0 : ((c.toNat : Nat) : Int) = 0
            ·
              refine Wl.q (q_eql rfl rfl (dt hc0)) (Wl.q (v := Vt) (q_pick (t := true) rfl rfl) (Wl.q (v := Vt) (q_pick (t := false) rfl rfl) (Wl.dg (Wc.yes rfl (Wc.sr (Wl.q (v := Vi ((a0 : Nat) : Int)) (q_move hE1_0) (Wl.q (v := Vi 0) (q_assign rfl) (Wl.q (v := Vi ((a0 : Nat) : Int)) (q_assign rfl) (Wl.q (v := Vi 4) (q_assign rfl) (Wl.dg (Wc.ret (Wx.thenRet (Wx.blockRet (Wx.thenRet (Wx.thenRet (Wx.blockRet (Wx.thenRet (Wx.fin3 rfl (.inl rfl) (fun w hs => ?_)))))))))))))))))))
              rw [show 10 - i = (10 - (i + 1)) + 1 by omega] at hp0
              have e : takeNum s a0 = none := take_none hp0 (dec_bad hget (by omega))
              exact ⟨(), trivial, by rw [e]; rfl, hs⟩
            ·
              refine Wl.q (q_eql rfl rfl (df hc0)) (Wl.q (v := Vf) (q_pick (t := true) rfl rfl) (Wl.q (v := Vf) (q_pick (t := false) rfl rfl) (Wl.dg (Wc.no rfl (Wc.skip (Wx.go (Wc.sr (Wl.q (v := Value.int .u64 ((z : Nat) : Int)) (q_move hE7_0) (Wl.q (v := Value.int .u8 ((c.toNat : Nat) : Int)) (q_move rfl) (Wl.q (v := Value.int .u8 ((c.toNat % 128 : Nat) : Int)) (q_and (c := ((c.toNat % 128 : Nat) : Int)) rfl rfl (and127 c)) (Wl.q (v := Value.int .u64 ((c.toNat % 128 : Nat) : Int)) (q_conv_int (c := ((c.toNat % 128 : Nat) : Int)) underlying457 (by rw [underlying5]; rfl) rfl (wrap_u64 (by omega) (by omega))) (Wl.q (v := Vi ((i : Nat) : Int)) (q_move hE8_0) (Wl.q (v := Vi ((7 * i : Nat) : Int)) (q_mul (c := ((7 * i : Nat) : Int)) rfl rfl (by rw [wrap_i64] <;> omega)) (Wl.q (v := Value.int .u64 ((c.toNat % 128 * 128 ^ i : Nat) : Int)) (q_shl (c := ((c.toNat % 128 * 128 ^ i : Nat) : Int)) rfl rfl (by omega) (shl7 (by omega) hc9 (by omega))) (Wl.q (v := Value.int .u64 (((z + c.toNat % 128 * 128 ^ i) : Nat) : Int)) (q_or (c := (((z + c.toNat % 128 * 128 ^ i) : Nat) : Int)) rfl rfl (or7 hz (by omega) hc9 (by omega)).2) (Wl.q (v := Value.int .u64 (((z + c.toNat % 128 * 128 ^ i) : Nat) : Int)) (q_assign rfl) (Wl.dg (Wc.sr (Wl.q (v := Value.int .u8 ((c.toNat : Nat) : Int)) (q_move rfl) ?_)))))))))))))))))))
              by_cases hc128 : ((c.toNat : Nat) : Int) < 128
              ·
                have hZ := (or7 hz (by omega) hc9 (by omega)).1
                refine Wl.q (q_lss rfl rfl (dt hc128)) (Wl.dg (Wc.yes rfl (Wc.sr (Wl.q (v := Value.int .u64 (((z + c.toNat % 128 * 128 ^ i) : Nat) : Int)) (q_move rfl) (Wl.q (v := Value.int .u64 (((z + c.toNat % 128 * 128 ^ i) / 2 : Nat) : Int)) (q_quo (c := (((z + c.toNat % 128 * 128 ^ i) / 2 : Nat) : Int)) rfl rfl (by decide) (by rw [Int.tdiv_eq_ediv_of_nonneg (by omega), wrap_u64 (by omega) (by omega)]; omega)) (Wl.q (v := Vi (((z + c.toNat % 128 * 128 ^ i) / 2 : Nat) : Int)) (q_conv_int (c := (((z + c.toNat % 128 * 128 ^ i) / 2 : Nat) : Int)) underlying2 (by rw [underlying457]; rfl) rfl (wrap_i64 (by omega) (by omega))) (Wl.q (v := Vi (((z + c.toNat % 128 * 128 ^ i) / 2 : Nat) : Int)) (q_assign rfl) (Wl.dg (Wc.seq (Wc.sr (Wl.q (v := Value.int .u64 (((z + c.toNat % 128 * 128 ^ i) : Nat) : Int)) (q_move rfl) (Wl.q (v := Value.int .u64 (((z + c.toNat % 128 * 128 ^ i) % 2 : Nat) : Int)) (q_rem (c := (((z + c.toNat % 128 * 128 ^ i) % 2 : Nat) : Int)) rfl rfl (by decide) (by rw [Int.tmod_eq_emod_of_nonneg (by omega)]; omega)) ?_))))))))))))
                by_cases hodd : (((z + c.toNat % 128 * 128 ^ i) % 2 : Nat) : Int) = 1
                ·
                  refine Wl.q (q_eql rfl rfl (dt hodd)) (Wl.dg (Wc.yes rfl (Wc.region (Wl.q (v := Vi (((z + c.toNat % 128 * 128 ^ i) / 2 : Nat) : Int)) (q_move rfl) (Wl.q (v := Vi (-(((z + c.toNat % 128 * 128 ^ i) / 2 : Nat) : Int))) (q_neg (c := (-(((z + c.toNat % 128 * 128 ^ i) / 2 : Nat) : Int))) rfl (wrap_i64 (by omega) (by omega))) (Wl.q (v := Vi (-(((z + c.toNat % 128 * 128 ^ i) / 2 : Nat) : Int) - 1)) (q_sub (c := (-(((z + c.toNat % 128 * 128 ^ i) / 2 : Nat) : Int) - 1)) rfl rfl (wrap_i64 (by omega) (by omega))) (Wl.q (v := Vi (-(((z + c.toNat % 128 * 128 ^ i) / 2 : Nat) : Int) - 1)) (q_assign rfl) (Wl.dg (Wc.sr (Wl.q (v := Vi (-(((z + c.toNat % 128 * 128 ^ i) / 2 : Nat) : Int) - 1)) (q_move rfl) (Wl.q (v := Vi ((a0 : Nat) : Int)) (q_move hE1_0) (Wl.q (v := Vi ((i : Nat) : Int)) (q_move hE8_0) (Wl.q (v := Vi ((a0 + i : Nat) : Int)) (q_add (c := ((a0 + i : Nat) : Int)) rfl rfl (by rw [wrap_i64] <;> omega)) (Wl.q (v := Vi (((a0 + i) + 1 : Nat) : Int)) (q_add (c := (((a0 + i) + 1 : Nat) : Int)) rfl rfl (by rw [wrap_i64] <;> omega)) (Wl.q (v := Vi (-(((z + c.toNat % 128 * 128 ^ i) / 2 : Nat) : Int) - 1)) (q_assign rfl) (Wl.q (v := Vi (((a0 + i) + 1 : Nat) : Int)) (q_assign rfl) (Wl.q (v := Vi 0) (q_assign rfl) (Wl.dg (Wc.ret (Wx.blockRet (Wx.thenRet (Wx.thenRet (Wx.blockRet ?_)))))))))))))))))))))))
                  refine Wx.thenRet (Wx.fin3 rfl (.inl rfl) (fun w hs => ?_))
                  rw [show 10 - i = (10 - (i + 1)) + 1 by omega] at hp0
                  have e : takeNum s a0 = some (un (z + c.toNat % 128 * 128 ^ i), a0 + i + 1) := take_some hp0 (dec_end hget (by omega) (by omega))
                  exact ⟨(), trivial, by rw [e, ← un_odd hodd]; rfl, hs⟩
                ·
                  refine Wl.q (q_eql rfl rfl (df hodd)) (Wl.dg (Wc.no rfl (Wc.skip (Wx.go (Wc.sr (Wl.q (v := Vi (((z + c.toNat % 128 * 128 ^ i) / 2 : Nat) : Int)) (q_move rfl) (Wl.q (v := Vi ((a0 : Nat) : Int)) (q_move hE1_0) (Wl.q (v := Vi ((i : Nat) : Int)) (q_move hE8_0) (Wl.q (v := Vi ((a0 + i : Nat) : Int)) (q_add (c := ((a0 + i : Nat) : Int)) rfl rfl (by rw [wrap_i64] <;> omega)) (Wl.q (v := Vi (((a0 + i) + 1 : Nat) : Int)) (q_add (c := (((a0 + i) + 1 : Nat) : Int)) rfl rfl (by rw [wrap_i64] <;> omega)) (Wl.q (v := Vi (((z + c.toNat % 128 * 128 ^ i) / 2 : Nat) : Int)) (q_assign rfl) (Wl.q (v := Vi (((a0 + i) + 1 : Nat) : Int)) (q_assign rfl) (Wl.q (v := Vi 0) (q_assign rfl) (Wl.dg (Wc.ret (Wx.blockRet (Wx.thenRet (Wx.thenRet (Wx.blockRet (Wx.thenRet (Wx.fin3 rfl (.inl rfl) (fun w hs => ?_))))))))))))))))))))))
                  rw [show 10 - i = (10 - (i + 1)) + 1 by omega] at hp0
                  have e : takeNum s a0 = some (un (z + c.toNat % 128 * 128 ^ i), a0 + i + 1) := take_some hp0 (dec_end hget (by omega) (by omega))
                  exact ⟨(), trivial, by rw [e, ← un_even hodd]; rfl, hs⟩
              ·
                refine Wl.q (q_lss rfl rfl (df hc128)) (Wl.dg (Wc.no rfl (Wc.skip (Wx.blockEnd (Wx.go (Wc.region (Wl.q (v := Vi ((i : Nat) : Int)) (q_move hE8_0) (Wl.q (v := Vi ((i + 1 : Nat) : Int)) (q_add (c := ((i + 1 : Nat) : Int)) rfl rfl (by rw [wrap_i64] <;> omega)) (Wl.q (v := Vi ((i + 1 : Nat) : Int)) (q_assign rfl) (Wl.done ?_))))))))))
                refine Wx.at (i + 1, (z + c.toNat % 128 * 128 ^ i)) ⟨(by simp only; omega), rfl, rfl, hE0_0, hE1_0, (by simp only; rw [hp0, show 10 - i = (10 - (i + 1)) + 1 by omega]; exact dec_more hget (by omega) (by omega)), (pow_next hz), (by simp only; omega), (by simp only; omega)⟩ (fun w hs => hs)
          ·
            refine Wl.q (q_gtr rfl rfl (df hi0)) (Wl.q (v := Vf) (q_move rfl) (Wl.no (Wl.no (Wl.q (v := Vf) (q_pick (t := false) rfl rfl) (Wl.q (v := Vf) (q_pick (t := false) rfl rfl) (Wl.dg (Wc.no rfl (Wc.skip (Wx.go (Wc.sr (Wl.q (v := Value.int .u64 ((z : Nat) : Int)) (q_move hE7_0) (Wl.q (v := Value.int .u8 ((c.toNat : Nat) : Int)) (q_move rfl) (Wl.q (v := Value.int .u8 ((c.toNat % 128 : Nat) : Int)) (q_and (c := ((c.toNat % 128 : Nat) : Int)) rfl rfl (and127 c)) (Wl.q (v := Value.int .u64 ((c.toNat % 128 : Nat) : Int)) (q_conv_int (c := ((c.toNat % 128 : Nat) : Int)) underlying457 (by rw [underlying5]; rfl) rfl (wrap_u64 (by omega) (by omega))) (Wl.q (v := Vi ((i : Nat) : Int)) (q_move hE8_0) (Wl.q (v := Vi ((7 * i : Nat) : Int)) (q_mul (c := ((7 * i : Nat) : Int)) rfl rfl (by rw [wrap_i64] <;> omega)) (Wl.q (v := Value.int .u64 ((c.toNat % 128 * 128 ^ i : Nat) : Int)) (q_shl (c := ((c.toNat % 128 * 128 ^ i : Nat) : Int)) rfl rfl (by omega) (shl7 (by omega) hc9 (by omega))) (Wl.q (v := Value.int .u64 (((z + c.toNat % 128 * 128 ^ i) : Nat) : Int)) (q_or (c := (((z + c.toNat % 128 * 128 ^ i) : Nat) : Int)) rfl rfl (or7 hz (by omega) hc9 (by omega)).2) (Wl.q (v := Value.int .u64 (((z + c.toNat % 128 * 128 ^ i) : Nat) : Int)) (q_assign rfl) (Wl.dg (Wc.sr (Wl.q (v := Value.int .u8 ((c.toNat : Nat) : Int)) (q_move rfl) ?_))))))))))))))))))))))
            by_cases hc128 : ((c.toNat : Nat) : Int) < 128
            ·
              have hZ := (or7 hz (by omega) hc9 (by omega)).1
              refine Wl.q (q_lss rfl rfl (dt hc128)) (Wl.dg (Wc.yes rfl (Wc.sr (Wl.q (v := Value.int .u64 (((z + c.toNat % 128 * 128 ^ i) : Nat) : Int)) (q_move rfl) (Wl.q (v := Value.int .u64 (((z + c.toNat % 128 * 128 ^ i) / 2 : Nat) : Int)) (q_quo (c := (((z + c.toNat % 128 * 128 ^ i) / 2 : Nat) : Int)) rfl rfl (by decide) (by rw [Int.tdiv_eq_ediv_of_nonneg (by omega), wrap_u64 (by omega) (by omega)]; omega)) (Wl.q (v := Vi (((z + c.toNat % 128 * 128 ^ i) / 2 : Nat) : Int)) (q_conv_int (c := (((z + c.toNat % 128 * 128 ^ i) / 2 : Nat) : Int)) underlying2 (by rw [underlying457]; rfl) rfl (wrap_i64 (by omega) (by omega))) (Wl.q (v := Vi (((z + c.toNat % 128 * 128 ^ i) / 2 : Nat) : Int)) (q_assign rfl) (Wl.dg (Wc.seq (Wc.sr (Wl.q (v := Value.int .u64 (((z + c.toNat % 128 * 128 ^ i) : Nat) : Int)) (q_move rfl) (Wl.q (v := Value.int .u64 (((z + c.toNat % 128 * 128 ^ i) % 2 : Nat) : Int)) (q_rem (c := (((z + c.toNat % 128 * 128 ^ i) % 2 : Nat) : Int)) rfl rfl (by decide) (by rw [Int.tmod_eq_emod_of_nonneg (by omega)]; omega)) ?_))))))))))))
              by_cases hodd : (((z + c.toNat % 128 * 128 ^ i) % 2 : Nat) : Int) = 1
              ·
                refine Wl.q (q_eql rfl rfl (dt hodd)) (Wl.dg (Wc.yes rfl (Wc.region (Wl.q (v := Vi (((z + c.toNat % 128 * 128 ^ i) / 2 : Nat) : Int)) (q_move rfl) (Wl.q (v := Vi (-(((z + c.toNat % 128 * 128 ^ i) / 2 : Nat) : Int))) (q_neg (c := (-(((z + c.toNat % 128 * 128 ^ i) / 2 : Nat) : Int))) rfl (wrap_i64 (by omega) (by omega))) (Wl.q (v := Vi (-(((z + c.toNat % 128 * 128 ^ i) / 2 : Nat) : Int) - 1)) (q_sub (c := (-(((z + c.toNat % 128 * 128 ^ i) / 2 : Nat) : Int) - 1)) rfl rfl (wrap_i64 (by omega) (by omega))) (Wl.q (v := Vi (-(((z + c.toNat % 128 * 128 ^ i) / 2 : Nat) : Int) - 1)) (q_assign rfl) (Wl.dg (Wc.sr (Wl.q (v := Vi (-(((z + c.toNat % 128 * 128 ^ i) / 2 : Nat) : Int) - 1)) (q_move rfl) (Wl.q (v := Vi ((a0 : Nat) : Int)) (q_move hE1_0) (Wl.q (v := Vi ((i : Nat) : Int)) (q_move hE8_0) (Wl.q (v := Vi ((a0 + i : Nat) : Int)) (q_add (c := ((a0 + i : Nat) : Int)) rfl rfl (by rw [wrap_i64] <;> omega)) (Wl.q (v := Vi (((a0 + i) + 1 : Nat) : Int)) (q_add (c := (((a0 + i) + 1 : Nat) : Int)) rfl rfl (by rw [wrap_i64] <;> omega)) (Wl.q (v := Vi (-(((z + c.toNat % 128 * 128 ^ i) / 2 : Nat) : Int) - 1)) (q_assign rfl) (Wl.q (v := Vi (((a0 + i) + 1 : Nat) : Int)) (q_assign rfl) (Wl.q (v := Vi 0) (q_assign rfl) (Wl.dg (Wc.ret (Wx.blockRet (Wx.thenRet (Wx.thenRet (Wx.blockRet ?_)))))))))))))))))))))))
                refine Wx.thenRet (Wx.fin3 rfl (.inl rfl) (fun w hs => ?_))
                rw [show 10 - i = (10 - (i + 1)) + 1 by omega] at hp0
                have e : takeNum s a0 = some (un (z + c.toNat % 128 * 128 ^ i), a0 + i + 1) := take_some hp0 (dec_end hget (by omega) (by omega))
                exact ⟨(), trivial, by rw [e, ← un_odd hodd]; rfl, hs⟩
              ·
                refine Wl.q (q_eql rfl rfl (df hodd)) (Wl.dg (Wc.no rfl (Wc.skip (Wx.go (Wc.sr (Wl.q (v := Vi (((z + c.toNat % 128 * 128 ^ i) / 2 : Nat) : Int)) (q_move rfl) (Wl.q (v := Vi ((a0 : Nat) : Int)) (q_move hE1_0) (Wl.q (v := Vi ((i : Nat) : Int)) (q_move hE8_0) (Wl.q (v := Vi ((a0 + i : Nat) : Int)) (q_add (c := ((a0 + i : Nat) : Int)) rfl rfl (by rw [wrap_i64] <;> omega)) (Wl.q (v := Vi (((a0 + i) + 1 : Nat) : Int)) (q_add (c := (((a0 + i) + 1 : Nat) : Int)) rfl rfl (by rw [wrap_i64] <;> omega)) (Wl.q (v := Vi (((z + c.toNat % 128 * 128 ^ i) / 2 : Nat) : Int)) (q_assign rfl) (Wl.q (v := Vi (((a0 + i) + 1 : Nat) : Int)) (q_assign rfl) (Wl.q (v := Vi 0) (q_assign rfl) (Wl.dg (Wc.ret (Wx.blockRet (Wx.thenRet (Wx.thenRet (Wx.blockRet (Wx.thenRet (Wx.fin3 rfl (.inl rfl) (fun w hs => ?_))))))))))))))))))))))
                rw [show 10 - i = (10 - (i + 1)) + 1 by omega] at hp0
                have e : takeNum s a0 = some (un (z + c.toNat % 128 * 128 ^ i), a0 + i + 1) := take_some hp0 (dec_end hget (by omega) (by omega))
                exact ⟨(), trivial, by rw [e, ← un_even hodd]; rfl, hs⟩
            ·
              refine Wl.q (q_lss rfl rfl (df hc128)) (Wl.dg (Wc.no rfl (Wc.skip (Wx.blockEnd (Wx.go (Wc.region (Wl.q (v := Vi ((i : Nat) : Int)) (q_move hE8_0) (Wl.q (v := Vi ((i + 1 : Nat) : Int)) (q_add (c := ((i + 1 : Nat) : Int)) rfl rfl (by rw [wrap_i64] <;> omega)) (Wl.q (v := Vi ((i + 1 : Nat) : Int)) (q_assign rfl) (Wl.done ?_))))))))))
              refine Wx.at (i + 1, (z + c.toNat % 128 * 128 ^ i)) ⟨(by simp only; omega), rfl, rfl, hE0_0, hE1_0, (by simp only; rw [hp0, show 10 - i = (10 - (i + 1)) + 1 by omega]; exact dec_more hget (by omega) (by omega)), (pow_next hz), (by simp only; omega), (by simp only; omega)⟩ (fun w hs => hs)
    ·
      refine Wl.q (q_lss rfl rfl (df hi10)) (Wl.dg (Wc.no rfl (Wc.exit (Wx.thenExit (Wx.thenExit (Wx.out (Wx.go (Wc.sr (Wl.q (v := Vi ((a0 : Nat) : Int)) (q_move hE1_0) (Wl.q (v := Vi 0) (q_assign rfl) (Wl.q (v := Vi ((a0 : Nat) : Int)) (q_assign rfl) (Wl.q (v := Vi 4) (q_assign rfl) (Wl.dg (Wc.ret (Wx.fin3 rfl (.inl rfl) (fun w hs => ?_))))))))))))))))
      have h10 : i = 10 := by omega
      subst h10
      have e : takeNum s a0 = none := take_none hp0 rfl
      exact ⟨(), trivial, by rw [e]; rfl, hs⟩
theorem tnum_ok (W0 : World) (s : ByteArray) (a0 : Nat) (ha0 : a0 ≤ s.size) (hsz : s.size ≤ 9223372036854775807) (v : Int) (a : Nat) (h : takeNum s a0 = some (v, a)) : Con1 prog W0 311 #[Vs s, Vi ((a0 : Nat) : Int)] [] (.tuple #[.int .i64 v, .int .i64 ((a : Nat) : Int), .int .i64 0]) [] := by
 have := tnum_c W0 s a0 ha0 hsz; rw [h] at this; exact this
theorem tnum_bad (W0 : World) (s : ByteArray) (a0 : Nat) (ha0 : a0 ≤ s.size) (hsz : s.size ≤ 9223372036854775807) (h : takeNum s a0 = none) : Con1 prog W0 311 #[Vs s, Vi ((a0 : Nat) : Int)] [] (.tuple #[.int .i64 0, .int .i64 ((a0 : Nat) : Int), .int .i64 4]) [] := by
 have := tnum_c W0 s a0 ha0 hsz; rw [h] at this; exact this
theorem tmany_none (W0 : World) (s : ByteArray) (a0 : Nat) (ha0 : a0 ≤ s.size) (hsz : s.size ≤ 9223372036854775807) (htk : takeNum s a0 = none) :
  Con1 prog W0 289 #[Vs s, Vi ((a0 : Nat) : Int)] [] (.tuple #[.int .i64 0, .int .i64 ((a0 : Nat) : Int), .int .i64 4]) [] := by
 refine Con.of func289 rfl ntmps289 rfl (fun F => ?_)
 show Wc _ W0 _ _ _ _ _ (F)
 refine Wc.sr (Wl.q (v := Vi 0) (q_assign rfl) (Wl.q (v := Vi 0) (q_assign rfl) (Wl.q (v := Vi 0) (q_assign rfl) (Wl.dg (Wc.sr (Wl.q (v := Vs s) (q_move rfl) (Wl.q (v := Vi ((a0 : Nat) : Int)) (q_move rfl) (Wl.e (e_c call311 (tnum_bad W0 s a0 ha0 hsz htk)) (fun _ _ => Wl.q (v := Value.tuple #[Vi 0, Vi ((a0 : Nat) : Int), Vi 4]) (q_move rfl) (Wl.q (q_extract (i := 0) rfl rfl) (Wl.q (q_extract (i := 1) rfl rfl) (Wl.q (q_extract (i := 2) rfl rfl) (Wl.q (v := Vi 0) (q_assign rfl) (Wl.q (v := Vi ((a0 : Nat) : Int)) (q_assign rfl) (Wl.q (v := Vi 4) (q_assign rfl) (Wl.dg (Wc.seq (Wc.sr (Wl.q (v := Vi 4) (q_move rfl) (Wl.q (v := Vt) (q_neq rfl rfl (df (by decide))) (Wl.q (v := Vt) (q_move rfl) (Wl.no (Wl.no ?_)))))))))))))))))))))))
 refine Wl.q (v := Vt) (q_pick (t := true) rfl rfl) (Wl.q (v := Vt) (q_move rfl) (Wl.no (Wl.no (Wl.q (v := Vt) (q_pick (t := true) rfl rfl) (Wl.dg (Wc.yes rfl (Wc.sr (Wl.q (v := Vi ((a0 : Nat) : Int)) (q_move rfl) (Wl.q (v := Vi 0) (q_assign rfl) (Wl.q (v := Vi ((a0 : Nat) : Int)) (q_assign rfl) (Wl.q (v := Vi 4) (q_assign rfl) (Wl.dg (Wc.ret (Wx.thenRet (Wx.fin3 rfl (.inl rfl) (fun w hs => ?_))))))))))))))))
 exact ⟨(), trivial, rfl, hs⟩
theorem tmany_ok (W0 : World) (s : ByteArray) (a0 : Nat) (ha0 : a0 ≤ s.size) (hsz : s.size ≤ 9223372036854775807) (v : Int) (a : Nat) (htk : takeNum s a0 = some (v, a)) (hv0 : 0 ≤ v) (hv1 : v ≤ 65536) :
  Con1 prog W0 289 #[Vs s, Vi ((a0 : Nat) : Int)] [] (.tuple #[.int .i64 v, .int .i64 ((a : Nat) : Int), .int .i64 0]) [] := by
 refine Con.of func289 rfl ntmps289 rfl (fun F => ?_)
 show Wc _ W0 _ _ _ _ _ (F)
 refine Wc.sr (Wl.q (v := Vi 0) (q_assign rfl) (Wl.q (v := Vi 0) (q_assign rfl) (Wl.q (v := Vi 0) (q_assign rfl) (Wl.dg (Wc.sr (Wl.q (v := Vs s) (q_move rfl) (Wl.q (v := Vi ((a0 : Nat) : Int)) (q_move rfl) (Wl.e (e_c call311 (tnum_ok W0 s a0 ha0 hsz v a htk)) (fun _ _ => Wl.q (v := Value.tuple #[Vi v, Vi ((a : Nat) : Int), Vi 0]) (q_move rfl) (Wl.q (q_extract (i := 0) rfl rfl) (Wl.q (q_extract (i := 1) rfl rfl) (Wl.q (q_extract (i := 2) rfl rfl) (Wl.q (v := Vi v) (q_assign rfl) (Wl.q (v := Vi ((a : Nat) : Int)) (q_assign rfl) (Wl.q (v := Vi 0) (q_assign rfl) (Wl.dg (Wc.seq (Wc.sr (Wl.q (v := Vi 0) (q_move rfl) (Wl.q (v := Vf) (q_neq rfl rfl (dt (by decide))) (Wl.q (v := Vf) (q_move rfl) (Wl.q (v := Vi v) (q_move rfl) (Wl.q (q_lss rfl rfl (df (by omega))) ?_)))))))))))))))))))))))
 refine Wl.q (v := Vf) (q_pick (t := false) rfl rfl) (Wl.q (v := Vf) (q_move rfl) (Wl.q (v := Vi v) (q_move rfl) (Wl.q (q_gtr rfl rfl (df (by omega))) (Wl.q (v := Vf) (q_pick (t := false) rfl rfl) (Wl.dg (Wc.no rfl (Wc.skip (Wx.go (Wc.sr (Wl.q (v := Vi v) (q_move rfl) (Wl.q (v := Vi ((a : Nat) : Int)) (q_move rfl) (Wl.q (v := Vi v) (q_assign rfl) (Wl.q (v := Vi ((a : Nat) : Int)) (q_assign rfl) (Wl.q (v := Vi 0) (q_assign rfl) (Wl.dg (Wc.ret (Wx.fin3 rfl (.inl rfl) (fun w hs => ?_))))))))))))))))))
 exact ⟨(), trivial, rfl, hs⟩
theorem tmany_neg (W0 : World) (s : ByteArray) (a0 : Nat) (ha0 : a0 ≤ s.size) (hsz : s.size ≤ 9223372036854775807) (v : Int) (a : Nat) (htk : takeNum s a0 = some (v, a)) (hv : v < 0) :
  Con1 prog W0 289 #[Vs s, Vi ((a0 : Nat) : Int)] [] (.tuple #[.int .i64 0, .int .i64 ((a0 : Nat) : Int), .int .i64 4]) [] := by
 refine Con.of func289 rfl ntmps289 rfl (fun F => ?_)
 show Wc _ W0 _ _ _ _ _ (F)
 refine Wc.sr (Wl.q (v := Vi 0) (q_assign rfl) (Wl.q (v := Vi 0) (q_assign rfl) (Wl.q (v := Vi 0) (q_assign rfl) (Wl.dg (Wc.sr (Wl.q (v := Vs s) (q_move rfl) (Wl.q (v := Vi ((a0 : Nat) : Int)) (q_move rfl) (Wl.e (e_c call311 (tnum_ok W0 s a0 ha0 hsz v a htk)) (fun _ _ => Wl.q (v := Value.tuple #[Vi v, Vi ((a : Nat) : Int), Vi 0]) (q_move rfl) (Wl.q (q_extract (i := 0) rfl rfl) (Wl.q (q_extract (i := 1) rfl rfl) (Wl.q (q_extract (i := 2) rfl rfl) (Wl.q (v := Vi v) (q_assign rfl) (Wl.q (v := Vi ((a : Nat) : Int)) (q_assign rfl) (Wl.q (v := Vi 0) (q_assign rfl) (Wl.dg (Wc.seq (Wc.sr (Wl.q (v := Vi 0) (q_move rfl) (Wl.q (v := Vf) (q_neq rfl rfl (dt (by decide))) (Wl.q (v := Vf) (q_move rfl) (Wl.q (v := Vi v) (q_move rfl) (Wl.q (q_lss rfl rfl (dt (by omega))) ?_)))))))))))))))))))))))
 refine Wl.q (v := Vt) (q_pick (t := false) rfl rfl) (Wl.q (v := Vt) (q_move rfl) (Wl.no (Wl.no (Wl.q (v := Vt) (q_pick (t := true) rfl rfl) (Wl.dg (Wc.yes rfl (Wc.sr (Wl.q (v := Vi ((a0 : Nat) : Int)) (q_move rfl) (Wl.q (v := Vi 0) (q_assign rfl) (Wl.q (v := Vi ((a0 : Nat) : Int)) (q_assign rfl) (Wl.q (v := Vi 4) (q_assign rfl) (Wl.dg (Wc.ret (Wx.thenRet (Wx.fin3 rfl (.inl rfl) (fun w hs => ?_))))))))))))))))
 exact ⟨(), trivial, rfl, hs⟩
theorem tmany_big (W0 : World) (s : ByteArray) (a0 : Nat) (ha0 : a0 ≤ s.size) (hsz : s.size ≤ 9223372036854775807) (v : Int) (a : Nat) (htk : takeNum s a0 = some (v, a)) (hv0 : 0 ≤ v) (hv1 : 65536 < v) :
  Con1 prog W0 289 #[Vs s, Vi ((a0 : Nat) : Int)] [] (.tuple #[.int .i64 0, .int .i64 ((a0 : Nat) : Int), .int .i64 4]) [] := by
 refine Con.of func289 rfl ntmps289 rfl (fun F => ?_)
 show Wc _ W0 _ _ _ _ _ (F)
 refine Wc.sr (Wl.q (v := Vi 0) (q_assign rfl) (Wl.q (v := Vi 0) (q_assign rfl) (Wl.q (v := Vi 0) (q_assign rfl) (Wl.dg (Wc.sr (Wl.q (v := Vs s) (q_move rfl) (Wl.q (v := Vi ((a0 : Nat) : Int)) (q_move rfl) (Wl.e (e_c call311 (tnum_ok W0 s a0 ha0 hsz v a htk)) (fun _ _ => Wl.q (v := Value.tuple #[Vi v, Vi ((a : Nat) : Int), Vi 0]) (q_move rfl) (Wl.q (q_extract (i := 0) rfl rfl) (Wl.q (q_extract (i := 1) rfl rfl) (Wl.q (q_extract (i := 2) rfl rfl) (Wl.q (v := Vi v) (q_assign rfl) (Wl.q (v := Vi ((a : Nat) : Int)) (q_assign rfl) (Wl.q (v := Vi 0) (q_assign rfl) (Wl.dg (Wc.seq (Wc.sr (Wl.q (v := Vi 0) (q_move rfl) (Wl.q (v := Vf) (q_neq rfl rfl (dt (by decide))) (Wl.q (v := Vf) (q_move rfl) (Wl.q (v := Vi v) (q_move rfl) (Wl.q (q_lss rfl rfl (df (by omega))) ?_)))))))))))))))))))))))
 refine Wl.q (v := Vf) (q_pick (t := false) rfl rfl) (Wl.q (v := Vf) (q_move rfl) (Wl.q (v := Vi v) (q_move rfl) (Wl.q (q_gtr rfl rfl (dt (by omega))) (Wl.q (v := Vt) (q_pick (t := false) rfl rfl) (Wl.dg (Wc.yes rfl (Wc.sr (Wl.q (v := Vi ((a0 : Nat) : Int)) (q_move rfl) (Wl.q (v := Vi 0) (q_assign rfl) (Wl.q (v := Vi ((a0 : Nat) : Int)) (q_assign rfl) (Wl.q (v := Vi 4) (q_assign rfl) (Wl.dg (Wc.ret (Wx.thenRet (Wx.fin3 rfl (.inl rfl) (fun w hs => ?_))))))))))))))))
 exact ⟨(), trivial, rfl, hs⟩
theorem tmany_bad (W0 : World) (s : ByteArray) (a0 : Nat) (ha0 : a0 ≤ s.size) (hsz : s.size ≤ 9223372036854775807) (h : takeList s a0 = none) : Con1 prog W0 289 #[Vs s, Vi ((a0 : Nat) : Int)] [] (.tuple #[.int .i64 0, .int .i64 ((a0 : Nat) : Int), .int .i64 4]) [] := by
  unfold takeList at h
  split at h
  · rename_i p hp
    split at h
    · cases h
    · rename_i hr
      by_cases h0 : p.1 < 0
      · exact tmany_neg W0 s a0 ha0 hsz p.1 p.2 hp h0
      · exact tmany_big W0 s a0 ha0 hsz p.1 p.2 hp (by omega) (by omega)
  · rename_i hp; exact tmany_none W0 s a0 ha0 hsz hp
theorem tlist_bad (W0 : World) (s : ByteArray) (a0 : Nat) (ha0 : a0 ≤ s.size) (hsz : s.size ≤ 9223372036854775807) (h : takeList s a0 = none) :
  Con1 prog W0 271 #[Vs s, Vi ((a0 : Nat) : Int)] [] (.tuple #[.int .i64 0, .int .i64 ((a0 : Nat) : Int), .int .i64 4]) [] := by
 refine Con.of func271 rfl ntmps271 rfl (fun F => ?_)
 show Wc _ W0 _ _ _ _ _ (F)
 refine Wc.sr (Wl.q (v := Vi 0) (q_assign rfl) (Wl.q (v := Vi 0) (q_assign rfl) (Wl.q (v := Vi 0) (q_assign rfl) (Wl.dg (Wc.sr (Wl.q (v := Vs s) (q_move rfl) (Wl.q (v := Vi ((a0 : Nat) : Int)) (q_move rfl) (Wl.e (e_c call289 (tmany_bad W0 s a0 ha0 hsz h)) (fun _ _ => Wl.q (q_extract (i := 0) rfl rfl) (Wl.q (q_extract (i := 1) rfl rfl) (Wl.q (q_extract (i := 2) rfl rfl) (Wl.q (v := Vi 0) (q_assign rfl) (Wl.q (v := Vi ((a0 : Nat) : Int)) (q_assign rfl) (Wl.q (v := Vi 4) (q_assign rfl) (Wl.dg (Wc.ret (Wx.fin3 rfl (.inl rfl) (fun w hs => ?_))))))))))))))))))
 exact ⟨(), trivial, rfl, hs⟩
theorem tlist_ok (W0 : World) (s : ByteArray) (a0 : Nat) (ha0 : a0 ≤ s.size) (hsz : s.size ≤ 9223372036854775807) (n a : Nat) (h : takeList s a0 = some (n, a)) :
  Con1 prog W0 271 #[Vs s, Vi ((a0 : Nat) : Int)] [] (.tuple #[.int .i64 ((n : Nat) : Int), .int .i64 ((a : Nat) : Int), .int .i64 0]) [] := by
 refine Con.of func271 rfl ntmps271 rfl (fun F => ?_)
 show Wc _ W0 _ _ _ _ _ (F)
 refine Wc.sr (Wl.q (v := Vi 0) (q_assign rfl) (Wl.q (v := Vi 0) (q_assign rfl) (Wl.q (v := Vi 0) (q_assign rfl) (Wl.dg (Wc.sr (Wl.q (v := Vs s) (q_move rfl) (Wl.q (v := Vi ((a0 : Nat) : Int)) (q_move rfl) (Wl.e (e_c call289 (tmany_ok W0 s a0 ha0 hsz (n : Int) a (takeList_of h) (by omega) (by have := takeList_le h; simp only at this; omega))) (fun _ _ => Wl.q (q_extract (i := 0) rfl rfl) (Wl.q (q_extract (i := 1) rfl rfl) (Wl.q (q_extract (i := 2) rfl rfl) (Wl.q (v := Vi ((n : Nat) : Int)) (q_assign rfl) (Wl.q (v := Vi ((a : Nat) : Int)) (q_assign rfl) (Wl.q (v := Vi 0) (q_assign rfl) (Wl.dg (Wc.ret (Wx.fin3 rfl (.inl rfl) (fun w hs => ?_))))))))))))))))))
 exact ⟨(), trivial, rfl, hs⟩
theorem ttext_none (W0 : World) (s : ByteArray) (a0 : Nat) (ha0 : a0 ≤ s.size) (hsz : s.size ≤ 9223372036854775807) (h : takeList s a0 = none) :
  Con1 prog W0 273 #[Vs s, Vi ((a0 : Nat) : Int)] [] (.tuple #[.string ⟨#[]⟩, .int .i64 ((a0 : Nat) : Int), .int .i64 4]) [] := by
 refine Con.of func273 rfl ntmps273 rfl (fun F => ?_)
 show Wc _ W0 _ _ _ _ _ (F)
 refine Wc.sr (Wl.q (v := Vs (⟨#[]⟩)) (q_assign rfl) (Wl.q (v := Vi 0) (q_assign rfl) (Wl.q (v := Vi 0) (q_assign rfl) (Wl.dg (Wc.sr (Wl.q (v := Vs s) (q_move rfl) (Wl.q (v := Vi ((a0 : Nat) : Int)) (q_move rfl) (Wl.e (e_c call289 (tmany_bad W0 s a0 ha0 hsz h)) (fun _ _ => Wl.q (v := Value.tuple #[Vi 0, Vi ((a0 : Nat) : Int), Vi 4]) (q_move rfl) (Wl.q (q_extract (i := 0) rfl rfl) (Wl.q (q_extract (i := 1) rfl rfl) (Wl.q (q_extract (i := 2) rfl rfl) (Wl.q (v := Vi 0) (q_assign rfl) (Wl.q (v := Vi ((a0 : Nat) : Int)) (q_assign rfl) (Wl.q (v := Vi 4) (q_assign rfl) (Wl.dg (Wc.seq (Wc.sr (Wl.q (v := Vi 4) (q_move rfl) (Wl.q (v := Vt) (q_neq rfl rfl (df (by decide))) (Wl.q (v := Vt) (q_move rfl) (Wl.no (Wl.no ?_)))))))))))))))))))))))
 refine Wl.no (Wl.no (Wl.no (Wl.no (Wl.q (v := Vt) (q_pick (t := true) rfl rfl) (Wl.dg (Wc.yes rfl (Wc.sr (Wl.q (v := Vi ((a0 : Nat) : Int)) (q_move rfl) (Wl.q (v := Vs (⟨#[]⟩)) (q_assign rfl) (Wl.q (v := Vi ((a0 : Nat) : Int)) (q_assign rfl) (Wl.q (v := Vi 4) (q_assign rfl) (Wl.dg (Wc.ret (Wx.thenRet (Wx.fin3 rfl (.inl rfl) (fun w hs => ?_))))))))))))))))
 exact ⟨(), trivial, rfl, hs⟩
theorem ttext_long (W0 : World) (s : ByteArray) (a0 : Nat) (ha0 : a0 ≤ s.size) (hsz : s.size ≤ 9223372036854775807) (n a : Nat) (h : takeList s a0 = some (n, a)) (ha : a ≤ s.size) (hna : ¬ a + n ≤ s.size) :
  Con1 prog W0 273 #[Vs s, Vi ((a0 : Nat) : Int)] [] (.tuple #[.string ⟨#[]⟩, .int .i64 ((a0 : Nat) : Int), .int .i64 4]) [] := by
 refine Con.of func273 rfl ntmps273 rfl (fun F => ?_)
 show Wc _ W0 _ _ _ _ _ (F)
 refine Wc.sr (Wl.q (v := Vs (⟨#[]⟩)) (q_assign rfl) (Wl.q (v := Vi 0) (q_assign rfl) (Wl.q (v := Vi 0) (q_assign rfl) (Wl.dg (Wc.sr (Wl.q (v := Vs s) (q_move rfl) (Wl.q (v := Vi ((a0 : Nat) : Int)) (q_move rfl) (Wl.e (e_c call289 (tmany_ok W0 s a0 ha0 hsz (n : Int) a (takeList_of h) (by omega) (by have := takeList_le h; simp only at this; omega))) (fun _ _ => Wl.q (v := Value.tuple #[Vi ((n : Nat) : Int), Vi ((a : Nat) : Int), Vi 0]) (q_move rfl) (Wl.q (q_extract (i := 0) rfl rfl) (Wl.q (q_extract (i := 1) rfl rfl) (Wl.q (q_extract (i := 2) rfl rfl) (Wl.q (v := Vi ((n : Nat) : Int)) (q_assign rfl) (Wl.q (v := Vi ((a : Nat) : Int)) (q_assign rfl) (Wl.q (v := Vi 0) (q_assign rfl) (Wl.dg (Wc.seq (Wc.sr (Wl.q (v := Vi 0) (q_move rfl) (Wl.q (v := Vf) (q_neq rfl rfl (dt (by decide))) (Wl.q (v := Vf) (q_move rfl) (Wl.q (v := Vi ((n : Nat) : Int)) (q_move rfl) (Wl.q (v := Vs s) (q_move rfl) ?_)))))))))))))))))))))))
 refine Wl.q (q_len_str underlying9 rfl) (Wl.q (v := Vi ((a : Nat) : Int)) (q_move rfl) (Wl.q (v := Vi (((s.size : Nat) : Int) - ((a : Nat) : Int))) (q_sub (c := (((s.size : Nat) : Int) - ((a : Nat) : Int))) rfl rfl (wrap_i64 (by omega) (by omega))) (Wl.q (q_gtr rfl rfl (dt (by omega))) (Wl.q (v := Vt) (q_pick (t := false) rfl rfl) (Wl.dg (Wc.yes rfl (Wc.sr (Wl.q (v := Vi ((a0 : Nat) : Int)) (q_move rfl) (Wl.q (v := Vs (⟨#[]⟩)) (q_assign rfl) (Wl.q (v := Vi ((a0 : Nat) : Int)) (q_assign rfl) (Wl.q (v := Vi 4) (q_assign rfl) (Wl.dg (Wc.ret (Wx.thenRet (Wx.fin3 rfl (.inl rfl) (fun w hs => ?_))))))))))))))))
 exact ⟨(), trivial, rfl, hs⟩
theorem ttext_ok (W0 : World) (s : ByteArray) (a0 : Nat) (ha0 : a0 ≤ s.size) (hsz : s.size ≤ 9223372036854775807) (n a : Nat) (h : takeList s a0 = some (n, a)) (hna : a + n ≤ s.size) :
  Con1 prog W0 273 #[Vs s, Vi ((a0 : Nat) : Int)] [] (.tuple #[.string (s.extract a (a + n)), .int .i64 ((a + n : Nat) : Int), .int .i64 0]) [] := by
 refine Con.of func273 rfl ntmps273 rfl (fun F => ?_)
 show Wc _ W0 _ _ _ _ _ (F)
 refine Wc.sr (Wl.q (v := Vs (⟨#[]⟩)) (q_assign rfl) (Wl.q (v := Vi 0) (q_assign rfl) (Wl.q (v := Vi 0) (q_assign rfl) (Wl.dg (Wc.sr (Wl.q (v := Vs s) (q_move rfl) (Wl.q (v := Vi ((a0 : Nat) : Int)) (q_move rfl) (Wl.e (e_c call289 (tmany_ok W0 s a0 ha0 hsz (n : Int) a (takeList_of h) (by omega) (by have := takeList_le h; simp only at this; omega))) (fun _ _ => Wl.q (v := Value.tuple #[Vi ((n : Nat) : Int), Vi ((a : Nat) : Int), Vi 0]) (q_move rfl) (Wl.q (q_extract (i := 0) rfl rfl) (Wl.q (q_extract (i := 1) rfl rfl) (Wl.q (q_extract (i := 2) rfl rfl) (Wl.q (v := Vi ((n : Nat) : Int)) (q_assign rfl) (Wl.q (v := Vi ((a : Nat) : Int)) (q_assign rfl) (Wl.q (v := Vi 0) (q_assign rfl) (Wl.dg (Wc.seq (Wc.sr (Wl.q (v := Vi 0) (q_move rfl) (Wl.q (v := Vf) (q_neq rfl rfl (dt (by decide))) (Wl.q (v := Vf) (q_move rfl) (Wl.q (v := Vi ((n : Nat) : Int)) (q_move rfl) (Wl.q (v := Vs s) (q_move rfl) ?_)))))))))))))))))))))))
 refine Wl.q (q_len_str underlying9 rfl) (Wl.q (v := Vi ((a : Nat) : Int)) (q_move rfl) (Wl.q (v := Vi (((s.size : Nat) : Int) - ((a : Nat) : Int))) (q_sub (c := (((s.size : Nat) : Int) - ((a : Nat) : Int))) rfl rfl (wrap_i64 (by omega) (by omega))) (Wl.q (q_gtr rfl rfl (df (by omega))) (Wl.q (v := Vf) (q_pick (t := false) rfl rfl) (Wl.dg (Wc.no rfl (Wc.skip (Wx.go (Wc.sr (Wl.q (v := Vs s) (q_move rfl) (Wl.q (v := Vi ((a : Nat) : Int)) (q_move rfl) (Wl.q (v := Vi ((a : Nat) : Int)) (q_move rfl) (Wl.q (v := Vi ((n : Nat) : Int)) (q_move rfl) (Wl.q (v := Vi ((a + n : Nat) : Int)) (q_add (c := ((a + n : Nat) : Int)) rfl rfl (by rw [wrap_i64] <;> omega)) (Wl.q (v := Vs (s.extract a (a + n))) (q_slice_str (l := a) (h := a + n) underlying9 rfl ⟨_, rfl⟩ ⟨_, rfl⟩ (by omega) (by omega) rfl) (Wl.q (v := Vi ((a : Nat) : Int)) (q_move rfl) (Wl.q (v := Vi ((n : Nat) : Int)) (q_move rfl) (Wl.q (v := Vi ((a + n : Nat) : Int)) (q_add (c := ((a + n : Nat) : Int)) rfl rfl (by rw [wrap_i64] <;> omega)) (Wl.q (v := Vs (s.extract a (a + n))) (q_assign rfl) (Wl.q (v := Vi ((a + n : Nat) : Int)) (q_assign rfl) (Wl.q (v := Vi 0) (q_assign rfl) (Wl.dg (Wc.ret ?_)))))))))))))))))))))))
 refine Wx.fin3 rfl (.inl rfl) (fun w hs => ?_)
 exact ⟨(), trivial, rfl, hs⟩
theorem tlist_c (W0 : World) (s : ByteArray) (a0 : Nat) (ha0 : a0 ≤ s.size) (hsz : s.size ≤ 9223372036854775807) : Con1 prog W0 271 #[Vs s, Vi ((a0 : Nat) : Int)] [] (.tuple #[.int .i64 ((gv 0 (takeList s a0) : Nat) : Int), .int .i64 ((gn a0 (takeList s a0) : Nat) : Int), .int .i64 (ge (takeList s a0))]) [] := by
 rcases h : takeList s a0 with _ | ⟨n, a⟩
 · exact tlist_bad W0 s a0 ha0 hsz h
 · have := takeList_le h; simp only at this; exact tlist_ok W0 s a0 ha0 hsz n a h
theorem ttext_c (W0 : World) (s : ByteArray) (a0 : Nat) (ha0 : a0 ≤ s.size) (hsz : s.size ≤ 9223372036854775807) : Con1 prog W0 273 #[Vs s, Vi ((a0 : Nat) : Int)] [] (.tuple #[.string (gv ⟨#[]⟩ (takeText s a0)), .int .i64 ((gn a0 (takeText s a0) : Nat) : Int), .int .i64 (ge (takeText s a0))]) [] := by
 rcases h : takeList s a0 with _ | ⟨n, a⟩
 · rw [show takeText s a0 = none from by simp [takeText, h]]; exact ttext_none W0 s a0 ha0 hsz h
 have hl := takeList_le h
 simp only at hl
 by_cases h1 : a + n ≤ s.size
 · rw [show takeText s a0 = some (s.extract a (a + n), a + n) from by simp [takeText, h, h1]]; exact ttext_ok W0 s a0 ha0 hsz n a h h1
 · rw [show takeText s a0 = none from by simp [takeText, h, h1]]; exact ttext_long W0 s a0 ha0 hsz n a h (by omega) h1
theorem end_c (W0 : World) (r : Nat) (s : ByteArray) (a : Nat) : Con1 prog W0 169 #[Vp r] [pt r 438 [Vt, Vs s, Vi ((a : Nat) : Int)]] (.int .i64 (if a = s.size then 0 else 4)) [pt r 438 [Vt, Vs s, Vi ((a : Nat) : Int)]] := by
 by_cases h : a = s.size
 · rw [if_pos h]; exact end_yes W0 r s a h
 · rw [if_neg h]; exact end_no W0 r s a h
end Go.Proofs.YtjnejkdamhefgaaGreatDoor
