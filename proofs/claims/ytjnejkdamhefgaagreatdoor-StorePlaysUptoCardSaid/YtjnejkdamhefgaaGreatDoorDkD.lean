/- A part of the proof. -/
import Derived.Test.YtjnejkdamhefgaaGreatDoorDkC
import Derived.Test.YtjnejkdamhefgaaGreatDoorDkL
namespace Go.Proofs.YtjnejkdamhefgaaGreatDoor
open Tryz
open Go Go.SL Go.Dk Go.RowKit
set_option linter.unusedVariables false
set_option maxRecDepth 8000
theorem by_166 : (prog.info? 166).map (·.bytes) = some 24 := by kernel_rfl
theorem zo_130 : zeroOf prog 130 = some (Value.agg #[Value.pointer none, Value.int .i64 0, Value.int .i64 0]) := by kernel_rfl
theorem write1 (W0 : World) (p bs : Nat) (secs : List ByteArray) (since : List (Nat × ByteArray)) (hsince : since.length < 1099511627776) (count : Nat) (mv sv : Value) (b3 b4 b5 a : Nat) (s : ByteArray) :
  Con prog W0 303 #[Vp b3, Vp b4, Vp b5] [pt p 104 [Vl bs secs.length secs.length, sv, Vf, Vi ((count : Nat) : Int), mv], sl 166 2 sv since.length (flat since), pt b3 25 [Vp p], pt b4 3 [Vi ((a : Nat) : Int)], pt b5 9 [Vs s]] (X := Value) (fun _ => True) (fun _ => .tuple #[]) (fun v2 => [pt p 104 [Vl bs secs.length secs.length, v2, Vf, Vi ((count : Nat) : Int), mv], sl 166 2 v2 ((since ++ [(a, s)]).length) (flat (since ++ [(a, s)])), pt b3 25 [Vp p], pt b4 3 [Vi ((a : Nat) : Int)], pt b5 9 [Vs s]]) := by
 refine Con.of func303 rfl ntmps303 rfl (fun F => ?_)
 show Wc _ W0 _ _ _ _ _ ((pt p 104 [Vl bs secs.length secs.length, sv, Vf, Vi ((count : Nat) : Int), mv]) :: (sl 166 2 sv since.length (flat since)) :: (pt b3 25 [Vp p]) :: (pt b4 3 [Vi ((a : Nat) : Int)]) :: (pt b5 9 [Vs s]) :: F)
 refine Wc.drawsS [12] ((pt p 104 [Vl bs secs.length secs.length, sv, Vf, Vi ((count : Nat) : Int), mv]) :: (pt b3 25 [Vp p]) :: (pt b4 3 [Vi ((a : Nat) : Int)]) :: (pt b5 9 [Vs s]) :: []) (by kernel_rfl) (Wr.t 0 [0, 1, 1, 1] rfl (q_c 1 sc_25 rfl rfl rfl) (Wr.t 1 [0, 1, 1, 1] rfl (q_c 1 sc_25 rfl rfl rfl) (Wr.p 2 [0, 1, 1, 1] rfl (q_nil_ptr rfl) (Wr.p 3 [0, 1, 1, 1] rfl (q_field fo_104_1 rfl rfl) (Wr.t 4 [0, 1, 1, 1] rfl (q_c 0 sc_58 rfl rfl rfl) (Wr.t 5 [0, 1, 1, 1] rfl (q_c 2 sc_3 rfl rfl rfl) (Wr.t 6 [0, 1, 1, 1] rfl (q_c 3 sc_9 rfl rfl rfl) (Wr.p (v := Value.agg #[Vi ((a : Nat) : Int), Vs s]) 7 [0, 1, 1, 1] rfl (q_build (pl := [(0, 1), (1, 1)]) underlying166 zo_166 (by kernel_rfl) (by kernel_rfl)) (Wr.x 8 [1, 2, 2, 2] rfl (e_buildSlice (cs := [Vi ((a : Nat) : Int), Vs s]) se_58 zo_166 (by decide) (by decide) (by kernel_rfl)) (fun b1 _ => Wr.more (S' := (pt b1 166 [Vi ((a : Nat) : Int), Vs s]) :: (pt p 104 [Vl bs secs.length secs.length, sv, Vf, Vi ((count : Nat) : Int), mv]) :: (pt b3 25 [Vp p]) :: (pt b4 3 [Vi ((a : Nat) : Int)]) :: (pt b5 9 [Vs s]) :: []) (fun _ h => st_drop h) (Wr.x 9 [0, 0, 1, 1, 1] rfl (e_append (i := 2) (k := 2) (m := 1) (off := 0) (news := [Vi ((a : Nat) : Int), Vs s]) underlying58 sz_166 by_166 zo_166 rfl rfl rfl rfl rfl (Has.of_pt (i := 0) rfl rfl) rfl (by decide) (by simp only [maxLen]; omega) (by omega)) (fun v2 _ => Wr.p 10 [0, 0, 1, 1, 1] rfl (q_nil_ptr rfl) (Wr.p 11 [0, 0, 1, 1, 1] rfl (q_field fo_104_1 rfl rfl) (Wr.x0 12 rfl (e_store (i := 1) (v := v2) sz_58 rfl rfl (fun _ h => sl_one (i := 2) h rfl) rfl (by simp)) (fun _ _ => Wr.rebaseS [] ((pt b1 166 [Vi ((a : Nat) : Int), Vs s]) :: (pt p 104 [Vl bs secs.length secs.length, v2, Vf, Vi ((count : Nat) : Int), mv]) :: (sl 166 2 v2 (since.length + 1) ((flat since) ++ [Vi ((a : Nat) : Int), Vs s])) :: (pt b3 25 [Vp p]) :: (pt b4 3 [Vi ((a : Nat) : Int)]) :: (pt b5 9 [Vs s]) :: []) (by kernel_rfl) (Wr.z (Wx.fin0 rfl (.inr rfl) (fun w hs => ?_))))))))))))))))))
 exact ⟨v2, trivial, rfl, by rw [flat_snoc, List.length_append]; exact st_drop hs⟩
theorem sync1_blk (W0 : World) (p bs : Nat) (secs : List ByteArray) (since : List (Nat × ByteArray)) (count : Nat) (mv : Value) (b1 : Nat) (hw : WFl secs since) (hsince : since.length < 1099511627776) (b cap : Nat) (hcap : since.length ≤ cap) :
    Con1 prog W0 304 #[Vp b1] [slp 166 2 b cap (flat since), pt p 104 [Vl bs secs.length secs.length, Vl b since.length cap, Vf, Vi ((count : Nat) : Int), mv], pt bs 9 (secs.map Value.string), pt b1 25 [Vp p]] (.tuple #[]) [pt p 104 [Vl bs secs.length secs.length, Vn, Vf, Vi ((count : Nat) : Int), mv], pt bs 9 ((syncL secs since).map Value.string), pt b1 25 [Vp p]] := by
  refine Con.of func304 rfl ntmps304 rfl (fun F => ?_)
  show Wc _ W0 _ _ _ _ _ ((slp 166 2 b cap (flat since)) :: (pt p 104 [Vl bs secs.length secs.length, Vl b since.length cap, Vf, Vi ((count : Nat) : Int), mv]) :: (pt bs 9 (secs.map Value.string)) :: (pt b1 25 [Vp p]) :: F)
  refine Wc.seq (Wc.sr (Wl.q (q_c 3 sc_25 rfl rfl rfl) (Wl.run 1 rfl (Wl.q (q_field fo_104_1 rfl rfl) (Wl.q (q_c 1 sc_58 rfl rfl rfl) (Wl.q (q_len_slice underlying58 rfl) (Wl.rg 1 rfl (Wc.block ?_))))))))
  refine Wc.loop (X := Nat × List ByteArray) (fun (k, ss) E => E 8 = Vi ((k : Nat) : Int) ∧ E 0 = Vp b1 ∧ E 6 = Vl b since.length cap ∧ E 7 = Vi ((since.length : Nat) : Int) ∧ syncL ss (since.drop k) = syncL secs since ∧ ss.length = secs.length ∧ k ≤ since.length) (fun (k, ss) => (slp 166 2 b cap (flat since)) :: (pt p 104 [Vl bs secs.length secs.length, Vl b since.length cap, Vf, Vi ((count : Nat) : Int), mv]) :: (pt bs 9 (ss.map Value.string)) :: (pt b1 25 [Vp p]) :: F) (fun (k, ss) => since.length - k) (0, secs) ?_ ?_ ?_
  · exact ⟨rfl, rfl, rfl, rfl, rfl, rfl, (by omega)⟩
  · exact fun w hs => hs
  · rintro ⟨k, ss⟩ E2 ⟨hE8_0, hE0_0, hE6_0, hE7_0, hp0, hp1, hp3⟩
    dsimp only at *
    refine Wc.sr ?_
    by_cases hlt : ((k : Nat) : Int) < ((since.length : Nat) : Int)
    ·
      obtain ⟨⟨a, s⟩, hget⟩ : ∃ q, since[k]? = some q := ⟨since[k]'(by omega), by simp [List.getElem?_eq_getElem (show k < since.length by omega)]⟩
      have hmem := List.mem_of_getElem? hget
      have ha : a < ss.length := by have := hw.at_ _ hmem; simp only at this; omega
      refine Wl.q (q_lss hE8_0 hE7_0 (dt hlt)) (Wl.dg (Wc.seq (Wc.yes rfl (Wc.skip (Wx.go (Wc.seq (Wc.block (Wc.sr (Wl.q (q_idx (m := k * 2) se_58 hE6_0 hE8_0 (by omega) (by omega) (by simp)) (Wl.q (v := Value.agg #[Vi ((a : Nat) : Int), Vs s]) (q_loadAgg (vs := [Vi ((a : Nat) : Int), Vs s]) ag_166 rfl (flat_has (i := 0) rfl hget)) (Wl.e (e_alloc (vs := [Vi 0, Vs (⟨#[]⟩)]) zo_166 rfl) (fun b3 _ => Wl.e (e_storeAgg (i := 0) (vs := [Vi ((a : Nat) : Int), Vs s]) (c' := [Vi ((a : Nat) : Int), Vs s]) sz_166 rfl rfl rfl rfl (by simp) rfl) (fun _ _ => Wl.dg (Wc.drawsS [9] ((pt b3 166 [Vi ((a : Nat) : Int), Vs s]) :: (slp 166 2 b cap (flat since)) :: (pt p 104 [Vl bs secs.length secs.length, Vl b since.length cap, Vf, Vi ((count : Nat) : Int), mv]) :: (pt bs 9 (ss.map Value.string)) :: (pt b1 25 [Vp p]) :: []) (by kernel_rfl) (Wr.t 0 oo5 rfl (q_c 4 sc_25 hE0_0 rfl rfl) (Wr.p 1 oo5 rfl (q_nil_ptr rfl) (Wr.p 2 oo5 rfl (q_field fo_104_0 rfl rfl) (Wr.t 3 oo5 rfl (q_c 2 sc_57 rfl rfl rfl) (Wr.p 4 oo5 rfl (q_field fo_166_0 rfl rfl) (Wr.t 5 oo5 rfl (q_c 0 sc_3 rfl rfl rfl) (Wr.p 6 oo5 rfl (q_field fo_166_1 rfl rfl) (Wr.t 7 oo5 rfl (q_c 0 sc_9 rfl rfl rfl) (Wr.p 8 oo5 rfl (q_idx (m := a) se_57 rfl rfl (by omega) (by omega) (by simp)) ?_)))))))))))))))))))))))
      refine Wr.x0 9 rfl (e_store (i := 3) (v := Vs s) sz_9 rfl rfl (fun _ _ => rfl) rfl (by simpa using ha)) (fun _ _ => Wr.imp (L' := (pt b3 166 [Vi ((a : Nat) : Int), Vs s]) :: (slp 166 2 b cap (flat since)) :: (pt p 104 [Vl bs secs.length secs.length, Vl b since.length cap, Vf, Vi ((count : Nat) : Int), mv]) :: (pt bs 9 ((ss.set a s).map Value.string)) :: (pt b1 25 [Vp p]) :: F) (fun _ h => by rw [List.map_set]; exact h) (Wr.rebaseS [] ((pt b3 166 [Vi ((a : Nat) : Int), Vs s]) :: (slp 166 2 b cap (flat since)) :: (pt p 104 [Vl bs secs.length secs.length, Vl b since.length cap, Vf, Vi ((count : Nat) : Int), mv]) :: (pt bs 9 ((ss.set a s).map Value.string)) :: (pt b1 25 [Vp p]) :: []) (by kernel_rfl) (Wr.z (Wx.blockEnd (Wx.go (Wc.region (Wl.q (q_add (c := ((k + 1 : Nat) : Int)) hE8_0 rfl (by rw [wrap_i64] <;> omega)) (Wl.run 1 rfl (Wl.done ?_)))))))))
      refine Wx.at (k + 1, ss.set a s) ⟨(by simp only; omega), rfl, hE0_0, hE6_0, hE7_0, (by rw [← hp0, sync_step hget]), (by simpa using hp1), (by omega)⟩ (fun w hs => st_drop hs)
    ·
      refine Wl.q (q_lss hE8_0 hE7_0 (df hlt)) (Wl.dg (Wc.seq (Wc.no rfl (Wc.exit (Wx.thenExit (Wx.thenExit (Wx.out (Wx.go (Wc.region (Wl.q (q_c 3 sc_25 hE0_0 rfl rfl) (Wl.run 1 rfl (Wl.q (q_field fo_104_1 rfl rfl) (Wl.e (e_store (i := 1) (v := Vn) sz_58 rfl rfl (fun _ _ => rfl) rfl (by simp)) (fun _ _ => Wl.done (Wx.fin0 rfl (.inr rfl) (fun w hs => ?_))))))))))))))))
      have hend : k = since.length := by omega
      rw [hend, List.drop_length] at hp0
      simp only [syncL] at hp0
      rw [← hp0]
      exact ⟨(), trivial, rfl, st_drop hs⟩
theorem sync1_nil (W0 : World) (p bs : Nat) (secs : List ByteArray) (since : List (Nat × ByteArray)) (count : Nat) (mv : Value) (b1 : Nat) (hw : WFl secs since) (hsince : since.length < 1099511627776) (hnil : since = []) :
    Con1 prog W0 304 #[Vp b1] [pt p 104 [Vl bs secs.length secs.length, Vn, Vf, Vi ((count : Nat) : Int), mv], pt bs 9 (secs.map Value.string), pt b1 25 [Vp p]] (.tuple #[]) [pt p 104 [Vl bs secs.length secs.length, Vn, Vf, Vi ((count : Nat) : Int), mv], pt bs 9 ((syncL secs since).map Value.string), pt b1 25 [Vp p]] := by
  refine Con.of func304 rfl ntmps304 rfl (fun F => ?_)
  show Wc _ W0 _ _ _ _ _ ((pt p 104 [Vl bs secs.length secs.length, Vn, Vf, Vi ((count : Nat) : Int), mv]) :: (pt bs 9 (secs.map Value.string)) :: (pt b1 25 [Vp p]) :: F)
  refine Wc.seq (Wc.sr (Wl.q (q_c 2 sc_25 rfl rfl rfl) (Wl.run 1 rfl (Wl.q (q_field fo_104_1 rfl rfl) (Wl.q (q_c 0 sc_58 rfl rfl rfl) (Wl.q (q_len_slice underlying58 rfl) (Wl.rg 1 rfl (Wc.block ?_))))))))
  refine Wc.loop (X := Nat × List ByteArray) (fun (k, ss) E => E 8 = Vi ((k : Nat) : Int) ∧ E 0 = Vp b1 ∧ E 6 = Vn ∧ E 7 = Vi 0 ∧ syncL ss (since.drop k) = syncL secs since ∧ ss.length = secs.length ∧ k ≤ since.length) (fun (k, ss) => (pt p 104 [Vl bs secs.length secs.length, Vn, Vf, Vi ((count : Nat) : Int), mv]) :: (pt bs 9 (ss.map Value.string)) :: (pt b1 25 [Vp p]) :: F) (fun (k, ss) => since.length - k) (0, secs) ?_ ?_ ?_
  · exact ⟨rfl, rfl, rfl, rfl, rfl, rfl, (by omega)⟩
  · exact fun w hs => hs
  · rintro ⟨k, ss⟩ E2 ⟨hE8_0, hE0_0, hE6_0, hE7_0, hp0, hp1, hp3⟩
    dsimp only at *
    have hsl : since.length = 0 := by rw [hnil]; rfl
    refine Wc.sr ?_
    by_cases hlt : ((k : Nat) : Int) < 0
    ·
      exfalso; omega
    ·
      refine Wl.q (q_lss hE8_0 hE7_0 (df hlt)) (Wl.dg (Wc.seq (Wc.no rfl (Wc.exit (Wx.thenExit (Wx.thenExit (Wx.out (Wx.go (Wc.region (Wl.q (q_c 2 sc_25 hE0_0 rfl rfl) (Wl.run 1 rfl (Wl.q (q_field fo_104_1 rfl rfl) (Wl.e (e_store (i := 0) (v := Vn) sz_58 rfl rfl (fun _ _ => rfl) rfl (by simp)) (fun _ _ => Wl.done (Wx.fin0 rfl (.inr rfl) (fun w hs => ?_))))))))))))))))
      have hend : k = since.length := by omega
      rw [hend, List.drop_length] at hp0
      simp only [syncL] at hp0
      rw [← hp0]
      exact ⟨(), trivial, rfl, hs⟩
theorem sync1_c (W0 : World) (p bs : Nat) (secs : List ByteArray) (since : List (Nat × ByteArray)) (count : Nat) (mv : Value) (b1 : Nat) (hw : WFl secs since) (hsince : since.length < 1099511627776) (sv : Value) :
  Con1 prog W0 304 #[Vp b1] [sl 166 2 sv since.length (flat since), pt p 104 [Vl bs secs.length secs.length, sv, Vf, Vi ((count : Nat) : Int), mv], pt bs 9 (secs.map Value.string), pt b1 25 [Vp p]] (.tuple #[]) [pt p 104 [Vl bs secs.length secs.length, Vn, Vf, Vi ((count : Nat) : Int), mv], pt bs 9 ((syncL secs since).map Value.string), pt b1 25 [Vp p]] := by
 refine Con.sl (fun e1 e2 e3 => ?_) (fun b cap e1 e2 e3 => ?_)
 · subst e1; exact sync1_nil W0 p bs secs since count mv b1 hw hsince (List.eq_nil_of_length_eq_zero e2)
 · subst e1; exact sync1_blk W0 p bs secs since count mv b1 hw hsince b cap e2
theorem crash_down (W0 : World) (p : Nat) (secs : List ByteArray) (since : List (Nat × ByteArray)) (count : Nat) (cut : Option (Nat × Int)) (bb : Int) :
  Con1 prog W0 19 #[Vp p, Vi bb] [isDisk p (⟨secs, since, true, count, cut⟩ : DS)] (Vi (DS.crash (⟨secs, since, true, count, cut⟩ : DS) bb).1) [isDisk p (DS.crash (⟨secs, since, true, count, cut⟩ : DS) bb).2] := by
 refine Con.disk (fun bs sv fn us vs => ?_)
 refine Con.of func19 rfl ntmps19 rfl (fun F => ?_)
 show Wc _ W0 _ _ _ _ _ ((pt p 104 [Vl bs secs.length secs.length, sv, Vt, Vi ((count : Nat) : Int), .func fn us vs]) :: (pt bs 9 (secs.map Value.string)) :: (sl 166 2 sv since.length (flat since)) :: (mayR p (Value.func fn us vs) cut) :: F)
 refine Wc.a 1 rfl (Wc.seq (Wc.b 1 rfl (Wl.e (e_c call48 (state_down W0 p (Vl bs secs.length secs.length) (sv) (Vi ((count : Nat) : Int)) fn us vs)) (fun _ _ => Wl.rg 1 rfl (Wc.b 1 rfl (Wl.q (q_neq rfl rfl (df (by decide))) (Wl.dg (Wc.yes rfl (Wc.a 2 rfl (Wc.ret (Wx.thenRet (Wx.f1 rfl (fun w hs => ?_)))))))))))))
 have e : DS.crash ⟨secs, since, true, count, cut⟩ bb = (6, ⟨secs, since, true, count, cut⟩) := rfl
 rw [e]
 exact ⟨(), trivial, rfl, isDisk_mk rfl hs⟩
theorem crash_up (W0 : World) (p : Nat) (secs : List ByteArray) (since : List (Nat × ByteArray)) (count : Nat) (cut : Option (Nat × Int)) (bb : Int) (hw : WFl secs since) :
  Con1 prog W0 19 #[Vp p, Vi bb] [isDisk p (⟨secs, since, false, count, cut⟩ : DS)] (Vi (DS.crash (⟨secs, since, false, count, cut⟩ : DS) bb).1) [isDisk p (DS.crash (⟨secs, since, false, count, cut⟩ : DS) bb).2] := by
 refine Con.disk (fun bs sv fn us vs => ?_)
 refine Con.of func19 rfl ntmps19 rfl (fun F => ?_)
 show Wc _ W0 _ _ _ _ _ ((pt p 104 [Vl bs secs.length secs.length, sv, Vf, Vi ((count : Nat) : Int), .func fn us vs]) :: (pt bs 9 (secs.map Value.string)) :: (sl 166 2 sv since.length (flat since)) :: (mayR p (Value.func fn us vs) cut) :: F)
 refine Wc.a 1 rfl (Wc.seq (Wc.b 1 rfl (Wl.e (e_c call48 (state_up W0 p (Vl bs secs.length secs.length) (sv) (Vi ((count : Nat) : Int)) fn us vs)) (fun _ _ => Wl.rg 1 rfl (Wc.b 1 rfl (Wl.q (q_neq rfl rfl (dt (by decide))) (Wl.dg (Wc.no rfl (Wc.skip (Wx.go (Wc.b 2 rfl (Wl.pull [2, 0, 0] (Wl.e (e_c call50 (fall_c W0 p bs secs since false count (.func fn us vs) bb hw sv)) (fun _ _ => Wl.dg (Wc.a 1 rfl (Wc.ret (Wx.f1 rfl (fun w hs => ?_))))))))))))))))))
 have e : DS.crash ⟨secs, since, false, count, cut⟩ bb = (0, (⟨fallL secs (since.take 31) bb, [], true, count, none⟩ : DS)) := rfl
 rw [e]
 exact ⟨(), trivial, rfl, isDisk_mk (fallL_length _ _ _).symm (st_pull [2, 2] (st_sl_nil (mayR_none (st_drop (st_pull [2] hs)))))⟩
theorem start_down (W0 : World) (p : Nat) (secs : List ByteArray) (since : List (Nat × ByteArray)) (count : Nat) (cut : Option (Nat × Int)) :
  Con1 prog W0 21 #[Vp p] [isDisk p (⟨secs, since, true, count, cut⟩ : DS)] (Vi (DS.start (⟨secs, since, true, count, cut⟩ : DS) ).1) [isDisk p (DS.start (⟨secs, since, true, count, cut⟩ : DS) ).2] := by
 refine Con.disk (fun bs sv fn us vs => ?_)
 refine Con.of func21 rfl ntmps21 rfl (fun F => ?_)
 show Wc _ W0 _ _ _ _ _ ((pt p 104 [Vl bs secs.length secs.length, sv, Vt, Vi ((count : Nat) : Int), .func fn us vs]) :: (pt bs 9 (secs.map Value.string)) :: (sl 166 2 sv since.length (flat since)) :: (mayR p (Value.func fn us vs) cut) :: F)
 refine Wc.a 1 rfl (Wc.seq (Wc.block (Wc.b 1 rfl (Wl.e (e_c call52 (there_yes W0 p (Vl bs secs.length secs.length) (sv) (Vt) (Vi ((count : Nat) : Int)) fn us vs)) (fun _ _ => Wl.q (q_not rfl rfl) (Wl.rg 1 rfl (Wc.no rfl (Wc.b 2 rfl (Wl.q (q_field fo_104_2 rfl rfl) (Wl.q (q_c 0 sc_4 rfl rfl rfl) (Wl.q (q_not rfl rfl) (Wl.rg 1 rfl (Wc.no rfl (Wc.skip (Wx.blockEnd (Wx.go (Wc.b 2 rfl (Wl.q (q_field fo_104_2 rfl rfl) (Wl.e (e_store (i := 0) (v := Vf) sz_4 rfl rfl (fun _ _ => rfl) rfl (by simp)) (fun _ _ => Wl.dg (Wc.a 1 rfl (Wc.ret (Wx.f1 rfl (fun w hs => ?_))))))))))))))))))))))))
 have e : DS.start ⟨secs, since, true, count, cut⟩ = (0, ⟨secs, since, false, count, cut⟩) := rfl
 rw [e]
 exact ⟨(), trivial, rfl, isDisk_mk rfl hs⟩
theorem start_up (W0 : World) (p : Nat) (secs : List ByteArray) (since : List (Nat × ByteArray)) (count : Nat) (cut : Option (Nat × Int)) :
  Con1 prog W0 21 #[Vp p] [isDisk p (⟨secs, since, false, count, cut⟩ : DS)] (Vi (DS.start (⟨secs, since, false, count, cut⟩ : DS) ).1) [isDisk p (DS.start (⟨secs, since, false, count, cut⟩ : DS) ).2] := by
 refine Con.disk (fun bs sv fn us vs => ?_)
 refine Con.of func21 rfl ntmps21 rfl (fun F => ?_)
 show Wc _ W0 _ _ _ _ _ ((pt p 104 [Vl bs secs.length secs.length, sv, Vf, Vi ((count : Nat) : Int), .func fn us vs]) :: (pt bs 9 (secs.map Value.string)) :: (sl 166 2 sv since.length (flat since)) :: (mayR p (Value.func fn us vs) cut) :: F)
 refine Wc.a 1 rfl (Wc.seq (Wc.block (Wc.b 1 rfl (Wl.e (e_c call52 (there_yes W0 p (Vl bs secs.length secs.length) (sv) (Vf) (Vi ((count : Nat) : Int)) fn us vs)) (fun _ _ => Wl.q (q_not rfl rfl) (Wl.rg 1 rfl (Wc.no rfl (Wc.b 2 rfl (Wl.q (q_field fo_104_2 rfl rfl) (Wl.q (q_c 0 sc_4 rfl rfl rfl) (Wl.q (q_not rfl rfl) (Wl.rg 1 rfl (Wc.yes rfl (Wc.a 1 rfl (Wc.ret (Wx.blockRet (Wx.thenRet (Wx.f1 rfl (fun w hs => ?_)))))))))))))))))))
 have e : DS.start ⟨secs, since, false, count, cut⟩ = (8, ⟨secs, since, false, count, cut⟩) := rfl
 rw [e]
 exact ⟨(), trivial, rfl, isDisk_mk rfl hs⟩
theorem up_up (W0 : World) (p : Nat) (secs : List ByteArray) (since : List (Nat × ByteArray)) (count : Nat) (cut : Option (Nat × Int)) :
  Con1 prog W0 159 #[Vp p] [isDisk p (⟨secs, since, false, count, cut⟩ : DS)] (Vt) [isDisk p (⟨secs, since, false, count, cut⟩ : DS)] := by
 refine Con.disk (fun bs sv fn us vs => ?_)
 refine Con.of func159 rfl ntmps159 rfl (fun F => ?_)
 show Wc _ W0 _ _ _ _ _ ((pt p 104 [Vl bs secs.length secs.length, sv, Vf, Vi ((count : Nat) : Int), .func fn us vs]) :: (pt bs 9 (secs.map Value.string)) :: (sl 166 2 sv since.length (flat since)) :: (mayR p (Value.func fn us vs) cut) :: F)
 refine Wc.a 1 rfl (Wc.b 1 rfl (Wl.e (e_c call52 (there_yes W0 p (Vl bs secs.length secs.length) (sv) (Vf) (Vi ((count : Nat) : Int)) fn us vs)) (fun _ _ => Wl.run 3 rfl (Wl.q (q_field fo_104_2 rfl rfl) (Wl.q (q_c 0 sc_4 rfl rfl rfl) (Wl.q (q_not rfl rfl) (Wl.rg 2 rfl (Wc.ret (Wx.f1 rfl (fun w hs => ?_))))))))))
 exact ⟨(), trivial, rfl, isDisk_mk rfl hs⟩
theorem up_down (W0 : World) (p : Nat) (secs : List ByteArray) (since : List (Nat × ByteArray)) (count : Nat) (cut : Option (Nat × Int)) :
  Con1 prog W0 159 #[Vp p] [isDisk p (⟨secs, since, true, count, cut⟩ : DS)] (Vf) [isDisk p (⟨secs, since, true, count, cut⟩ : DS)] := by
 refine Con.disk (fun bs sv fn us vs => ?_)
 refine Con.of func159 rfl ntmps159 rfl (fun F => ?_)
 show Wc _ W0 _ _ _ _ _ ((pt p 104 [Vl bs secs.length secs.length, sv, Vt, Vi ((count : Nat) : Int), .func fn us vs]) :: (pt bs 9 (secs.map Value.string)) :: (sl 166 2 sv since.length (flat since)) :: (mayR p (Value.func fn us vs) cut) :: F)
 refine Wc.a 1 rfl (Wc.b 1 rfl (Wl.e (e_c call52 (there_yes W0 p (Vl bs secs.length secs.length) (sv) (Vt) (Vi ((count : Nat) : Int)) fn us vs)) (fun _ _ => Wl.run 3 rfl (Wl.q (q_field fo_104_2 rfl rfl) (Wl.q (q_c 0 sc_4 rfl rfl rfl) (Wl.q (q_not rfl rfl) (Wl.rg 2 rfl (Wc.ret (Wx.f1 rfl (fun w hs => ?_))))))))))
 exact ⟨(), trivial, rfl, isDisk_mk rfl hs⟩
theorem count_down (W0 : World) (p : Nat) (secs : List ByteArray) (since : List (Nat × ByteArray)) (count : Nat) (cut : Option (Nat × Int)) :
  Con1 prog W0 23 #[Vp p] [isDisk p (⟨secs, since, true, count, cut⟩ : DS)] (Vi (count : Int)) [isDisk p (⟨secs, since, true, count, cut⟩ : DS)] := by
 refine Con.disk (fun bs sv fn us vs => ?_)
 refine Con.of func23 rfl ntmps23 rfl (fun F => ?_)
 show Wc _ W0 _ _ _ _ _ ((pt p 104 [Vl bs secs.length secs.length, sv, Vt, Vi ((count : Nat) : Int), .func fn us vs]) :: (pt bs 9 (secs.map Value.string)) :: (sl 166 2 sv since.length (flat since)) :: (mayR p (Value.func fn us vs) cut) :: F)
 refine Wc.a 1 rfl (Wc.seq (Wc.b 1 rfl (Wl.e (e_c call52 (there_yes W0 p (Vl bs secs.length secs.length) (sv) (Vt) (Vi ((count : Nat) : Int)) fn us vs)) (fun _ _ => Wl.q (q_not rfl rfl) (Wl.dg (Wc.no rfl (Wc.skip (Wx.go (Wc.b 2 rfl (Wl.q (q_field fo_104_3 rfl rfl) (Wl.q (q_c 0 sc_3 rfl rfl rfl) (Wl.rg 1 rfl (Wc.ret (Wx.f1 rfl (fun w hs => ?_)))))))))))))))
 exact ⟨(), trivial, rfl, isDisk_mk rfl hs⟩
theorem count_up (W0 : World) (p : Nat) (secs : List ByteArray) (since : List (Nat × ByteArray)) (count : Nat) (cut : Option (Nat × Int)) :
  Con1 prog W0 23 #[Vp p] [isDisk p (⟨secs, since, false, count, cut⟩ : DS)] (Vi (count : Int)) [isDisk p (⟨secs, since, false, count, cut⟩ : DS)] := by
 refine Con.disk (fun bs sv fn us vs => ?_)
 refine Con.of func23 rfl ntmps23 rfl (fun F => ?_)
 show Wc _ W0 _ _ _ _ _ ((pt p 104 [Vl bs secs.length secs.length, sv, Vf, Vi ((count : Nat) : Int), .func fn us vs]) :: (pt bs 9 (secs.map Value.string)) :: (sl 166 2 sv since.length (flat since)) :: (mayR p (Value.func fn us vs) cut) :: F)
 refine Wc.a 1 rfl (Wc.seq (Wc.b 1 rfl (Wl.e (e_c call52 (there_yes W0 p (Vl bs secs.length secs.length) (sv) (Vf) (Vi ((count : Nat) : Int)) fn us vs)) (fun _ _ => Wl.q (q_not rfl rfl) (Wl.dg (Wc.no rfl (Wc.skip (Wx.go (Wc.b 2 rfl (Wl.q (q_field fo_104_3 rfl rfl) (Wl.q (q_c 0 sc_3 rfl rfl rfl) (Wl.rg 1 rfl (Wc.ret (Wx.f1 rfl (fun w hs => ?_)))))))))))))))
 exact ⟨(), trivial, rfl, isDisk_mk rfl hs⟩
theorem len_down (W0 : World) (p : Nat) (secs : List ByteArray) (since : List (Nat × ByteArray)) (count : Nat) (cut : Option (Nat × Int)) :
  Con1 prog W0 158 #[Vp p] [isDisk p (⟨secs, since, true, count, cut⟩ : DS)] (Vi (secs.length : Int)) [isDisk p (⟨secs, since, true, count, cut⟩ : DS)] := by
 refine Con.disk (fun bs sv fn us vs => ?_)
 refine Con.of func158 rfl ntmps158 rfl (fun F => ?_)
 show Wc _ W0 _ _ _ _ _ ((pt p 104 [Vl bs secs.length secs.length, sv, Vt, Vi ((count : Nat) : Int), .func fn us vs]) :: (pt bs 9 (secs.map Value.string)) :: (sl 166 2 sv since.length (flat since)) :: (mayR p (Value.func fn us vs) cut) :: F)
 refine Wc.a 1 rfl (Wc.seq (Wc.b 1 rfl (Wl.e (e_c call52 (there_yes W0 p (Vl bs secs.length secs.length) (sv) (Vt) (Vi ((count : Nat) : Int)) fn us vs)) (fun _ _ => Wl.q (q_not rfl rfl) (Wl.dg (Wc.no rfl (Wc.skip (Wx.go (Wc.b 2 rfl (Wl.q (q_field fo_104_0 rfl rfl) (Wl.q (q_c 0 sc_57 rfl rfl rfl) (Wl.q (q_len_slice underlying57 rfl) (Wl.rg 1 rfl (Wc.ret (Wx.f1 rfl (fun w hs => ?_))))))))))))))))
 exact ⟨(), trivial, rfl, isDisk_mk rfl hs⟩
theorem len_up (W0 : World) (p : Nat) (secs : List ByteArray) (since : List (Nat × ByteArray)) (count : Nat) (cut : Option (Nat × Int)) :
  Con1 prog W0 158 #[Vp p] [isDisk p (⟨secs, since, false, count, cut⟩ : DS)] (Vi (secs.length : Int)) [isDisk p (⟨secs, since, false, count, cut⟩ : DS)] := by
 refine Con.disk (fun bs sv fn us vs => ?_)
 refine Con.of func158 rfl ntmps158 rfl (fun F => ?_)
 show Wc _ W0 _ _ _ _ _ ((pt p 104 [Vl bs secs.length secs.length, sv, Vf, Vi ((count : Nat) : Int), .func fn us vs]) :: (pt bs 9 (secs.map Value.string)) :: (sl 166 2 sv since.length (flat since)) :: (mayR p (Value.func fn us vs) cut) :: F)
 refine Wc.a 1 rfl (Wc.seq (Wc.b 1 rfl (Wl.e (e_c call52 (there_yes W0 p (Vl bs secs.length secs.length) (sv) (Vf) (Vi ((count : Nat) : Int)) fn us vs)) (fun _ _ => Wl.q (q_not rfl rfl) (Wl.dg (Wc.no rfl (Wc.skip (Wx.go (Wc.b 2 rfl (Wl.q (q_field fo_104_0 rfl rfl) (Wl.q (q_c 0 sc_57 rfl rfl rfl) (Wl.q (q_len_slice underlying57 rfl) (Wl.rg 1 rfl (Wc.ret (Wx.f1 rfl (fun w hs => ?_))))))))))))))))
 exact ⟨(), trivial, rfl, isDisk_mk rfl hs⟩
theorem cut_down (W0 : World) (p : Nat) (secs : List ByteArray) (since : List (Nat × ByteArray)) (count : Nat) (cut : Option (Nat × Int)) (n bb : Int) :
  Con1 prog W0 17 #[Vp p, Vi n, Vi bb] [isDisk p (⟨secs, since, true, count, cut⟩ : DS)] (Vi (DS.cutTo (⟨secs, since, true, count, cut⟩ : DS) n bb).1) [isDisk p (DS.cutTo (⟨secs, since, true, count, cut⟩ : DS) n bb).2] := by
 refine Con.disk (fun bs sv fn us vs => ?_)
 refine Con.of func17 rfl ntmps17 rfl (fun F => ?_)
 show Wc _ W0 _ _ _ _ _ ((pt p 104 [Vl bs secs.length secs.length, sv, Vt, Vi ((count : Nat) : Int), .func fn us vs]) :: (pt bs 9 (secs.map Value.string)) :: (sl 166 2 sv since.length (flat since)) :: (mayR p (Value.func fn us vs) cut) :: F)
 refine Wc.a 1 rfl (Wc.seq (Wc.b 1 rfl (Wl.e (e_c call48 (state_down W0 p (Vl bs secs.length secs.length) (sv) (Vi ((count : Nat) : Int)) fn us vs)) (fun _ _ => Wl.rg 1 rfl (Wc.b 1 rfl (Wl.q (q_neq rfl rfl (df (by decide))) (Wl.dg (Wc.yes rfl (Wc.a 2 rfl (Wc.ret (Wx.thenRet (Wx.f1 rfl (fun w hs => ?_)))))))))))))
 have e : DS.cutTo ⟨secs, since, true, count, cut⟩ n bb = (6, ⟨secs, since, true, count, cut⟩) := rfl
 rw [e]
 exact ⟨(), trivial, rfl, isDisk_mk rfl hs⟩
theorem cut_up (W0 : World) (p : Nat) (secs : List ByteArray) (since : List (Nat × ByteArray)) (count : Nat) (cut : Option (Nat × Int)) (n bb : Int) :
  Con1 prog W0 17 #[Vp p, Vi n, Vi bb] [isDisk p (⟨secs, since, false, count, cut⟩ : DS)] (Vi (DS.cutTo (⟨secs, since, false, count, cut⟩ : DS) n bb).1) [isDisk p (DS.cutTo (⟨secs, since, false, count, cut⟩ : DS) n bb).2] := by
 refine Con.disk (fun bs sv fn us vs => ?_)
 refine Con.of func17 rfl ntmps17 rfl (fun F => ?_)
 show Wc _ W0 _ _ _ _ _ ((pt p 104 [Vl bs secs.length secs.length, sv, Vf, Vi ((count : Nat) : Int), .func fn us vs]) :: (pt bs 9 (secs.map Value.string)) :: (sl 166 2 sv since.length (flat since)) :: (mayR p (Value.func fn us vs) cut) :: F)
 refine Wc.a 1 rfl (Wc.seq (Wc.b 1 rfl (Wl.e (e_c call48 (state_up W0 p (Vl bs secs.length secs.length) (sv) (Vi ((count : Nat) : Int)) fn us vs)) (fun _ _ => Wl.rg 1 rfl (Wc.b 1 rfl (Wl.q (q_neq rfl rfl (dt (by decide))) (Wl.dg (Wc.no rfl (Wc.skip (Wx.go (Wc.seq (Wc.b 1 rfl ?_))))))))))))
 by_cases hneg : n < 0
 ·
  refine Wl.q (q_lss rfl rfl (dt hneg)) (Wl.dg (Wc.yes rfl (Wc.a 1 rfl (Wc.ret (Wx.thenRet (Wx.f1 rfl (fun w hs => ?_)))))))
  have e : DS.cutTo ⟨secs, since, false, count, cut⟩ n bb = (1, ⟨secs, since, false, count, cut⟩) := by simp [DS.cutTo, hneg]
  rw [e]
  exact ⟨(), trivial, rfl, isDisk_mk rfl hs⟩
 ·
  obtain ⟨m, rfl⟩ := Int.eq_ofNat_of_zero_le (Int.not_lt.1 hneg)
  refine Wl.q (q_lss rfl rfl (df hneg)) (Wl.dg (Wc.no rfl (Wc.skip (Wx.go (Wc.b 4 rfl (Wl.q (v := Value.agg #[Vp p, Vi ((m : Nat) : Int), Vi bb]) (q_build (pl := [(0, 1), (1, 1), (2, 1)]) underlying130 zo_130 (by kernel_rfl) (by kernel_rfl)) (Wl.e (e_box (x := .tmp 19) (vs := [Vp p, Vi ((m : Nat) : Int), Vi bb]) rfl) (fun c _ => ?_))))))))
  refine Wl.q (q_makeFunc (us := [Vp c]) (vs := []) rfl rfl) (Wl.run 1 rfl (Wl.q (q_field fo_104_4 rfl rfl) (Wl.e (e_store (i := 1) (v := Value.func (.func 49) #[Vp c] #[]) sz_32 rfl rfl (fun _ _ => rfl) rfl (by simp)) (fun _ _ => Wl.dg (Wc.a 1 rfl (Wc.ret (Wx.f1 rfl (fun w hs => ?_))))))))
  have e : DS.cutTo ⟨secs, since, false, count, cut⟩ ((m : Nat) : Int) bb = (0, ⟨secs, since, false, count, some (m, bb)⟩) := by simp [DS.cutTo, hneg]
  rw [e]
  exact ⟨(), trivial, rfl, isDisk_mk rfl (st_pull [1, 1, 1] (mayR_some (st_pull [0] (st_pull [0, 0, 0, 0] (st_drop (st_pull [4] hs))))))⟩
theorem crash_c (W0 : World) (p : Nat) (d : DS) (bb : Int) (hw : WF d) :
  Con1 prog W0 19 #[Vp p, Vi bb] [isDisk p d] (Vi (d.crash bb).1) [isDisk p (d.crash bb).2] := by
 obtain ⟨secs, since, down, count, cut⟩ := d
 cases down
 · exact crash_up W0 p secs since count cut bb hw.l
 · exact crash_down W0 p secs since count cut bb
theorem start_c (W0 : World) (p : Nat) (d : DS) :
  Con1 prog W0 21 #[Vp p] [isDisk p d] (Vi d.start.1) [isDisk p d.start.2] := by
 obtain ⟨secs, since, down, count, cut⟩ := d
 cases down
 · exact start_up W0 p secs since count cut
 · exact start_down W0 p secs since count cut
theorem up_c (W0 : World) (p : Nat) (d : DS) :
  Con1 prog W0 159 #[Vp p] [isDisk p d] (Value.bool (!d.down)) [isDisk p d] := by
 obtain ⟨secs, since, down, count, cut⟩ := d
 cases down
 · exact up_up W0 p secs since count cut
 · exact up_down W0 p secs since count cut
theorem count_c (W0 : World) (p : Nat) (d : DS) :
  Con1 prog W0 23 #[Vp p] [isDisk p d] (Vi (d.count : Int)) [isDisk p d] := by
 obtain ⟨secs, since, down, count, cut⟩ := d
 cases down
 · exact count_up W0 p secs since count cut
 · exact count_down W0 p secs since count cut
theorem len_c (W0 : World) (p : Nat) (d : DS) :
  Con1 prog W0 158 #[Vp p] [isDisk p d] (Vi (d.secs.length : Int)) [isDisk p d] := by
 obtain ⟨secs, since, down, count, cut⟩ := d
 cases down
 · exact len_up W0 p secs since count cut
 · exact len_down W0 p secs since count cut
theorem cut_c (W0 : World) (p : Nat) (d : DS) (n bb : Int) :
  Con1 prog W0 17 #[Vp p, Vi n, Vi bb] [isDisk p d] (Vi (d.cutTo n bb).1) [isDisk p (d.cutTo n bb).2] := by
 obtain ⟨secs, since, down, count, cut⟩ := d
 cases down
 · exact cut_up W0 p secs since count cut n bb
 · exact cut_down W0 p secs since count cut n bb
theorem write1_g (W0 : World) (p bs : Nat) (secs : List ByteArray) (since : List (Nat × ByteArray)) (hsince : since.length < 1099511627776) (count : Nat) (mv sv : Value) (b3 b4 b5 a : Nat) (s : ByteArray) :
  Con prog W0 303 #[Vp b3, Vp b4, Vp b5] [pt p 104 [Vl bs secs.length secs.length, sv, Vf, Vi ((count : Nat) : Int), mv], grp [sl 166 2 sv since.length (flat since), pt b3 25 [Vp p], pt b4 3 [Vi ((a : Nat) : Int)], pt b5 9 [Vs s]]] (X := Value) (fun _ => True) (fun _ => .tuple #[]) (fun v2 => [pt p 104 [Vl bs secs.length secs.length, v2, Vf, Vi ((count : Nat) : Int), mv], sl 166 2 v2 ((since ++ [(a, s)]).length) (flat (since ++ [(a, s)])), pt b3 25 [Vp p], pt b4 3 [Vi ((a : Nat) : Int)], pt b5 9 [Vs s]]) :=
 Con.grpAt (write1 W0 p bs secs since hsince count mv sv b3 b4 b5 a s)
theorem sync1_g (W0 : World) (p bs : Nat) (secs : List ByteArray) (since : List (Nat × ByteArray)) (count : Nat) (mv : Value) (b1 : Nat) (hw : WFl secs since) (hsince : since.length < 1099511627776) (sv : Value) :
  Con1 prog W0 304 #[Vp b1] [pt p 104 [Vl bs secs.length secs.length, sv, Vf, Vi ((count : Nat) : Int), mv], grp [sl 166 2 sv since.length (flat since), pt bs 9 (secs.map Value.string), pt b1 25 [Vp p]]] (.tuple #[]) [pt p 104 [Vl bs secs.length secs.length, Vn, Vf, Vi ((count : Nat) : Int), mv], pt bs 9 ((syncL secs since).map Value.string), pt b1 25 [Vp p]] :=
 Con.grpAt (Con.pull [1] (fun _ => rfl) (sync1_c W0 p bs secs since count mv b1 hw hsince sv))
theorem write_down (W0 : World) (p : Nat) (secs : List ByteArray) (since : List (Nat × ByteArray)) (count : Nat) (cut : Option (Nat × Int)) (at_ : Int) (s : ByteArray) :
  Con1 prog W0 278 #[Vp p, Vi at_, Vs s] [isDisk p (⟨secs, since, true, count, cut⟩ : DS)] (Vi (DS.write (⟨secs, since, true, count, cut⟩ : DS) at_ s).1) [isDisk p (DS.write (⟨secs, since, true, count, cut⟩ : DS) at_ s).2] := by
 refine Con.disk (fun bs sv fn us vs => ?_)
 refine Con.of func278 rfl ntmps278 rfl (fun F => ?_)
 refine Wc.sr (Wl.e (e_box (x := .tmp 0) (vs := [Vp p]) rfl) (fun b3 _ => Wl.e (e_box (x := .tmp 1) (vs := [Vi at_]) rfl) (fun b4 _ => Wl.e (e_box (x := .tmp 2) (vs := [Vs s]) rfl) (fun b5 _ => Wl.rg 1 rfl (Wc.seq (Wc.sr (Wl.q (q_c 2 sc_25 rfl rfl rfl) (Wl.pull [3] (Wl.e (e_c call48 (state_down W0 p (Vl bs secs.length secs.length) (sv) (Vi ((count : Nat) : Int)) fn us vs)) (fun _ _ => Wl.rg 1 rfl (Wc.b 1 rfl (Wl.q (q_neq rfl rfl (df (by decide))) (Wl.dg (Wc.yes rfl (Wc.a 2 rfl (Wc.ret (Wx.thenRet (Wx.f1 rfl (fun w hs => ?_)))))))))))))))))))
 have e : DS.write ⟨secs, since, true, count, cut⟩ at_ s = (6, ⟨secs, since, true, count, cut⟩) := rfl
 rw [e]
 exact ⟨(), trivial, rfl, isDisk_mk rfl (st_drop (st_drop (st_drop (st_pull [1, 1, 1] hs))))⟩
theorem write_alw (W0 : World) (p : Nat) (secs : List ByteArray) (since : List (Nat × ByteArray)) (count : Nat) (at_ : Int) (s : ByteArray) (hw : WFl secs since) (hsince : since.length < 1099511627776) (hcount : count < 4611686018427387904) :
  Con1 prog W0 278 #[Vp p, Vi at_, Vs s] [isDisk p (⟨secs, since, false, count, none⟩ : DS)] (Vi (DS.write (⟨secs, since, false, count, none⟩ : DS) at_ s).1) [isDisk p (DS.write (⟨secs, since, false, count, none⟩ : DS) at_ s).2] := by
 refine Con.alw rfl (fun bs sv => ?_)
 refine Con.of func278 rfl ntmps278 rfl (fun F => ?_)
 refine Wc.sr (Wl.e (e_box (x := .tmp 0) (vs := [Vp p]) rfl) (fun b3 _ => Wl.e (e_box (x := .tmp 1) (vs := [Vi at_]) rfl) (fun b4 _ => Wl.e (e_box (x := .tmp 2) (vs := [Vs s]) rfl) (fun b5 _ => Wl.rg 1 rfl (Wc.seq (Wc.sr (Wl.q (q_c 2 sc_25 rfl rfl rfl) (Wl.pull [3] (Wl.e (e_c call48 (state_up W0 p (Vl bs secs.length secs.length) (sv) (Vi ((count : Nat) : Int)) (.func 30) #[Vp p] #[])) (fun _ _ => Wl.rg 1 rfl (Wc.b 1 rfl (Wl.q (q_neq rfl rfl (dt (by decide))) (Wl.dg (Wc.no rfl (Wc.skip (Wx.go (Wc.seq (Wc.seq (Wc.drawsS [] ((pt p 104 ([Vl bs secs.length secs.length, sv, Vf, Vi ((count : Nat) : Int), Value.func (.func 30) #[Vp p] #[]])) :: (pt b5 9 [Vs s]) :: (pt b4 3 [Vi at_]) :: (pt b3 25 [Vp p]) :: (pt bs 9 (secs.map Value.string)) :: (sl 166 2 sv since.length (flat since)) :: []) (by kernel_rfl) (Wr.t 0 oo6 rfl (q_c 2 sc_3 rfl rfl rfl) ?_))))))))))))))))))))
 by_cases hneg : at_ < 0
 ·
  refine Wr.p 1 oo6 rfl (q_lss rfl rfl (dt hneg)) (Wr.p 2 oo6 rfl (q_move rfl) (Wr.u 3 oo6 rfl (Wr.u 4 oo6 rfl (Wr.u 5 oo6 rfl (Wr.u 6 oo6 rfl (Wr.u 7 oo6 rfl (Wr.u 8 oo6 rfl (Wr.u 9 oo6 rfl (Wr.p 10 oo6 rfl (q_pick (t := true) rfl rfl) (Wr.p 11 oo6 rfl (q_move rfl) (Wr.u 12 oo6 rfl (Wr.u 13 oo6 rfl (Wr.u 14 oo6 rfl (Wr.p 15 oo6 rfl (q_pick (t := true) rfl rfl) (Wr.z (Wx.go (Wc.yes rfl (Wc.a 1 rfl (Wc.ret (Wx.thenRet (Wx.f1 rfl (fun w hs => ?_))))))))))))))))))))))
  have e : DS.write ⟨secs, since, false, count, none⟩ at_ s = (1, ⟨secs, since, false, count, none⟩) := write_bad rfl (by first | exact .inl hneg | exact .inr (.inl hge) | exact .inr (.inr hsz))
  rw [e]
  exact ⟨(), trivial, rfl, isDisk_mk rfl (st_pull [1, 1, 1] (mayR_none (st_drop (st_drop (st_drop (st_pull [1, 1, 1] hs))))))⟩
 ·
  obtain ⟨a, rfl⟩ := Int.eq_ofNat_of_zero_le (Int.not_lt.1 hneg)
  refine Wr.p 1 oo6 rfl (q_lss rfl rfl (df hneg)) (Wr.p 2 oo6 rfl (q_move rfl) (Wr.t 3 oo6 rfl (q_c 2 sc_3 rfl rfl rfl) (Wr.t 4 oo6 rfl (q_c 3 sc_25 rfl rfl rfl) (Wr.p 5 oo6 rfl (q_nil_ptr rfl) (Wr.p 6 oo6 rfl (q_field fo_104_0 rfl rfl) (Wr.t 7 oo6 rfl (q_c 0 sc_57 rfl rfl rfl) (Wr.t 8 oo6 rfl (q_len_slice underlying57 rfl) ?_)))))))
  by_cases hge : ((a : Nat) : Int) ≥ ((secs.length : Nat) : Int)
  ·
   refine Wr.p 9 oo6 rfl (q_geq rfl rfl (dt hge)) (Wr.p 10 oo6 rfl (q_pick (t := false) rfl rfl) (Wr.p 11 oo6 rfl (q_move rfl) (Wr.u 12 oo6 rfl (Wr.u 13 oo6 rfl (Wr.u 14 oo6 rfl (Wr.p 15 oo6 rfl (q_pick (t := true) rfl rfl) (Wr.z (Wx.go (Wc.yes rfl (Wc.a 1 rfl (Wc.ret (Wx.thenRet (Wx.f1 rfl (fun w hs => ?_))))))))))))))
   have e : DS.write ⟨secs, since, false, count, none⟩ ((a : Nat) : Int) s = (1, ⟨secs, since, false, count, none⟩) := write_bad rfl (by first | exact .inl hneg | exact .inr (.inl hge) | exact .inr (.inr hsz))
   rw [e]
   exact ⟨(), trivial, rfl, isDisk_mk rfl (st_pull [1, 1, 1] (mayR_none (st_drop (st_drop (st_drop (st_pull [1, 1, 1] hs))))))⟩
  ·
   refine Wr.p 9 oo6 rfl (q_geq rfl rfl (df hge)) (Wr.p 10 oo6 rfl (q_pick (t := false) rfl rfl) (Wr.p 11 oo6 rfl (q_move rfl) (Wr.t 12 oo6 rfl (q_c 1 sc_9 rfl rfl rfl) (Wr.t 13 oo6 rfl (q_len_str underlying9 rfl) ?_))))
   by_cases hsz : ((s.size : Nat) : Int) = 64
   ·
    refine Wr.p 14 oo6 rfl (q_neq rfl rfl (dt hsz)) (Wr.p 15 oo6 rfl (q_pick (t := false) rfl rfl) (Wr.z (Wx.go (Wc.no rfl (Wc.skip (Wx.go (Wc.sr (Wl.q (q_c 3 sc_25 rfl rfl rfl) (Wl.q (q_makeFunc (us := []) (vs := [Vp b3, Vp b4, Vp b5]) rfl rfl) (Wl.pull [0, 4, 2, 1, 0] (Wl.imp (L' := (pt p 104 ([Vl bs secs.length secs.length, sv, Vf, Vi ((count : Nat) : Int), Value.func (.func 30) #[Vp p] #[]])) :: (grp [sl 166 2 sv since.length (flat since), pt b3 25 [Vp p], pt b4 3 [Vi ((a : Nat) : Int)], pt b5 9 [Vs s]]) :: (pt bs 9 (secs.map Value.string)) :: F) (fun _ h => st_grpAt h) (Wl.e (e_c call302 (do_alw W0 p (Vl bs secs.length secs.length) sv count hcount 303 call303 [Vp b3, Vp b4, Vp b5] [sl 166 2 sv since.length (flat since), pt b3 25 [Vp p], pt b4 3 [Vi ((a : Nat) : Int)], pt b5 9 [Vs s]] (fun v2 => [pt p 104 ([Vl bs secs.length secs.length, v2, Vf, Vi (((count + 1) : Nat) : Int), Value.func (.func 30) #[Vp p] #[]]), sl 166 2 v2 ((since ++ [(a, s)]).length) (flat (since ++ [(a, s)])), pt b3 25 [Vp p], pt b4 3 [Vi ((a : Nat) : Int)], pt b5 9 [Vs s]])  (write1_g W0 p bs secs since hsince (count + 1) (Value.func (.func 30) #[Vp p] #[]) sv b3 b4 b5 a s))) (fun v2 _ => Wl.imp (L' := (pt p 104 ([Vl bs secs.length secs.length, v2, Vf, Vi (((count + 1) : Nat) : Int), Value.func (.func 30) #[Vp p] #[]])) :: (sl 166 2 v2 ((since ++ [(a, s)]).length) (flat (since ++ [(a, s)]))) :: (pt b3 25 [Vp p]) :: (pt b4 3 [Vi ((a : Nat) : Int)]) :: (pt b5 9 [Vs s]) :: (pt bs 9 (secs.map Value.string)) :: F) (fun _ h => st_grp.1 h) (Wl.rg 1 rfl (Wc.ret (Wx.f1 rfl (fun w hs => ?_)))))))))))))))))
    have e : DS.write ⟨secs, since, false, count, none⟩ ((a : Nat) : Int) s = (0, ⟨secs, since ++ [(a, s)], false, count + 1, none⟩) := by rw [write_ok rfl hge hsz]; rfl
    rw [e]
    exact ⟨(), trivial, rfl, isDisk_mk rfl (st_pull [1, 1, 1] (mayR_none (st_pull [0, 1, 0] (st_drop (st_drop (st_drop (st_pull [2, 2, 2] hs)))))))⟩
   ·
    refine Wr.p 14 oo6 rfl (q_neq rfl rfl (df hsz)) (Wr.p 15 oo6 rfl (q_pick (t := false) rfl rfl) (Wr.z (Wx.go (Wc.yes rfl (Wc.a 1 rfl (Wc.ret (Wx.thenRet (Wx.f1 rfl (fun w hs => ?_)))))))))
    have e : DS.write ⟨secs, since, false, count, none⟩ ((a : Nat) : Int) s = (1, ⟨secs, since, false, count, none⟩) := write_bad rfl (by first | exact .inl hneg | exact .inr (.inl hge) | exact .inr (.inr hsz))
    rw [e]
    exact ⟨(), trivial, rfl, isDisk_mk rfl (st_pull [1, 1, 1] (mayR_none (st_drop (st_drop (st_drop (st_pull [1, 1, 1] hs))))))⟩
theorem write_cutS (W0 : World) (p : Nat) (secs : List ByteArray) (since : List (Nat × ByteArray)) (count : Nat) (n : Nat) (bits : Int) (at_ : Int) (s : ByteArray) (hw : WFl secs since) (hsince : since.length < 1099511627776) (hcount : count < 4611686018427387904) (hn : n < 9223372036854775807) :
  Con1 prog W0 278 #[Vp p, Vi at_, Vs s] [isDisk p (⟨secs, since, false, count, (some (n + 1, bits))⟩ : DS)] (Vi (DS.write (⟨secs, since, false, count, (some (n + 1, bits))⟩ : DS) at_ s).1) [isDisk p (DS.write (⟨secs, since, false, count, (some (n + 1, bits))⟩ : DS) at_ s).2] := by
 refine Con.cutd rfl (fun bs sv c => ?_)
 refine Con.of func278 rfl ntmps278 rfl (fun F => ?_)
 refine Wc.sr (Wl.e (e_box (x := .tmp 0) (vs := [Vp p]) rfl) (fun b3 _ => Wl.e (e_box (x := .tmp 1) (vs := [Vi at_]) rfl) (fun b4 _ => Wl.e (e_box (x := .tmp 2) (vs := [Vs s]) rfl) (fun b5 _ => Wl.rg 1 rfl (Wc.seq (Wc.sr (Wl.q (q_c 2 sc_25 rfl rfl rfl) (Wl.pull [3] (Wl.e (e_c call48 (state_up W0 p (Vl bs secs.length secs.length) (sv) (Vi ((count : Nat) : Int)) (.func 49) #[Vp c] #[])) (fun _ _ => Wl.rg 1 rfl (Wc.b 1 rfl (Wl.q (q_neq rfl rfl (dt (by decide))) (Wl.dg (Wc.no rfl (Wc.skip (Wx.go (Wc.seq (Wc.seq (Wc.drawsS [] ((pt p 104 ([Vl bs secs.length secs.length, sv, Vf, Vi ((count : Nat) : Int), Value.func (.func 49) #[Vp c] #[]])) :: (pt b5 9 [Vs s]) :: (pt b4 3 [Vi at_]) :: (pt b3 25 [Vp p]) :: (pt bs 9 (secs.map Value.string)) :: (sl 166 2 sv since.length (flat since)) :: (pt c 130 [Vp p, Vi (((n + 1) : Nat) : Int), Vi bits]) :: []) (by kernel_rfl) (Wr.t 0 oo7 rfl (q_c 2 sc_3 rfl rfl rfl) ?_))))))))))))))))))))
 by_cases hneg : at_ < 0
 ·
  refine Wr.p 1 oo7 rfl (q_lss rfl rfl (dt hneg)) (Wr.p 2 oo7 rfl (q_move rfl) (Wr.u 3 oo7 rfl (Wr.u 4 oo7 rfl (Wr.u 5 oo7 rfl (Wr.u 6 oo7 rfl (Wr.u 7 oo7 rfl (Wr.u 8 oo7 rfl (Wr.u 9 oo7 rfl (Wr.p 10 oo7 rfl (q_pick (t := true) rfl rfl) (Wr.p 11 oo7 rfl (q_move rfl) (Wr.u 12 oo7 rfl (Wr.u 13 oo7 rfl (Wr.u 14 oo7 rfl (Wr.p 15 oo7 rfl (q_pick (t := true) rfl rfl) (Wr.z (Wx.go (Wc.yes rfl (Wc.a 1 rfl (Wc.ret (Wx.thenRet (Wx.f1 rfl (fun w hs => ?_))))))))))))))))))))))
  have e : DS.write ⟨secs, since, false, count, (some (n + 1, bits))⟩ at_ s = (1, ⟨secs, since, false, count, (some (n + 1, bits))⟩) := write_bad rfl (by first | exact .inl hneg | exact .inr (.inl hge) | exact .inr (.inr hsz))
  rw [e]
  exact ⟨(), trivial, rfl, isDisk_mk rfl (st_pull [1, 1, 1] (mayR_some (st_pull [3, 0, 0, 0] (st_drop (st_drop (st_drop (st_pull [1, 1, 1] hs)))))))⟩
 ·
  obtain ⟨a, rfl⟩ := Int.eq_ofNat_of_zero_le (Int.not_lt.1 hneg)
  refine Wr.p 1 oo7 rfl (q_lss rfl rfl (df hneg)) (Wr.p 2 oo7 rfl (q_move rfl) (Wr.t 3 oo7 rfl (q_c 2 sc_3 rfl rfl rfl) (Wr.t 4 oo7 rfl (q_c 3 sc_25 rfl rfl rfl) (Wr.p 5 oo7 rfl (q_nil_ptr rfl) (Wr.p 6 oo7 rfl (q_field fo_104_0 rfl rfl) (Wr.t 7 oo7 rfl (q_c 0 sc_57 rfl rfl rfl) (Wr.t 8 oo7 rfl (q_len_slice underlying57 rfl) ?_)))))))
  by_cases hge : ((a : Nat) : Int) ≥ ((secs.length : Nat) : Int)
  ·
   refine Wr.p 9 oo7 rfl (q_geq rfl rfl (dt hge)) (Wr.p 10 oo7 rfl (q_pick (t := false) rfl rfl) (Wr.p 11 oo7 rfl (q_move rfl) (Wr.u 12 oo7 rfl (Wr.u 13 oo7 rfl (Wr.u 14 oo7 rfl (Wr.p 15 oo7 rfl (q_pick (t := true) rfl rfl) (Wr.z (Wx.go (Wc.yes rfl (Wc.a 1 rfl (Wc.ret (Wx.thenRet (Wx.f1 rfl (fun w hs => ?_))))))))))))))
   have e : DS.write ⟨secs, since, false, count, (some (n + 1, bits))⟩ ((a : Nat) : Int) s = (1, ⟨secs, since, false, count, (some (n + 1, bits))⟩) := write_bad rfl (by first | exact .inl hneg | exact .inr (.inl hge) | exact .inr (.inr hsz))
   rw [e]
   exact ⟨(), trivial, rfl, isDisk_mk rfl (st_pull [1, 1, 1] (mayR_some (st_pull [3, 0, 0, 0] (st_drop (st_drop (st_drop (st_pull [1, 1, 1] hs)))))))⟩
  ·
   refine Wr.p 9 oo7 rfl (q_geq rfl rfl (df hge)) (Wr.p 10 oo7 rfl (q_pick (t := false) rfl rfl) (Wr.p 11 oo7 rfl (q_move rfl) (Wr.t 12 oo7 rfl (q_c 1 sc_9 rfl rfl rfl) (Wr.t 13 oo7 rfl (q_len_str underlying9 rfl) ?_))))
   by_cases hsz : ((s.size : Nat) : Int) = 64
   ·
    refine Wr.p 14 oo7 rfl (q_neq rfl rfl (dt hsz)) (Wr.p 15 oo7 rfl (q_pick (t := false) rfl rfl) (Wr.z (Wx.go (Wc.no rfl (Wc.skip (Wx.go (Wc.sr (Wl.q (q_c 3 sc_25 rfl rfl rfl) (Wl.q (q_makeFunc (us := []) (vs := [Vp b3, Vp b4, Vp b5]) rfl rfl) (Wl.pull [0, 4, 2, 1, 0] (Wl.imp (L' := (pt p 104 ([Vl bs secs.length secs.length, sv, Vf, Vi ((count : Nat) : Int), Value.func (.func 49) #[Vp c] #[]])) :: (grp [sl 166 2 sv since.length (flat since), pt b3 25 [Vp p], pt b4 3 [Vi ((a : Nat) : Int)], pt b5 9 [Vs s]]) :: (pt bs 9 (secs.map Value.string)) :: (pt c 130 [Vp p, Vi (((n + 1) : Nat) : Int), Vi bits]) :: F) (fun _ h => st_grpAt h) (Wl.pull [0, 0, 1] (Wl.e (e_c call302 (do_cutS W0 p (Vl bs secs.length secs.length) sv count hcount 303 call303 [Vp b3, Vp b4, Vp b5] [sl 166 2 sv since.length (flat since), pt b3 25 [Vp p], pt b4 3 [Vi ((a : Nat) : Int)], pt b5 9 [Vs s]] (fun v2 => [pt p 104 ([Vl bs secs.length secs.length, v2, Vf, Vi (((count + 1) : Nat) : Int), Value.func (.func 49) #[Vp c] #[]]), sl 166 2 v2 ((since ++ [(a, s)]).length) (flat (since ++ [(a, s)])), pt b3 25 [Vp p], pt b4 3 [Vi ((a : Nat) : Int)], pt b5 9 [Vs s]])  c n bits hn (write1_g W0 p bs secs since hsince (count + 1) (Value.func (.func 49) #[Vp c] #[]) sv b3 b4 b5 a s))) (fun v2 _ => Wl.imp (L' := (pt p 104 ([Vl bs secs.length secs.length, v2, Vf, Vi (((count + 1) : Nat) : Int), Value.func (.func 49) #[Vp c] #[]])) :: (sl 166 2 v2 ((since ++ [(a, s)]).length) (flat (since ++ [(a, s)]))) :: (pt b3 25 [Vp p]) :: (pt b4 3 [Vi ((a : Nat) : Int)]) :: (pt b5 9 [Vs s]) :: (pt c 130 [Vp p, Vi ((n : Nat) : Int), Vi bits]) :: (pt bs 9 (secs.map Value.string)) :: F) (fun _ h => st_grp.1 h) (Wl.rg 1 rfl (Wc.ret (Wx.f1 rfl (fun w hs => ?_))))))))))))))))))
    have e : DS.write ⟨secs, since, false, count, (some (n + 1, bits))⟩ ((a : Nat) : Int) s = (0, ⟨secs, since ++ [(a, s)], false, count + 1, (some (n, bits))⟩) := by rw [write_ok rfl hge hsz]; rfl
    rw [e]
    exact ⟨(), trivial, rfl, isDisk_mk rfl (st_pull [1, 1, 1] (mayR_some (st_pull [2, 0, 1, 0] (st_drop (st_drop (st_drop (st_pull [2, 2, 2] hs)))))))⟩
   ·
    refine Wr.p 14 oo7 rfl (q_neq rfl rfl (df hsz)) (Wr.p 15 oo7 rfl (q_pick (t := false) rfl rfl) (Wr.z (Wx.go (Wc.yes rfl (Wc.a 1 rfl (Wc.ret (Wx.thenRet (Wx.f1 rfl (fun w hs => ?_)))))))))
    have e : DS.write ⟨secs, since, false, count, (some (n + 1, bits))⟩ ((a : Nat) : Int) s = (1, ⟨secs, since, false, count, (some (n + 1, bits))⟩) := write_bad rfl (by first | exact .inl hneg | exact .inr (.inl hge) | exact .inr (.inr hsz))
    rw [e]
    exact ⟨(), trivial, rfl, isDisk_mk rfl (st_pull [1, 1, 1] (mayR_some (st_pull [3, 0, 0, 0] (st_drop (st_drop (st_drop (st_pull [1, 1, 1] hs)))))))⟩
theorem write_cut0 (W0 : World) (p : Nat) (secs : List ByteArray) (since : List (Nat × ByteArray)) (count : Nat) (bits : Int) (at_ : Int) (s : ByteArray) (hw : WFl secs since) (hsince : since.length < 1099511627776) (hcount : count < 4611686018427387904) :
  Con1 prog W0 278 #[Vp p, Vi at_, Vs s] [isDisk p (⟨secs, since, false, count, (some (0, bits))⟩ : DS)] (Vi (DS.write (⟨secs, since, false, count, (some (0, bits))⟩ : DS) at_ s).1) [isDisk p (DS.write (⟨secs, since, false, count, (some (0, bits))⟩ : DS) at_ s).2] := by
 refine Con.cutd (n := 0) rfl (fun bs sv c => ?_)
 refine Con.of func278 rfl ntmps278 rfl (fun F => ?_)
 refine Wc.sr (Wl.e (e_box (x := .tmp 0) (vs := [Vp p]) rfl) (fun b3 _ => Wl.e (e_box (x := .tmp 1) (vs := [Vi at_]) rfl) (fun b4 _ => Wl.e (e_box (x := .tmp 2) (vs := [Vs s]) rfl) (fun b5 _ => Wl.rg 1 rfl (Wc.seq (Wc.sr (Wl.q (q_c 2 sc_25 rfl rfl rfl) (Wl.pull [3] (Wl.e (e_c call48 (state_up W0 p (Vl bs secs.length secs.length) (sv) (Vi ((count : Nat) : Int)) (.func 49) #[Vp c] #[])) (fun _ _ => Wl.rg 1 rfl (Wc.b 1 rfl (Wl.q (q_neq rfl rfl (dt (by decide))) (Wl.dg (Wc.no rfl (Wc.skip (Wx.go (Wc.seq (Wc.seq (Wc.drawsS [] ((pt p 104 ([Vl bs secs.length secs.length, sv, Vf, Vi ((count : Nat) : Int), Value.func (.func 49) #[Vp c] #[]])) :: (pt b5 9 [Vs s]) :: (pt b4 3 [Vi at_]) :: (pt b3 25 [Vp p]) :: (pt bs 9 (secs.map Value.string)) :: (sl 166 2 sv since.length (flat since)) :: (pt c 130 [Vp p, Vi 0, Vi bits]) :: []) (by kernel_rfl) (Wr.t 0 oo7 rfl (q_c 2 sc_3 rfl rfl rfl) ?_))))))))))))))))))))
 by_cases hneg : at_ < 0
 ·
  refine Wr.p 1 oo7 rfl (q_lss rfl rfl (dt hneg)) (Wr.p 2 oo7 rfl (q_move rfl) (Wr.u 3 oo7 rfl (Wr.u 4 oo7 rfl (Wr.u 5 oo7 rfl (Wr.u 6 oo7 rfl (Wr.u 7 oo7 rfl (Wr.u 8 oo7 rfl (Wr.u 9 oo7 rfl (Wr.p 10 oo7 rfl (q_pick (t := true) rfl rfl) (Wr.p 11 oo7 rfl (q_move rfl) (Wr.u 12 oo7 rfl (Wr.u 13 oo7 rfl (Wr.u 14 oo7 rfl (Wr.p 15 oo7 rfl (q_pick (t := true) rfl rfl) (Wr.z (Wx.go (Wc.yes rfl (Wc.a 1 rfl (Wc.ret (Wx.thenRet (Wx.f1 rfl (fun w hs => ?_))))))))))))))))))))))
  have e : DS.write ⟨secs, since, false, count, (some (0, bits))⟩ at_ s = (1, ⟨secs, since, false, count, (some (0, bits))⟩) := write_bad rfl (by first | exact .inl hneg | exact .inr (.inl hge) | exact .inr (.inr hsz))
  rw [e]
  exact ⟨(), trivial, rfl, isDisk_mk rfl (st_pull [1, 1, 1] (mayR_some (n := 0) (st_pull [3, 0, 0, 0] (st_drop (st_drop (st_drop (st_pull [1, 1, 1] hs)))))))⟩
 ·
  obtain ⟨a, rfl⟩ := Int.eq_ofNat_of_zero_le (Int.not_lt.1 hneg)
  refine Wr.p 1 oo7 rfl (q_lss rfl rfl (df hneg)) (Wr.p 2 oo7 rfl (q_move rfl) (Wr.t 3 oo7 rfl (q_c 2 sc_3 rfl rfl rfl) (Wr.t 4 oo7 rfl (q_c 3 sc_25 rfl rfl rfl) (Wr.p 5 oo7 rfl (q_nil_ptr rfl) (Wr.p 6 oo7 rfl (q_field fo_104_0 rfl rfl) (Wr.t 7 oo7 rfl (q_c 0 sc_57 rfl rfl rfl) (Wr.t 8 oo7 rfl (q_len_slice underlying57 rfl) ?_)))))))
  by_cases hge : ((a : Nat) : Int) ≥ ((secs.length : Nat) : Int)
  ·
   refine Wr.p 9 oo7 rfl (q_geq rfl rfl (dt hge)) (Wr.p 10 oo7 rfl (q_pick (t := false) rfl rfl) (Wr.p 11 oo7 rfl (q_move rfl) (Wr.u 12 oo7 rfl (Wr.u 13 oo7 rfl (Wr.u 14 oo7 rfl (Wr.p 15 oo7 rfl (q_pick (t := true) rfl rfl) (Wr.z (Wx.go (Wc.yes rfl (Wc.a 1 rfl (Wc.ret (Wx.thenRet (Wx.f1 rfl (fun w hs => ?_))))))))))))))
   have e : DS.write ⟨secs, since, false, count, (some (0, bits))⟩ ((a : Nat) : Int) s = (1, ⟨secs, since, false, count, (some (0, bits))⟩) := write_bad rfl (by first | exact .inl hneg | exact .inr (.inl hge) | exact .inr (.inr hsz))
   rw [e]
   exact ⟨(), trivial, rfl, isDisk_mk rfl (st_pull [1, 1, 1] (mayR_some (n := 0) (st_pull [3, 0, 0, 0] (st_drop (st_drop (st_drop (st_pull [1, 1, 1] hs)))))))⟩
  ·
   refine Wr.p 9 oo7 rfl (q_geq rfl rfl (df hge)) (Wr.p 10 oo7 rfl (q_pick (t := false) rfl rfl) (Wr.p 11 oo7 rfl (q_move rfl) (Wr.t 12 oo7 rfl (q_c 1 sc_9 rfl rfl rfl) (Wr.t 13 oo7 rfl (q_len_str underlying9 rfl) ?_))))
   by_cases hsz : ((s.size : Nat) : Int) = 64
   ·
    refine Wr.p 14 oo7 rfl (q_neq rfl rfl (dt hsz)) (Wr.p 15 oo7 rfl (q_pick (t := false) rfl rfl) (Wr.z (Wx.go (Wc.no rfl (Wc.skip (Wx.go (Wc.sr (Wl.q (q_c 3 sc_25 rfl rfl rfl) (Wl.q (q_makeFunc (us := []) (vs := [Vp b3, Vp b4, Vp b5]) rfl rfl) (Wl.pull [6, 5, 0, 3] (Wl.e (e_c call302 (do_cut0 W0 p bs secs since count bits hw c sv (Value.func (.func 303) #[] #[Vp b3, Vp b4, Vp b5]))) (fun _ _ => Wl.rg 1 rfl (Wc.ret (Wx.f1 rfl (fun w hs => ?_)))))))))))))))
    have e : DS.write ⟨secs, since, false, count, (some (0, bits))⟩ ((a : Nat) : Int) s = (6, ⟨fallL secs (since.take 31) bits, [], true, count, none⟩) := by rw [write_ok rfl hge hsz]; rfl
    rw [e]
    exact ⟨(), trivial, rfl, isDisk_mk (fallL_length _ _ _).symm (st_pull [2, 2] (st_sl_nil (mayR_none (st_drop (st_drop (st_drop (st_pull [2, 2, 2] hs)))))))⟩
   ·
    refine Wr.p 14 oo7 rfl (q_neq rfl rfl (df hsz)) (Wr.p 15 oo7 rfl (q_pick (t := false) rfl rfl) (Wr.z (Wx.go (Wc.yes rfl (Wc.a 1 rfl (Wc.ret (Wx.thenRet (Wx.f1 rfl (fun w hs => ?_)))))))))
    have e : DS.write ⟨secs, since, false, count, (some (0, bits))⟩ ((a : Nat) : Int) s = (1, ⟨secs, since, false, count, (some (0, bits))⟩) := write_bad rfl (by first | exact .inl hneg | exact .inr (.inl hge) | exact .inr (.inr hsz))
    rw [e]
    exact ⟨(), trivial, rfl, isDisk_mk rfl (st_pull [1, 1, 1] (mayR_some (n := 0) (st_pull [3, 0, 0, 0] (st_drop (st_drop (st_drop (st_pull [1, 1, 1] hs)))))))⟩
theorem sync_down (W0 : World) (p : Nat) (secs : List ByteArray) (since : List (Nat × ByteArray)) (count : Nat) (cut : Option (Nat × Int)) :
  Con1 prog W0 279 #[Vp p] [isDisk p (⟨secs, since, true, count, cut⟩ : DS)] (Vi (DS.sync (⟨secs, since, true, count, cut⟩ : DS)).1) [isDisk p (DS.sync (⟨secs, since, true, count, cut⟩ : DS)).2] := by
 refine Con.disk (fun bs sv fn us vs => ?_)
 refine Con.of func279 rfl ntmps279 rfl (fun F => ?_)
 refine Wc.sr (Wl.e (e_box (x := .tmp 0) (vs := [Vp p]) rfl) (fun b1 _ => Wl.rg 1 rfl (Wc.seq (Wc.sr (Wl.q (q_c 0 sc_25 rfl rfl rfl) (Wl.pull [1] (Wl.e (e_c call48 (state_down W0 p (Vl bs secs.length secs.length) (sv) (Vi ((count : Nat) : Int)) fn us vs)) (fun _ _ => Wl.rg 1 rfl (Wc.b 1 rfl (Wl.q (q_neq rfl rfl (df (by decide))) (Wl.dg (Wc.yes rfl (Wc.a 2 rfl (Wc.ret (Wx.thenRet (Wx.f1 rfl (fun w hs => ?_)))))))))))))))))
 have e : DS.sync ⟨secs, since, true, count, cut⟩ = (6, ⟨secs, since, true, count, cut⟩) := rfl
 rw [e]
 exact ⟨(), trivial, rfl, isDisk_mk rfl (st_drop (st_pull [1] hs))⟩
theorem sync_alw (W0 : World) (p : Nat) (secs : List ByteArray) (since : List (Nat × ByteArray)) (count : Nat) (hw : WFl secs since) (hsince : since.length < 1099511627776) (hcount : count < 4611686018427387904) :
  Con1 prog W0 279 #[Vp p] [isDisk p (⟨secs, since, false, count, none⟩ : DS)] (Vi (DS.sync (⟨secs, since, false, count, none⟩ : DS)).1) [isDisk p (DS.sync (⟨secs, since, false, count, none⟩ : DS)).2] := by
 refine Con.alw rfl (fun bs sv => ?_)
 refine Con.of func279 rfl ntmps279 rfl (fun F => ?_)
 refine Wc.sr (Wl.e (e_box (x := .tmp 0) (vs := [Vp p]) rfl) (fun b1 _ => Wl.rg 1 rfl (Wc.seq (Wc.sr (Wl.q (q_c 0 sc_25 rfl rfl rfl) (Wl.pull [1] (Wl.e (e_c call48 (state_up W0 p (Vl bs secs.length secs.length) (sv) (Vi ((count : Nat) : Int)) (.func 30) #[Vp p] #[])) (fun _ _ => Wl.rg 1 rfl (Wc.b 1 rfl (Wl.q (q_neq rfl rfl (dt (by decide))) (Wl.dg (Wc.no rfl (Wc.skip (Wx.go (Wc.sr (Wl.q (q_c 1 sc_25 rfl rfl rfl) (Wl.q (q_makeFunc (us := []) (vs := [Vp b1]) rfl rfl) (Wl.pull [0, 2, 1, 0] (Wl.imp (L' := (pt p 104 ([Vl bs secs.length secs.length, sv, Vf, Vi ((count : Nat) : Int), Value.func (.func 30) #[Vp p] #[]])) :: (grp [sl 166 2 sv since.length (flat since), pt bs 9 (secs.map Value.string), pt b1 25 [Vp p]]) :: F) (fun _ h => st_grpAt h) (Wl.e (e_c call302 (do_alw W0 p (Vl bs secs.length secs.length) sv count hcount 304 call304 [Vp b1] [sl 166 2 sv since.length (flat since), pt bs 9 (secs.map Value.string), pt b1 25 [Vp p]] (fun _ => [pt p 104 ([Vl bs secs.length secs.length, Vn, Vf, Vi (((count + 1) : Nat) : Int), Value.func (.func 30) #[Vp p] #[]]), pt bs 9 ((syncL secs since).map Value.string), pt b1 25 [Vp p]])  (sync1_g W0 p bs secs since (count + 1) (Value.func (.func 30) #[Vp p] #[]) b1 hw hsince sv))) (fun u _ => Wl.imp (L' := (pt p 104 ([Vl bs secs.length secs.length, Vn, Vf, Vi (((count + 1) : Nat) : Int), Value.func (.func 30) #[Vp p] #[]])) :: (pt bs 9 ((syncL secs since).map Value.string)) :: (pt b1 25 [Vp p]) :: F) (fun _ h => st_grp.1 h) (Wl.rg 1 rfl (Wc.ret ?_)))))))))))))))))))))))
 refine Wx.f1 rfl (fun w hs => ?_)
 have e : DS.sync ⟨secs, since, false, count, none⟩ = (0, ⟨syncL secs since, [], false, count + 1, none⟩) := rfl
 rw [e]
 exact ⟨(), trivial, rfl, isDisk_mk (syncL_length _ _).symm (st_pull [2, 2] (st_sl_nil (mayR_none (st_drop (st_pull [2] hs)))))⟩
theorem sync_cutS (W0 : World) (p : Nat) (secs : List ByteArray) (since : List (Nat × ByteArray)) (count : Nat) (n : Nat) (bits : Int) (hw : WFl secs since) (hsince : since.length < 1099511627776) (hcount : count < 4611686018427387904) (hn : n < 9223372036854775807) :
  Con1 prog W0 279 #[Vp p] [isDisk p (⟨secs, since, false, count, (some (n + 1, bits))⟩ : DS)] (Vi (DS.sync (⟨secs, since, false, count, (some (n + 1, bits))⟩ : DS)).1) [isDisk p (DS.sync (⟨secs, since, false, count, (some (n + 1, bits))⟩ : DS)).2] := by
 refine Con.cutd rfl (fun bs sv c => ?_)
 refine Con.of func279 rfl ntmps279 rfl (fun F => ?_)
 refine Wc.sr (Wl.e (e_box (x := .tmp 0) (vs := [Vp p]) rfl) (fun b1 _ => Wl.rg 1 rfl (Wc.seq (Wc.sr (Wl.q (q_c 0 sc_25 rfl rfl rfl) (Wl.pull [1] (Wl.e (e_c call48 (state_up W0 p (Vl bs secs.length secs.length) (sv) (Vi ((count : Nat) : Int)) (.func 49) #[Vp c] #[])) (fun _ _ => Wl.rg 1 rfl (Wc.b 1 rfl (Wl.q (q_neq rfl rfl (dt (by decide))) (Wl.dg (Wc.no rfl (Wc.skip (Wx.go (Wc.sr (Wl.q (q_c 1 sc_25 rfl rfl rfl) (Wl.q (q_makeFunc (us := []) (vs := [Vp b1]) rfl rfl) (Wl.pull [0, 2, 1, 0] (Wl.imp (L' := (pt p 104 ([Vl bs secs.length secs.length, sv, Vf, Vi ((count : Nat) : Int), Value.func (.func 49) #[Vp c] #[]])) :: (grp [sl 166 2 sv since.length (flat since), pt bs 9 (secs.map Value.string), pt b1 25 [Vp p]]) :: (pt c 130 [Vp p, Vi (((n + 1) : Nat) : Int), Vi bits]) :: F) (fun _ h => st_grpAt h) (Wl.e (e_c call302 (do_cutS W0 p (Vl bs secs.length secs.length) sv count hcount 304 call304 [Vp b1] [sl 166 2 sv since.length (flat since), pt bs 9 (secs.map Value.string), pt b1 25 [Vp p]] (fun _ => [pt p 104 ([Vl bs secs.length secs.length, Vn, Vf, Vi (((count + 1) : Nat) : Int), Value.func (.func 49) #[Vp c] #[]]), pt bs 9 ((syncL secs since).map Value.string), pt b1 25 [Vp p]])  c n bits hn (sync1_g W0 p bs secs since (count + 1) (Value.func (.func 49) #[Vp c] #[]) b1 hw hsince sv))) (fun u _ => Wl.imp (L' := (pt p 104 ([Vl bs secs.length secs.length, Vn, Vf, Vi (((count + 1) : Nat) : Int), Value.func (.func 49) #[Vp c] #[]])) :: (pt bs 9 ((syncL secs since).map Value.string)) :: (pt b1 25 [Vp p]) :: (pt c 130 [Vp p, Vi ((n : Nat) : Int), Vi bits]) :: F) (fun _ h => st_grp.1 h) (Wl.rg 1 rfl (Wc.ret ?_)))))))))))))))))))))))
 refine Wx.f1 rfl (fun w hs => ?_)
 have e : DS.sync ⟨secs, since, false, count, (some (n + 1, bits))⟩ = (0, ⟨syncL secs since, [], false, count + 1, (some (n, bits))⟩) := rfl
 rw [e]
 exact ⟨(), trivial, rfl, isDisk_mk (syncL_length _ _).symm (st_pull [2, 2] (st_sl_nil (mayR_some (st_pull [2, 0, 0] (st_drop (st_pull [2] hs))))))⟩
theorem sync_cut0 (W0 : World) (p : Nat) (secs : List ByteArray) (since : List (Nat × ByteArray)) (count : Nat) (bits : Int) (hw : WFl secs since) (hsince : since.length < 1099511627776) (hcount : count < 4611686018427387904) :
  Con1 prog W0 279 #[Vp p] [isDisk p (⟨secs, since, false, count, (some (0, bits))⟩ : DS)] (Vi (DS.sync (⟨secs, since, false, count, (some (0, bits))⟩ : DS)).1) [isDisk p (DS.sync (⟨secs, since, false, count, (some (0, bits))⟩ : DS)).2] := by
 refine Con.cutd (n := 0) rfl (fun bs sv c => ?_)
 refine Con.of func279 rfl ntmps279 rfl (fun F => ?_)
 refine Wc.sr (Wl.e (e_box (x := .tmp 0) (vs := [Vp p]) rfl) (fun b1 _ => Wl.rg 1 rfl (Wc.seq (Wc.sr (Wl.q (q_c 0 sc_25 rfl rfl rfl) (Wl.pull [1] (Wl.e (e_c call48 (state_up W0 p (Vl bs secs.length secs.length) (sv) (Vi ((count : Nat) : Int)) (.func 49) #[Vp c] #[])) (fun _ _ => Wl.rg 1 rfl (Wc.b 1 rfl (Wl.q (q_neq rfl rfl (dt (by decide))) (Wl.dg (Wc.no rfl (Wc.skip (Wx.go (Wc.sr (Wl.q (q_c 1 sc_25 rfl rfl rfl) (Wl.q (q_makeFunc (us := []) (vs := [Vp b1]) rfl rfl) (Wl.pull [4, 3, 0, 1] (Wl.e (e_c call302 (do_cut0 W0 p bs secs since count bits hw c sv (Value.func (.func 304) #[] #[Vp b1]))) (fun _ _ => Wl.rg 1 rfl (Wc.ret (Wx.f1 rfl (fun w hs => ?_)))))))))))))))))))))))
 have e : DS.sync ⟨secs, since, false, count, (some (0, bits))⟩ = (6, ⟨fallL secs (since.take 31) bits, [], true, count, none⟩) := rfl
 rw [e]
 exact ⟨(), trivial, rfl, isDisk_mk (fallL_length _ _ _).symm (st_pull [2, 2] (st_sl_nil (mayR_none (st_drop (st_pull [2] hs)))))⟩
end Go.Proofs.YtjnejkdamhefgaaGreatDoor
