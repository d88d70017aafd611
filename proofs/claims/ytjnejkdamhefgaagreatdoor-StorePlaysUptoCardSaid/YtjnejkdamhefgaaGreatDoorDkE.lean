/- A part of the proof. -/
import Derived.Test.YtjnejkdamhefgaaGreatDoorDkD
namespace Go.Proofs.YtjnejkdamhefgaaGreatDoor
open Tryz
open Go Go.SL Go.Dk Go.RowKit
set_option linter.unusedVariables false
set_option maxRecDepth 8000
theorem read_down (W0 : World) (p : Nat) (secs : List ByteArray) (since : List (Nat × ByteArray)) (count : Nat) (cut : Option (Nat × Int)) (at_ : Int) :
  Con1 prog W0 160 #[Vp p, Vi at_] [isDisk p (⟨secs, since, true, count, cut⟩ : DS)] (Value.tuple #[Vs (DS.read (⟨secs, since, true, count, cut⟩ : DS) at_).1, Vi (DS.read (⟨secs, since, true, count, cut⟩ : DS) at_).2]) [isDisk p (⟨secs, since, true, count, cut⟩ : DS)] := by
 refine Con.disk (fun bs sv fn us vs => ?_)
 refine Con.of func160 rfl ntmps160 rfl (fun F => ?_)
 show Wc _ W0 _ _ _ _ _ ((pt p 104 [Vl bs secs.length secs.length, sv, Vt, Vi ((count : Nat) : Int), .func fn us vs]) :: (pt bs 9 (secs.map Value.string)) :: (sl 166 2 sv since.length (flat since)) :: (mayR p (Value.func fn us vs) cut) :: F)
 refine Wc.a 2 rfl (Wc.seq (Wc.b 1 rfl (Wl.e (e_c call48 (state_down W0 p (Vl bs secs.length secs.length) (sv) (Vi ((count : Nat) : Int)) fn us vs)) (fun _ _ => Wl.rg 1 rfl (Wc.b 1 rfl (Wl.q (q_neq rfl rfl (df (by decide))) (Wl.dg (Wc.yes rfl (Wc.a 3 rfl (Wc.ret (Wx.thenRet (Wx.f2 rfl (fun w hs => ?_)))))))))))))
 exact ⟨(), trivial, rfl, isDisk_mk rfl hs⟩
theorem read_blk (W0 : World) (p bs : Nat) (secs : List ByteArray) (since : List (Nat × ByteArray)) (count : Nat) (cut : Option (Nat × Int)) (fn : Fn) (us vs : Array Value) (at_ : Int) (hsince : since.length < 1099511627776) (b cap : Nat) (hcap : since.length ≤ cap) :
    Con1 prog W0 160 #[Vp p, Vi at_] [slp 166 2 b cap (flat since), pt p 104 [Vl bs secs.length secs.length, Vl b since.length cap, Vf, Vi ((count : Nat) : Int), .func fn us vs], pt bs 9 (secs.map Value.string), mayR p (Value.func fn us vs) cut] (Value.tuple #[Vs (DS.read ⟨secs, since, false, count, cut⟩ at_).1, Vi (DS.read ⟨secs, since, false, count, cut⟩ at_).2]) [slp 166 2 b cap (flat since), pt p 104 [Vl bs secs.length secs.length, Vl b since.length cap, Vf, Vi ((count : Nat) : Int), .func fn us vs], pt bs 9 (secs.map Value.string), mayR p (Value.func fn us vs) cut] := by
  refine Con.of func160 rfl ntmps160 rfl (fun F => ?_)
  show Wc _ W0 _ _ _ _ _ ((slp 166 2 b cap (flat since)) :: (pt p 104 [Vl bs secs.length secs.length, Vl b since.length cap, Vf, Vi ((count : Nat) : Int), .func fn us vs]) :: (pt bs 9 (secs.map Value.string)) :: (mayR p (Value.func fn us vs) cut) :: F)
  refine Wc.a 2 rfl (Wc.seq (Wc.b 1 rfl (Wl.pull [1] (Wl.e (e_c call48 (state_up W0 p (Vl bs secs.length secs.length) (Vl b since.length cap) (Vi ((count : Nat) : Int)) fn us vs)) (fun _ _ => Wl.rg 1 rfl (Wc.b 1 rfl (Wl.q (q_neq rfl rfl (dt (by decide))) (Wl.dg (Wc.no rfl (Wc.skip (Wx.go (Wc.seq (Wc.b 1 rfl ?_)))))))))))))
  by_cases hneg : at_ < 0
  ·
    refine Wl.q (q_lss rfl rfl (dt hneg)) (Wl.rg 9 rfl (Wc.yes rfl (Wc.a 2 rfl (Wc.ret (Wx.thenRet (Wx.f2 rfl (fun w hs => ?_)))))))
    have e : DS.read ⟨secs, since, false, count, cut⟩ at_ = _ := read_bad rfl (by first | exact .inl hneg | exact .inr hge)
    rw [e]
    exact ⟨(), trivial, rfl, (st_pull [1, 0, 0, 0] (hs))⟩
  ·
    obtain ⟨c, rfl⟩ := Int.eq_ofNat_of_zero_le (Int.not_lt.1 hneg)
    refine Wl.q (q_lss rfl rfl (df hneg)) (Wl.run 4 rfl (Wl.q (q_field fo_104_0 rfl rfl) (Wl.q (q_c 0 sc_57 rfl rfl rfl) (Wl.q (q_len_slice underlying57 rfl) ?_))))
    by_cases hge : ((c : Nat) : Int) ≥ ((secs.length : Nat) : Int)
    ·
      refine Wl.q (q_geq rfl rfl (dt hge)) (Wl.rg 1 rfl (Wc.yes rfl (Wc.a 2 rfl (Wc.ret (Wx.thenRet (Wx.f2 rfl (fun w hs => ?_)))))))
      have e : DS.read ⟨secs, since, false, count, cut⟩ ((c : Nat) : Int) = _ := read_bad rfl (by first | exact .inl hneg | exact .inr hge)
      rw [e]
      exact ⟨(), trivial, rfl, (st_pull [1, 0, 0, 0] (hs))⟩
    ·
      refine Wl.q (q_geq rfl rfl (df hge)) (Wl.rg 1 rfl (Wc.no rfl (Wc.skip (Wx.go (Wc.b 2 rfl (Wl.q (q_field fo_104_0 rfl rfl) (Wl.q (q_c 0 sc_57 rfl rfl rfl) (Wl.run 1 rfl (Wl.q (q_idx (m := c) se_57 rfl rfl (by omega) (by omega) (by simp)) (Wl.q (v := Vs (secs.getD c default)) (q_load sc_9 rfl (.cel (i := 2) rfl (map_get (by omega)))) (Wl.rg 1 rfl (Wc.seq (Wc.b 2 rfl (Wl.q (q_field fo_104_1 rfl rfl) (Wl.q (q_c 0 sc_58 rfl rfl rfl) (Wl.q (q_len_slice underlying58 rfl) (Wl.rg 1 rfl (Wc.block ?_))))))))))))))))))
      refine Wc.loop (X := Nat × ByteArray) (fun (k, y) E => E 38 = Vi ((k : Nat) : Int) ∧ E 7 = Vs y ∧ E 1 = Vi ((c : Nat) : Int) ∧ E 36 = Vl b since.length cap ∧ E 37 = Vi ((since.length : Nat) : Int) ∧ readL y c (since.drop k) = readL (secs.getD c default) c since ∧ k ≤ since.length) (fun (k, y) => (slp 166 2 b cap (flat since)) :: (pt p 104 [Vl bs secs.length secs.length, Vl b since.length cap, Vf, Vi ((count : Nat) : Int), .func fn us vs]) :: (pt bs 9 (secs.map Value.string)) :: (mayR p (Value.func fn us vs) cut) :: F) (fun (k, y) => since.length - k) (0, secs.getD c default) ?_ ?_ ?_
      · exact ⟨rfl, rfl, rfl, rfl, rfl, rfl, (by omega)⟩
      · exact fun w hs => (st_pull [1, 0, 0, 0] (hs))
      · rintro ⟨k, y⟩ E2 ⟨hE38_0, hE7_0, hE1_0, hE36_0, hE37_0, hp0, hp1⟩
        dsimp only at *
        refine Wc.sr ?_
        by_cases hlt : ((k : Nat) : Int) < ((since.length : Nat) : Int)
        ·
          obtain ⟨⟨a, s⟩, hget⟩ : ∃ q, since[k]? = some q := ⟨since[k]'(by omega), by simp [List.getElem?_eq_getElem (show k < since.length by omega)]⟩
          refine Wl.q (q_lss hE38_0 hE37_0 (dt hlt)) (Wl.dg (Wc.seq (Wc.yes rfl (Wc.skip (Wx.go (Wc.seq (Wc.block (Wc.sr (Wl.q (q_idx (m := k * 2) se_58 hE36_0 hE38_0 (by omega) (by omega) (by simp)) (Wl.q (v := Value.agg #[Vi ((a : Nat) : Int), Vs s]) (q_loadAgg (vs := [Vi ((a : Nat) : Int), Vs s]) ag_166 rfl (flat_has (i := 0) rfl hget)) (Wl.e (e_alloc (vs := [Vi 0, Vs (⟨#[]⟩)]) zo_166 rfl) (fun b3 _ => Wl.e (e_storeAgg (i := 0) (vs := [Vi ((a : Nat) : Int), Vs s]) (c' := [Vi ((a : Nat) : Int), Vs s]) sz_166 rfl rfl rfl rfl (by simp) rfl) (fun _ _ => Wl.dg (Wc.sr (Wl.q (q_field fo_166_0 rfl rfl) (Wl.q (q_c 0 sc_3 rfl rfl rfl) (Wl.q (v := Vi ((c : Nat) : Int)) (q_move hE1_0) ?_)))))))))))))))))
          by_cases h4 : ((a : Nat) : Int) = ((c : Nat) : Int)
          ·
            refine Wl.q (q_eql rfl rfl (dt h4)) (Wl.dg (Wc.yes rfl (Wc.region (Wl.q (q_field fo_166_1 rfl rfl) (Wl.q (q_c 0 sc_9 rfl rfl rfl) (Wl.run 1 rfl (Wl.done (Wx.blockEnd (Wx.go (Wc.region (Wl.q (q_add (c := ((k + 1 : Nat) : Int)) hE38_0 rfl (by rw [wrap_i64] <;> omega)) (Wl.run 1 rfl (Wl.done ?_)))))))))))))
            refine Wx.at (k + 1, s) ⟨(by simp only; omega), rfl, rfl, hE1_0, hE36_0, hE37_0, (by rw [← hp0, read_step hget, if_pos (by omega)]), (by omega)⟩ (fun w hs => (st_drop (st_pull [0] hs)))
          ·
            refine Wl.q (q_eql rfl rfl (df h4)) (Wl.dg (Wc.no rfl (Wc.skip (Wx.blockEnd (Wx.go (Wc.region (Wl.q (q_add (c := ((k + 1 : Nat) : Int)) hE38_0 rfl (by rw [wrap_i64] <;> omega)) (Wl.run 1 rfl (Wl.done ?_)))))))))
            refine Wx.at (k + 1, y) ⟨(by simp only; omega), rfl, hE7_0, hE1_0, hE36_0, hE37_0, (by rw [← hp0, read_step hget, if_neg (by omega)]), (by omega)⟩ (fun w hs => (st_drop (st_pull [0] hs)))
        ·
          refine Wl.q (q_lss hE38_0 hE37_0 (df hlt)) (Wl.dg (Wc.seq (Wc.no rfl (Wc.exit (Wx.thenExit (Wx.thenExit (Wx.out (Wx.go (Wc.sr (Wl.q (v := Vs y) (q_move hE7_0) (Wl.rg 2 rfl (Wc.ret (Wx.f2 rfl (fun w hs => ?_))))))))))))))
          have hend : k = since.length := by omega
          rw [hend, List.drop_length] at hp0
          simp only [readL] at hp0
          have e : DS.read ⟨secs, since, false, count, cut⟩ ((c : Nat) : Int) = _ := read_ok rfl hge
          rw [e, ← hp0]
          exact ⟨(), trivial, rfl, hs⟩
theorem read_nil (W0 : World) (p bs : Nat) (secs : List ByteArray) (since : List (Nat × ByteArray)) (count : Nat) (cut : Option (Nat × Int)) (fn : Fn) (us vs : Array Value) (at_ : Int) (hsince : since.length < 1099511627776) (hnil : since = []) :
    Con1 prog W0 160 #[Vp p, Vi at_] [pt p 104 [Vl bs secs.length secs.length, Vn, Vf, Vi ((count : Nat) : Int), .func fn us vs], pt bs 9 (secs.map Value.string), mayR p (Value.func fn us vs) cut] (Value.tuple #[Vs (DS.read ⟨secs, since, false, count, cut⟩ at_).1, Vi (DS.read ⟨secs, since, false, count, cut⟩ at_).2]) [pt p 104 [Vl bs secs.length secs.length, Vn, Vf, Vi ((count : Nat) : Int), .func fn us vs], pt bs 9 (secs.map Value.string), mayR p (Value.func fn us vs) cut] := by
  refine Con.of func160 rfl ntmps160 rfl (fun F => ?_)
  show Wc _ W0 _ _ _ _ _ ((pt p 104 [Vl bs secs.length secs.length, Vn, Vf, Vi ((count : Nat) : Int), .func fn us vs]) :: (pt bs 9 (secs.map Value.string)) :: (mayR p (Value.func fn us vs) cut) :: F)
  refine Wc.a 2 rfl (Wc.seq (Wc.b 1 rfl (Wl.e (e_c call48 (state_up W0 p (Vl bs secs.length secs.length) (Vn) (Vi ((count : Nat) : Int)) fn us vs)) (fun _ _ => Wl.rg 1 rfl (Wc.b 1 rfl (Wl.q (q_neq rfl rfl (dt (by decide))) (Wl.dg (Wc.no rfl (Wc.skip (Wx.go (Wc.seq (Wc.b 1 rfl ?_))))))))))))
  by_cases hneg : at_ < 0
  ·
    refine Wl.q (q_lss rfl rfl (dt hneg)) (Wl.rg 9 rfl (Wc.yes rfl (Wc.a 2 rfl (Wc.ret (Wx.thenRet (Wx.f2 rfl (fun w hs => ?_)))))))
    have e : DS.read ⟨secs, since, false, count, cut⟩ at_ = _ := read_bad rfl (by first | exact .inl hneg | exact .inr hge)
    rw [e]
    exact ⟨(), trivial, rfl, hs⟩
  ·
    obtain ⟨c, rfl⟩ := Int.eq_ofNat_of_zero_le (Int.not_lt.1 hneg)
    refine Wl.q (q_lss rfl rfl (df hneg)) (Wl.run 4 rfl (Wl.q (q_field fo_104_0 rfl rfl) (Wl.q (q_c 0 sc_57 rfl rfl rfl) (Wl.q (q_len_slice underlying57 rfl) ?_))))
    by_cases hge : ((c : Nat) : Int) ≥ ((secs.length : Nat) : Int)
    ·
      refine Wl.q (q_geq rfl rfl (dt hge)) (Wl.rg 1 rfl (Wc.yes rfl (Wc.a 2 rfl (Wc.ret (Wx.thenRet (Wx.f2 rfl (fun w hs => ?_)))))))
      have e : DS.read ⟨secs, since, false, count, cut⟩ ((c : Nat) : Int) = _ := read_bad rfl (by first | exact .inl hneg | exact .inr hge)
      rw [e]
      exact ⟨(), trivial, rfl, hs⟩
    ·
      refine Wl.q (q_geq rfl rfl (df hge)) (Wl.rg 1 rfl (Wc.no rfl (Wc.skip (Wx.go (Wc.b 2 rfl (Wl.q (q_field fo_104_0 rfl rfl) (Wl.q (q_c 0 sc_57 rfl rfl rfl) (Wl.run 1 rfl (Wl.q (q_idx (m := c) se_57 rfl rfl (by omega) (by omega) (by simp)) (Wl.q (v := Vs (secs.getD c default)) (q_load sc_9 rfl (.cel (i := 1) rfl (map_get (by omega)))) (Wl.rg 1 rfl (Wc.seq (Wc.b 2 rfl (Wl.q (q_field fo_104_1 rfl rfl) (Wl.q (q_c 0 sc_58 rfl rfl rfl) (Wl.q (q_len_slice underlying58 rfl) (Wl.rg 1 rfl (Wc.block ?_))))))))))))))))))
      refine Wc.loop (X := Nat × ByteArray) (fun (k, y) E => E 38 = Vi ((k : Nat) : Int) ∧ E 7 = Vs y ∧ E 1 = Vi ((c : Nat) : Int) ∧ E 36 = Vn ∧ E 37 = Vi 0 ∧ readL y c (since.drop k) = readL (secs.getD c default) c since ∧ k ≤ since.length) (fun (k, y) => (pt p 104 [Vl bs secs.length secs.length, Vn, Vf, Vi ((count : Nat) : Int), .func fn us vs]) :: (pt bs 9 (secs.map Value.string)) :: (mayR p (Value.func fn us vs) cut) :: F) (fun (k, y) => since.length - k) (0, secs.getD c default) ?_ ?_ ?_
      · exact ⟨rfl, rfl, rfl, rfl, rfl, rfl, (by omega)⟩
      · exact fun w hs => hs
      · rintro ⟨k, y⟩ E2 ⟨hE38_0, hE7_0, hE1_0, hE36_0, hE37_0, hp0, hp1⟩
        dsimp only at *
        have hsl : since.length = 0 := by rw [hnil]; rfl
        refine Wc.sr ?_
        by_cases hlt : ((k : Nat) : Int) < 0
        ·
          exfalso; omega
        ·
          refine Wl.q (q_lss hE38_0 hE37_0 (df hlt)) (Wl.dg (Wc.seq (Wc.no rfl (Wc.exit (Wx.thenExit (Wx.thenExit (Wx.out (Wx.go (Wc.sr (Wl.q (v := Vs y) (q_move hE7_0) (Wl.rg 2 rfl (Wc.ret (Wx.f2 rfl (fun w hs => ?_))))))))))))))
          have hsl : since.length = 0 := by rw [hnil]; rfl
          have hend : k = since.length := by omega
          rw [hend, List.drop_length] at hp0
          simp only [readL] at hp0
          have e : DS.read ⟨secs, since, false, count, cut⟩ ((c : Nat) : Int) = _ := read_ok rfl hge
          rw [e, ← hp0]
          exact ⟨(), trivial, rfl, hs⟩
theorem read_any (W0 : World) (p bs : Nat) (secs : List ByteArray) (since : List (Nat × ByteArray)) (count : Nat) (cut : Option (Nat × Int)) (fn : Fn) (us vs : Array Value) (at_ : Int) (hsince : since.length < 1099511627776) (sv : Value) :
  Con1 prog W0 160 #[Vp p, Vi at_] [sl 166 2 sv since.length (flat since), pt p 104 [Vl bs secs.length secs.length, sv, Vf, Vi ((count : Nat) : Int), .func fn us vs], pt bs 9 (secs.map Value.string), mayR p (Value.func fn us vs) cut] (Value.tuple #[Vs (DS.read ⟨secs, since, false, count, cut⟩ at_).1, Vi (DS.read ⟨secs, since, false, count, cut⟩ at_).2]) [sl 166 2 sv since.length (flat since), pt p 104 [Vl bs secs.length secs.length, sv, Vf, Vi ((count : Nat) : Int), .func fn us vs], pt bs 9 (secs.map Value.string), mayR p (Value.func fn us vs) cut] := by
 refine Con.sl (fun e1 e2 e3 => ?_) (fun b cap e1 e2 e3 => ?_)
 · subst e1; have e4 := List.eq_nil_of_length_eq_zero e2; exact Con.post (read_nil W0 p bs secs since count cut fn us vs at_ hsince e4) (fun _ w F h => by rw [e2, e3]; exact st_sl_nil h)
 · subst e1; exact Con.post (read_blk W0 p bs secs since count cut fn us vs at_ hsince b cap e2) (fun _ w F h => st_sl_mk e3 e2 h)
theorem read_up (W0 : World) (p : Nat) (secs : List ByteArray) (since : List (Nat × ByteArray)) (count : Nat) (cut : Option (Nat × Int)) (at_ : Int) (hsince : since.length < 1099511627776) :
  Con1 prog W0 160 #[Vp p, Vi at_] [isDisk p (⟨secs, since, false, count, cut⟩ : DS)] (Value.tuple #[Vs (DS.read ⟨secs, since, false, count, cut⟩ at_).1, Vi (DS.read ⟨secs, since, false, count, cut⟩ at_).2]) [isDisk p (⟨secs, since, false, count, cut⟩ : DS)] :=
 Con.disk fun bs sv fn us vs => Con.pull [2] (fun _ => rfl) (Con.post (read_any W0 p bs secs since count cut fn us vs at_ hsince sv) (fun _ w F h => isDisk_mk rfl (st_pull [1, 1] h)))
theorem read_c (W0 : World) (p : Nat) (d : DS) (at_ : Int) (hsince : d.since.length < 1099511627776) :
  Con1 prog W0 160 #[Vp p, Vi at_] [isDisk p d] (Value.tuple #[Vs (d.read at_).1, Vi (d.read at_).2]) [isDisk p d] := by
 obtain ⟨secs, since, down, count, cut⟩ := d
 cases down
 · exact read_up W0 p secs since count cut at_ hsince
 · exact read_down W0 p secs since count cut at_
theorem write_c (W0 : World) (p : Nat) (d : DS) (at_ : Int) (s : ByteArray) (hw : WF d) (hsince : d.since.length < 1099511627776) (hcount : d.count < 4611686018427387904) :
    Con1 prog W0 278 #[Vp p, Vi at_, Vs s] [isDisk p d] (Vi (d.write at_ s).1) [isDisk p (d.write at_ s).2] := by
  obtain ⟨secs, since, down, count, cut⟩ := d
  cases down
  · cases cut with
    | none => exact write_alw W0 p secs since count at_ s hw.l hsince hcount
    | some q =>
      obtain ⟨n, bits⟩ := q
      have hleft := hw.left n bits rfl
      cases n with
      | zero => exact write_cut0 W0 p secs since count bits at_ s hw.l hsince hcount
      | succ n => exact write_cutS W0 p secs since count n bits at_ s hw.l hsince hcount (by omega)
  · exact write_down W0 p secs since count cut at_ s
theorem sync_c (W0 : World) (p : Nat) (d : DS) (hw : WF d) (hsince : d.since.length < 1099511627776) (hcount : d.count < 4611686018427387904) :
    Con1 prog W0 279 #[Vp p] [isDisk p d] (Vi d.sync.1) [isDisk p d.sync.2] := by
  obtain ⟨secs, since, down, count, cut⟩ := d
  cases down
  · cases cut with
    | none => exact sync_alw W0 p secs since count hw.l hsince hcount
    | some q =>
      obtain ⟨n, bits⟩ := q
      have hleft := hw.left n bits rfl
      cases n with
      | zero => exact sync_cut0 W0 p secs since count bits hw.l hsince hcount
      | succ n => exact sync_cutS W0 p secs since count n bits hw.l hsince hcount (by omega)
  · exact sync_down W0 p secs since count cut
end Go.Proofs.YtjnejkdamhefgaaGreatDoor
