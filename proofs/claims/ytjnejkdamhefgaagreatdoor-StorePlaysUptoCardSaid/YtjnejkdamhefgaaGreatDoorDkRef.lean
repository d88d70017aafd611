/- A part of the proof. -/
import Derived.Test.YtjnejkdamhefgaaGreatDoorJnM
namespace Go.Proofs.YtjnejkdamhefgaaGreatDoor
open Tryz
open Go Go.SL Go.Dk Go.RowKit
set_option linter.unusedVariables false
set_option maxRecDepth 8000
theorem fo_60_1 : fieldOff prog 60 1 = some 1 := by kernel_rfl
theorem fo_60_0 : fieldOff prog 60 0 = some 0 := by kernel_rfl
theorem fo_60_2 : fieldOff prog 60 2 = some 2 := by kernel_rfl
theorem fo_60_3 : fieldOff prog 60 3 = some 3 := by kernel_rfl
theorem fo_60_5 : fieldOff prog 60 5 = some 5 := by kernel_rfl
theorem fo_60_4 : fieldOff prog 60 4 = some 4 := by kernel_rfl
theorem sz_2 : sizeIs prog 2 = some 1 := by kernel_rfl
theorem zo_60 : zeroOf prog 60 = some (Value.agg #[Value.slice none 0 0, Value.slice none 0 0, Value.bool false, Value.int .i64 0, Value.int .i64 0, Value.int .i64 0]) := by kernel_rfl
theorem sz_57 : sizeIs prog 57 = some 1 := by kernel_rfl
def isRef (q : Nat) (d : DS) : HP := ex fun bd => ex fun cd => ex fun sv => ex fun lv => ex fun bv => grp [pr (refR lv bv d.cut),
 pt q 60 [.slice (some ⟨bd, 0, none⟩) d.secs.length cd, sv, .bool d.down, .int .i64 lv, .int .i64 bv, .int .i64 (d.count : Int)],
 slp 9 1 bd cd (d.secs.map Value.string), sl 166 2 sv d.since.length (flat d.since)]
theorem isRef_mk {W0 w : World} {L : List HP} {q bd cd n : Nat} {sv : Value} {lv bv : Int} {d : DS} (hr : refR lv bv d.cut) (hn : n = d.secs.length)
  (h : st W0 w (pt q 60 [.slice (some ⟨bd, 0, none⟩) n cd, sv, .bool d.down, .int .i64 lv, .int .i64 bv, .int .i64 (d.count : Int)] :: slp 9 1 bd cd (d.secs.map Value.string) :: sl 166 2 sv d.since.length (flat d.since) :: L)) :
  st W0 w (isRef q d :: L) := by
 subst hn
 exact st_ex.2 ⟨bd, st_ex.2 ⟨cd, st_ex.2 ⟨sv, st_ex.2 ⟨lv, st_ex.2 ⟨bv, st_grp.2 (st_pr.2 ⟨hr, h⟩)⟩⟩⟩⟩⟩
theorem Con.ref {P : Program} {W0 : World} {f : FuncId} {args : Array Value} {q : Nat} {d : DS} {pre : List HP} {X : Type} {φ : X → Prop} {val : X → Value} {post : X → List HP}
  (h : ∀ (bd cd : Nat) (sv : Value) (lv bv : Int), refR lv bv d.cut → Con P W0 f args (pt q 60 [.slice (some ⟨bd, 0, none⟩) d.secs.length cd, sv, .bool d.down, .int .i64 lv, .int .i64 bv, .int .i64 (d.count : Int)] :: slp 9 1 bd cd (d.secs.map Value.string) :: sl 166 2 sv d.since.length (flat d.since) :: pre) φ val post) :
  Con P W0 f args (isRef q d :: pre) φ val post := fun w F hs => by
 obtain ⟨bd, hs⟩ := st_ex.1 hs
 obtain ⟨cd, hs⟩ := st_ex.1 hs
 obtain ⟨sv, hs⟩ := st_ex.1 hs
 obtain ⟨lv, hs⟩ := st_ex.1 hs
 obtain ⟨bv, hs⟩ := st_ex.1 hs
 obtain ⟨hr, hs⟩ := st_pr.1 (st_grp.1 hs)
 exact h bd cd sv lv bv hr w F hs
theorem rtorn_c (W0 : World) (old s : ByteArray) (how : Int) (h1 : old.size = 64) (h2 : s.size = 64) (h0 : 0 ≤ how) (h4 : how < 4) :
  Con1 prog W0 191 #[Vs old, Vs s, Vi how] [] (.string (torn old s how)) [] := by
 refine Con.of func191 rfl ntmps191 rfl (fun F => ?_)
 show Wc _ W0 _ _ _ _ _ (F)
 refine Wc.a 1 rfl (Wc.a 1 rfl (Wc.seq (Wc.a 1 rfl (Wc.block (Wc.sr ?_)))))
 by_cases hk1 : how = 1
 ·
  refine Wl.q (q_eql rfl rfl (dt hk1)) (Wl.rg 1 rfl (Wc.yes rfl (Wc.a 2 rfl (Wc.ret (Wx.blockRet (Wx.thenRet (Wx.f1 rfl (fun w hs => ?_))))))))
  have e : torn old s how = s := by rw [hk1]; rfl
  exact ⟨(), trivial, by rw [e]; rfl, hs⟩
 ·
  refine Wl.q (q_eql rfl rfl (df hk1)) (Wl.rg 1 rfl (Wc.no rfl (Wc.sr ?_)))
  by_cases hk2 : how = 2
  ·
   refine Wl.q (q_eql rfl rfl (dt hk2)) (Wl.rg 1 rfl (Wc.yes rfl (Wc.seq (Wc.drawsS [] ([]) (by kernel_rfl) (Wr.p 0 [] rfl (q_move rfl) (Wr.p 1 [] rfl (q_move rfl) (Wr.p 2 [] rfl (q_slice_str (l := 0) (h := 32) underlying9 rfl rfl ⟨_, rfl⟩ (by omega) (by omega) rfl) (Wr.p 3 [] rfl (q_move rfl) (Wr.p 4 [] rfl (q_move rfl) (Wr.p 5 [] rfl (q_slice_str (l := 32) (h := old.size) underlying9 rfl ⟨_, rfl⟩ rfl (by omega) (by omega) rfl) (Wr.p 6 [] rfl (q_cat (z := (s.extract 0 32 ++ old.extract 32 old.size)) rfl rfl (cat_bound h2 h1) rfl) (Wr.p 7 [] rfl (q_assign rfl) (Wr.z (Wx.go (Wc.ret (Wx.blockRet (Wx.thenRet (Wx.f1 rfl (fun w hs => ?_)))))))))))))))))))
   have e : torn old s how = (s.extract 0 32 ++ old.extract 32 old.size) := by rw [hk2]; rfl
   exact ⟨(), trivial, by rw [e]; rfl, hs⟩
  ·
   refine Wl.q (q_eql rfl rfl (df hk2)) (Wl.rg 1 rfl (Wc.no rfl (Wc.sr ?_)))
   by_cases hk3 : how = 3
   ·
    refine Wl.q (q_eql rfl rfl (dt hk3)) (Wl.rg 1 rfl (Wc.yes rfl (Wc.seq (Wc.drawsS [] ([]) (by kernel_rfl) (Wr.p 0 [] rfl (q_move rfl) (Wr.p 1 [] rfl (q_move rfl) (Wr.p 2 [] rfl (q_slice_str (l := 0) (h := 32) underlying9 rfl rfl ⟨_, rfl⟩ (by omega) (by omega) rfl) (Wr.p 3 [] rfl (q_move rfl) (Wr.p 4 [] rfl (q_move rfl) (Wr.p 5 [] rfl (q_slice_str (l := 32) (h := s.size) underlying9 rfl ⟨_, rfl⟩ rfl (by omega) (by omega) rfl) (Wr.p 6 [] rfl (q_cat (z := (old.extract 0 32 ++ s.extract 32 s.size)) rfl rfl (cat_bound h1 h2) rfl) (Wr.p 7 [] rfl (q_assign rfl) (Wr.z (Wx.go (Wc.ret (Wx.blockRet (Wx.thenRet (Wx.f1 rfl (fun w hs => ?_)))))))))))))))))))
    have e : torn old s how = (old.extract 0 32 ++ s.extract 32 s.size) := by rw [hk3]; rfl
    exact ⟨(), trivial, by rw [e]; rfl, hs⟩
   ·
    refine Wl.q (q_eql rfl rfl (df hk3)) (Wl.rg 1 rfl (Wc.no rfl (Wc.skip (Wx.blockEnd (Wx.go (Wc.a 2 rfl (Wc.ret (Wx.f1 rfl (fun w hs => ?_)))))))))
    have e : torn old s how = old := by rw [show how = 0 by omega]; rfl
    exact ⟨(), trivial, by rw [e]; rfl, hs⟩
set_option maxRecDepth 4000 in
theorem rfalls_blk (W0 : World) (q bd cd : Nat) (secs : List ByteArray) (since : List (Nat × ByteArray)) (count : Nat) (down : Bool) (lv bv : Value) (bits : Int) (hw : WFl secs since) (hsince : since.length < 1099511627776) (b cap : Nat) (hcap : since.length ≤ cap) :
    Con prog W0 51 #[Vp q, Vi bits] [slp 166 2 b cap (flat since), pt q 60 [Vl bd secs.length cd, Vl b since.length cap, Value.bool down, lv, bv, Vi ((count : Nat) : Int)], slp 9 1 bd cd (secs.map Value.string)] (X := Unit) (fun _ => True) (fun _ => .tuple #[]) (fun _ => [pt q 60 [Vl bd secs.length cd, Vn, Vt, Vi (-1), bv, Vi ((count : Nat) : Int)], slp 9 1 bd cd ((fallL secs (since.take 31) bits).map Value.string)]) := by
  refine Con.of func51 rfl ntmps51 rfl (fun F => ?_)
  show Wc _ W0 _ _ _ _ _ ((slp 166 2 b cap (flat since)) :: (pt q 60 [Vl bd secs.length cd, Vl b since.length cap, Value.bool down, lv, bv, Vi ((count : Nat) : Int)]) :: (slp 9 1 bd cd (secs.map Value.string)) :: F)
  refine Wc.seq (Wc.a 1 rfl (Wc.block ?_))
  refine Wc.loop (X := Nat × List ByteArray) (fun (k, ss) E => E 4 = Vi ((k : Nat) : Int) ∧ E 0 = Vp q ∧ E 1 = Vi bits ∧ fallL ss ((since.take 31).drop k) (bits / 4 ^ k) = fallL secs (since.take 31) bits ∧ ss.length = secs.length ∧ (∀ s ∈ ss, s.size = 64) ∧ k ≤ min since.length 31) (fun (k, ss) => (slp 166 2 b cap (flat since)) :: (pt q 60 [Vl bd secs.length cd, Vl b since.length cap, Value.bool down, lv, bv, Vi ((count : Nat) : Int)]) :: (slp 9 1 bd cd (ss.map Value.string)) :: F) (fun (k, ss) => 31 - k) (0, secs) ?_ ?_ ?_
  · exact ⟨rfl, rfl, rfl, (by simp), rfl, hw.size, (by omega)⟩
  · exact fun w hs => hs
  · rintro ⟨k, ss⟩ E2 ⟨hE4_0, hE0_0, hE1_0, hp0, hp1, hp2, hp3⟩
    dsimp only at *
    refine Wc.seq (Wc.sr (Wl.q (v := Vi ((k : Nat) : Int)) (q_move hE4_0) (Wl.q (v := Vp q) (q_move hE0_0) (Wl.run 1 rfl (Wl.q (q_field fo_60_1 rfl rfl) (Wl.q (q_c 1 sc_58 rfl rfl rfl) (Wl.q (q_len_slice underlying58 rfl) ?_)))))))
    by_cases hlt : ((k : Nat) : Int) < ((since.length : Nat) : Int)
    ·
      refine Wl.q (q_lss rfl rfl (dt hlt)) (Wl.run 1 rfl (Wl.q (v := Vi ((k : Nat) : Int)) (q_move hE4_0) ?_))
      by_cases h31 : ((k : Nat) : Int) < 31
      ·
        obtain ⟨⟨a, s⟩, hget⟩ : ∃ q, since[k]? = some q := ⟨since[k]'(by omega), by simp [List.getElem?_eq_getElem (show k < since.length by omega)]⟩
        have hmem := List.mem_of_getElem? hget
        have ha : a < ss.length := by have := hw.at_ _ hmem; simp only at this; omega
        have hs : s.size = 64 := hw.size' _ hmem
        have hold : (ss.getD a default).size = 64 := by rw [List.getD_eq_getElem?_getD, List.getElem?_eq_getElem ha]; exact hp2 _ (List.getElem_mem ha)
        refine Wl.q (q_lss rfl rfl (dt h31)) (Wl.rg 1 rfl (Wc.yes rfl (Wc.skip (Wx.go (Wc.seq (Wc.block (Wc.sr (Wl.q (v := Vp q) (q_move hE0_0) (Wl.run 1 rfl (Wl.q (q_field fo_60_1 rfl rfl) (Wl.q (q_c 1 sc_58 rfl rfl rfl) (Wl.q (v := Vi ((k : Nat) : Int)) (q_move hE4_0) (Wl.q (q_idx (m := k * 2) se_58 rfl rfl (by omega) (by omega) (by simp)) (Wl.q (v := Value.agg #[Vi ((a : Nat) : Int), Vs s]) (q_loadAgg (vs := [Vi ((a : Nat) : Int), Vs s]) ag_166 rfl (flat_has (i := 0) rfl hget)) (Wl.e (e_alloc (vs := [Vi 0, Vs (⟨#[]⟩)]) zo_166 rfl) (fun bx _ => Wl.e (e_storeAgg (i := 0) (vs := [Vi ((a : Nat) : Int), Vs s]) (c' := [Vi ((a : Nat) : Int), Vs s]) sz_166 rfl rfl rfl rfl (by simp) rfl) (fun _ _ => Wl.dg (Wc.drawsS [23] ((pt bx 166 [Vi ((a : Nat) : Int), Vs s]) :: (slp 166 2 b cap (flat since)) :: (pt q 60 [Vl bd secs.length cd, Vl b since.length cap, Value.bool down, lv, bv, Vi ((count : Nat) : Int)]) :: (slp 9 1 bd cd (ss.map Value.string)) :: []) (by kernel_rfl) (Wr.p 0 oo4 rfl (q_move hE0_0) (Wr.p 1 oo4 rfl (q_nil_ptr rfl) (Wr.p 2 oo4 rfl (q_field fo_60_0 rfl rfl) (Wr.t 3 oo4 rfl (q_c 2 sc_57 rfl rfl rfl) (Wr.p 4 oo4 rfl (q_field fo_166_0 rfl rfl) ?_)))))))))))))))))))))))
        refine Wr.t 5 oo4 rfl (q_c 0 sc_3 rfl rfl rfl) (Wr.p 6 oo4 rfl (q_move hE0_0) (Wr.p 7 oo4 rfl (q_nil_ptr rfl) (Wr.p 8 oo4 rfl (q_field fo_60_0 rfl rfl) (Wr.t 9 oo4 rfl (q_c 2 sc_57 rfl rfl rfl) (Wr.p 10 oo4 rfl (q_field fo_166_0 rfl rfl) (Wr.t 11 oo4 rfl (q_c 0 sc_3 rfl rfl rfl) (Wr.p 12 oo4 rfl (q_idx (m := a) se_57 rfl rfl (by omega) (by omega) (by simp)) (Wr.t (v := Vs (ss.getD a default)) 13 oo4 rfl (q_load sc_9 rfl (.row (i := 3) rfl (map_get ha))) (Wr.p 14 oo4 rfl (q_field fo_166_1 rfl rfl) (Wr.t 15 oo4 rfl (q_c 0 sc_9 rfl rfl rfl) (Wr.p 16 oo4 rfl (q_move hE1_0) (Wr.p 17 oo4 rfl (q_move hE4_0) (Wr.p 18 oo4 rfl (q_mul (c := ((2 * k : Nat) : Int)) rfl rfl (by rw [wrap_i64] <;> omega)) (Wr.p 19 oo4 rfl (q_shr (c := (bits / 4 ^ k)) rfl rfl (by omega) (shr4 (by omega))) (Wr.p 20 oo4 rfl (q_and (c := (bits / 4 ^ k % 4)) rfl rfl (and3 _)) (Wr.x 21 oo4 rfl (e_c call191 (rtorn_c W0 (ss.getD a default) s (bits / 4 ^ k % 4) (by assumption) (by assumption) (by omega) (by omega))) (fun _ _ => Wr.p 22 oo4 rfl (q_idx (m := a) se_57 rfl rfl (by omega) (by omega) (by simp)) (Wr.x0 23 rfl (e_store_slp (i := 3) (vs := [Vs (torn (ss.getD a default) s (bits / 4 ^ k % 4))]) (c' := (ss.set a (torn (ss.getD a default) s (bits / 4 ^ k % 4))).map Value.string) sz_9 rfl (congrArg Value.cells (rfl)) rfl rfl (by simp; omega) (splice_one ha)) (fun _ _ => Wr.rebaseS [] ((pt bx 166 [Vi ((a : Nat) : Int), Vs s]) :: (slp 166 2 b cap (flat since)) :: (pt q 60 [Vl bd secs.length cd, Vl b since.length cap, Value.bool down, lv, bv, Vi ((count : Nat) : Int)]) :: (slp 9 1 bd cd ((ss.set a (torn (ss.getD a default) s (bits / 4 ^ k % 4))).map Value.string)) :: []) (by kernel_rfl) (Wr.z (Wx.blockEnd (Wx.go (Wc.region ?_)))))))))))))))))))))))
        refine Wl.q (v := Vi ((k : Nat) : Int)) (q_move hE4_0) (Wl.q (q_add (c := ((k + 1 : Nat) : Int)) rfl rfl (by rw [wrap_i64] <;> omega)) (Wl.run 1 rfl (Wl.done ?_)))
        refine Wx.at (k + 1, ss.set a (torn (ss.getD a default) s (bits / 4 ^ k % 4))) ⟨(by simp only; omega), rfl, hE0_0, hE1_0, (fall_pow hget (by omega) hp0), (by simpa using hp1), (fun u hu => (List.mem_or_eq_of_mem_set hu).elim (hp2 u) (fun e => by rw [e]; exact torn_size _ hold hs)), (by omega)⟩ (fun w hs => (st_drop (st_pull [0] hs)))
      ·
        refine Wl.q (q_lss rfl rfl (df h31)) (Wl.rg 1 rfl (Wc.no rfl (Wc.exit (Wx.thenExit (Wx.thenExit (Wx.out (Wx.go (Wc.sr (Wl.q (v := Vp q) (q_move hE0_0) (Wl.run 1 rfl (Wl.q (q_field fo_60_1 rfl rfl) (Wl.e (e_store (i := 1) (v := Vn) sz_58 rfl rfl (fun _ _ => rfl) rfl (by simp)) (fun _ _ => Wl.dg (Wc.sr (Wl.q (v := Vp q) (q_move hE0_0) (Wl.run 1 rfl (Wl.q (q_field fo_60_2 rfl rfl) (Wl.e (e_store (i := 1) (v := Vt) sz_4 rfl rfl (fun _ _ => rfl) rfl (by simp)) (fun _ _ => Wl.dg (Wc.region (Wl.q (v := Vp q) (q_move hE0_0) (Wl.run 1 rfl (Wl.q (q_field fo_60_3 rfl rfl) ?_)))))))))))))))))))))))
        refine Wl.e (e_store (i := 1) (v := Vi (-1)) sz_3 rfl rfl (fun _ _ => rfl) rfl (by simp)) (fun _ _ => Wl.done (Wx.fin0 rfl (.inr rfl) (fun w hs => ?_)))
        have hend : k = min since.length 31 := by omega
        rw [hend, List.drop_of_length_le (by simp; omega)] at hp0
        simp only [fallL] at hp0
        rw [← hp0]
        exact ⟨(), trivial, rfl, (st_drop (st_pull [0] hs))⟩
    ·
      refine Wl.q (q_lss rfl rfl (df hlt)) (Wl.rg 4 rfl (Wc.no rfl (Wc.exit (Wx.thenExit (Wx.thenExit (Wx.out (Wx.go (Wc.sr (Wl.q (v := Vp q) (q_move hE0_0) (Wl.run 1 rfl (Wl.q (q_field fo_60_1 rfl rfl) (Wl.e (e_store (i := 1) (v := Vn) sz_58 rfl rfl (fun _ _ => rfl) rfl (by simp)) (fun _ _ => Wl.dg (Wc.sr (Wl.q (v := Vp q) (q_move hE0_0) (Wl.run 1 rfl (Wl.q (q_field fo_60_2 rfl rfl) (Wl.e (e_store (i := 1) (v := Vt) sz_4 rfl rfl (fun _ _ => rfl) rfl (by simp)) (fun _ _ => Wl.dg (Wc.region (Wl.q (v := Vp q) (q_move hE0_0) (Wl.run 1 rfl (Wl.q (q_field fo_60_3 rfl rfl) ?_)))))))))))))))))))))))
      refine Wl.e (e_store (i := 1) (v := Vi (-1)) sz_3 rfl rfl (fun _ _ => rfl) rfl (by simp)) (fun _ _ => Wl.done (Wx.fin0 rfl (.inr rfl) (fun w hs => ?_)))
      have hend : k = min since.length 31 := by omega
      rw [hend, List.drop_of_length_le (by simp; omega)] at hp0
      simp only [fallL] at hp0
      rw [← hp0]
      exact ⟨(), trivial, rfl, (st_drop (st_pull [0] hs))⟩
set_option maxRecDepth 4000 in
theorem rfalls_nil (W0 : World) (q bd cd : Nat) (secs : List ByteArray) (since : List (Nat × ByteArray)) (count : Nat) (down : Bool) (lv bv : Value) (bits : Int) (hw : WFl secs since) (hsince : since.length < 1099511627776) (hnil : since = []) :
    Con prog W0 51 #[Vp q, Vi bits] [pt q 60 [Vl bd secs.length cd, Vn, Value.bool down, lv, bv, Vi ((count : Nat) : Int)], slp 9 1 bd cd (secs.map Value.string)] (X := Unit) (fun _ => True) (fun _ => .tuple #[]) (fun _ => [pt q 60 [Vl bd secs.length cd, Vn, Vt, Vi (-1), bv, Vi ((count : Nat) : Int)], slp 9 1 bd cd ((fallL secs (since.take 31) bits).map Value.string)]) := by
  refine Con.of func51 rfl ntmps51 rfl (fun F => ?_)
  show Wc _ W0 _ _ _ _ _ ((pt q 60 [Vl bd secs.length cd, Vn, Value.bool down, lv, bv, Vi ((count : Nat) : Int)]) :: (slp 9 1 bd cd (secs.map Value.string)) :: F)
  refine Wc.seq (Wc.a 1 rfl (Wc.block ?_))
  refine Wc.loop (X := Nat × List ByteArray) (fun (k, ss) E => E 4 = Vi ((k : Nat) : Int) ∧ E 0 = Vp q ∧ E 1 = Vi bits ∧ fallL ss ((since.take 31).drop k) (bits / 4 ^ k) = fallL secs (since.take 31) bits ∧ ss.length = secs.length ∧ (∀ s ∈ ss, s.size = 64) ∧ k ≤ min since.length 31) (fun (k, ss) => (pt q 60 [Vl bd secs.length cd, Vn, Value.bool down, lv, bv, Vi ((count : Nat) : Int)]) :: (slp 9 1 bd cd (ss.map Value.string)) :: F) (fun (k, ss) => 31 - k) (0, secs) ?_ ?_ ?_
  · exact ⟨rfl, rfl, rfl, (by simp), rfl, hw.size, (by omega)⟩
  · exact fun w hs => hs
  · rintro ⟨k, ss⟩ E2 ⟨hE4_0, hE0_0, hE1_0, hp0, hp1, hp2, hp3⟩
    dsimp only at *
    have hsl : since.length = 0 := by rw [hnil]; rfl
    refine Wc.seq (Wc.sr (Wl.q (v := Vi ((k : Nat) : Int)) (q_move hE4_0) (Wl.q (v := Vp q) (q_move hE0_0) (Wl.run 1 rfl (Wl.q (q_field fo_60_1 rfl rfl) (Wl.q (q_c 0 sc_58 rfl rfl rfl) (Wl.q (q_len_slice underlying58 rfl) ?_)))))))
    by_cases hlt : ((k : Nat) : Int) < 0
    ·
      exfalso; omega
    ·
      refine Wl.q (q_lss rfl rfl (df hlt)) (Wl.rg 4 rfl (Wc.no rfl (Wc.exit (Wx.thenExit (Wx.thenExit (Wx.out (Wx.go (Wc.sr (Wl.q (v := Vp q) (q_move hE0_0) (Wl.run 1 rfl (Wl.q (q_field fo_60_1 rfl rfl) (Wl.e (e_store (i := 0) (v := Vn) sz_58 rfl rfl (fun _ _ => rfl) rfl (by simp)) (fun _ _ => Wl.dg (Wc.sr (Wl.q (v := Vp q) (q_move hE0_0) (Wl.run 1 rfl (Wl.q (q_field fo_60_2 rfl rfl) (Wl.e (e_store (i := 0) (v := Vt) sz_4 rfl rfl (fun _ _ => rfl) rfl (by simp)) (fun _ _ => Wl.dg (Wc.region (Wl.q (v := Vp q) (q_move hE0_0) (Wl.run 1 rfl (Wl.q (q_field fo_60_3 rfl rfl) ?_)))))))))))))))))))))))
      refine Wl.e (e_store (i := 0) (v := Vi (-1)) sz_3 rfl rfl (fun _ _ => rfl) rfl (by simp)) (fun _ _ => Wl.done (Wx.fin0 rfl (.inr rfl) (fun w hs => ?_)))
      have hend : k = min since.length 31 := by omega
      rw [hend, List.drop_of_length_le (by simp; omega)] at hp0
      simp only [fallL] at hp0
      rw [← hp0]
      exact ⟨(), trivial, rfl, hs⟩
theorem rfalls_c (W0 : World) (q bd cd : Nat) (secs : List ByteArray) (since : List (Nat × ByteArray)) (count : Nat) (down : Bool) (lv bv : Value) (bits : Int) (hw : WFl secs since) (hsince : since.length < 1099511627776) (sv : Value) :
  Con1 prog W0 51 #[Vp q, Vi bits] [sl 166 2 sv since.length (flat since), pt q 60 [Vl bd secs.length cd, sv, Value.bool down, lv, bv, Vi ((count : Nat) : Int)], slp 9 1 bd cd (secs.map Value.string)] (.tuple #[]) [pt q 60 [Vl bd secs.length cd, Vn, Vt, Vi (-1), bv, Vi ((count : Nat) : Int)], slp 9 1 bd cd ((fallL secs (since.take 31) bits).map Value.string)] := by
 refine Con.sl (fun e1 e2 e3 => ?_) (fun b cap e1 e2 e3 => ?_)
 · subst e1; exact rfalls_nil W0 q bd cd secs since count down lv bv bits hw hsince (List.eq_nil_of_length_eq_zero e2)
 · subst e1; exact rfalls_blk W0 q bd cd secs since count down lv bv bits hw hsince b cap e2
theorem rdoes_none (W0 : World) (q bd cd : Nat) (secs : List ByteArray) (since : List (Nat × ByteArray)) (count : Nat) (sv : Value) (bv : Value) (hcount : count < 4611686018427387904) :
  Con1 prog W0 283 #[Vp q] [pt q 60 [Vl bd secs.length cd, sv, Vf, Vi (-1), bv, Vi ((count : Nat) : Int)]] (.bool true) [pt q 60 [Vl bd secs.length cd, sv, Vf, Vi (-1), bv, Vi (((count + 1) : Nat) : Int)]] := by
 refine Con.of func283 rfl ntmps283 rfl (fun F => ?_)
 show Wc _ W0 _ _ _ _ _ ((pt q 60 [Vl bd secs.length cd, sv, Vf, Vi (-1), bv, Vi ((count : Nat) : Int)]) :: F)
 refine Wc.a 1 rfl (Wc.seq (Wc.b 2 rfl (Wl.q (q_field fo_60_3 rfl rfl) (Wl.q (q_c 0 sc_3 rfl rfl rfl) (Wl.q (q_eql rfl rfl (df (by decide))) (Wl.dg (Wc.no rfl (Wc.skip (Wx.go (Wc.seq (Wc.b 2 rfl (Wl.q (q_field fo_60_3 rfl rfl) (Wl.q (q_c 0 sc_3 rfl rfl rfl) (Wl.q (q_gtr rfl rfl (df (by decide))) (Wl.dg (Wc.no rfl (Wc.skip (Wx.go (Wc.b 2 rfl (Wl.q (q_field fo_60_5 rfl rfl) (Wl.q (q_c 0 sc_3 rfl rfl rfl) (Wl.q (q_add (c := ((count + 1 : Nat) : Int)) rfl rfl (by rw [wrap_i64] <;> omega)) (Wl.run 1 rfl ?_)))))))))))))))))))))))
 refine Wl.q (q_field fo_60_5 rfl rfl) (Wl.e (e_store (i := 0) (v := Vi ((count + 1 : Nat) : Int)) sz_3 rfl rfl (fun _ _ => rfl) rfl (by simp)) (fun _ _ => Wl.dg (Wc.a 1 rfl (Wc.ret (Wx.f1 rfl (fun w hs => ?_))))))
 exact ⟨(), trivial, rfl, hs⟩
theorem rdoes_cutS (W0 : World) (q bd cd : Nat) (secs : List ByteArray) (since : List (Nat × ByteArray)) (count : Nat) (sv : Value) (bits : Int) (hcount : count < 4611686018427387904) (n : Nat) (hn : n < 9223372036854775807) :
  Con1 prog W0 283 #[Vp q] [pt q 60 [Vl bd secs.length cd, sv, Vf, Vi (((n + 1) : Nat) : Int), Vi bits, Vi ((count : Nat) : Int)]] (.bool true) [pt q 60 [Vl bd secs.length cd, sv, Vf, Vi ((n : Nat) : Int), Vi bits, Vi (((count + 1) : Nat) : Int)]] := by
 refine Con.of func283 rfl ntmps283 rfl (fun F => ?_)
 show Wc _ W0 _ _ _ _ _ ((pt q 60 [Vl bd secs.length cd, sv, Vf, Vi (((n + 1) : Nat) : Int), Vi bits, Vi ((count : Nat) : Int)]) :: F)
 refine Wc.a 1 rfl (Wc.seq (Wc.b 2 rfl (Wl.q (q_field fo_60_3 rfl rfl) (Wl.q (q_c 0 sc_3 rfl rfl rfl) (Wl.q (q_eql rfl rfl (df (by omega))) (Wl.dg (Wc.no rfl (Wc.skip (Wx.go (Wc.seq (Wc.b 2 rfl (Wl.q (q_field fo_60_3 rfl rfl) (Wl.q (q_c 0 sc_3 rfl rfl rfl) (Wl.q (q_gtr rfl rfl (dt (by omega))) (Wl.dg (Wc.yes rfl (Wc.region (Wl.run 2 rfl (Wl.q (q_field fo_60_3 rfl rfl) (Wl.q (q_c 0 sc_3 rfl rfl rfl) (Wl.q (q_sub (c := ((n : Nat) : Int)) rfl rfl (by rw [wrap_i64] <;> omega)) (Wl.run 1 rfl (Wl.q (q_field fo_60_3 rfl rfl) ?_)))))))))))))))))))))))
 refine Wl.e (e_store (i := 0) (v := Vi ((n : Nat) : Int)) sz_3 rfl rfl (fun _ _ => rfl) rfl (by simp)) (fun _ _ => Wl.dg (Wc.b 2 rfl (Wl.q (q_field fo_60_5 rfl rfl) (Wl.q (q_c 0 sc_3 rfl rfl rfl) (Wl.q (q_add (c := ((count + 1 : Nat) : Int)) rfl rfl (by rw [wrap_i64] <;> omega)) (Wl.run 1 rfl (Wl.q (q_field fo_60_5 rfl rfl) (Wl.e (e_store (i := 0) (v := Vi ((count + 1 : Nat) : Int)) sz_3 rfl rfl (fun _ _ => rfl) rfl (by simp)) (fun _ _ => Wl.dg (Wc.a 1 rfl (Wc.ret (Wx.f1 rfl (fun w hs => ?_)))))))))))))
 exact ⟨(), trivial, rfl, hs⟩
theorem rdoes_cut0 (W0 : World) (q bd cd : Nat) (secs : List ByteArray) (since : List (Nat × ByteArray)) (count : Nat) (sv : Value) (bits : Int) (hcount : count < 4611686018427387904) (hw : WFl secs since) (hsince : since.length < 1099511627776) :
  Con1 prog W0 283 #[Vp q] [pt q 60 [Vl bd secs.length cd, sv, Vf, Vi 0, Vi bits, Vi ((count : Nat) : Int)], sl 166 2 sv since.length (flat since), slp 9 1 bd cd (secs.map Value.string)] (.bool false) [pt q 60 [Vl bd secs.length cd, Vn, Vt, Vi (-1), Vi bits, Vi ((count : Nat) : Int)], slp 9 1 bd cd ((fallL secs (since.take 31) bits).map Value.string)] := by
 refine Con.of func283 rfl ntmps283 rfl (fun F => ?_)
 show Wc _ W0 _ _ _ _ _ ((pt q 60 [Vl bd secs.length cd, sv, Vf, Vi 0, Vi bits, Vi ((count : Nat) : Int)]) :: (sl 166 2 sv since.length (flat since)) :: (slp 9 1 bd cd (secs.map Value.string)) :: F)
 refine Wc.a 1 rfl (Wc.seq (Wc.b 2 rfl (Wl.q (q_field fo_60_3 rfl rfl) (Wl.q (q_c 0 sc_3 rfl rfl rfl) (Wl.q (q_eql rfl rfl (dt (by decide))) (Wl.dg (Wc.yes rfl (Wc.b 3 rfl (Wl.q (q_field fo_60_4 rfl rfl) (Wl.q (q_c 0 sc_2 rfl rfl rfl) (Wl.pull [1, 0, 0] (Wl.e (e_c call51 (rfalls_c W0 q bd cd secs since count false (Vi 0) (Vi bits) bits hw hsince sv)) (fun _ _ => Wl.dg (Wc.a 1 rfl (Wc.ret (Wx.thenRet (Wx.f1 rfl (fun w hs => ?_))))))))))))))))))
 exact ⟨(), trivial, rfl, hs⟩
theorem rcrash_down (W0 : World) (q bd cd : Nat) (secs : List ByteArray) (since : List (Nat × ByteArray)) (count : Nat) (sv : Value) (lv bv : Int) (cut : Option (Nat × Int)) (hr : refR lv bv cut) (bb : Int) :
  Con1 prog W0 20 #[Vp q, Vi bb] [pt q 60 [Vl bd secs.length cd, sv, Vt, Vi lv, Vi bv, Vi ((count : Nat) : Int)], slp 9 1 bd cd (secs.map Value.string), sl 166 2 sv since.length (flat since)] (Vi (DS.crash (⟨secs, since, true, count, cut⟩ : DS) bb).1) [isRef q (DS.crash (⟨secs, since, true, count, cut⟩ : DS) bb).2] := by
 refine Con.of func20 rfl ntmps20 rfl (fun F => ?_)
 refine Wc.a 1 rfl (Wc.seq (Wc.b 2 rfl (Wl.q (q_field fo_60_2 rfl rfl) (Wl.q (q_c 0 sc_4 rfl rfl rfl) (Wl.dg (Wc.yes rfl (Wc.a 1 rfl (Wc.ret (Wx.thenRet (Wx.f1 rfl (fun w hs => ?_)))))))))))
 have e : DS.crash (⟨secs, since, true, count, cut⟩ : DS) bb = (6, (⟨secs, since, true, count, cut⟩ : DS)) := rfl
 rw [e]
 exact ⟨(), trivial, rfl, isRef_mk hr rfl hs⟩
theorem rcrash_up (W0 : World) (q bd cd : Nat) (secs : List ByteArray) (since : List (Nat × ByteArray)) (count : Nat) (sv : Value) (lv bv : Int) (cut : Option (Nat × Int)) (hr : refR lv bv cut) (bb : Int) (hw : WFl secs since) (hsince : since.length < 1099511627776) :
  Con1 prog W0 20 #[Vp q, Vi bb] [pt q 60 [Vl bd secs.length cd, sv, Vf, Vi lv, Vi bv, Vi ((count : Nat) : Int)], slp 9 1 bd cd (secs.map Value.string), sl 166 2 sv since.length (flat since)] (Vi (DS.crash (⟨secs, since, false, count, cut⟩ : DS) bb).1) [isRef q (DS.crash (⟨secs, since, false, count, cut⟩ : DS) bb).2] := by
 refine Con.of func20 rfl ntmps20 rfl (fun F => ?_)
 show Wc _ W0 _ _ _ _ _ ((pt q 60 [Vl bd secs.length cd, sv, Vf, Vi lv, Vi bv, Vi ((count : Nat) : Int)]) :: (slp 9 1 bd cd (secs.map Value.string)) :: (sl 166 2 sv since.length (flat since)) :: F)
 refine Wc.a 1 rfl (Wc.seq (Wc.b 2 rfl (Wl.q (q_field fo_60_2 rfl rfl) (Wl.q (q_c 0 sc_4 rfl rfl rfl) (Wl.dg (Wc.no rfl (Wc.skip (Wx.go (Wc.b 2 rfl (Wl.pull [2, 0, 0] (Wl.e (e_c call51 (rfalls_c W0 q bd cd secs since count false (Vi lv) (Vi bv) bb hw hsince sv)) (fun _ _ => Wl.dg (Wc.a 1 rfl (Wc.ret (Wx.f1 rfl (fun w hs => ?_))))))))))))))))
 have e : DS.crash (⟨secs, since, false, count, cut⟩ : DS) bb = (0, ⟨fallL secs (since.take 31) bb, [], true, count, none⟩) := rfl
 rw [e]
 exact ⟨(), trivial, rfl, isRef_mk (lv := -1) rfl (fallL_length _ _ _).symm (st_pull [1, 1] (st_sl_nil hs))⟩
theorem rcrash_c (W0 : World) (q : Nat) (d : DS) (bb : Int) (hw : WF d) (hsince : d.since.length < 1099511627776) :
  Con1 prog W0 20 #[Vp q, Vi bb] [isRef q d] (Vi (d.crash bb).1) [isRef q (d.crash bb).2] := by
 obtain ⟨secs, since, down, count, cut⟩ := d
 refine Con.ref (fun bd cd sv lv bv hr => ?_)
 cases down
 · exact rcrash_up W0 q bd cd secs since count sv lv bv cut hr bb hw.l hsince
 · exact rcrash_down W0 q bd cd secs since count sv lv bv cut hr bb
theorem rstart_down (W0 : World) (q bd cd : Nat) (secs : List ByteArray) (since : List (Nat × ByteArray)) (count : Nat) (sv : Value) (lv bv : Int) (cut : Option (Nat × Int)) (hr : refR lv bv cut) :
  Con1 prog W0 22 #[Vp q] [pt q 60 [Vl bd secs.length cd, sv, Vt, Vi lv, Vi bv, Vi ((count : Nat) : Int)], slp 9 1 bd cd (secs.map Value.string), sl 166 2 sv since.length (flat since)] (Vi (DS.start (⟨secs, since, true, count, cut⟩ : DS)).1) [isRef q (DS.start (⟨secs, since, true, count, cut⟩ : DS)).2] := by
 refine Con.of func22 rfl ntmps22 rfl (fun F => ?_)
 show Wc _ W0 _ _ _ _ _ ((pt q 60 [Vl bd secs.length cd, sv, Vt, Vi lv, Vi bv, Vi ((count : Nat) : Int)]) :: (slp 9 1 bd cd (secs.map Value.string)) :: (sl 166 2 sv since.length (flat since)) :: F)
 refine Wc.a 1 rfl (Wc.seq (Wc.b 2 rfl (Wl.q (q_field fo_60_2 rfl rfl) (Wl.q (q_c 0 sc_4 rfl rfl rfl) (Wl.q (q_not rfl rfl) (Wl.dg (Wc.no rfl (Wc.skip (Wx.go (Wc.b 2 rfl (Wl.q (q_field fo_60_2 rfl rfl) (Wl.e (e_store (i := 0) (v := Vf) sz_4 rfl rfl (fun _ _ => rfl) rfl (by simp)) (fun _ _ => Wl.dg (Wc.a 1 rfl (Wc.ret (Wx.f1 rfl (fun w hs => ?_)))))))))))))))))
 have e : DS.start (⟨secs, since, true, count, cut⟩ : DS) = (0, (⟨secs, since, false, count, cut⟩ : DS)) := rfl
 rw [e]
 exact ⟨(), trivial, rfl, isRef_mk hr rfl hs⟩
theorem rstart_up (W0 : World) (q bd cd : Nat) (secs : List ByteArray) (since : List (Nat × ByteArray)) (count : Nat) (sv : Value) (lv bv : Int) (cut : Option (Nat × Int)) (hr : refR lv bv cut) :
  Con1 prog W0 22 #[Vp q] [pt q 60 [Vl bd secs.length cd, sv, Vf, Vi lv, Vi bv, Vi ((count : Nat) : Int)], slp 9 1 bd cd (secs.map Value.string), sl 166 2 sv since.length (flat since)] (Vi (DS.start (⟨secs, since, false, count, cut⟩ : DS)).1) [isRef q (DS.start (⟨secs, since, false, count, cut⟩ : DS)).2] := by
 refine Con.of func22 rfl ntmps22 rfl (fun F => ?_)
 refine Wc.a 1 rfl (Wc.seq (Wc.b 2 rfl (Wl.q (q_field fo_60_2 rfl rfl) (Wl.q (q_c 0 sc_4 rfl rfl rfl) (Wl.q (q_not rfl rfl) (Wl.dg (Wc.yes rfl (Wc.a 1 rfl (Wc.ret (Wx.thenRet (Wx.f1 rfl (fun w hs => ?_))))))))))))
 have e : DS.start (⟨secs, since, false, count, cut⟩ : DS) = (8, (⟨secs, since, false, count, cut⟩ : DS)) := rfl
 rw [e]
 exact ⟨(), trivial, rfl, isRef_mk hr rfl hs⟩
theorem rstart_c (W0 : World) (q : Nat) (d : DS) :
  Con1 prog W0 22 #[Vp q] [isRef q d] (Vi d.start.1) [isRef q d.start.2] := by
 obtain ⟨secs, since, down, count, cut⟩ := d
 refine Con.ref (fun bd cd sv lv bv hr => ?_)
 cases down
 · exact rstart_up W0 q bd cd secs since count sv lv bv cut hr
 · exact rstart_down W0 q bd cd secs since count sv lv bv cut hr
theorem rcut_down (W0 : World) (q bd cd : Nat) (secs : List ByteArray) (since : List (Nat × ByteArray)) (count : Nat) (sv : Value) (lv bv : Int) (cut : Option (Nat × Int)) (hr : refR lv bv cut) (m bb : Int) :
  Con1 prog W0 18 #[Vp q, Vi m, Vi bb] [pt q 60 [Vl bd secs.length cd, sv, Vt, Vi lv, Vi bv, Vi ((count : Nat) : Int)], slp 9 1 bd cd (secs.map Value.string), sl 166 2 sv since.length (flat since)] (Vi (DS.cutTo (⟨secs, since, true, count, cut⟩ : DS) m bb).1) [isRef q (DS.cutTo (⟨secs, since, true, count, cut⟩ : DS) m bb).2] := by
 refine Con.of func18 rfl ntmps18 rfl (fun F => ?_)
 refine Wc.a 1 rfl (Wc.seq (Wc.b 2 rfl (Wl.q (q_field fo_60_2 rfl rfl) (Wl.q (q_c 0 sc_4 rfl rfl rfl) (Wl.dg (Wc.yes rfl (Wc.a 1 rfl (Wc.ret (Wx.thenRet (Wx.f1 rfl (fun w hs => ?_)))))))))))
 have e : DS.cutTo (⟨secs, since, true, count, cut⟩ : DS) m bb = (6, (⟨secs, since, true, count, cut⟩ : DS)) := rfl
 rw [e]
 exact ⟨(), trivial, rfl, isRef_mk hr rfl hs⟩
theorem rcut_up (W0 : World) (q bd cd : Nat) (secs : List ByteArray) (since : List (Nat × ByteArray)) (count : Nat) (sv : Value) (lv bv : Int) (cut : Option (Nat × Int)) (hr : refR lv bv cut) (m bb : Int) :
  Con1 prog W0 18 #[Vp q, Vi m, Vi bb] [pt q 60 [Vl bd secs.length cd, sv, Vf, Vi lv, Vi bv, Vi ((count : Nat) : Int)], slp 9 1 bd cd (secs.map Value.string), sl 166 2 sv since.length (flat since)] (Vi (DS.cutTo (⟨secs, since, false, count, cut⟩ : DS) m bb).1) [isRef q (DS.cutTo (⟨secs, since, false, count, cut⟩ : DS) m bb).2] := by
 refine Con.of func18 rfl ntmps18 rfl (fun F => ?_)
 show Wc _ W0 _ _ _ _ _ ((pt q 60 [Vl bd secs.length cd, sv, Vf, Vi lv, Vi bv, Vi ((count : Nat) : Int)]) :: (slp 9 1 bd cd (secs.map Value.string)) :: (sl 166 2 sv since.length (flat since)) :: F)
 refine Wc.a 1 rfl (Wc.seq (Wc.b 2 rfl (Wl.q (q_field fo_60_2 rfl rfl) (Wl.q (q_c 0 sc_4 rfl rfl rfl) (Wl.dg (Wc.no rfl (Wc.skip (Wx.go (Wc.seq (Wc.b 1 rfl ?_))))))))))
 by_cases hneg : m < 0
 ·
  refine Wl.q (q_lss rfl rfl (dt hneg)) (Wl.dg (Wc.yes rfl (Wc.a 1 rfl (Wc.ret (Wx.thenRet (Wx.f1 rfl (fun w hs => ?_)))))))
  have e : DS.cutTo (⟨secs, since, false, count, cut⟩ : DS) m bb = (1, (⟨secs, since, false, count, cut⟩ : DS)) := by simp only [DS.cutTo]; rw [if_neg (by decide), if_pos hneg]
  rw [e]
  exact ⟨(), trivial, rfl, isRef_mk hr rfl hs⟩
 ·
  refine Wl.q (q_lss rfl rfl (df hneg)) (Wl.dg (Wc.no rfl (Wc.skip (Wx.go (Wc.b 5 rfl (Wl.q (q_field fo_60_3 rfl rfl) (Wl.e (e_store (i := 0) (v := Vi m) sz_3 rfl rfl (fun _ _ => rfl) rfl (by simp)) (fun _ _ => Wl.run 1 rfl (Wl.q (q_field fo_60_4 rfl rfl) (Wl.e (e_store (i := 0) (v := Vi bb) sz_2 rfl rfl (fun _ _ => rfl) rfl (by simp)) (fun _ _ => Wl.dg (Wc.a 1 rfl (Wc.ret (Wx.f1 rfl (fun w hs => ?_)))))))))))))))
  have e : DS.cutTo (⟨secs, since, false, count, cut⟩ : DS) m bb = (0, ⟨secs, since, false, count, some (m.toNat, bb)⟩) := by simp only [DS.cutTo]; rw [if_neg (by decide), if_neg hneg]
  rw [e]
  exact ⟨(), trivial, rfl, isRef_mk ⟨by omega, rfl⟩ rfl hs⟩
theorem rcut_c (W0 : World) (q : Nat) (d : DS) (m bb : Int) :
  Con1 prog W0 18 #[Vp q, Vi m, Vi bb] [isRef q d] (Vi (d.cutTo m bb).1) [isRef q (d.cutTo m bb).2] := by
 obtain ⟨secs, since, down, count, cut⟩ := d
 refine Con.ref (fun bd cd sv lv bv hr => ?_)
 cases down
 · exact rcut_up W0 q bd cd secs since count sv lv bv cut hr m bb
 · exact rcut_down W0 q bd cd secs since count sv lv bv cut hr m bb
theorem rwrite_down (W0 : World) (q bd cd : Nat) (secs : List ByteArray) (since : List (Nat × ByteArray)) (count : Nat) (sv : Value) (lv bv : Int) (cut : Option (Nat × Int)) (hr : refR lv bv cut) (at_ : Int) (s : ByteArray) :
  Con1 prog W0 188 #[Vp q, Vi at_, Vs s] [pt q 60 [Vl bd secs.length cd, sv, Vt, Vi lv, Vi bv, Vi ((count : Nat) : Int)], slp 9 1 bd cd (secs.map Value.string), sl 166 2 sv since.length (flat since)] (Vi (DS.write (⟨secs, since, true, count, cut⟩ : DS) at_ s).1) [isRef q (DS.write (⟨secs, since, true, count, cut⟩ : DS) at_ s).2] := by
 refine Con.of func188 rfl ntmps188 rfl (fun F => ?_)
 refine Wc.a 1 rfl (Wc.seq (Wc.b 2 rfl (Wl.q (q_field fo_60_2 rfl rfl) (Wl.q (q_c 0 sc_4 rfl rfl rfl) (Wl.dg (Wc.yes rfl (Wc.a 1 rfl (Wc.ret (Wx.thenRet (Wx.f1 rfl (fun w hs => ?_)))))))))))
 have e : DS.write (⟨secs, since, true, count, cut⟩ : DS) at_ s = (6, (⟨secs, since, true, count, cut⟩ : DS)) := rfl
 rw [e]
 exact ⟨(), trivial, rfl, isRef_mk hr rfl hs⟩
theorem rwrite_none (W0 : World) (q bd cd : Nat) (secs : List ByteArray) (since : List (Nat × ByteArray)) (count : Nat) (sv : Value) (bv : Int) (at_ : Int) (s : ByteArray) (hw : WFl secs since) (hsince : since.length < 1099511627776) (hcount : count < 4611686018427387904) :
  Con1 prog W0 188 #[Vp q, Vi at_, Vs s] [pt q 60 [Vl bd secs.length cd, sv, Vf, Vi (-1), Vi bv, Vi ((count : Nat) : Int)], slp 9 1 bd cd (secs.map Value.string), sl 166 2 sv since.length (flat since)] (Vi (DS.write (⟨secs, since, false, count, none⟩ : DS) at_ s).1) [isRef q (DS.write (⟨secs, since, false, count, none⟩ : DS) at_ s).2] := by
 refine Con.of func188 rfl ntmps188 rfl (fun F => ?_)
 show Wc _ W0 _ _ _ _ _ ((pt q 60 [Vl bd secs.length cd, sv, Vf, Vi (-1), Vi bv, Vi ((count : Nat) : Int)]) :: (slp 9 1 bd cd (secs.map Value.string)) :: (sl 166 2 sv since.length (flat since)) :: F)
 refine Wc.a 1 rfl (Wc.seq (Wc.b 2 rfl (Wl.q (q_field fo_60_2 rfl rfl) (Wl.q (q_c 0 sc_4 rfl rfl rfl) (Wl.dg (Wc.no rfl (Wc.skip (Wx.go (Wc.seq (Wc.b 1 rfl ?_))))))))))
 by_cases hneg : at_ < 0
 ·
  refine Wl.q (q_lss rfl rfl (dt hneg)) (Wl.rg 14 rfl (Wc.yes rfl (Wc.a 1 rfl (Wc.ret (Wx.thenRet (Wx.f1 rfl (fun w hs => ?_)))))))
  have e : DS.write (⟨secs, since, false, count, none⟩ : DS) at_ s = (1, (⟨secs, since, false, count, none⟩ : DS)) := write_bad rfl (by first | exact .inl hneg | exact .inr (.inl hge) | exact .inr (.inr hsz))
  rw [e]
  exact ⟨(), trivial, rfl, isRef_mk (lv := -1) rfl rfl hs⟩
 ·
  obtain ⟨a, rfl⟩ := Int.eq_ofNat_of_zero_le (Int.not_lt.1 hneg)
  refine Wl.q (q_lss rfl rfl (df hneg)) (Wl.run 4 rfl (Wl.q (q_field fo_60_0 rfl rfl) (Wl.q (q_c 0 sc_57 rfl rfl rfl) (Wl.q (q_len_slice underlying57 rfl) ?_))))
  by_cases hge : ((a : Nat) : Int) ≥ ((secs.length : Nat) : Int)
  ·
   refine Wl.q (q_geq rfl rfl (dt hge)) (Wl.rg 6 rfl (Wc.yes rfl (Wc.a 1 rfl (Wc.ret (Wx.thenRet (Wx.f1 rfl (fun w hs => ?_)))))))
   have e : DS.write (⟨secs, since, false, count, none⟩ : DS) ((a : Nat) : Int) s = (1, (⟨secs, since, false, count, none⟩ : DS)) := write_bad rfl (by first | exact .inl hneg | exact .inr (.inl hge) | exact .inr (.inr hsz))
   rw [e]
   exact ⟨(), trivial, rfl, isRef_mk (lv := -1) rfl rfl hs⟩
  ·
   refine Wl.q (q_geq rfl rfl (df hge)) (Wl.run 3 rfl (Wl.q (q_len_str underlying9 rfl) ?_))
   by_cases hsz : ((s.size : Nat) : Int) = 64
   ·
    refine Wl.q (q_neq rfl rfl (dt hsz)) (Wl.rg 1 rfl (Wc.no rfl (Wc.skip (Wx.go (Wc.seq (Wc.b 1 rfl (Wl.e (e_c call283 (rdoes_none W0 q bd cd secs since count sv (Vi bv) hcount)) (fun _ _ => Wl.q (q_not rfl rfl) (Wl.dg (Wc.no rfl (Wc.skip (Wx.go (Wc.b 3 rfl (Wl.q (q_field fo_60_1 rfl rfl) (Wl.q (q_c 0 sc_58 rfl rfl rfl) (Wl.run 2 rfl (Wl.q (v := Value.agg #[Vi ((a : Nat) : Int), Vs s]) (q_build (pl := [(0, 1), (1, 1)]) underlying166 zo_166 (by kernel_rfl) (by kernel_rfl)) (Wl.e (e_buildSlice (cs := [Vi ((a : Nat) : Int), Vs s]) se_58 zo_166 (by decide) (by decide) (by kernel_rfl)) (fun b1 _ => Wl.e (e_append (i := 3) (k := 2) (m := 1) (off := 0) (news := [Vi ((a : Nat) : Int), Vs s]) underlying58 sz_166 by_166 zo_166 rfl rfl rfl rfl rfl (Has.of_pt (i := 0) rfl rfl) rfl (by decide) (by simp only [maxLen]; omega) (by omega)) (fun v2 _ => Wl.run 1 rfl (Wl.q (q_field fo_60_1 rfl rfl) (Wl.e (e_store (i := 1) (v := v2) sz_58 rfl rfl (fun _ h => sl_one (i := 3) h rfl) rfl (by simp)) (fun _ _ => Wl.dg ?_)))))))))))))))))))))))
    refine Wc.a 1 rfl (Wc.ret (Wx.f1 rfl (fun w hs => ?_)))
    have e : DS.write (⟨secs, since, false, count, none⟩ : DS) ((a : Nat) : Int) s = (0, ⟨secs, since ++ [(a, s)], false, count + 1, none⟩) := by rw [write_ok rfl hge hsz]; rfl
    rw [e]
    exact ⟨(), trivial, rfl, isRef_mk (lv := -1) rfl rfl (by simp only [flat_snoc, List.length_append, List.length_singleton]; exact (st_drop (st_pull [0] hs)))⟩
   ·
    refine Wl.q (q_neq rfl rfl (df hsz)) (Wl.rg 1 rfl (Wc.yes rfl (Wc.a 1 rfl (Wc.ret (Wx.thenRet (Wx.f1 rfl (fun w hs => ?_)))))))
    have e : DS.write (⟨secs, since, false, count, none⟩ : DS) ((a : Nat) : Int) s = (1, (⟨secs, since, false, count, none⟩ : DS)) := write_bad rfl (by first | exact .inl hneg | exact .inr (.inl hge) | exact .inr (.inr hsz))
    rw [e]
    exact ⟨(), trivial, rfl, isRef_mk (lv := -1) rfl rfl hs⟩
theorem rwrite_cutS (W0 : World) (q bd cd : Nat) (secs : List ByteArray) (since : List (Nat × ByteArray)) (count : Nat) (sv : Value) (n : Nat) (bits : Int) (at_ : Int) (s : ByteArray) (hw : WFl secs since) (hsince : since.length < 1099511627776) (hcount : count < 4611686018427387904) (hn : n < 9223372036854775807) :
  Con1 prog W0 188 #[Vp q, Vi at_, Vs s] [pt q 60 [Vl bd secs.length cd, sv, Vf, Vi (((n + 1) : Nat) : Int), Vi bits, Vi ((count : Nat) : Int)], slp 9 1 bd cd (secs.map Value.string), sl 166 2 sv since.length (flat since)] (Vi (DS.write (⟨secs, since, false, count, (some (n + 1, bits))⟩ : DS) at_ s).1) [isRef q (DS.write (⟨secs, since, false, count, (some (n + 1, bits))⟩ : DS) at_ s).2] := by
 refine Con.of func188 rfl ntmps188 rfl (fun F => ?_)
 show Wc _ W0 _ _ _ _ _ ((pt q 60 [Vl bd secs.length cd, sv, Vf, Vi (((n + 1) : Nat) : Int), Vi bits, Vi ((count : Nat) : Int)]) :: (slp 9 1 bd cd (secs.map Value.string)) :: (sl 166 2 sv since.length (flat since)) :: F)
 refine Wc.a 1 rfl (Wc.seq (Wc.b 2 rfl (Wl.q (q_field fo_60_2 rfl rfl) (Wl.q (q_c 0 sc_4 rfl rfl rfl) (Wl.dg (Wc.no rfl (Wc.skip (Wx.go (Wc.seq (Wc.b 1 rfl ?_))))))))))
 by_cases hneg : at_ < 0
 ·
  refine Wl.q (q_lss rfl rfl (dt hneg)) (Wl.rg 14 rfl (Wc.yes rfl (Wc.a 1 rfl (Wc.ret (Wx.thenRet (Wx.f1 rfl (fun w hs => ?_)))))))
  have e : DS.write (⟨secs, since, false, count, (some (n + 1, bits))⟩ : DS) at_ s = (1, (⟨secs, since, false, count, (some (n + 1, bits))⟩ : DS)) := write_bad rfl (by first | exact .inl hneg | exact .inr (.inl hge) | exact .inr (.inr hsz))
  rw [e]
  exact ⟨(), trivial, rfl, isRef_mk (lv := ((n + 1 : Nat) : Int)) ⟨rfl, rfl⟩ rfl hs⟩
 ·
  obtain ⟨a, rfl⟩ := Int.eq_ofNat_of_zero_le (Int.not_lt.1 hneg)
  refine Wl.q (q_lss rfl rfl (df hneg)) (Wl.run 4 rfl (Wl.q (q_field fo_60_0 rfl rfl) (Wl.q (q_c 0 sc_57 rfl rfl rfl) (Wl.q (q_len_slice underlying57 rfl) ?_))))
  by_cases hge : ((a : Nat) : Int) ≥ ((secs.length : Nat) : Int)
  ·
   refine Wl.q (q_geq rfl rfl (dt hge)) (Wl.rg 6 rfl (Wc.yes rfl (Wc.a 1 rfl (Wc.ret (Wx.thenRet (Wx.f1 rfl (fun w hs => ?_)))))))
   have e : DS.write (⟨secs, since, false, count, (some (n + 1, bits))⟩ : DS) ((a : Nat) : Int) s = (1, (⟨secs, since, false, count, (some (n + 1, bits))⟩ : DS)) := write_bad rfl (by first | exact .inl hneg | exact .inr (.inl hge) | exact .inr (.inr hsz))
   rw [e]
   exact ⟨(), trivial, rfl, isRef_mk (lv := ((n + 1 : Nat) : Int)) ⟨rfl, rfl⟩ rfl hs⟩
  ·
   refine Wl.q (q_geq rfl rfl (df hge)) (Wl.run 3 rfl (Wl.q (q_len_str underlying9 rfl) ?_))
   by_cases hsz : ((s.size : Nat) : Int) = 64
   ·
    refine Wl.q (q_neq rfl rfl (dt hsz)) (Wl.rg 1 rfl (Wc.no rfl (Wc.skip (Wx.go (Wc.seq (Wc.b 1 rfl (Wl.e (e_c call283 (rdoes_cutS W0 q bd cd secs since count sv bits hcount n hn)) (fun _ _ => Wl.q (q_not rfl rfl) (Wl.dg (Wc.no rfl (Wc.skip (Wx.go (Wc.b 3 rfl (Wl.q (q_field fo_60_1 rfl rfl) (Wl.q (q_c 0 sc_58 rfl rfl rfl) (Wl.run 2 rfl (Wl.q (v := Value.agg #[Vi ((a : Nat) : Int), Vs s]) (q_build (pl := [(0, 1), (1, 1)]) underlying166 zo_166 (by kernel_rfl) (by kernel_rfl)) (Wl.e (e_buildSlice (cs := [Vi ((a : Nat) : Int), Vs s]) se_58 zo_166 (by decide) (by decide) (by kernel_rfl)) (fun b1 _ => Wl.e (e_append (i := 3) (k := 2) (m := 1) (off := 0) (news := [Vi ((a : Nat) : Int), Vs s]) underlying58 sz_166 by_166 zo_166 rfl rfl rfl rfl rfl (Has.of_pt (i := 0) rfl rfl) rfl (by decide) (by simp only [maxLen]; omega) (by omega)) (fun v2 _ => Wl.run 1 rfl (Wl.q (q_field fo_60_1 rfl rfl) (Wl.e (e_store (i := 1) (v := v2) sz_58 rfl rfl (fun _ h => sl_one (i := 3) h rfl) rfl (by simp)) (fun _ _ => Wl.dg ?_)))))))))))))))))))))))
    refine Wc.a 1 rfl (Wc.ret (Wx.f1 rfl (fun w hs => ?_)))
    have e : DS.write (⟨secs, since, false, count, (some (n + 1, bits))⟩ : DS) ((a : Nat) : Int) s = (0, ⟨secs, since ++ [(a, s)], false, count + 1, (some (n, bits))⟩) := by rw [write_ok rfl hge hsz]; rfl
    rw [e]
    exact ⟨(), trivial, rfl, isRef_mk (lv := ((n : Nat) : Int)) ⟨rfl, rfl⟩ rfl (by simp only [flat_snoc, List.length_append, List.length_singleton]; exact (st_drop (st_pull [0] hs)))⟩
   ·
    refine Wl.q (q_neq rfl rfl (df hsz)) (Wl.rg 1 rfl (Wc.yes rfl (Wc.a 1 rfl (Wc.ret (Wx.thenRet (Wx.f1 rfl (fun w hs => ?_)))))))
    have e : DS.write (⟨secs, since, false, count, (some (n + 1, bits))⟩ : DS) ((a : Nat) : Int) s = (1, (⟨secs, since, false, count, (some (n + 1, bits))⟩ : DS)) := write_bad rfl (by first | exact .inl hneg | exact .inr (.inl hge) | exact .inr (.inr hsz))
    rw [e]
    exact ⟨(), trivial, rfl, isRef_mk (lv := ((n + 1 : Nat) : Int)) ⟨rfl, rfl⟩ rfl hs⟩
theorem rwrite_cut0 (W0 : World) (q bd cd : Nat) (secs : List ByteArray) (since : List (Nat × ByteArray)) (count : Nat) (sv : Value) (bits : Int) (at_ : Int) (s : ByteArray) (hw : WFl secs since) (hsince : since.length < 1099511627776) (hcount : count < 4611686018427387904) :
  Con1 prog W0 188 #[Vp q, Vi at_, Vs s] [pt q 60 [Vl bd secs.length cd, sv, Vf, Vi 0, Vi bits, Vi ((count : Nat) : Int)], slp 9 1 bd cd (secs.map Value.string), sl 166 2 sv since.length (flat since)] (Vi (DS.write (⟨secs, since, false, count, (some (0, bits))⟩ : DS) at_ s).1) [isRef q (DS.write (⟨secs, since, false, count, (some (0, bits))⟩ : DS) at_ s).2] := by
 refine Con.of func188 rfl ntmps188 rfl (fun F => ?_)
 show Wc _ W0 _ _ _ _ _ ((pt q 60 [Vl bd secs.length cd, sv, Vf, Vi 0, Vi bits, Vi ((count : Nat) : Int)]) :: (slp 9 1 bd cd (secs.map Value.string)) :: (sl 166 2 sv since.length (flat since)) :: F)
 refine Wc.a 1 rfl (Wc.seq (Wc.b 2 rfl (Wl.q (q_field fo_60_2 rfl rfl) (Wl.q (q_c 0 sc_4 rfl rfl rfl) (Wl.dg (Wc.no rfl (Wc.skip (Wx.go (Wc.seq (Wc.b 1 rfl ?_))))))))))
 by_cases hneg : at_ < 0
 ·
  refine Wl.q (q_lss rfl rfl (dt hneg)) (Wl.rg 14 rfl (Wc.yes rfl (Wc.a 1 rfl (Wc.ret (Wx.thenRet (Wx.f1 rfl (fun w hs => ?_)))))))
  have e : DS.write (⟨secs, since, false, count, (some (0, bits))⟩ : DS) at_ s = (1, (⟨secs, since, false, count, (some (0, bits))⟩ : DS)) := write_bad rfl (by first | exact .inl hneg | exact .inr (.inl hge) | exact .inr (.inr hsz))
  rw [e]
  exact ⟨(), trivial, rfl, isRef_mk (lv := 0) ⟨rfl, rfl⟩ rfl hs⟩
 ·
  obtain ⟨a, rfl⟩ := Int.eq_ofNat_of_zero_le (Int.not_lt.1 hneg)
  refine Wl.q (q_lss rfl rfl (df hneg)) (Wl.run 4 rfl (Wl.q (q_field fo_60_0 rfl rfl) (Wl.q (q_c 0 sc_57 rfl rfl rfl) (Wl.q (q_len_slice underlying57 rfl) ?_))))
  by_cases hge : ((a : Nat) : Int) ≥ ((secs.length : Nat) : Int)
  ·
   refine Wl.q (q_geq rfl rfl (dt hge)) (Wl.rg 6 rfl (Wc.yes rfl (Wc.a 1 rfl (Wc.ret (Wx.thenRet (Wx.f1 rfl (fun w hs => ?_)))))))
   have e : DS.write (⟨secs, since, false, count, (some (0, bits))⟩ : DS) ((a : Nat) : Int) s = (1, (⟨secs, since, false, count, (some (0, bits))⟩ : DS)) := write_bad rfl (by first | exact .inl hneg | exact .inr (.inl hge) | exact .inr (.inr hsz))
   rw [e]
   exact ⟨(), trivial, rfl, isRef_mk (lv := 0) ⟨rfl, rfl⟩ rfl hs⟩
  ·
   refine Wl.q (q_geq rfl rfl (df hge)) (Wl.run 3 rfl (Wl.q (q_len_str underlying9 rfl) ?_))
   by_cases hsz : ((s.size : Nat) : Int) = 64
   ·
    refine Wl.q (q_neq rfl rfl (dt hsz)) (Wl.rg 1 rfl (Wc.no rfl (Wc.skip (Wx.go (Wc.seq (Wc.b 1 rfl (Wl.pull [0, 1, 0] (Wl.e (e_c call283 (rdoes_cut0 W0 q bd cd secs since count sv bits hcount hw hsince)) (fun _ _ => Wl.q (q_not rfl rfl) (Wl.dg (Wc.yes rfl (Wc.a 1 rfl (Wc.ret (Wx.thenRet (Wx.f1 rfl (fun w hs => ?_))))))))))))))))
    have e : DS.write (⟨secs, since, false, count, (some (0, bits))⟩ : DS) ((a : Nat) : Int) s = (6, ⟨fallL secs (since.take 31) bits, [], true, count, none⟩) := by rw [write_ok rfl hge hsz]; rfl
    rw [e]
    exact ⟨(), trivial, rfl, isRef_mk (lv := -1) rfl (fallL_length _ _ _).symm (st_pull [1, 1] (st_sl_nil hs))⟩
   ·
    refine Wl.q (q_neq rfl rfl (df hsz)) (Wl.rg 1 rfl (Wc.yes rfl (Wc.a 1 rfl (Wc.ret (Wx.thenRet (Wx.f1 rfl (fun w hs => ?_)))))))
    have e : DS.write (⟨secs, since, false, count, (some (0, bits))⟩ : DS) ((a : Nat) : Int) s = (1, (⟨secs, since, false, count, (some (0, bits))⟩ : DS)) := write_bad rfl (by first | exact .inl hneg | exact .inr (.inl hge) | exact .inr (.inr hsz))
    rw [e]
    exact ⟨(), trivial, rfl, isRef_mk (lv := 0) ⟨rfl, rfl⟩ rfl hs⟩
theorem rwrite_c (W0 : World) (q : Nat) (d : DS) (at_ : Int) (s : ByteArray) (hw : WF d) (hsince : d.since.length < 1099511627776) (hcount : d.count < 4611686018427387904) :
    Con1 prog W0 188 #[Vp q, Vi at_, Vs s] [isRef q d] (Vi (d.write at_ s).1) [isRef q (d.write at_ s).2] := by
  obtain ⟨secs, since, down, count, cut⟩ := d
  refine Con.ref (fun bd cd sv lv bv hr => ?_)
  cases down
  · cases cut with
    | none => obtain rfl : lv = -1 := hr; exact rwrite_none W0 q bd cd secs since count sv bv at_ s hw.l hsince hcount
    | some c =>
      obtain ⟨m, b⟩ := c
      obtain ⟨rfl, rfl⟩ := hr
      cases m with
      | zero => exact rwrite_cut0 W0 q bd cd secs since count sv _ at_ s hw.l hsince hcount
      | succ n => exact rwrite_cutS W0 q bd cd secs since count sv n _ at_ s hw.l hsince hcount (by have := hw.left _ _ rfl; omega)
  · exact rwrite_down W0 q bd cd secs since count sv lv bv cut hr at_ s
theorem rsync_down (W0 : World) (q bd cd : Nat) (secs : List ByteArray) (since : List (Nat × ByteArray)) (count : Nat) (sv : Value) (lv bv : Int) (cut : Option (Nat × Int)) (hr : refR lv bv cut) :
  Con1 prog W0 189 #[Vp q] [pt q 60 [Vl bd secs.length cd, sv, Vt, Vi lv, Vi bv, Vi ((count : Nat) : Int)], slp 9 1 bd cd (secs.map Value.string), sl 166 2 sv since.length (flat since)] (Vi (DS.sync (⟨secs, since, true, count, cut⟩ : DS)).1) [isRef q (DS.sync (⟨secs, since, true, count, cut⟩ : DS)).2] := by
 refine Con.of func189 rfl ntmps189 rfl (fun F => ?_)
 refine Wc.a 1 rfl (Wc.seq (Wc.b 2 rfl (Wl.q (q_field fo_60_2 rfl rfl) (Wl.q (q_c 0 sc_4 rfl rfl rfl) (Wl.rg 5 rfl (Wc.yes rfl (Wc.a 1 rfl (Wc.ret (Wx.thenRet (Wx.f1 rfl (fun w hs => ?_)))))))))))
 have e : DS.sync (⟨secs, since, true, count, cut⟩ : DS) = (6, (⟨secs, since, true, count, cut⟩ : DS)) := rfl
 rw [e]
 exact ⟨(), trivial, rfl, isRef_mk hr rfl hs⟩
theorem rsync_cut0 (W0 : World) (q bd cd : Nat) (secs : List ByteArray) (since : List (Nat × ByteArray)) (count : Nat) (sv : Value) (bits : Int) (hw : WFl secs since) (hsince : since.length < 1099511627776) (hcount : count < 4611686018427387904) :
  Con1 prog W0 189 #[Vp q] [pt q 60 [Vl bd secs.length cd, sv, Vf, Vi 0, Vi bits, Vi ((count : Nat) : Int)], slp 9 1 bd cd (secs.map Value.string), sl 166 2 sv since.length (flat since)] (Vi (DS.sync (⟨secs, since, false, count, (some (0, bits))⟩ : DS)).1) [isRef q (DS.sync (⟨secs, since, false, count, (some (0, bits))⟩ : DS)).2] := by
 refine Con.of func189 rfl ntmps189 rfl (fun F => ?_)
 show Wc _ W0 _ _ _ _ _ ((pt q 60 [Vl bd secs.length cd, sv, Vf, Vi 0, Vi bits, Vi ((count : Nat) : Int)]) :: (slp 9 1 bd cd (secs.map Value.string)) :: (sl 166 2 sv since.length (flat since)) :: F)
 refine Wc.a 1 rfl (Wc.seq (Wc.b 2 rfl (Wl.q (q_field fo_60_2 rfl rfl) (Wl.q (q_c 0 sc_4 rfl rfl rfl) (Wl.run 2 rfl (Wl.pull [0, 1, 0] (Wl.e (e_c call283 (rdoes_cut0 W0 q bd cd secs since count sv bits hcount hw hsince)) (fun _ _ => Wl.q (q_not rfl rfl) (Wl.rg 1 rfl (Wc.yes rfl (Wc.a 1 rfl (Wc.ret (Wx.thenRet (Wx.f1 rfl (fun w hs => ?_)))))))))))))))
 have e : DS.sync (⟨secs, since, false, count, (some (0, bits))⟩ : DS) = (6, ⟨fallL secs (since.take 31) bits, [], true, count, none⟩) := rfl
 rw [e]
 exact ⟨(), trivial, rfl, isRef_mk (lv := -1) rfl (fallL_length _ _ _).symm (st_pull [1, 1] (st_sl_nil hs))⟩
theorem rsync_none_blk (W0 : World) (q bd cd : Nat) (secs : List ByteArray) (since : List (Nat × ByteArray)) (count : Nat) (bv : Int) (hw : WFl secs since) (hsince : since.length < 1099511627776) (hcount : count < 4611686018427387904) (b cap : Nat) (hcap : since.length ≤ cap) :
    Con1 prog W0 189 #[Vp q] [slp 166 2 b cap (flat since), pt q 60 [Vl bd secs.length cd, Vl b since.length cap, Vf, Vi (-1), Vi bv, Vi ((count : Nat) : Int)], slp 9 1 bd cd (secs.map Value.string)] (Vi (DS.sync (⟨secs, since, false, count, none⟩ : DS)).1) [isRef q (DS.sync (⟨secs, since, false, count, none⟩ : DS)).2] := by
  refine Con.of func189 rfl ntmps189 rfl (fun F => ?_)
  show Wc _ W0 _ _ _ _ _ ((slp 166 2 b cap (flat since)) :: (pt q 60 [Vl bd secs.length cd, Vl b since.length cap, Vf, Vi (-1), Vi bv, Vi ((count : Nat) : Int)]) :: (slp 9 1 bd cd (secs.map Value.string)) :: F)
  refine Wc.a 1 rfl (Wc.seq (Wc.b 2 rfl (Wl.q (q_field fo_60_2 rfl rfl) (Wl.q (q_c 1 sc_4 rfl rfl rfl) (Wl.run 2 rfl (Wl.pull [1] (Wl.e (e_c call283 (rdoes_none W0 q bd cd secs since count (Vl b since.length cap) (Vi bv) hcount)) (fun _ _ => Wl.q (q_not rfl rfl) (Wl.rg 1 rfl (Wc.no rfl (Wc.skip (Wx.go (Wc.seq (Wc.a 1 rfl (Wc.block ?_)))))))))))))))
  refine Wc.loop (X := Nat × List ByteArray) (fun (k, ss) E => E 3 = Vi ((k : Nat) : Int) ∧ E 0 = Vp q ∧ syncL ss (since.drop k) = syncL secs since ∧ ss.length = secs.length ∧ k ≤ since.length) (fun (k, ss) => (slp 166 2 b cap (flat since)) :: (pt q 60 [Vl bd secs.length cd, Vl b since.length cap, Vf, Vi (-1), Vi bv, Vi (((count + 1) : Nat) : Int)]) :: (slp 9 1 bd cd (ss.map Value.string)) :: F) (fun (k, ss) => since.length - k) (0, secs) ?_ ?_ ?_
  · exact ⟨rfl, rfl, rfl, rfl, (by omega)⟩
  · exact fun w hs => (st_pull [1, 0, 0] (hs))
  · rintro ⟨k, ss⟩ E2 ⟨hE3_0, hE0_0, hp0, hp1, hp3⟩
    dsimp only at *
    refine Wc.seq (Wc.sr (Wl.q (v := Vi ((k : Nat) : Int)) (q_move hE3_0) (Wl.q (v := Vp q) (q_move hE0_0) (Wl.run 1 rfl (Wl.q (q_field fo_60_1 rfl rfl) (Wl.q (q_c 1 sc_58 rfl rfl rfl) (Wl.q (q_len_slice underlying58 rfl) ?_)))))))
    by_cases hlt : ((k : Nat) : Int) < ((since.length : Nat) : Int)
    ·
      obtain ⟨⟨a, s⟩, hget⟩ : ∃ q, since[k]? = some q := ⟨since[k]'(by omega), by simp [List.getElem?_eq_getElem (show k < since.length by omega)]⟩
      have hmem := List.mem_of_getElem? hget
      have ha : a < ss.length := by have := hw.at_ _ hmem; simp only at this; omega
      refine Wl.q (q_lss rfl rfl (dt hlt)) (Wl.dg (Wc.yes rfl (Wc.skip (Wx.go (Wc.seq (Wc.block (Wc.drawsS [21] ((slp 166 2 b cap (flat since)) :: (pt q 60 [Vl bd secs.length cd, Vl b since.length cap, Vf, Vi (-1), Vi bv, Vi (((count + 1) : Nat) : Int)]) :: (slp 9 1 bd cd (ss.map Value.string)) :: []) (by kernel_rfl) (Wr.p 0 oo3 rfl (q_move hE0_0) (Wr.p 1 oo3 rfl (q_nil_ptr rfl) (Wr.p 2 oo3 rfl (q_field fo_60_0 rfl rfl) (Wr.t 3 oo3 rfl (q_c 1 sc_57 rfl rfl rfl) (Wr.p 4 oo3 rfl (q_move hE0_0) (Wr.p 5 oo3 rfl (q_nil_ptr rfl) (Wr.p 6 oo3 rfl (q_field fo_60_1 rfl rfl) (Wr.t 7 oo3 rfl (q_c 1 sc_58 rfl rfl rfl) (Wr.p 8 oo3 rfl (q_move hE3_0) (Wr.p 9 oo3 rfl (q_idx (m := k * 2) se_58 rfl rfl (by omega) (by omega) (by simp)) (Wr.p 10 oo3 rfl (q_field (m := k * 2) fo_166_0 rfl rfl) (Wr.t (v := Vi ((a : Nat) : Int)) 11 oo3 rfl (q_load sc_3 rfl (flat_has (i := 0) rfl hget 0 _ rfl)) (Wr.p 12 oo3 rfl (q_move hE0_0) (Wr.p 13 oo3 rfl (q_nil_ptr rfl) (Wr.p 14 oo3 rfl (q_field fo_60_1 rfl rfl) (Wr.t 15 oo3 rfl (q_c 1 sc_58 rfl rfl rfl) ?_)))))))))))))))))))))))
      refine Wr.p 16 oo3 rfl (q_move hE3_0) (Wr.p 17 oo3 rfl (q_idx (m := k * 2) se_58 rfl rfl (by omega) (by omega) (by simp)) (Wr.p 18 oo3 rfl (q_field (m := k * 2 + 1) fo_166_1 rfl rfl) (Wr.t (v := Vs s) 19 oo3 rfl (q_load sc_9 rfl (flat_has (i := 0) rfl hget 1 _ rfl)) (Wr.p 20 oo3 rfl (q_idx (m := a) se_57 rfl rfl (by omega) (by omega) (by simp)) (Wr.x0 21 rfl (e_store_slp (i := 2) (vs := [Vs s]) (c' := (ss.set a s).map Value.string) sz_9 rfl (congrArg Value.cells (rfl)) rfl rfl (by simp; omega) (splice_one ha)) (fun _ _ => Wr.rebaseS [] ((slp 166 2 b cap (flat since)) :: (pt q 60 [Vl bd secs.length cd, Vl b since.length cap, Vf, Vi (-1), Vi bv, Vi (((count + 1) : Nat) : Int)]) :: (slp 9 1 bd cd ((ss.set a s).map Value.string)) :: []) (by kernel_rfl) (Wr.z (Wx.blockEnd (Wx.go (Wc.region (Wl.q (v := Vi ((k : Nat) : Int)) (q_move hE3_0) (Wl.q (q_add (c := ((k + 1 : Nat) : Int)) rfl rfl (by rw [wrap_i64] <;> omega)) (Wl.run 1 rfl (Wl.done ?_))))))))))))))
      refine Wx.at (k + 1, ss.set a s) ⟨(by simp only; omega), rfl, hE0_0, (by rw [← hp0, sync_step hget]), (by simpa using hp1), (by omega)⟩ (fun w hs => hs)
    ·
      refine Wl.q (q_lss rfl rfl (df hlt)) (Wl.dg (Wc.no rfl (Wc.exit (Wx.thenExit (Wx.thenExit (Wx.out (Wx.go (Wc.sr (Wl.q (v := Vp q) (q_move hE0_0) (Wl.run 1 rfl (Wl.q (q_field fo_60_1 rfl rfl) (Wl.e (e_store (i := 1) (v := Vn) sz_58 rfl rfl (fun _ _ => rfl) rfl (by simp)) (fun _ _ => Wl.dg (Wc.a 1 rfl (Wc.ret (Wx.f1 rfl (fun w hs => ?_)))))))))))))))))
      have hend : k = since.length := by omega
      rw [hend, List.drop_length] at hp0
      simp only [syncL] at hp0
      have e : DS.sync (⟨secs, since, false, count, none⟩ : DS) = (0, ⟨syncL secs since, [], false, count + 1, none⟩) := rfl
      rw [e, ← hp0]
      exact ⟨(), trivial, rfl, isRef_mk (lv := -1) rfl hp1.symm (st_pull [1, 1] (st_sl_nil (st_drop (st_pull [0] hs))))⟩
theorem rsync_none_nil (W0 : World) (q bd cd : Nat) (secs : List ByteArray) (since : List (Nat × ByteArray)) (count : Nat) (bv : Int) (hw : WFl secs since) (hsince : since.length < 1099511627776) (hcount : count < 4611686018427387904) (hnil : since = []) :
    Con1 prog W0 189 #[Vp q] [pt q 60 [Vl bd secs.length cd, Vn, Vf, Vi (-1), Vi bv, Vi ((count : Nat) : Int)], slp 9 1 bd cd (secs.map Value.string)] (Vi (DS.sync (⟨secs, since, false, count, none⟩ : DS)).1) [isRef q (DS.sync (⟨secs, since, false, count, none⟩ : DS)).2] := by
  refine Con.of func189 rfl ntmps189 rfl (fun F => ?_)
  show Wc _ W0 _ _ _ _ _ ((pt q 60 [Vl bd secs.length cd, Vn, Vf, Vi (-1), Vi bv, Vi ((count : Nat) : Int)]) :: (slp 9 1 bd cd (secs.map Value.string)) :: F)
  refine Wc.a 1 rfl (Wc.seq (Wc.b 2 rfl (Wl.q (q_field fo_60_2 rfl rfl) (Wl.q (q_c 0 sc_4 rfl rfl rfl) (Wl.run 2 rfl (Wl.e (e_c call283 (rdoes_none W0 q bd cd secs since count (Vn) (Vi bv) hcount)) (fun _ _ => Wl.q (q_not rfl rfl) (Wl.rg 1 rfl (Wc.no rfl (Wc.skip (Wx.go (Wc.seq (Wc.a 1 rfl (Wc.block ?_))))))))))))))
  refine Wc.loop (X := Nat × List ByteArray) (fun (k, ss) E => E 3 = Vi ((k : Nat) : Int) ∧ E 0 = Vp q ∧ syncL ss (since.drop k) = syncL secs since ∧ ss.length = secs.length ∧ k ≤ since.length) (fun (k, ss) => (pt q 60 [Vl bd secs.length cd, Vn, Vf, Vi (-1), Vi bv, Vi (((count + 1) : Nat) : Int)]) :: (slp 9 1 bd cd (ss.map Value.string)) :: F) (fun (k, ss) => since.length - k) (0, secs) ?_ ?_ ?_
  · exact ⟨rfl, rfl, rfl, rfl, (by omega)⟩
  · exact fun w hs => hs
  · rintro ⟨k, ss⟩ E2 ⟨hE3_0, hE0_0, hp0, hp1, hp3⟩
    dsimp only at *
    have hsl : since.length = 0 := by rw [hnil]; rfl
    refine Wc.seq (Wc.sr (Wl.q (v := Vi ((k : Nat) : Int)) (q_move hE3_0) (Wl.q (v := Vp q) (q_move hE0_0) (Wl.run 1 rfl (Wl.q (q_field fo_60_1 rfl rfl) (Wl.q (q_c 0 sc_58 rfl rfl rfl) (Wl.q (q_len_slice underlying58 rfl) ?_)))))))
    by_cases hlt : ((k : Nat) : Int) < 0
    ·
      exfalso; omega
    ·
      refine Wl.q (q_lss rfl rfl (df hlt)) (Wl.dg (Wc.no rfl (Wc.exit (Wx.thenExit (Wx.thenExit (Wx.out (Wx.go (Wc.sr (Wl.q (v := Vp q) (q_move hE0_0) (Wl.run 1 rfl (Wl.q (q_field fo_60_1 rfl rfl) (Wl.e (e_store (i := 0) (v := Vn) sz_58 rfl rfl (fun _ _ => rfl) rfl (by simp)) (fun _ _ => Wl.dg (Wc.a 1 rfl (Wc.ret (Wx.f1 rfl (fun w hs => ?_)))))))))))))))))
      have hend : k = since.length := by omega
      rw [hend, List.drop_length] at hp0
      simp only [syncL] at hp0
      have e : DS.sync (⟨secs, since, false, count, none⟩ : DS) = (0, ⟨syncL secs since, [], false, count + 1, none⟩) := rfl
      rw [e, ← hp0]
      exact ⟨(), trivial, rfl, isRef_mk (lv := -1) rfl hp1.symm (st_pull [1, 1] (st_sl_nil hs))⟩
theorem rsync_none (W0 : World) (q bd cd : Nat) (secs : List ByteArray) (since : List (Nat × ByteArray)) (count : Nat) (sv : Value) (bv : Int) (hw : WFl secs since) (hsince : since.length < 1099511627776) (hcount : count < 4611686018427387904) :
  Con1 prog W0 189 #[Vp q] [pt q 60 [Vl bd secs.length cd, sv, Vf, Vi (-1), Vi bv, Vi ((count : Nat) : Int)], slp 9 1 bd cd (secs.map Value.string), sl 166 2 sv since.length (flat since)] (Vi (DS.sync (⟨secs, since, false, count, none⟩ : DS)).1) [isRef q (DS.sync (⟨secs, since, false, count, none⟩ : DS)).2] := by
 refine Con.pull (pre := [sl 166 2 sv since.length (flat since), pt q 60 [Vl bd secs.length cd, sv, Vf, Vi (-1), Vi bv, Vi ((count : Nat) : Int)], slp 9 1 bd cd (secs.map Value.string)]) [2] (fun _ => rfl) (Con.sl (fun e1 e2 e3 => ?_) (fun b cap e1 e2 e3 => ?_))
 · subst e1; exact rsync_none_nil W0 q bd cd secs since count bv hw hsince hcount (List.eq_nil_of_length_eq_zero e2)
 · subst e1; exact rsync_none_blk W0 q bd cd secs since count bv hw hsince hcount b cap e2
theorem rsync_cutS_blk (W0 : World) (q bd cd : Nat) (secs : List ByteArray) (since : List (Nat × ByteArray)) (count : Nat) (n : Nat) (bits : Int) (hw : WFl secs since) (hsince : since.length < 1099511627776) (hcount : count < 4611686018427387904) (hn : n < 9223372036854775807) (b cap : Nat) (hcap : since.length ≤ cap) :
    Con1 prog W0 189 #[Vp q] [slp 166 2 b cap (flat since), pt q 60 [Vl bd secs.length cd, Vl b since.length cap, Vf, Vi (((n + 1) : Nat) : Int), Vi bits, Vi ((count : Nat) : Int)], slp 9 1 bd cd (secs.map Value.string)] (Vi (DS.sync (⟨secs, since, false, count, (some (n + 1, bits))⟩ : DS)).1) [isRef q (DS.sync (⟨secs, since, false, count, (some (n + 1, bits))⟩ : DS)).2] := by
  refine Con.of func189 rfl ntmps189 rfl (fun F => ?_)
  show Wc _ W0 _ _ _ _ _ ((slp 166 2 b cap (flat since)) :: (pt q 60 [Vl bd secs.length cd, Vl b since.length cap, Vf, Vi (((n + 1) : Nat) : Int), Vi bits, Vi ((count : Nat) : Int)]) :: (slp 9 1 bd cd (secs.map Value.string)) :: F)
  refine Wc.a 1 rfl (Wc.seq (Wc.b 2 rfl (Wl.q (q_field fo_60_2 rfl rfl) (Wl.q (q_c 1 sc_4 rfl rfl rfl) (Wl.run 2 rfl (Wl.pull [1] (Wl.e (e_c call283 (rdoes_cutS W0 q bd cd secs since count (Vl b since.length cap) bits hcount n hn)) (fun _ _ => Wl.q (q_not rfl rfl) (Wl.rg 1 rfl (Wc.no rfl (Wc.skip (Wx.go (Wc.seq (Wc.a 1 rfl (Wc.block ?_)))))))))))))))
  refine Wc.loop (X := Nat × List ByteArray) (fun (k, ss) E => E 3 = Vi ((k : Nat) : Int) ∧ E 0 = Vp q ∧ syncL ss (since.drop k) = syncL secs since ∧ ss.length = secs.length ∧ k ≤ since.length) (fun (k, ss) => (slp 166 2 b cap (flat since)) :: (pt q 60 [Vl bd secs.length cd, Vl b since.length cap, Vf, Vi ((n : Nat) : Int), Vi bits, Vi (((count + 1) : Nat) : Int)]) :: (slp 9 1 bd cd (ss.map Value.string)) :: F) (fun (k, ss) => since.length - k) (0, secs) ?_ ?_ ?_
  · exact ⟨rfl, rfl, rfl, rfl, (by omega)⟩
  · exact fun w hs => (st_pull [1, 0, 0] (hs))
  · rintro ⟨k, ss⟩ E2 ⟨hE3_0, hE0_0, hp0, hp1, hp3⟩
    dsimp only at *
    refine Wc.seq (Wc.sr (Wl.q (v := Vi ((k : Nat) : Int)) (q_move hE3_0) (Wl.q (v := Vp q) (q_move hE0_0) (Wl.run 1 rfl (Wl.q (q_field fo_60_1 rfl rfl) (Wl.q (q_c 1 sc_58 rfl rfl rfl) (Wl.q (q_len_slice underlying58 rfl) ?_)))))))
    by_cases hlt : ((k : Nat) : Int) < ((since.length : Nat) : Int)
    ·
      obtain ⟨⟨a, s⟩, hget⟩ : ∃ q, since[k]? = some q := ⟨since[k]'(by omega), by simp [List.getElem?_eq_getElem (show k < since.length by omega)]⟩
      have hmem := List.mem_of_getElem? hget
      have ha : a < ss.length := by have := hw.at_ _ hmem; simp only at this; omega
      refine Wl.q (q_lss rfl rfl (dt hlt)) (Wl.dg (Wc.yes rfl (Wc.skip (Wx.go (Wc.seq (Wc.block (Wc.drawsS [21] ((slp 166 2 b cap (flat since)) :: (pt q 60 [Vl bd secs.length cd, Vl b since.length cap, Vf, Vi ((n : Nat) : Int), Vi bits, Vi (((count + 1) : Nat) : Int)]) :: (slp 9 1 bd cd (ss.map Value.string)) :: []) (by kernel_rfl) (Wr.p 0 oo3 rfl (q_move hE0_0) (Wr.p 1 oo3 rfl (q_nil_ptr rfl) (Wr.p 2 oo3 rfl (q_field fo_60_0 rfl rfl) (Wr.t 3 oo3 rfl (q_c 1 sc_57 rfl rfl rfl) (Wr.p 4 oo3 rfl (q_move hE0_0) (Wr.p 5 oo3 rfl (q_nil_ptr rfl) (Wr.p 6 oo3 rfl (q_field fo_60_1 rfl rfl) (Wr.t 7 oo3 rfl (q_c 1 sc_58 rfl rfl rfl) (Wr.p 8 oo3 rfl (q_move hE3_0) (Wr.p 9 oo3 rfl (q_idx (m := k * 2) se_58 rfl rfl (by omega) (by omega) (by simp)) (Wr.p 10 oo3 rfl (q_field (m := k * 2) fo_166_0 rfl rfl) (Wr.t (v := Vi ((a : Nat) : Int)) 11 oo3 rfl (q_load sc_3 rfl (flat_has (i := 0) rfl hget 0 _ rfl)) (Wr.p 12 oo3 rfl (q_move hE0_0) (Wr.p 13 oo3 rfl (q_nil_ptr rfl) (Wr.p 14 oo3 rfl (q_field fo_60_1 rfl rfl) (Wr.t 15 oo3 rfl (q_c 1 sc_58 rfl rfl rfl) ?_)))))))))))))))))))))))
      refine Wr.p 16 oo3 rfl (q_move hE3_0) (Wr.p 17 oo3 rfl (q_idx (m := k * 2) se_58 rfl rfl (by omega) (by omega) (by simp)) (Wr.p 18 oo3 rfl (q_field (m := k * 2 + 1) fo_166_1 rfl rfl) (Wr.t (v := Vs s) 19 oo3 rfl (q_load sc_9 rfl (flat_has (i := 0) rfl hget 1 _ rfl)) (Wr.p 20 oo3 rfl (q_idx (m := a) se_57 rfl rfl (by omega) (by omega) (by simp)) (Wr.x0 21 rfl (e_store_slp (i := 2) (vs := [Vs s]) (c' := (ss.set a s).map Value.string) sz_9 rfl (congrArg Value.cells (rfl)) rfl rfl (by simp; omega) (splice_one ha)) (fun _ _ => Wr.rebaseS [] ((slp 166 2 b cap (flat since)) :: (pt q 60 [Vl bd secs.length cd, Vl b since.length cap, Vf, Vi ((n : Nat) : Int), Vi bits, Vi (((count + 1) : Nat) : Int)]) :: (slp 9 1 bd cd ((ss.set a s).map Value.string)) :: []) (by kernel_rfl) (Wr.z (Wx.blockEnd (Wx.go (Wc.region (Wl.q (v := Vi ((k : Nat) : Int)) (q_move hE3_0) (Wl.q (q_add (c := ((k + 1 : Nat) : Int)) rfl rfl (by rw [wrap_i64] <;> omega)) (Wl.run 1 rfl (Wl.done ?_))))))))))))))
      refine Wx.at (k + 1, ss.set a s) ⟨(by simp only; omega), rfl, hE0_0, (by rw [← hp0, sync_step hget]), (by simpa using hp1), (by omega)⟩ (fun w hs => hs)
    ·
      refine Wl.q (q_lss rfl rfl (df hlt)) (Wl.dg (Wc.no rfl (Wc.exit (Wx.thenExit (Wx.thenExit (Wx.out (Wx.go (Wc.sr (Wl.q (v := Vp q) (q_move hE0_0) (Wl.run 1 rfl (Wl.q (q_field fo_60_1 rfl rfl) (Wl.e (e_store (i := 1) (v := Vn) sz_58 rfl rfl (fun _ _ => rfl) rfl (by simp)) (fun _ _ => Wl.dg (Wc.a 1 rfl (Wc.ret (Wx.f1 rfl (fun w hs => ?_)))))))))))))))))
      have hend : k = since.length := by omega
      rw [hend, List.drop_length] at hp0
      simp only [syncL] at hp0
      have e : DS.sync (⟨secs, since, false, count, (some (n + 1, bits))⟩ : DS) = (0, ⟨syncL secs since, [], false, count + 1, (some (n, bits))⟩) := rfl
      rw [e, ← hp0]
      exact ⟨(), trivial, rfl, isRef_mk (lv := ((n : Nat) : Int)) ⟨rfl, rfl⟩ hp1.symm (st_pull [1, 1] (st_sl_nil (st_drop (st_pull [0] hs))))⟩
theorem rsync_cutS_nil (W0 : World) (q bd cd : Nat) (secs : List ByteArray) (since : List (Nat × ByteArray)) (count : Nat) (n : Nat) (bits : Int) (hw : WFl secs since) (hsince : since.length < 1099511627776) (hcount : count < 4611686018427387904) (hn : n < 9223372036854775807) (hnil : since = []) :
    Con1 prog W0 189 #[Vp q] [pt q 60 [Vl bd secs.length cd, Vn, Vf, Vi (((n + 1) : Nat) : Int), Vi bits, Vi ((count : Nat) : Int)], slp 9 1 bd cd (secs.map Value.string)] (Vi (DS.sync (⟨secs, since, false, count, (some (n + 1, bits))⟩ : DS)).1) [isRef q (DS.sync (⟨secs, since, false, count, (some (n + 1, bits))⟩ : DS)).2] := by
  refine Con.of func189 rfl ntmps189 rfl (fun F => ?_)
  show Wc _ W0 _ _ _ _ _ ((pt q 60 [Vl bd secs.length cd, Vn, Vf, Vi (((n + 1) : Nat) : Int), Vi bits, Vi ((count : Nat) : Int)]) :: (slp 9 1 bd cd (secs.map Value.string)) :: F)
  refine Wc.a 1 rfl (Wc.seq (Wc.b 2 rfl (Wl.q (q_field fo_60_2 rfl rfl) (Wl.q (q_c 0 sc_4 rfl rfl rfl) (Wl.run 2 rfl (Wl.e (e_c call283 (rdoes_cutS W0 q bd cd secs since count (Vn) bits hcount n hn)) (fun _ _ => Wl.q (q_not rfl rfl) (Wl.rg 1 rfl (Wc.no rfl (Wc.skip (Wx.go (Wc.seq (Wc.a 1 rfl (Wc.block ?_))))))))))))))
  refine Wc.loop (X := Nat × List ByteArray) (fun (k, ss) E => E 3 = Vi ((k : Nat) : Int) ∧ E 0 = Vp q ∧ syncL ss (since.drop k) = syncL secs since ∧ ss.length = secs.length ∧ k ≤ since.length) (fun (k, ss) => (pt q 60 [Vl bd secs.length cd, Vn, Vf, Vi ((n : Nat) : Int), Vi bits, Vi (((count + 1) : Nat) : Int)]) :: (slp 9 1 bd cd (ss.map Value.string)) :: F) (fun (k, ss) => since.length - k) (0, secs) ?_ ?_ ?_
  · exact ⟨rfl, rfl, rfl, rfl, (by omega)⟩
  · exact fun w hs => hs
  · rintro ⟨k, ss⟩ E2 ⟨hE3_0, hE0_0, hp0, hp1, hp3⟩
    dsimp only at *
    have hsl : since.length = 0 := by rw [hnil]; rfl
    refine Wc.seq (Wc.sr (Wl.q (v := Vi ((k : Nat) : Int)) (q_move hE3_0) (Wl.q (v := Vp q) (q_move hE0_0) (Wl.run 1 rfl (Wl.q (q_field fo_60_1 rfl rfl) (Wl.q (q_c 0 sc_58 rfl rfl rfl) (Wl.q (q_len_slice underlying58 rfl) ?_)))))))
    by_cases hlt : ((k : Nat) : Int) < 0
    ·
      exfalso; omega
    ·
      refine Wl.q (q_lss rfl rfl (df hlt)) (Wl.dg (Wc.no rfl (Wc.exit (Wx.thenExit (Wx.thenExit (Wx.out (Wx.go (Wc.sr (Wl.q (v := Vp q) (q_move hE0_0) (Wl.run 1 rfl (Wl.q (q_field fo_60_1 rfl rfl) (Wl.e (e_store (i := 0) (v := Vn) sz_58 rfl rfl (fun _ _ => rfl) rfl (by simp)) (fun _ _ => Wl.dg (Wc.a 1 rfl (Wc.ret (Wx.f1 rfl (fun w hs => ?_)))))))))))))))))
      have hend : k = since.length := by omega
      rw [hend, List.drop_length] at hp0
      simp only [syncL] at hp0
      have e : DS.sync (⟨secs, since, false, count, (some (n + 1, bits))⟩ : DS) = (0, ⟨syncL secs since, [], false, count + 1, (some (n, bits))⟩) := rfl
      rw [e, ← hp0]
      exact ⟨(), trivial, rfl, isRef_mk (lv := ((n : Nat) : Int)) ⟨rfl, rfl⟩ hp1.symm (st_pull [1, 1] (st_sl_nil hs))⟩
theorem rsync_cutS (W0 : World) (q bd cd : Nat) (secs : List ByteArray) (since : List (Nat × ByteArray)) (count : Nat) (sv : Value) (n : Nat) (bits : Int) (hw : WFl secs since) (hsince : since.length < 1099511627776) (hcount : count < 4611686018427387904) (hn : n < 9223372036854775807) :
  Con1 prog W0 189 #[Vp q] [pt q 60 [Vl bd secs.length cd, sv, Vf, Vi (((n + 1) : Nat) : Int), Vi bits, Vi ((count : Nat) : Int)], slp 9 1 bd cd (secs.map Value.string), sl 166 2 sv since.length (flat since)] (Vi (DS.sync (⟨secs, since, false, count, (some (n + 1, bits))⟩ : DS)).1) [isRef q (DS.sync (⟨secs, since, false, count, (some (n + 1, bits))⟩ : DS)).2] := by
 refine Con.pull (pre := [sl 166 2 sv since.length (flat since), pt q 60 [Vl bd secs.length cd, sv, Vf, Vi (((n + 1) : Nat) : Int), Vi bits, Vi ((count : Nat) : Int)], slp 9 1 bd cd (secs.map Value.string)]) [2] (fun _ => rfl) (Con.sl (fun e1 e2 e3 => ?_) (fun b cap e1 e2 e3 => ?_))
 · subst e1; exact rsync_cutS_nil W0 q bd cd secs since count n bits hw hsince hcount hn (List.eq_nil_of_length_eq_zero e2)
 · subst e1; exact rsync_cutS_blk W0 q bd cd secs since count n bits hw hsince hcount hn b cap e2
theorem rsync_c (W0 : World) (q : Nat) (d : DS) (hw : WF d) (hsince : d.since.length < 1099511627776) (hcount : d.count < 4611686018427387904) :
    Con1 prog W0 189 #[Vp q] [isRef q d] (Vi d.sync.1) [isRef q d.sync.2] := by
  obtain ⟨secs, since, down, count, cut⟩ := d
  refine Con.ref (fun bd cd sv lv bv hr => ?_)
  cases down
  · cases cut with
    | none => obtain rfl : lv = -1 := hr; exact rsync_none W0 q bd cd secs since count sv bv hw.l hsince hcount
    | some c =>
      obtain ⟨m, b⟩ := c
      obtain ⟨rfl, rfl⟩ := hr
      cases m with
      | zero => exact rsync_cut0 W0 q bd cd secs since count sv _ hw.l hsince hcount
      | succ n => exact rsync_cutS W0 q bd cd secs since count sv n _ hw.l hsince hcount (by have := hw.left _ _ rfl; omega)
  · exact rsync_down W0 q bd cd secs since count sv lv bv cut hr
theorem rread_blk (W0 : World) (q bd cd : Nat) (secs : List ByteArray) (since : List (Nat × ByteArray)) (count : Nat) (lv bv : Int) (cut : Option (Nat × Int)) (at_ : Int) (hsince : since.length < 1099511627776) (b cap : Nat) (hcap : since.length ≤ cap) :
    Con1 prog W0 171 #[Vp q, Vi at_] [slp 166 2 b cap (flat since), pt q 60 [Vl bd secs.length cd, Vl b since.length cap, Vf, Vi lv, Vi bv, Vi ((count : Nat) : Int)], slp 9 1 bd cd (secs.map Value.string)] (Value.tuple #[Vs (DS.read (⟨secs, since, false, count, cut⟩ : DS) at_).1, Vi (DS.read (⟨secs, since, false, count, cut⟩ : DS) at_).2]) [slp 166 2 b cap (flat since), pt q 60 [Vl bd secs.length cd, Vl b since.length cap, Vf, Vi lv, Vi bv, Vi ((count : Nat) : Int)], slp 9 1 bd cd (secs.map Value.string)] := by
  refine Con.of func171 rfl ntmps171 rfl (fun F => ?_)
  show Wc _ W0 _ _ _ _ _ ((slp 166 2 b cap (flat since)) :: (pt q 60 [Vl bd secs.length cd, Vl b since.length cap, Vf, Vi lv, Vi bv, Vi ((count : Nat) : Int)]) :: (slp 9 1 bd cd (secs.map Value.string)) :: F)
  refine Wc.a 2 rfl (Wc.seq (Wc.b 2 rfl (Wl.q (q_field fo_60_2 rfl rfl) (Wl.q (q_c 1 sc_4 rfl rfl rfl) (Wl.dg (Wc.no rfl (Wc.skip (Wx.go (Wc.seq (Wc.b 1 rfl ?_))))))))))
  by_cases hneg : at_ < 0
  ·
    refine Wl.q (q_lss rfl rfl (dt hneg)) (Wl.rg 9 rfl (Wc.yes rfl (Wc.a 2 rfl (Wc.ret (Wx.thenRet (Wx.f2 rfl (fun w hs => ?_)))))))
    have e : DS.read (⟨secs, since, false, count, cut⟩ : DS) at_ = _ := read_bad rfl (by first | exact .inl hneg | exact .inr hge)
    rw [e]
    exact ⟨(), trivial, rfl, hs⟩
  ·
    obtain ⟨c, rfl⟩ := Int.eq_ofNat_of_zero_le (Int.not_lt.1 hneg)
    refine Wl.q (q_lss rfl rfl (df hneg)) (Wl.run 4 rfl (Wl.q (q_field fo_60_0 rfl rfl) (Wl.q (q_c 1 sc_57 rfl rfl rfl) (Wl.q (q_len_slice underlying57 rfl) ?_))))
    by_cases hge : ((c : Nat) : Int) ≥ ((secs.length : Nat) : Int)
    ·
      refine Wl.q (q_geq rfl rfl (dt hge)) (Wl.rg 1 rfl (Wc.yes rfl (Wc.a 2 rfl (Wc.ret (Wx.thenRet (Wx.f2 rfl (fun w hs => ?_)))))))
      have e : DS.read (⟨secs, since, false, count, cut⟩ : DS) ((c : Nat) : Int) = _ := read_bad rfl (by first | exact .inl hneg | exact .inr hge)
      rw [e]
      exact ⟨(), trivial, rfl, hs⟩
    ·
      refine Wl.q (q_geq rfl rfl (df hge)) (Wl.rg 1 rfl (Wc.no rfl (Wc.skip (Wx.go (Wc.seq (Wc.b 2 rfl (Wl.q (q_field fo_60_1 rfl rfl) (Wl.q (q_c 1 sc_58 rfl rfl rfl) (Wl.q (q_len_slice underlying58 rfl) (Wl.q (q_sub (c := (((since.length : Nat) : Int) - 1)) rfl rfl (wrap_i64 (by omega) (by omega))) (Wl.rg 1 rfl (Wc.block ?_))))))))))))
      refine Wc.loop (X := Nat) (fun r E => E 6 = Vi (((r : Nat) : Int) - 1) ∧ E 0 = Vp q ∧ E 1 = Vi ((c : Nat) : Int) ∧ readL (secs.getD c default) c (since.take r) = readL (secs.getD c default) c since ∧ r ≤ since.length) (fun r => (slp 166 2 b cap (flat since)) :: (pt q 60 [Vl bd secs.length cd, Vl b since.length cap, Vf, Vi lv, Vi bv, Vi ((count : Nat) : Int)]) :: (slp 9 1 bd cd (secs.map Value.string)) :: F) (fun r => r) since.length ?_ ?_ ?_
      · exact ⟨rfl, rfl, rfl, (by rw [List.take_length]), (by omega)⟩
      · exact fun w hs => hs
      · rintro r E2 ⟨hE6_0, hE0_0, hE1_0, hp0, hp1⟩
        refine Wc.seq (Wc.sr (Wl.q (v := Vi (((r : Nat) : Int) - 1)) (q_move hE6_0) ?_))
        by_cases hpos : (((r : Nat) : Int) - 1) ≥ 0
        ·
          obtain ⟨k, rfl⟩ : ∃ k, r = k + 1 := ⟨r - 1, by omega⟩
          have hq6 := hE6_0
          rw [show ((k + 1 : Nat) : Int) - 1 = ((k : Nat) : Int) by omega] at hq6
          obtain ⟨⟨a, s⟩, hget⟩ : ∃ q, since[k]? = some q := ⟨since[k]'(by omega), by simp [List.getElem?_eq_getElem (show k < since.length by omega)]⟩
          refine Wl.q (q_geq rfl rfl (dt hpos)) (Wl.dg (Wc.yes rfl (Wc.skip (Wx.go (Wc.seq (Wc.block (Wc.sr (Wl.q (v := Vp q) (q_move hE0_0) (Wl.run 1 rfl (Wl.q (q_field fo_60_1 rfl rfl) (Wl.q (q_c 1 sc_58 rfl rfl rfl) (Wl.q (v := Vi ((k : Nat) : Int)) (q_move hq6) (Wl.q (q_idx (m := k * 2) se_58 rfl rfl (by omega) (by omega) (by simp)) (Wl.q (q_field (m := k * 2) fo_166_0 rfl rfl) (Wl.q (v := Vi ((a : Nat) : Int)) (q_load sc_3 rfl (flat_has (i := 0) rfl hget 0 _ rfl)) (Wl.q (v := Vi ((c : Nat) : Int)) (q_move hE1_0) ?_))))))))))))))))
          by_cases heq : ((a : Nat) : Int) = ((c : Nat) : Int)
          ·
            refine Wl.q (q_eql rfl rfl (dt heq)) (Wl.dg (Wc.yes rfl (Wc.sr (Wl.q (v := Vp q) (q_move hE0_0) (Wl.run 1 rfl (Wl.q (q_field fo_60_1 rfl rfl) (Wl.q (q_c 1 sc_58 rfl rfl rfl) (Wl.q (v := Vi ((k : Nat) : Int)) (q_move hq6) (Wl.q (q_idx (m := k * 2) se_58 rfl rfl (by omega) (by omega) (by simp)) (Wl.q (q_field (m := k * 2 + 1) fo_166_1 rfl rfl) (Wl.q (v := Vs s) (q_load sc_9 rfl (flat_has (i := 0) rfl hget 1 _ rfl)) (Wl.rg 2 rfl (Wc.ret (Wx.blockRet (Wx.thenRet (Wx.thenRet (Wx.blockRet (Wx.thenRet (Wx.f2 rfl (fun w hs => ?_))))))))))))))))))))
            have e : DS.read (⟨secs, since, false, count, cut⟩ : DS) ((c : Nat) : Int) = (s, 0) := (read_ok rfl hge).trans (by simp only; rw [← hp0, readL_take hget, if_pos (by omega)])
            rw [e]
            exact ⟨(), trivial, rfl, hs⟩
          ·
            refine Wl.q (q_eql rfl rfl (df heq)) (Wl.dg (Wc.no rfl (Wc.skip (Wx.blockEnd (Wx.go (Wc.region (Wl.q (v := Vi ((k : Nat) : Int)) (q_move hq6) (Wl.q (q_sub (c := (((k : Nat) : Int) - 1)) rfl rfl (wrap_i64 (by omega) (by omega))) (Wl.run 1 rfl (Wl.done ?_))))))))))
            refine Wx.at k ⟨(by omega), rfl, hE0_0, hE1_0, (by rw [← hp0, readL_take hget, if_neg (by omega)]), (by omega)⟩ (fun w hs => hs)
        ·
          refine Wl.q (q_geq rfl rfl (df hpos)) (Wl.dg (Wc.no rfl (Wc.exit (Wx.thenExit (Wx.thenExit (Wx.out (Wx.go (Wc.sr (Wl.q (v := Vp q) (q_move hE0_0) (Wl.run 1 rfl (Wl.q (q_field fo_60_0 rfl rfl) (Wl.q (q_c 1 sc_57 rfl rfl rfl) (Wl.q (v := Vi ((c : Nat) : Int)) (q_move hE1_0) (Wl.q (q_idx (m := c) se_57 rfl rfl (by omega) (by omega) (by simp)) (Wl.q (v := Vs (secs.getD c default)) (q_load sc_9 rfl (.row (i := 2) rfl (map_get (by omega)))) (Wl.rg 2 rfl (Wc.ret (Wx.f2 rfl (fun w hs => ?_)))))))))))))))))))
          have e : DS.read (⟨secs, since, false, count, cut⟩ : DS) ((c : Nat) : Int) = (secs.getD c default, 0) := (read_ok rfl hge).trans (by simp only; rw [← hp0, show r = 0 by omega]; rfl)
          rw [e]
          exact ⟨(), trivial, rfl, hs⟩
theorem rread_nil (W0 : World) (q bd cd : Nat) (secs : List ByteArray) (since : List (Nat × ByteArray)) (count : Nat) (lv bv : Int) (cut : Option (Nat × Int)) (at_ : Int) (hsince : since.length < 1099511627776) (hnil : since = []) :
    Con1 prog W0 171 #[Vp q, Vi at_] [pt q 60 [Vl bd secs.length cd, Vn, Vf, Vi lv, Vi bv, Vi ((count : Nat) : Int)], slp 9 1 bd cd (secs.map Value.string)] (Value.tuple #[Vs (DS.read (⟨secs, since, false, count, cut⟩ : DS) at_).1, Vi (DS.read (⟨secs, since, false, count, cut⟩ : DS) at_).2]) [pt q 60 [Vl bd secs.length cd, Vn, Vf, Vi lv, Vi bv, Vi ((count : Nat) : Int)], slp 9 1 bd cd (secs.map Value.string)] := by
  refine Con.of func171 rfl ntmps171 rfl (fun F => ?_)
  show Wc _ W0 _ _ _ _ _ ((pt q 60 [Vl bd secs.length cd, Vn, Vf, Vi lv, Vi bv, Vi ((count : Nat) : Int)]) :: (slp 9 1 bd cd (secs.map Value.string)) :: F)
  refine Wc.a 2 rfl (Wc.seq (Wc.b 2 rfl (Wl.q (q_field fo_60_2 rfl rfl) (Wl.q (q_c 0 sc_4 rfl rfl rfl) (Wl.dg (Wc.no rfl (Wc.skip (Wx.go (Wc.seq (Wc.b 1 rfl ?_))))))))))
  by_cases hneg : at_ < 0
  ·
    refine Wl.q (q_lss rfl rfl (dt hneg)) (Wl.rg 9 rfl (Wc.yes rfl (Wc.a 2 rfl (Wc.ret (Wx.thenRet (Wx.f2 rfl (fun w hs => ?_)))))))
    have e : DS.read (⟨secs, since, false, count, cut⟩ : DS) at_ = _ := read_bad rfl (by first | exact .inl hneg | exact .inr hge)
    rw [e]
    exact ⟨(), trivial, rfl, hs⟩
  ·
    obtain ⟨c, rfl⟩ := Int.eq_ofNat_of_zero_le (Int.not_lt.1 hneg)
    refine Wl.q (q_lss rfl rfl (df hneg)) (Wl.run 4 rfl (Wl.q (q_field fo_60_0 rfl rfl) (Wl.q (q_c 0 sc_57 rfl rfl rfl) (Wl.q (q_len_slice underlying57 rfl) ?_))))
    by_cases hge : ((c : Nat) : Int) ≥ ((secs.length : Nat) : Int)
    ·
      refine Wl.q (q_geq rfl rfl (dt hge)) (Wl.rg 1 rfl (Wc.yes rfl (Wc.a 2 rfl (Wc.ret (Wx.thenRet (Wx.f2 rfl (fun w hs => ?_)))))))
      have e : DS.read (⟨secs, since, false, count, cut⟩ : DS) ((c : Nat) : Int) = _ := read_bad rfl (by first | exact .inl hneg | exact .inr hge)
      rw [e]
      exact ⟨(), trivial, rfl, hs⟩
    ·
      refine Wl.q (q_geq rfl rfl (df hge)) (Wl.rg 1 rfl (Wc.no rfl (Wc.skip (Wx.go (Wc.seq (Wc.b 2 rfl (Wl.q (q_field fo_60_1 rfl rfl) (Wl.q (q_c 0 sc_58 rfl rfl rfl) (Wl.q (q_len_slice underlying58 rfl) (Wl.q (q_sub (c := (-1)) rfl rfl (by decide)) (Wl.rg 1 rfl (Wc.block ?_))))))))))))
      refine Wc.loop (X := Nat) (fun r E => E 6 = Vi (((r : Nat) : Int) - 1) ∧ E 0 = Vp q ∧ E 1 = Vi ((c : Nat) : Int) ∧ readL (secs.getD c default) c (since.take r) = readL (secs.getD c default) c since ∧ r ≤ since.length) (fun r => (pt q 60 [Vl bd secs.length cd, Vn, Vf, Vi lv, Vi bv, Vi ((count : Nat) : Int)]) :: (slp 9 1 bd cd (secs.map Value.string)) :: F) (fun r => r) 0 ?_ ?_ ?_
      · exact ⟨rfl, rfl, rfl, (by rw [hnil]; rfl), (by omega)⟩
      · exact fun w hs => hs
      · rintro r E2 ⟨hE6_0, hE0_0, hE1_0, hp0, hp1⟩
        have hsl : since.length = 0 := by rw [hnil]; rfl
        refine Wc.seq (Wc.sr (Wl.q (v := Vi (((r : Nat) : Int) - 1)) (q_move hE6_0) ?_))
        by_cases hpos : (((r : Nat) : Int) - 1) ≥ 0
        ·
          exfalso; omega
        ·
          refine Wl.q (q_geq rfl rfl (df hpos)) (Wl.dg (Wc.no rfl (Wc.exit (Wx.thenExit (Wx.thenExit (Wx.out (Wx.go (Wc.sr (Wl.q (v := Vp q) (q_move hE0_0) (Wl.run 1 rfl (Wl.q (q_field fo_60_0 rfl rfl) (Wl.q (q_c 0 sc_57 rfl rfl rfl) (Wl.q (v := Vi ((c : Nat) : Int)) (q_move hE1_0) (Wl.q (q_idx (m := c) se_57 rfl rfl (by omega) (by omega) (by simp)) (Wl.q (v := Vs (secs.getD c default)) (q_load sc_9 rfl (.row (i := 1) rfl (map_get (by omega)))) (Wl.rg 2 rfl (Wc.ret (Wx.f2 rfl (fun w hs => ?_)))))))))))))))))))
          have e : DS.read (⟨secs, since, false, count, cut⟩ : DS) ((c : Nat) : Int) = (secs.getD c default, 0) := (read_ok rfl hge).trans (by simp only; rw [← hp0, show r = 0 by omega]; rfl)
          rw [e]
          exact ⟨(), trivial, rfl, hs⟩
theorem rnew_low (W0 : World) (n : Int) (hn : n < 1) :
  Con1 prog W0 7 #[Vi n] [] (.tuple #[.pointer none, .int .i64 1]) [] := by
 refine Con.of func7 rfl ntmps7 rfl (fun F => ?_)
 refine Wc.a 2 rfl (Wc.seq (Wc.b 1 rfl (Wl.q (q_lss rfl rfl (dt (hn))) (Wl.dg (Wc.yes rfl (Wc.a 2 rfl (Wc.ret (Wx.thenRet (Wx.f2 rfl (fun w hs => ?_))))))))))
 exact ⟨(), trivial, rfl, hs⟩
theorem rnew_high (W0 : World) (n : Int) (hn : n > 4096) :
  Con1 prog W0 7 #[Vi n] [] (.tuple #[.pointer none, .int .i64 3]) [] := by
 refine Con.of func7 rfl ntmps7 rfl (fun F => ?_)
 refine Wc.a 2 rfl (Wc.seq (Wc.b 1 rfl (Wl.q (q_lss rfl rfl (df (by omega))) (Wl.dg (Wc.no rfl (Wc.skip (Wx.go (Wc.seq (Wc.b 1 rfl (Wl.q (q_gtr rfl rfl (dt (hn))) (Wl.dg (Wc.yes rfl (Wc.a 2 rfl (Wc.ret (Wx.thenRet (Wx.f2 rfl (fun w hs => ?_)))))))))))))))))
 exact ⟨(), trivial, rfl, hs⟩
theorem rnew_ok (W0 : World) (n : Nat) (h1 : 1 ≤ n) (h2 : n ≤ 4096) :
    Con prog W0 7 #[Vi ((n : Nat) : Int)] [] (X := Nat) (fun _ => True) (fun q => .tuple #[.pointer (some ⟨q, 0, none⟩), .int .i64 0]) (fun q => [isRef q (DS.new n)]) := by
  refine Con.of func7 rfl ntmps7 rfl (fun F => ?_)
  refine Wc.a 2 rfl (Wc.seq (Wc.b 1 rfl (Wl.q (q_lss rfl rfl (df (by omega))) (Wl.dg (Wc.no rfl (Wc.skip (Wx.go (Wc.seq (Wc.b 1 rfl (Wl.q (q_gtr rfl rfl (df (by omega))) (Wl.dg (Wc.no rfl (Wc.skip (Wx.go (Wc.sr (Wl.q (v := Value.agg #[Vn, Vn, Vf, Vi (-1), Vi 0, Vi 0]) (q_build (pl := [(0, 1), (1, 1), (2, 1), (3, 1), (4, 1), (5, 1)]) underlying60 zo_60 (by kernel_rfl) (by kernel_rfl)) (Wl.e (e_box (x := .tmp 10) (vs := [Vn, Vn, Vf, Vi (-1), Vi 0, Vi 0]) rfl) (fun q _ => Wl.rg 1 rfl (Wc.seq (Wc.a 1 rfl (Wc.block ?_)))))))))))))))))))))
  refine Wc.loop (X := Nat × Value) (fun (r, v) E => E 5 = Vi ((r : Nat) : Int) ∧ E 0 = Vi ((n : Nat) : Int) ∧ E 4 = Vp q ∧ r ≤ n) (fun (r, v) => (pt q 60 [v, Vn, Vf, Vi (-1), Vi 0, Vi 0]) :: (sl 9 1 v r (rsL (fun j => noughts) r)) :: F) (fun (r, v) => n - r) (0, .slice none 0 0) ?_ ?_ ?_
  · exact ⟨rfl, rfl, rfl, (by omega)⟩
  · exact fun w hs => st_swap (st_sl_nil hs)
  · rintro ⟨r, v⟩ E2 ⟨hE5_0, hE0_0, hE4_0, hi0⟩
    dsimp only at *
    refine Wc.seq (Wc.sr (Wl.q (v := Vi ((r : Nat) : Int)) (q_move hE5_0) (Wl.q (v := Vi ((n : Nat) : Int)) (q_move hE0_0) ?_)))
    by_cases hilt : ((r : Nat) : Int) < ((n : Nat) : Int)
    ·
      refine Wl.q (q_lss rfl rfl (dt hilt)) (Wl.dg (Wc.yes rfl (Wc.skip (Wx.go (Wc.seq (Wc.block (Wc.drawsS [10] ((pt q 60 [v, Vn, Vf, Vi (-1), Vi 0, Vi 0]) :: []) (by kernel_rfl) (Wr.p 0 oo1 rfl (q_move hE4_0) (Wr.p 1 oo1 rfl (q_move hE4_0) (Wr.p 2 oo1 rfl (q_nil_ptr rfl) (Wr.p 3 oo1 rfl (q_field fo_60_0 rfl rfl) (Wr.t 4 oo1 rfl (q_c 0 sc_57 rfl rfl rfl) (Wr.x 5 oo1 rfl (e_c call31 (noughts_c W0)) (fun _ _ => Wr.x 6 [1] rfl (e_buildSlice (cs := [Vs noughts]) se_57 zo_9 (by decide) (by decide) (by kernel_rfl)) (fun b3 _ => Wr.more (S' := (pt b3 9 [Vs noughts]) :: (pt q 60 [v, Vn, Vf, Vi (-1), Vi 0, Vi 0]) :: []) (fun _ h => st_drop h) (Wr.x 7 oo2 rfl (e_append (i := 2) (k := 1) (m := 1) (off := 0) (news := [Vs noughts]) underlying57 sz_9 by_9 zo_9 rfl rfl rfl rfl rfl (Has.of_pt (i := 0) rfl rfl) rfl (by decide) (by simp only [maxLen]; omega) (by omega)) (fun v2 _ => Wr.p 8 oo2 rfl (q_nil_ptr rfl) (Wr.p 9 oo2 rfl (q_field fo_60_0 rfl rfl) (Wr.x0 10 rfl (e_store (i := 1) (v := v2) sz_57 rfl rfl (fun _ h => sl_one (i := 2) h rfl) rfl (by simp)) (fun _ _ => Wr.rebaseS [] ((pt b3 9 [Vs noughts]) :: (pt q 60 [v2, Vn, Vf, Vi (-1), Vi 0, Vi 0]) :: (sl 9 1 v2 (r + 1) ((rsL (fun j => noughts) r) ++ [Vs noughts])) :: []) (by kernel_rfl) (Wr.z (Wx.blockEnd (Wx.go ?_)))))))))))))))))))))))
      refine Wc.region (Wl.q (v := Vi ((r : Nat) : Int)) (q_move hE5_0) (Wl.q (q_add (c := ((r + 1 : Nat) : Int)) rfl rfl (by rw [wrap_i64] <;> omega)) (Wl.run 1 rfl (Wl.done ?_))))
      refine Wx.at (r + 1, v2) ⟨(by simp only; omega), rfl, hE0_0, hE4_0, (by omega)⟩ (fun w hs => by rw [rs_succ]; exact (st_drop (st_pull [0] hs)))
    ·
      refine Wl.q (q_lss rfl rfl (df hilt)) (Wl.dg (Wc.no rfl (Wc.exit (Wx.thenExit (Wx.thenExit (Wx.out (Wx.go (Wc.sr (Wl.q (v := Vp q) (q_move hE4_0) (Wl.rg 2 rfl (Wc.ret (Wx.f2 rfl (fun w hs => ?_)))))))))))))
      have hend : r = n := by omega
      have hs1 := st_pull [1] hs
      rcases st_sl_cases hs1 with ⟨_, e2, _⟩ | ⟨bd, cd, e1, _, _, hs2⟩
      · omega
      · subst e1
        rw [rs_const hend] at hs2
        exact ⟨q, trivial, rfl, isRef_mk (d := DS.new n) (lv := -1) (bv := 0) rfl (by simp only [DS.new, List.length_replicate]; exact hend) (st_pull [2, 1] (st_sl_nil hs2))⟩
end Go.Proofs.YtjnejkdamhefgaaGreatDoor
