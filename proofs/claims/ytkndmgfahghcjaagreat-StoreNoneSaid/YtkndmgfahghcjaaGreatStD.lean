import Derived.Test.YtkndmgfahghcjaaGreatStC
import Derived.Test.YtkndmgfahghcjaaGreatSLK
import Derived.Test.YtkndmgfahghcjaaGreatSLR
/- Contracts of the calls. -/
namespace Go.Proofs.YtkndmgfahghcjaaGreat
open Go Go.SL Go.St Go.Wr Go.RowKit
open Go.Dk (DS WF)
open Go.Jn (JS Ok openD_up)
set_option linter.unusedVariables false
set_option maxRecDepth 8000
theorem sz_47 : sizeIs Tryz.prog 47 = some 1 := by kernel_rfl
theorem keysM {m : List ByteArray} (h : ∀ n ∈ m, n.size ≤ 65536) : ∀ p ∈ metV m, ∃ l, keyOf Tryz.prog 9 p.1 = some l := fun p hp => by
 obtain ⟨q, hq, rfl⟩ := List.mem_map.1 hp
 exact keyS (h q hq)
theorem keysA_self (n t : ByteArray) (T : AL) : n ∈ keysA (putA n t T) := Classical.byContradiction fun h => by
 have h1 := getA_none.2 h
 rw [getA_put, if_pos rfl] at h1
 cases h1
theorem putA_len (n t : ByteArray) : ∀ T : AL, (putA n t T).length ≤ T.length + 1
 | [] => Nat.le_refl _
 | p :: T => by
  have := putA_len n t T
  unfold putA; split
  · simp
  · simp only [List.length_cons]; omega
theorem delA_len (n : ByteArray) (T : AL) : (delA n T).length ≤ T.length := List.length_filter_le _ _
theorem allA_size {T : AL} (h : okA T) : ∀ p ∈ allA T, p.n.size ≤ 9223372036854775807 ∧ p.t.size ≤ 9223372036854775807 := fun p hp => by
 obtain ⟨i, hi⟩ := List.mem_iff_getElem?.1 hp
 unfold allA at hi
 rw [List.getElem?_map] at hi
 obtain ⟨n, hn, rfl⟩ := Option.map_eq_some_iff.1 hi
 obtain ⟨t, ht, _⟩ := names_at h.1 hn
 have := h.2 _ ((getA_mem h.1).1 ht)
 simp only at this
 rw [ht]
 simp only [Option.getD_some]
 omega
def chOk (T : AL) (l : List PairR) : Prop := (chgA T [] l).1 = 0 ∧ (packP (allA (chgA T [] l).2)).2 = 0
instance (T : AL) (l : List PairR) : Decidable (chOk T l) := inferInstanceAs (Decidable (_ ∧ _))
def chE (T : AL) (l : List PairR) (pe : Int) : Int := if (chgA T [] l).1 = 0 then (if (packP (allA (chgA T [] l).2)).2 = 0 then pe else (packP (allA (chgA T [] l).2)).2) else (chgA T [] l).1
def chT (T : AL) (l : List PairR) (pe : Int) : AL := if chOk T l ∧ pe = 0 then (chgA T [] l).2 else T
def chX {α : Type} (T : AL) (l : List PairR) (a b : α) : α := if chOk T l then b else a
theorem chE_bad {T : AL} {l : List PairR} {e pe : Int} (h : (chgA T [] l).1 = e) (he : e ≠ 0) : chE T l pe = e ∧ chT T l pe = T ∧ ∀ (α : Type) (a b : α), chX T l a b = a := by
 have hn : ¬ chOk T l := fun hc => he (h.symm.trans hc.1)
 exact ⟨by unfold chE; rw [h, if_neg he], by unfold chT; rw [if_neg (fun hc => hn hc.1)], fun α a b => if_neg hn⟩
theorem chE_pk {T T' : AL} {l : List PairR} {pe : Int} (h : chgA T [] l = (0, T')) (he : ¬ (packP (allA T')).2 = 0) : chE T l pe = (packP (allA T')).2 ∧ chT T l pe = T ∧ ∀ (α : Type) (a b : α), chX T l a b = a := by
 have hn : ¬ chOk T l := fun hc => he (by have := hc.2; rw [h] at this; exact this)
 exact ⟨by unfold chE; rw [h]; simp only; rw [if_neg he]; rfl, by unfold chT; rw [if_neg (fun hc => hn hc.1)], fun α a b => if_neg hn⟩
theorem chE_put {T T' : AL} {l : List PairR} {pe : Int} (h : chgA T [] l = (0, T')) (he : (packP (allA T')).2 = 0) (hp : ¬ pe = 0) : chE T l pe = pe ∧ chT T l pe = T ∧ ∀ (α : Type) (a b : α), chX T l a b = b := by
 have hn : chOk T l := by unfold chOk; rw [h]; exact ⟨rfl, he⟩
 exact ⟨by unfold chE; rw [h]; simp only; rw [if_pos he]; rfl, by unfold chT; rw [if_neg (fun hc => hp hc.2)], fun α a b => if_pos hn⟩
theorem chE_ok {T T' : AL} {l : List PairR} {pe : Int} (h : chgA T [] l = (0, T')) (he : (packP (allA T')).2 = 0) (hp : pe = 0) : chE T l pe = 0 ∧ chT T l pe = T' ∧ ∀ (α : Type) (a b : α), chX T l a b = b := by
 have hn : chOk T l := by unfold chOk; rw [h]; exact ⟨rfl, he⟩
 exact ⟨by unfold chE; rw [h]; simp only; rw [if_pos he, hp]; rfl, by unfold chT; rw [if_pos ⟨hn, hp⟩, h], fun α a b => if_pos hn⟩
theorem nm_at {T : AL} {i : Nat} {nm : List UInt8} (h : (namesA T)[i]? = some nm) : ((namesA T).map Go.Proofs.encStr)[i]? = some (.string (ba nm)) := by rw [List.getElem?_map, h]; rfl

set_option maxRecDepth 8000 in
set_option maxHeartbeats 2000000 in
theorem change_sl (W0 : World) (vl : Value) (l : List PairR) (hlm : l.length ≤ 400000) (hsz : ∀ p ∈ l, p.n.size ≤ 9223372036854775807 ∧ p.t.size ≤ 9223372036854775807) (sp j mb dp : Nat) (T : AL) (hT : okA T) (hTl : T.length ≤ 256) (t : ByteArray) (q : Int) (S : List ByteArray) (k0 : Nat) (c : Option (Nat × Int)) (hwf : WF (⟨S, [], false, k0, c⟩ : DS)) (hS1 : 1 ≤ S.length) (hk0 : k0 < 4000000000000000000) (hq0 : 0 ≤ q) (hq1 : q < 9223372036854775807) (pe : Int) (d2 : DS) (t2 : ByteArray) (q2 : Int) (dd : Bool) (hput : chOk T l → (JS.mk t q false).put (⟨S, [], false, k0, c⟩ : DS) (packP (allA (chgA T [] l).2)).1 = (pe, d2, ⟨t2, q2, dd⟩)) :
    Con Tryz.prog W0 20 #[Value.pointer (some ⟨sp, 0, none⟩), vl] [sl 44 3 vl l.length (l.flatMap pairCells), pt sp 49 [Value.pointer (some ⟨j, 0, none⟩), Value.map (some mb)], mp mb (strV T), isJ j dp ⟨t, q, false⟩, isDisk dp (⟨S, [], false, k0, c⟩ : DS)] (X := Nat) (fun _ => True) (fun _ => .int .i64 (chE T l pe)) (fun y => [sl 44 3 vl l.length (l.flatMap pairCells), pt sp 49 [.pointer (some ⟨j, 0, none⟩), .map (some y)], mp y (strV (chT T l pe)), isJ j dp (chX T l ⟨t, q, false⟩ ⟨t2, q2, dd⟩), isDisk dp (chX T l (⟨S, [], false, k0, c⟩ : DS) d2)]) := by
  refine Con.of (args := [Value.pointer (some ⟨sp, 0, none⟩), vl]) Tryz.func20 rfl Tryz.ntmps20 rfl (fun F => ?_)
  show Wc _ W0 _ _ _ _ _ ((sl 44 3 vl l.length (l.flatMap pairCells)) :: (pt sp 49 [Value.pointer (some ⟨j, 0, none⟩), Value.map (some mb)]) :: (mp mb (strV T)) :: (isJ j dp ⟨t, q, false⟩) :: (isDisk dp (⟨S, [], false, k0, c⟩ : DS)) :: F)
  refine Wc.seq ?_
  refine Wc.region ?_
  refine Wl.q (v := Value.int .i64 0) (q_assign rfl) ?_
  refine Wl.done ?_
  refine Wx.go ?_
  refine Wc.seq ?_
  refine Wc.seq ?_
  refine Wc.region ?_
  refine Wl.q (v := Value.pointer (some ⟨sp, 0, none⟩)) (q_move rfl) ?_
  refine Wl.imp (L' := (pt sp 49 [Value.pointer (some ⟨j, 0, none⟩), Value.map (some mb)]) :: (sl 44 3 vl l.length (l.flatMap pairCells)) :: (mp mb (strV T)) :: (isJ j dp ⟨t, q, false⟩) :: (isDisk dp (⟨S, [], false, k0, c⟩ : DS)) :: F) (fun _ h => st_pull [1] h) ?_
  refine Wl.e (e_call (F := (sl 44 3 vl l.length (l.flatMap pairCells)) :: (mp mb (strV T)) :: (isJ j dp ⟨t, q, false⟩) :: (isDisk dp (⟨S, [], false, k0, c⟩ : DS)) :: F) (args := [Value.pointer (some ⟨sp, 0, none⟩)]) Tryz.call51 rfl (st_there W0 sp j mb)) (fun _ _ => ?_)
  refine Wl.imp (L' := (pt sp 49 [Value.pointer (some ⟨j, 0, none⟩), Value.map (some mb)]) :: (sl 44 3 vl l.length (l.flatMap pairCells)) :: (mp mb (strV T)) :: (isJ j dp ⟨t, q, false⟩) :: (isDisk dp (⟨S, [], false, k0, c⟩ : DS)) :: F) (fun _ h => h) ?_
  refine Wl.q (v := Value.bool false) (q_not rfl rfl) ?_
  refine Wl.done ?_
  refine Wx.go ?_
  refine Wc.no rfl ?_
  refine Wc.skip ?_
  refine Wx.go ?_
  refine Wc.seq ?_
  refine Wc.region ?_
  refine Wl.q (v := Value.pointer (some ⟨sp, 0, none⟩)) (q_move rfl) ?_
  refine Wl.q (v := Value.pointer (some ⟨sp, 0, none⟩)) (q_nil_ptr rfl) ?_
  refine Wl.q (v := Value.pointer (some ⟨sp, 1, none⟩)) (q_field (m := 1) fo_49_1 rfl rfl) ?_
  refine Wl.q (v := Value.map (some mb)) (q_load sc_47 rfl (.cel (i := 0) rfl rfl)) ?_
  refine Wl.imp (L' := (mp mb (strV T)) :: (pt sp 49 [Value.pointer (some ⟨j, 0, none⟩), Value.map (some mb)]) :: (sl 44 3 vl l.length (l.flatMap pairCells)) :: (isJ j dp ⟨t, q, false⟩) :: (isDisk dp (⟨S, [], false, k0, c⟩ : DS)) :: F) (fun _ h => st_pull [2] h) ?_
  refine Wl.e (e_call (F := (pt sp 49 [Value.pointer (some ⟨j, 0, none⟩), Value.map (some mb)]) :: (sl 44 3 vl l.length (l.flatMap pairCells)) :: (isJ j dp ⟨t, q, false⟩) :: (isDisk dp (⟨S, [], false, k0, c⟩ : DS)) :: F) (args := [Value.map (some mb)]) Tryz.call52 rfl (clone_w W0 mb T)) (fun nb _ => ?_)
  refine Wl.imp (L' := (mp nb (strV T)) :: (mp mb (strV T)) :: (pt sp 49 [Value.pointer (some ⟨j, 0, none⟩), Value.map (some mb)]) :: (sl 44 3 vl l.length (l.flatMap pairCells)) :: (isJ j dp ⟨t, q, false⟩) :: (isDisk dp (⟨S, [], false, k0, c⟩ : DS)) :: F) (fun _ h => h) ?_
  refine Wl.e (e_makeMap) (fun mm _ => ?_)
  refine Wl.imp (L' := (mp mm []) :: (mp nb (strV T)) :: (mp mb (strV T)) :: (pt sp 49 [Value.pointer (some ⟨j, 0, none⟩), Value.map (some mb)]) :: (sl 44 3 vl l.length (l.flatMap pairCells)) :: (isJ j dp ⟨t, q, false⟩) :: (isDisk dp (⟨S, [], false, k0, c⟩ : DS)) :: F) (fun _ h => h) ?_
  refine Wl.q (v := Value.map (some nb)) (q_assign rfl) ?_
  refine Wl.q (v := Value.map (some mm)) (q_assign rfl) ?_
  refine Wl.done ?_
  refine Wx.go ?_
  refine Wc.seq ?_
  refine Wc.seq ?_
  refine Wc.region ?_
  refine Wl.q (v := vl) (q_move rfl) ?_
  refine Wl.q (v := Value.int .i64 ((l.length : Nat) : Int)) (q_len_sl (i := 4) Tryz.underlying22 rfl rfl) ?_
  refine Wl.q (v := Value.int .i64 0) (q_move rfl) ?_
  refine Wl.done ?_
  refine Wx.go ?_
  refine Wc.block ?_
  refine Wc.loop (X := Nat × AL × List ByteArray) (fun (k, T1, met) E => E 25 = Value.int .i64 ((k : Nat) : Int) ∧ E 0 = Value.pointer (some ⟨sp, 0, none⟩) ∧ E 5 = Value.map (some nb) ∧ E 6 = Value.map (some mm) ∧ E 23 = vl ∧ E 24 = Value.int .i64 ((l.length : Nat) : Int) ∧ k ≤ l.length ∧ chgA T [] l = chgA T1 met (l.drop k) ∧ okA T1 ∧ T1.length ≤ T.length + k ∧ (∀ n ∈ met, n.size ≤ 65536)) (fun (k, T1, met) => (sl 44 3 vl l.length (l.flatMap pairCells)) :: (pt sp 49 [Value.pointer (some ⟨j, 0, none⟩), Value.map (some mb)]) :: (mp mb (strV T)) :: (mp nb (strV T1)) :: (mp mm (metV met)) :: (isJ j dp ⟨t, q, false⟩) :: (isDisk dp (⟨S, [], false, k0, c⟩ : DS)) :: F) (fun (k, T1, met) => l.length - k) (0, T, []) ?_ ?_ ?_
  · exact ⟨rfl, rfl, rfl, rfl, rfl, rfl, (Nat.zero_le _), rfl, hT, (Nat.le_refl _), (fun n hn => by cases hn)⟩
  · exact fun w hs => (st_pull [4, 3, 2, 1, 0, 0, 0] (hs))
  · rintro ⟨k, T1, met⟩ E2 ⟨hE25_0, hE0_0, hE5_0, hE6_0, hE23_0, hE24_0, hk, hp0, hT1, hTn, hmt⟩
    dsimp only at *
    refine Wc.seq ?_
    refine Wc.region ?_
    by_cases hlt : ((k : Nat) : Int) < ((l.length : Nat) : Int)
    ·
      obtain ⟨⟨on, ot, og⟩, hget⟩ : ∃ o, l[k]? = some o := ⟨l[k]'(by omega), List.getElem?_eq_getElem (by omega)⟩
      have hsz0 := hsz _ (List.mem_of_getElem? hget)
      simp only at hsz0
      refine Wl.sl (i := 0) (m := l.length) rfl (by omega) (fun vb vc hv hcl => ?_)
      subst hv
      refine Wl.q (v := Value.bool true) (q_lss (r := true) hE25_0 hE24_0 (decide_eq_true hlt)) ?_
      refine Wl.done ?_
      refine Wx.go ?_
      refine Wc.seq ?_
      refine Wc.yes rfl ?_
      refine Wc.skip ?_
      refine Wx.go ?_
      refine Wc.seq ?_
      refine Wc.block ?_
      refine Wc.seq ?_
      refine Wc.region ?_
      by_cases hg : og = true
      ·
        subst hg
        refine Wl.q (v := Value.pointer (some ⟨vb, k * 3, none⟩)) (q_idx (m := k * 3) se_22 hE23_0 hE25_0 (by omega) (by omega) (by simp)) ?_
        refine Wl.q (v := Value.agg #[Value.string on, Value.string ot, Value.bool true]) (q_loadAgg (vs := [Value.string on, Value.string ot, Value.bool true]) ag_44 rfl (fun j u hj => .row (i := 0) rfl (flat3P hget j u hj))) ?_
        refine Wl.e (e_alloc (vs := [Value.string (⟨#[]⟩), Value.string (⟨#[]⟩), Value.bool false]) zo_44 rfl) (fun b3 _ => ?_)
        refine Wl.imp (L' := (pt b3 44 ([Value.string (⟨#[]⟩), Value.string (⟨#[]⟩), Value.bool false])) :: (slp 44 3 vb vc (l.flatMap pairCells)) :: (pt sp 49 [Value.pointer (some ⟨j, 0, none⟩), Value.map (some mb)]) :: (mp mb (strV T)) :: (mp nb (strV T1)) :: (mp mm (metV met)) :: (isJ j dp ⟨t, q, false⟩) :: (isDisk dp (⟨S, [], false, k0, c⟩ : DS)) :: F) (fun _ h => h) ?_
        refine Wl.e (e_storeAgg (i := 0) (vs := [Value.string on, Value.string ot, Value.bool true]) (c' := [Value.string on, Value.string ot, Value.bool true]) sz_44 rfl rfl rfl rfl (by simp) rfl) (fun _ _ => ?_)
        refine Wl.imp (L' := (pt b3 44 [Value.string on, Value.string ot, Value.bool true]) :: (slp 44 3 vb vc (l.flatMap pairCells)) :: (pt sp 49 [Value.pointer (some ⟨j, 0, none⟩), Value.map (some mb)]) :: (mp mb (strV T)) :: (mp nb (strV T1)) :: (mp mm (metV met)) :: (isJ j dp ⟨t, q, false⟩) :: (isDisk dp (⟨S, [], false, k0, c⟩ : DS)) :: F) (fun _ h => h) ?_
        refine Wl.done ?_
        refine Wx.go ?_
        refine Wc.seq ?_
        refine Wc.block ?_
        refine Wc.seq ?_
        refine Wc.region ?_
        refine Wl.q (v := Value.pointer (some ⟨b3, 0, none⟩)) (q_field (m := 0) fo_44_0 rfl rfl) ?_
        refine Wl.q (v := Value.string on) (q_load sc_9 rfl (.cel (i := 0) rfl rfl)) ?_
        refine Wl.q (v := Value.int .i64 ((on.size : Nat) : Int)) (q_len_str Tryz.underlying9 rfl) ?_
        by_cases hn1 : ((on.size : Nat) : Int) > 65536
        ·
          have hlong : longP ⟨on, ot, true⟩ := .inl (by show 65536 < on.size; omega)
          refine Wl.q (v := Value.bool true) (q_gtr (r := true) rfl rfl (decide_eq_true hn1)) ?_
          refine Wl.q (v := Value.bool true) (q_move rfl) ?_
          refine Wl.no ?_
          refine Wl.no ?_
          refine Wl.no ?_
          refine Wl.no ?_
          refine Wl.q (v := Value.bool true) (q_pick (t := true) rfl rfl) ?_
          refine Wl.q (v := Value.bool true) (q_assign rfl) ?_
          refine Wl.done ?_
          refine Wx.go ?_
          refine Wc.yes rfl ?_
          refine Wc.seq ?_
          refine Wc.region ?_
          refine Wl.q (v := Value.int .i64 3) (q_assign rfl) ?_
          refine Wl.done ?_
          refine Wx.go ?_
          refine Wc.ret ?_
          refine Wx.blockRet ?_
          refine Wx.thenRet ?_
          refine Wx.blockRet ?_
          refine Wx.thenRet ?_
          refine Wx.thenRet ?_
          refine Wx.blockRet ?_
          refine Wx.thenRet ?_
          refine Wx.fin1 rfl (.inl rfl) (fun w hs => ?_)
          obtain ⟨c1, c2, c3⟩ := chE_bad (pe := pe) (e := 3) (by rw [hp0, chg_at hget, if_pos hlong]) (by decide)
          refine ⟨mb, trivial, by rw [c1]; rfl, ?_⟩
          rw [c2, c3, c3]
          exact ((fun hs => st_sl_mk (e := 44) (flat_len3P l) hcl hs) (st_drop (st_drop (st_drop (st_pull [0, 3, 3] hs)))))
        ·
          refine Wl.q (v := Value.bool false) (q_gtr (r := false) rfl rfl (decide_eq_false hn1)) ?_
          refine Wl.q (v := Value.bool false) (q_move rfl) ?_
          refine Wl.q (v := Value.pointer (some ⟨b3, 1, none⟩)) (q_field (m := 1) fo_44_1 rfl rfl) ?_
          refine Wl.q (v := Value.string ot) (q_load sc_9 rfl (.cel (i := 0) rfl rfl)) ?_
          refine Wl.q (v := Value.int .i64 ((ot.size : Nat) : Int)) (q_len_str Tryz.underlying9 rfl) ?_
          by_cases hn2 : ((ot.size : Nat) : Int) > 65536
          ·
            have hlong : longP ⟨on, ot, true⟩ := .inr (by show 65536 < ot.size; omega)
            refine Wl.q (v := Value.bool true) (q_gtr (r := true) rfl rfl (decide_eq_true hn2)) ?_
            refine Wl.q (v := Value.bool true) (q_pick (t := false) rfl rfl) ?_
            refine Wl.q (v := Value.bool true) (q_assign rfl) ?_
            refine Wl.done ?_
            refine Wx.go ?_
            refine Wc.yes rfl ?_
            refine Wc.seq ?_
            refine Wc.region ?_
            refine Wl.q (v := Value.int .i64 3) (q_assign rfl) ?_
            refine Wl.done ?_
            refine Wx.go ?_
            refine Wc.ret ?_
            refine Wx.blockRet ?_
            refine Wx.thenRet ?_
            refine Wx.blockRet ?_
            refine Wx.thenRet ?_
            refine Wx.thenRet ?_
            refine Wx.blockRet ?_
            refine Wx.thenRet ?_
            refine Wx.fin1 rfl (.inl rfl) (fun w hs => ?_)
            obtain ⟨c1, c2, c3⟩ := chE_bad (pe := pe) (e := 3) (by rw [hp0, chg_at hget, if_pos hlong]) (by decide)
            refine ⟨mb, trivial, by rw [c1]; rfl, ?_⟩
            rw [c2, c3, c3]
            exact ((fun hs => st_sl_mk (e := 44) (flat_len3P l) hcl hs) (st_drop (st_drop (st_drop (st_pull [0, 3, 3] hs)))))
          ·
            have hlong : ¬ longP ⟨on, ot, true⟩ := by unfold longP; simp only; omega
            have hon : on.size ≤ 65536 := by omega
            have hot : ot.size ≤ 65536 := by omega
            refine Wl.q (v := Value.bool false) (q_gtr (r := false) rfl rfl (decide_eq_false hn2)) ?_
            refine Wl.q (v := Value.bool false) (q_pick (t := false) rfl rfl) ?_
            refine Wl.q (v := Value.bool false) (q_assign rfl) ?_
            refine Wl.done ?_
            refine Wx.go ?_
            refine Wc.no rfl ?_
            refine Wc.seq ?_
            refine Wc.region ?_
            refine Wl.q (v := Value.pointer (some ⟨b3, 2, none⟩)) (q_field (m := 2) fo_44_2 rfl rfl) ?_
            refine Wl.q (v := Value.bool true) (q_load sc_4 rfl (.cel (i := 0) rfl rfl)) ?_
            refine Wl.q (v := Value.bool true) (q_move rfl) ?_
            refine Wl.q (v := Value.pointer (some ⟨b3, 1, none⟩)) (q_field (m := 1) fo_44_1 rfl rfl) ?_
            refine Wl.q (v := Value.string ot) (q_load sc_9 rfl (.cel (i := 0) rfl rfl)) ?_
            by_cases hte : ot = (⟨#[]⟩)
            ·
              refine Wl.q (v := Value.bool false) (q_neq_str (r := true) rfl rfl (text_true hte)) ?_
              refine Wl.q (v := Value.bool false) (q_pick (t := true) rfl rfl) ?_
              refine Wl.q (v := Value.bool false) (q_assign rfl) ?_
              refine Wl.done ?_
              refine Wx.go ?_
              refine Wc.no rfl ?_
              refine Wc.seq ?_
              refine Wc.region ?_
              by_cases hmet : on ∈ met
              ·
                refine Wl.q (v := Value.map (some mm)) (q_move hE6_0) ?_
                refine Wl.q (v := Value.pointer (some ⟨b3, 0, none⟩)) (q_field (m := 0) fo_44_0 rfl rfl) ?_
                refine Wl.q (v := Value.string on) (q_load sc_9 rfl (.cel (i := 0) rfl rfl)) ?_
                refine Wl.q (v := Value.int .i64 1) (q_lookup1 (i := 5) (key := .string on) (r := Value.int .i64 1) Tryz.underlying86 (Maps.string_keyed Tryz.underlying9) zo_3 rfl rfl rfl (keyS hon) (keysM hmt) (.inr (metV_yes hmet))) ?_
                refine Wl.q (v := Value.bool true) (q_gtr (r := true) rfl rfl (decide_eq_true (by decide))) ?_
                refine Wl.q (v := Value.bool true) (q_assign rfl) ?_
                refine Wl.done ?_
                refine Wx.go ?_
                refine Wc.yes rfl ?_
                refine Wc.seq ?_
                refine Wc.region ?_
                refine Wl.q (v := Value.int .i64 13) (q_assign rfl) ?_
                refine Wl.done ?_
                refine Wx.go ?_
                refine Wc.ret ?_
                refine Wx.blockRet ?_
                refine Wx.thenRet ?_
                refine Wx.blockRet ?_
                refine Wx.thenRet ?_
                refine Wx.thenRet ?_
                refine Wx.blockRet ?_
                refine Wx.thenRet ?_
                refine Wx.fin1 rfl (.inl rfl) (fun w hs => ?_)
                obtain ⟨c1, c2, c3⟩ := chE_bad (pe := pe) (e := 13) (by rw [hp0, chg_at hget, if_neg hlong, if_neg (fun h => h.2 hte), if_pos hmet]) (by decide)
                refine ⟨mb, trivial, by rw [c1]; rfl, ?_⟩
                rw [c2, c3, c3]
                exact ((fun hs => st_sl_mk (e := 44) (flat_len3P l) hcl hs) (st_drop (st_drop (st_drop (st_pull [0, 3, 3] hs)))))
              ·
                refine Wl.q (v := Value.map (some mm)) (q_move hE6_0) ?_
                refine Wl.q (v := Value.pointer (some ⟨b3, 0, none⟩)) (q_field (m := 0) fo_44_0 rfl rfl) ?_
                refine Wl.q (v := Value.string on) (q_load sc_9 rfl (.cel (i := 0) rfl rfl)) ?_
                refine Wl.q (v := Value.int .i64 0) (q_lookup1 (i := 5) (key := .string on) (r := Value.int .i64 0) Tryz.underlying86 (Maps.string_keyed Tryz.underlying9) zo_3 rfl rfl rfl (keyS hon) (keysM hmt) (.inl ⟨metV_no hmet, rfl⟩)) ?_
                refine Wl.q (v := Value.bool false) (q_gtr (r := false) rfl rfl (decide_eq_false (by decide))) ?_
                refine Wl.q (v := Value.bool false) (q_assign rfl) ?_
                refine Wl.done ?_
                refine Wx.go ?_
                refine Wc.no rfl ?_
                refine Wc.skip ?_
                refine Wx.blockEnd ?_
                refine Wx.go ?_
                refine Wc.seq ?_
                refine Wc.region ?_
                refine Wl.q (v := Value.map (some mm)) (q_move hE6_0) ?_
                refine Wl.q (v := Value.pointer (some ⟨b3, 0, none⟩)) (q_field (m := 0) fo_44_0 rfl rfl) ?_
                refine Wl.q (v := Value.string on) (q_load sc_9 rfl (.cel (i := 0) rfl rfl)) ?_
                refine Wl.q (v := Value.int .i64 0) (q_lookup1 (i := 5) (key := .string on) (r := Value.int .i64 0) Tryz.underlying86 (Maps.string_keyed Tryz.underlying9) zo_3 rfl rfl rfl (keyS hon) (keysM hmt) (.inl ⟨metV_no hmet, rfl⟩)) ?_
                refine Wl.q (v := Value.int .i64 1) (q_add (c := 1) rfl rfl (by decide)) ?_
                refine Wl.e (e_mapNew (i := 5) (key := .string on) (val := .int .i64 1) Tryz.underlying86 (Maps.string_keyed Tryz.underlying9) rfl rfl rfl rfl (keyS hon) (keysM hmt) (metV_no hmet)) (fun _ _ => ?_)
                refine Wl.imp (L' := (pt b3 44 [Value.string on, Value.string ot, Value.bool true]) :: (slp 44 3 vb vc (l.flatMap pairCells)) :: (pt sp 49 [Value.pointer (some ⟨j, 0, none⟩), Value.map (some mb)]) :: (mp mb (strV T)) :: (mp nb (strV T1)) :: (mp mm (metV met ++ [(Value.string on, Value.int .i64 1)])) :: (isJ j dp ⟨t, q, false⟩) :: (isDisk dp (⟨S, [], false, k0, c⟩ : DS)) :: F) (fun _ h => h) ?_
                refine Wl.done ?_
                refine Wx.go ?_
                refine Wc.seq ?_
                refine Wc.region ?_
                by_cases hin : on ∈ keysA T1
                ·
                  obtain ⟨j2, u2, hj2⟩ := keysA_at hin
                  refine Wl.q (v := Value.map (some nb)) (q_move hE5_0) ?_
                  refine Wl.q (v := Value.pointer (some ⟨b3, 0, none⟩)) (q_field (m := 0) fo_44_0 rfl rfl) ?_
                  refine Wl.q (v := Value.string on) (q_load sc_9 rfl (.cel (i := 0) rfl rfl)) ?_
                  refine Wl.q (v := Value.pointer (some ⟨b3, 1, none⟩)) (q_field (m := 1) fo_44_1 rfl rfl) ?_
                  refine Wl.q (v := Value.string ot) (q_load sc_9 rfl (.cel (i := 0) rfl rfl)) ?_
                  refine Wl.e (e_mapSet (i := 4) (j := j2) (key := .string on) (val := .string ot) Tryz.underlying47 (Maps.string_keyed Tryz.underlying9) rfl rfl rfl rfl (keyS hon) (keysS hT1) (strV_at hj2) (strV_one hT1.1 hj2)) (fun _ _ => ?_)
                  refine Wl.imp (L' := (pt b3 44 [Value.string on, Value.string ot, Value.bool true]) :: (slp 44 3 vb vc (l.flatMap pairCells)) :: (pt sp 49 [Value.pointer (some ⟨j, 0, none⟩), Value.map (some mb)]) :: (mp mb (strV T)) :: (mp nb ((strV T1).set j2 (Value.string on, Value.string ot))) :: (mp mm (metV met ++ [(Value.string on, Value.int .i64 1)])) :: (isJ j dp ⟨t, q, false⟩) :: (isDisk dp (⟨S, [], false, k0, c⟩ : DS)) :: F) (fun _ h => h) ?_
                  refine Wl.done ?_
                  refine Wx.go ?_
                  refine Wc.seq ?_
                  refine Wc.region ?_
                  refine Wl.imp (L' := (pt b3 44 [Value.string on, Value.string ot, Value.bool true]) :: (slp 44 3 vb vc (l.flatMap pairCells)) :: (pt sp 49 [Value.pointer (some ⟨j, 0, none⟩), Value.map (some mb)]) :: (mp mb (strV T)) :: (mp nb (strV (putA on ot T1))) :: (mp mm (metV met ++ [(Value.string on, Value.int .i64 1)])) :: (isJ j dp ⟨t, q, false⟩) :: (isDisk dp (⟨S, [], false, k0, c⟩ : DS)) :: F) (fun w hs => by rw [← strV_set on ot hT1.1 hj2]; exact hs) ?_
                  refine Wl.q (v := Value.pointer (some ⟨b3, 2, none⟩)) (q_field (m := 2) fo_44_2 rfl rfl) ?_
                  refine Wl.q (v := Value.bool true) (q_load sc_4 rfl (.cel (i := 0) rfl rfl)) ?_
                  refine Wl.done ?_
                  refine Wx.go ?_
                  refine Wc.yes rfl ?_
                  refine Wc.region ?_
                  refine Wl.q (v := Value.map (some nb)) (q_move hE5_0) ?_
                  refine Wl.q (v := Value.pointer (some ⟨b3, 0, none⟩)) (q_field (m := 0) fo_44_0 rfl rfl) ?_
                  refine Wl.q (v := Value.string on) (q_load sc_9 rfl (.cel (i := 0) rfl rfl)) ?_
                  obtain ⟨j3, u3, hj3⟩ := keysA_at (keysA_self on ot T1)
                  have hT2 := okA_put hT1 hon hot
                  refine Wl.e (e_delete (i := 4) (j := j3) (key := .string on) (r := .string u3) Tryz.underlying47 (Maps.string_keyed Tryz.underlying9) rfl rfl rfl (keyS hon) (keysS hT2) (strV_at hj3) (strV_one hT2.1 hj3)) (fun _ _ => ?_)
                  refine Wl.imp (L' := (pt b3 44 [Value.string on, Value.string ot, Value.bool true]) :: (slp 44 3 vb vc (l.flatMap pairCells)) :: (pt sp 49 [Value.pointer (some ⟨j, 0, none⟩), Value.map (some mb)]) :: (mp mb (strV T)) :: (mp nb ((strV (putA on ot T1)).eraseIdx j3)) :: (mp mm (metV met ++ [(Value.string on, Value.int .i64 1)])) :: (isJ j dp ⟨t, q, false⟩) :: (isDisk dp (⟨S, [], false, k0, c⟩ : DS)) :: F) (fun _ h => h) ?_
                  refine Wl.done ?_
                  refine Wx.blockEnd ?_
                  refine Wx.go ?_
                  refine Wc.region ?_
                  refine Wl.q (v := Value.int .i64 ((k + 1 : Nat) : Int)) (q_add (c := ((k + 1 : Nat) : Int)) hE25_0 rfl (by rw [wrap_i64] <;> omega)) ?_
                  refine Wl.q (v := Value.int .i64 ((k + 1 : Nat) : Int)) (q_move rfl) ?_
                  refine Wl.done ?_
                  refine Wx.at (k + 1, delA on T1, met ++ [on]) ⟨(by simp only; omega), rfl, hE0_0, hE5_0, hE6_0, hE23_0, hE24_0, (by simp only; omega), (hp0.trans (by rw [chg_at hget, if_neg hlong, if_neg (fun h => h.2 hte), if_neg hmet]; rfl)), (okA_del hT1 on), (by have := delA_len on T1; simp only; omega), (fun n hn => (List.mem_append.1 hn).elim (hmt n) (fun h => by rw [List.mem_singleton] at h; subst h; exact hon))⟩ (fun w hs => by rw [strV_del on (keysA_put on ot hT1.1) hj3, delA_put] at hs; rw [metV_snoc]; exact ((fun hs => st_sl_mk (e := 44) (flat_len3P l) hcl hs) (st_drop (st_pull [0] hs))))
                ·
                  refine Wl.q (v := Value.map (some nb)) (q_move hE5_0) ?_
                  refine Wl.q (v := Value.pointer (some ⟨b3, 0, none⟩)) (q_field (m := 0) fo_44_0 rfl rfl) ?_
                  refine Wl.q (v := Value.string on) (q_load sc_9 rfl (.cel (i := 0) rfl rfl)) ?_
                  refine Wl.q (v := Value.pointer (some ⟨b3, 1, none⟩)) (q_field (m := 1) fo_44_1 rfl rfl) ?_
                  refine Wl.q (v := Value.string ot) (q_load sc_9 rfl (.cel (i := 0) rfl rfl)) ?_
                  refine Wl.e (e_mapNew (i := 4) (key := .string on) (val := .string ot) Tryz.underlying47 (Maps.string_keyed Tryz.underlying9) rfl rfl rfl rfl (keyS hon) (keysS hT1) (strV_no (getA_none.2 hin))) (fun _ _ => ?_)
                  refine Wl.imp (L' := (pt b3 44 [Value.string on, Value.string ot, Value.bool true]) :: (slp 44 3 vb vc (l.flatMap pairCells)) :: (pt sp 49 [Value.pointer (some ⟨j, 0, none⟩), Value.map (some mb)]) :: (mp mb (strV T)) :: (mp nb (strV T1 ++ [(Value.string on, Value.string ot)])) :: (mp mm (metV met ++ [(Value.string on, Value.int .i64 1)])) :: (isJ j dp ⟨t, q, false⟩) :: (isDisk dp (⟨S, [], false, k0, c⟩ : DS)) :: F) (fun _ h => h) ?_
                  refine Wl.done ?_
                  refine Wx.go ?_
                  refine Wc.seq ?_
                  refine Wc.region ?_
                  refine Wl.imp (L' := (pt b3 44 [Value.string on, Value.string ot, Value.bool true]) :: (slp 44 3 vb vc (l.flatMap pairCells)) :: (pt sp 49 [Value.pointer (some ⟨j, 0, none⟩), Value.map (some mb)]) :: (mp mb (strV T)) :: (mp nb (strV (putA on ot T1))) :: (mp mm (metV met ++ [(Value.string on, Value.int .i64 1)])) :: (isJ j dp ⟨t, q, false⟩) :: (isDisk dp (⟨S, [], false, k0, c⟩ : DS)) :: F) (fun w hs => by rw [← strV_new hin]; exact hs) ?_
                  refine Wl.q (v := Value.pointer (some ⟨b3, 2, none⟩)) (q_field (m := 2) fo_44_2 rfl rfl) ?_
                  refine Wl.q (v := Value.bool true) (q_load sc_4 rfl (.cel (i := 0) rfl rfl)) ?_
                  refine Wl.done ?_
                  refine Wx.go ?_
                  refine Wc.yes rfl ?_
                  refine Wc.region ?_
                  refine Wl.q (v := Value.map (some nb)) (q_move hE5_0) ?_
                  refine Wl.q (v := Value.pointer (some ⟨b3, 0, none⟩)) (q_field (m := 0) fo_44_0 rfl rfl) ?_
                  refine Wl.q (v := Value.string on) (q_load sc_9 rfl (.cel (i := 0) rfl rfl)) ?_
                  obtain ⟨j3, u3, hj3⟩ := keysA_at (keysA_self on ot T1)
                  have hT2 := okA_put hT1 hon hot
                  refine Wl.e (e_delete (i := 4) (j := j3) (key := .string on) (r := .string u3) Tryz.underlying47 (Maps.string_keyed Tryz.underlying9) rfl rfl rfl (keyS hon) (keysS hT2) (strV_at hj3) (strV_one hT2.1 hj3)) (fun _ _ => ?_)
                  refine Wl.imp (L' := (pt b3 44 [Value.string on, Value.string ot, Value.bool true]) :: (slp 44 3 vb vc (l.flatMap pairCells)) :: (pt sp 49 [Value.pointer (some ⟨j, 0, none⟩), Value.map (some mb)]) :: (mp mb (strV T)) :: (mp nb ((strV (putA on ot T1)).eraseIdx j3)) :: (mp mm (metV met ++ [(Value.string on, Value.int .i64 1)])) :: (isJ j dp ⟨t, q, false⟩) :: (isDisk dp (⟨S, [], false, k0, c⟩ : DS)) :: F) (fun _ h => h) ?_
                  refine Wl.done ?_
                  refine Wx.blockEnd ?_
                  refine Wx.go ?_
                  refine Wc.region ?_
                  refine Wl.q (v := Value.int .i64 ((k + 1 : Nat) : Int)) (q_add (c := ((k + 1 : Nat) : Int)) hE25_0 rfl (by rw [wrap_i64] <;> omega)) ?_
                  refine Wl.q (v := Value.int .i64 ((k + 1 : Nat) : Int)) (q_move rfl) ?_
                  refine Wl.done ?_
                  refine Wx.at (k + 1, delA on T1, met ++ [on]) ⟨(by simp only; omega), rfl, hE0_0, hE5_0, hE6_0, hE23_0, hE24_0, (by simp only; omega), (hp0.trans (by rw [chg_at hget, if_neg hlong, if_neg (fun h => h.2 hte), if_neg hmet]; rfl)), (okA_del hT1 on), (by have := delA_len on T1; simp only; omega), (fun n hn => (List.mem_append.1 hn).elim (hmt n) (fun h => by rw [List.mem_singleton] at h; subst h; exact hon))⟩ (fun w hs => by rw [strV_del on (keysA_put on ot hT1.1) hj3, delA_put] at hs; rw [metV_snoc]; exact ((fun hs => st_sl_mk (e := 44) (flat_len3P l) hcl hs) (st_drop (st_pull [0] hs))))
            ·
              refine Wl.q (v := Value.bool true) (q_neq_str (r := false) rfl rfl (text_false hte)) ?_
              refine Wl.q (v := Value.bool true) (q_pick (t := true) rfl rfl) ?_
              refine Wl.q (v := Value.bool true) (q_assign rfl) ?_
              refine Wl.done ?_
              refine Wx.go ?_
              refine Wc.yes rfl ?_
              refine Wc.seq ?_
              refine Wc.region ?_
              refine Wl.q (v := Value.int .i64 1) (q_assign rfl) ?_
              refine Wl.done ?_
              refine Wx.go ?_
              refine Wc.ret ?_
              refine Wx.blockRet ?_
              refine Wx.thenRet ?_
              refine Wx.blockRet ?_
              refine Wx.thenRet ?_
              refine Wx.thenRet ?_
              refine Wx.blockRet ?_
              refine Wx.thenRet ?_
              refine Wx.fin1 rfl (.inl rfl) (fun w hs => ?_)
              obtain ⟨c1, c2, c3⟩ := chE_bad (pe := pe) (e := 1) (by rw [hp0, chg_at hget, if_neg hlong, if_pos ⟨rfl, hte⟩]) (by decide)
              refine ⟨mb, trivial, by rw [c1]; rfl, ?_⟩
              rw [c2, c3, c3]
              exact ((fun hs => st_sl_mk (e := 44) (flat_len3P l) hcl hs) (st_drop (st_drop (st_drop (st_pull [0, 3, 3] hs)))))
      ·
        obtain rfl : og = false := Bool.eq_false_iff.2 hg
        refine Wl.q (v := Value.pointer (some ⟨vb, k * 3, none⟩)) (q_idx (m := k * 3) se_22 hE23_0 hE25_0 (by omega) (by omega) (by simp)) ?_
        refine Wl.q (v := Value.agg #[Value.string on, Value.string ot, Value.bool false]) (q_loadAgg (vs := [Value.string on, Value.string ot, Value.bool false]) ag_44 rfl (fun j u hj => .row (i := 0) rfl (flat3P hget j u hj))) ?_
        refine Wl.e (e_alloc (vs := [Value.string (⟨#[]⟩), Value.string (⟨#[]⟩), Value.bool false]) zo_44 rfl) (fun b4 _ => ?_)
        refine Wl.imp (L' := (pt b4 44 ([Value.string (⟨#[]⟩), Value.string (⟨#[]⟩), Value.bool false])) :: (slp 44 3 vb vc (l.flatMap pairCells)) :: (pt sp 49 [Value.pointer (some ⟨j, 0, none⟩), Value.map (some mb)]) :: (mp mb (strV T)) :: (mp nb (strV T1)) :: (mp mm (metV met)) :: (isJ j dp ⟨t, q, false⟩) :: (isDisk dp (⟨S, [], false, k0, c⟩ : DS)) :: F) (fun _ h => h) ?_
        refine Wl.e (e_storeAgg (i := 0) (vs := [Value.string on, Value.string ot, Value.bool false]) (c' := [Value.string on, Value.string ot, Value.bool false]) sz_44 rfl rfl rfl rfl (by simp) rfl) (fun _ _ => ?_)
        refine Wl.imp (L' := (pt b4 44 [Value.string on, Value.string ot, Value.bool false]) :: (slp 44 3 vb vc (l.flatMap pairCells)) :: (pt sp 49 [Value.pointer (some ⟨j, 0, none⟩), Value.map (some mb)]) :: (mp mb (strV T)) :: (mp nb (strV T1)) :: (mp mm (metV met)) :: (isJ j dp ⟨t, q, false⟩) :: (isDisk dp (⟨S, [], false, k0, c⟩ : DS)) :: F) (fun _ h => h) ?_
        refine Wl.done ?_
        refine Wx.go ?_
        refine Wc.seq ?_
        refine Wc.block ?_
        refine Wc.seq ?_
        refine Wc.region ?_
        refine Wl.q (v := Value.pointer (some ⟨b4, 0, none⟩)) (q_field (m := 0) fo_44_0 rfl rfl) ?_
        refine Wl.q (v := Value.string on) (q_load sc_9 rfl (.cel (i := 0) rfl rfl)) ?_
        refine Wl.q (v := Value.int .i64 ((on.size : Nat) : Int)) (q_len_str Tryz.underlying9 rfl) ?_
        by_cases hn1 : ((on.size : Nat) : Int) > 65536
        ·
          have hlong : longP ⟨on, ot, false⟩ := .inl (by show 65536 < on.size; omega)
          refine Wl.q (v := Value.bool true) (q_gtr (r := true) rfl rfl (decide_eq_true hn1)) ?_
          refine Wl.q (v := Value.bool true) (q_move rfl) ?_
          refine Wl.no ?_
          refine Wl.no ?_
          refine Wl.no ?_
          refine Wl.no ?_
          refine Wl.q (v := Value.bool true) (q_pick (t := true) rfl rfl) ?_
          refine Wl.q (v := Value.bool true) (q_assign rfl) ?_
          refine Wl.done ?_
          refine Wx.go ?_
          refine Wc.yes rfl ?_
          refine Wc.seq ?_
          refine Wc.region ?_
          refine Wl.q (v := Value.int .i64 3) (q_assign rfl) ?_
          refine Wl.done ?_
          refine Wx.go ?_
          refine Wc.ret ?_
          refine Wx.blockRet ?_
          refine Wx.thenRet ?_
          refine Wx.blockRet ?_
          refine Wx.thenRet ?_
          refine Wx.thenRet ?_
          refine Wx.blockRet ?_
          refine Wx.thenRet ?_
          refine Wx.fin1 rfl (.inl rfl) (fun w hs => ?_)
          obtain ⟨c1, c2, c3⟩ := chE_bad (pe := pe) (e := 3) (by rw [hp0, chg_at hget, if_pos hlong]) (by decide)
          refine ⟨mb, trivial, by rw [c1]; rfl, ?_⟩
          rw [c2, c3, c3]
          exact ((fun hs => st_sl_mk (e := 44) (flat_len3P l) hcl hs) (st_drop (st_drop (st_drop (st_pull [0, 3, 3] hs)))))
        ·
          refine Wl.q (v := Value.bool false) (q_gtr (r := false) rfl rfl (decide_eq_false hn1)) ?_
          refine Wl.q (v := Value.bool false) (q_move rfl) ?_
          refine Wl.q (v := Value.pointer (some ⟨b4, 1, none⟩)) (q_field (m := 1) fo_44_1 rfl rfl) ?_
          refine Wl.q (v := Value.string ot) (q_load sc_9 rfl (.cel (i := 0) rfl rfl)) ?_
          refine Wl.q (v := Value.int .i64 ((ot.size : Nat) : Int)) (q_len_str Tryz.underlying9 rfl) ?_
          by_cases hn2 : ((ot.size : Nat) : Int) > 65536
          ·
            have hlong : longP ⟨on, ot, false⟩ := .inr (by show 65536 < ot.size; omega)
            refine Wl.q (v := Value.bool true) (q_gtr (r := true) rfl rfl (decide_eq_true hn2)) ?_
            refine Wl.q (v := Value.bool true) (q_pick (t := false) rfl rfl) ?_
            refine Wl.q (v := Value.bool true) (q_assign rfl) ?_
            refine Wl.done ?_
            refine Wx.go ?_
            refine Wc.yes rfl ?_
            refine Wc.seq ?_
            refine Wc.region ?_
            refine Wl.q (v := Value.int .i64 3) (q_assign rfl) ?_
            refine Wl.done ?_
            refine Wx.go ?_
            refine Wc.ret ?_
            refine Wx.blockRet ?_
            refine Wx.thenRet ?_
            refine Wx.blockRet ?_
            refine Wx.thenRet ?_
            refine Wx.thenRet ?_
            refine Wx.blockRet ?_
            refine Wx.thenRet ?_
            refine Wx.fin1 rfl (.inl rfl) (fun w hs => ?_)
            obtain ⟨c1, c2, c3⟩ := chE_bad (pe := pe) (e := 3) (by rw [hp0, chg_at hget, if_pos hlong]) (by decide)
            refine ⟨mb, trivial, by rw [c1]; rfl, ?_⟩
            rw [c2, c3, c3]
            exact ((fun hs => st_sl_mk (e := 44) (flat_len3P l) hcl hs) (st_drop (st_drop (st_drop (st_pull [0, 3, 3] hs)))))
          ·
            have hlong : ¬ longP ⟨on, ot, false⟩ := by unfold longP; simp only; omega
            have hon : on.size ≤ 65536 := by omega
            have hot : ot.size ≤ 65536 := by omega
            refine Wl.q (v := Value.bool false) (q_gtr (r := false) rfl rfl (decide_eq_false hn2)) ?_
            refine Wl.q (v := Value.bool false) (q_pick (t := false) rfl rfl) ?_
            refine Wl.q (v := Value.bool false) (q_assign rfl) ?_
            refine Wl.done ?_
            refine Wx.go ?_
            refine Wc.no rfl ?_
            refine Wc.seq ?_
            refine Wc.region ?_
            refine Wl.q (v := Value.pointer (some ⟨b4, 2, none⟩)) (q_field (m := 2) fo_44_2 rfl rfl) ?_
            refine Wl.q (v := Value.bool false) (q_load sc_4 rfl (.cel (i := 0) rfl rfl)) ?_
            refine Wl.q (v := Value.bool false) (q_move rfl) ?_
            refine Wl.no ?_
            refine Wl.no ?_
            refine Wl.no ?_
            refine Wl.q (v := Value.bool false) (q_pick (t := false) rfl rfl) ?_
            refine Wl.q (v := Value.bool false) (q_assign rfl) ?_
            refine Wl.done ?_
            refine Wx.go ?_
            refine Wc.no rfl ?_
            refine Wc.seq ?_
            refine Wc.region ?_
            by_cases hmet : on ∈ met
            ·
              refine Wl.q (v := Value.map (some mm)) (q_move hE6_0) ?_
              refine Wl.q (v := Value.pointer (some ⟨b4, 0, none⟩)) (q_field (m := 0) fo_44_0 rfl rfl) ?_
              refine Wl.q (v := Value.string on) (q_load sc_9 rfl (.cel (i := 0) rfl rfl)) ?_
              refine Wl.q (v := Value.int .i64 1) (q_lookup1 (i := 5) (key := .string on) (r := Value.int .i64 1) Tryz.underlying86 (Maps.string_keyed Tryz.underlying9) zo_3 rfl rfl rfl (keyS hon) (keysM hmt) (.inr (metV_yes hmet))) ?_
              refine Wl.q (v := Value.bool true) (q_gtr (r := true) rfl rfl (decide_eq_true (by decide))) ?_
              refine Wl.q (v := Value.bool true) (q_assign rfl) ?_
              refine Wl.done ?_
              refine Wx.go ?_
              refine Wc.yes rfl ?_
              refine Wc.seq ?_
              refine Wc.region ?_
              refine Wl.q (v := Value.int .i64 13) (q_assign rfl) ?_
              refine Wl.done ?_
              refine Wx.go ?_
              refine Wc.ret ?_
              refine Wx.blockRet ?_
              refine Wx.thenRet ?_
              refine Wx.blockRet ?_
              refine Wx.thenRet ?_
              refine Wx.thenRet ?_
              refine Wx.blockRet ?_
              refine Wx.thenRet ?_
              refine Wx.fin1 rfl (.inl rfl) (fun w hs => ?_)
              obtain ⟨c1, c2, c3⟩ := chE_bad (pe := pe) (e := 13) (by rw [hp0, chg_at hget, if_neg hlong, if_neg (fun h => (by cases h.1)), if_pos hmet]) (by decide)
              refine ⟨mb, trivial, by rw [c1]; rfl, ?_⟩
              rw [c2, c3, c3]
              exact ((fun hs => st_sl_mk (e := 44) (flat_len3P l) hcl hs) (st_drop (st_drop (st_drop (st_pull [0, 3, 3] hs)))))
            ·
              refine Wl.q (v := Value.map (some mm)) (q_move hE6_0) ?_
              refine Wl.q (v := Value.pointer (some ⟨b4, 0, none⟩)) (q_field (m := 0) fo_44_0 rfl rfl) ?_
              refine Wl.q (v := Value.string on) (q_load sc_9 rfl (.cel (i := 0) rfl rfl)) ?_
              refine Wl.q (v := Value.int .i64 0) (q_lookup1 (i := 5) (key := .string on) (r := Value.int .i64 0) Tryz.underlying86 (Maps.string_keyed Tryz.underlying9) zo_3 rfl rfl rfl (keyS hon) (keysM hmt) (.inl ⟨metV_no hmet, rfl⟩)) ?_
              refine Wl.q (v := Value.bool false) (q_gtr (r := false) rfl rfl (decide_eq_false (by decide))) ?_
              refine Wl.q (v := Value.bool false) (q_assign rfl) ?_
              refine Wl.done ?_
              refine Wx.go ?_
              refine Wc.no rfl ?_
              refine Wc.skip ?_
              refine Wx.blockEnd ?_
              refine Wx.go ?_
              refine Wc.seq ?_
              refine Wc.region ?_
              refine Wl.q (v := Value.map (some mm)) (q_move hE6_0) ?_
              refine Wl.q (v := Value.pointer (some ⟨b4, 0, none⟩)) (q_field (m := 0) fo_44_0 rfl rfl) ?_
              refine Wl.q (v := Value.string on) (q_load sc_9 rfl (.cel (i := 0) rfl rfl)) ?_
              refine Wl.q (v := Value.int .i64 0) (q_lookup1 (i := 5) (key := .string on) (r := Value.int .i64 0) Tryz.underlying86 (Maps.string_keyed Tryz.underlying9) zo_3 rfl rfl rfl (keyS hon) (keysM hmt) (.inl ⟨metV_no hmet, rfl⟩)) ?_
              refine Wl.q (v := Value.int .i64 1) (q_add (c := 1) rfl rfl (by decide)) ?_
              refine Wl.e (e_mapNew (i := 5) (key := .string on) (val := .int .i64 1) Tryz.underlying86 (Maps.string_keyed Tryz.underlying9) rfl rfl rfl rfl (keyS hon) (keysM hmt) (metV_no hmet)) (fun _ _ => ?_)
              refine Wl.imp (L' := (pt b4 44 [Value.string on, Value.string ot, Value.bool false]) :: (slp 44 3 vb vc (l.flatMap pairCells)) :: (pt sp 49 [Value.pointer (some ⟨j, 0, none⟩), Value.map (some mb)]) :: (mp mb (strV T)) :: (mp nb (strV T1)) :: (mp mm (metV met ++ [(Value.string on, Value.int .i64 1)])) :: (isJ j dp ⟨t, q, false⟩) :: (isDisk dp (⟨S, [], false, k0, c⟩ : DS)) :: F) (fun _ h => h) ?_
              refine Wl.done ?_
              refine Wx.go ?_
              refine Wc.seq ?_
              refine Wc.region ?_
              by_cases hin : on ∈ keysA T1
              ·
                obtain ⟨j2, u2, hj2⟩ := keysA_at hin
                refine Wl.q (v := Value.map (some nb)) (q_move hE5_0) ?_
                refine Wl.q (v := Value.pointer (some ⟨b4, 0, none⟩)) (q_field (m := 0) fo_44_0 rfl rfl) ?_
                refine Wl.q (v := Value.string on) (q_load sc_9 rfl (.cel (i := 0) rfl rfl)) ?_
                refine Wl.q (v := Value.pointer (some ⟨b4, 1, none⟩)) (q_field (m := 1) fo_44_1 rfl rfl) ?_
                refine Wl.q (v := Value.string ot) (q_load sc_9 rfl (.cel (i := 0) rfl rfl)) ?_
                refine Wl.e (e_mapSet (i := 4) (j := j2) (key := .string on) (val := .string ot) Tryz.underlying47 (Maps.string_keyed Tryz.underlying9) rfl rfl rfl rfl (keyS hon) (keysS hT1) (strV_at hj2) (strV_one hT1.1 hj2)) (fun _ _ => ?_)
                refine Wl.imp (L' := (pt b4 44 [Value.string on, Value.string ot, Value.bool false]) :: (slp 44 3 vb vc (l.flatMap pairCells)) :: (pt sp 49 [Value.pointer (some ⟨j, 0, none⟩), Value.map (some mb)]) :: (mp mb (strV T)) :: (mp nb ((strV T1).set j2 (Value.string on, Value.string ot))) :: (mp mm (metV met ++ [(Value.string on, Value.int .i64 1)])) :: (isJ j dp ⟨t, q, false⟩) :: (isDisk dp (⟨S, [], false, k0, c⟩ : DS)) :: F) (fun _ h => h) ?_
                refine Wl.done ?_
                refine Wx.go ?_
                refine Wc.seq ?_
                refine Wc.region ?_
                refine Wl.imp (L' := (pt b4 44 [Value.string on, Value.string ot, Value.bool false]) :: (slp 44 3 vb vc (l.flatMap pairCells)) :: (pt sp 49 [Value.pointer (some ⟨j, 0, none⟩), Value.map (some mb)]) :: (mp mb (strV T)) :: (mp nb (strV (putA on ot T1))) :: (mp mm (metV met ++ [(Value.string on, Value.int .i64 1)])) :: (isJ j dp ⟨t, q, false⟩) :: (isDisk dp (⟨S, [], false, k0, c⟩ : DS)) :: F) (fun w hs => by rw [← strV_set on ot hT1.1 hj2]; exact hs) ?_
                refine Wl.q (v := Value.pointer (some ⟨b4, 2, none⟩)) (q_field (m := 2) fo_44_2 rfl rfl) ?_
                refine Wl.q (v := Value.bool false) (q_load sc_4 rfl (.cel (i := 0) rfl rfl)) ?_
                refine Wl.done ?_
                refine Wx.go ?_
                refine Wc.no rfl ?_
                refine Wc.skip ?_
                refine Wx.blockEnd ?_
                refine Wx.go ?_
                refine Wc.region ?_
                refine Wl.q (v := Value.int .i64 ((k + 1 : Nat) : Int)) (q_add (c := ((k + 1 : Nat) : Int)) hE25_0 rfl (by rw [wrap_i64] <;> omega)) ?_
                refine Wl.q (v := Value.int .i64 ((k + 1 : Nat) : Int)) (q_move rfl) ?_
                refine Wl.done ?_
                refine Wx.at (k + 1, putA on ot T1, met ++ [on]) ⟨(by simp only; omega), rfl, hE0_0, hE5_0, hE6_0, hE23_0, hE24_0, (by simp only; omega), (hp0.trans (by rw [chg_at hget, if_neg hlong, if_neg (fun h => (by cases h.1)), if_neg hmet]; rfl)), (okA_put hT1 hon hot), (by have := putA_len on ot T1; simp only; omega), (fun n hn => (List.mem_append.1 hn).elim (hmt n) (fun h => by rw [List.mem_singleton] at h; subst h; exact hon))⟩ (fun w hs => by rw [metV_snoc]; exact ((fun hs => st_sl_mk (e := 44) (flat_len3P l) hcl hs) (st_drop (st_pull [0] hs))))
              ·
                refine Wl.q (v := Value.map (some nb)) (q_move hE5_0) ?_
                refine Wl.q (v := Value.pointer (some ⟨b4, 0, none⟩)) (q_field (m := 0) fo_44_0 rfl rfl) ?_
                refine Wl.q (v := Value.string on) (q_load sc_9 rfl (.cel (i := 0) rfl rfl)) ?_
                refine Wl.q (v := Value.pointer (some ⟨b4, 1, none⟩)) (q_field (m := 1) fo_44_1 rfl rfl) ?_
                refine Wl.q (v := Value.string ot) (q_load sc_9 rfl (.cel (i := 0) rfl rfl)) ?_
                refine Wl.e (e_mapNew (i := 4) (key := .string on) (val := .string ot) Tryz.underlying47 (Maps.string_keyed Tryz.underlying9) rfl rfl rfl rfl (keyS hon) (keysS hT1) (strV_no (getA_none.2 hin))) (fun _ _ => ?_)
                refine Wl.imp (L' := (pt b4 44 [Value.string on, Value.string ot, Value.bool false]) :: (slp 44 3 vb vc (l.flatMap pairCells)) :: (pt sp 49 [Value.pointer (some ⟨j, 0, none⟩), Value.map (some mb)]) :: (mp mb (strV T)) :: (mp nb (strV T1 ++ [(Value.string on, Value.string ot)])) :: (mp mm (metV met ++ [(Value.string on, Value.int .i64 1)])) :: (isJ j dp ⟨t, q, false⟩) :: (isDisk dp (⟨S, [], false, k0, c⟩ : DS)) :: F) (fun _ h => h) ?_
                refine Wl.done ?_
                refine Wx.go ?_
                refine Wc.seq ?_
                refine Wc.region ?_
                refine Wl.imp (L' := (pt b4 44 [Value.string on, Value.string ot, Value.bool false]) :: (slp 44 3 vb vc (l.flatMap pairCells)) :: (pt sp 49 [Value.pointer (some ⟨j, 0, none⟩), Value.map (some mb)]) :: (mp mb (strV T)) :: (mp nb (strV (putA on ot T1))) :: (mp mm (metV met ++ [(Value.string on, Value.int .i64 1)])) :: (isJ j dp ⟨t, q, false⟩) :: (isDisk dp (⟨S, [], false, k0, c⟩ : DS)) :: F) (fun w hs => by rw [← strV_new hin]; exact hs) ?_
                refine Wl.q (v := Value.pointer (some ⟨b4, 2, none⟩)) (q_field (m := 2) fo_44_2 rfl rfl) ?_
                refine Wl.q (v := Value.bool false) (q_load sc_4 rfl (.cel (i := 0) rfl rfl)) ?_
                refine Wl.done ?_
                refine Wx.go ?_
                refine Wc.no rfl ?_
                refine Wc.skip ?_
                refine Wx.blockEnd ?_
                refine Wx.go ?_
                refine Wc.region ?_
                refine Wl.q (v := Value.int .i64 ((k + 1 : Nat) : Int)) (q_add (c := ((k + 1 : Nat) : Int)) hE25_0 rfl (by rw [wrap_i64] <;> omega)) ?_
                refine Wl.q (v := Value.int .i64 ((k + 1 : Nat) : Int)) (q_move rfl) ?_
                refine Wl.done ?_
                refine Wx.at (k + 1, putA on ot T1, met ++ [on]) ⟨(by simp only; omega), rfl, hE0_0, hE5_0, hE6_0, hE23_0, hE24_0, (by simp only; omega), (hp0.trans (by rw [chg_at hget, if_neg hlong, if_neg (fun h => (by cases h.1)), if_neg hmet]; rfl)), (okA_put hT1 hon hot), (by have := putA_len on ot T1; simp only; omega), (fun n hn => (List.mem_append.1 hn).elim (hmt n) (fun h => by rw [List.mem_singleton] at h; subst h; exact hon))⟩ (fun w hs => by rw [metV_snoc]; exact ((fun hs => st_sl_mk (e := 44) (flat_len3P l) hcl hs) (st_drop (st_pull [0] hs))))
    ·
      have hke : k = l.length := by omega
      have hc0 : chgA T [] l = (0, T1) := by rw [hp0, hke, List.drop_length]; rfl
      refine Wl.q (v := Value.bool false) (q_lss (r := false) hE25_0 hE24_0 (decide_eq_false hlt)) ?_
      refine Wl.done ?_
      refine Wx.go ?_
      refine Wc.seq ?_
      refine Wc.no rfl ?_
      refine Wc.exit ?_
      refine Wx.thenExit ?_
      refine Wx.thenExit ?_
      refine Wx.out ?_
      refine Wx.go ?_
      refine Wc.seq ?_
      refine Wc.region ?_
      refine Wl.q (v := Value.slice none 0 0) (q_assign rfl) ?_
      refine Wl.done ?_
      refine Wx.go ?_
      refine Wc.seq ?_
      refine Wc.seq ?_
      refine Wc.region ?_
      refine Wl.q (v := Value.map (some nb)) (q_move hE5_0) ?_
      refine Wl.e (e_call (F := (sl 44 3 vl l.length (l.flatMap pairCells)) :: (pt sp 49 [Value.pointer (some ⟨j, 0, none⟩), Value.map (some mb)]) :: (mp mb (strV T)) :: (mp nb (strV T1)) :: (mp mm (metV met)) :: (isJ j dp ⟨t, q, false⟩) :: (isDisk dp (⟨S, [], false, k0, c⟩ : DS)) :: F) (args := [Value.map (some nb)]) Tryz.call54 rfl (keys_w W0 nb)) (fun kq _ => ?_)
      refine Wl.imp (L' := (pt kq 47 [Value.map (some nb)]) :: (sl 44 3 vl l.length (l.flatMap pairCells)) :: (pt sp 49 [Value.pointer (some ⟨j, 0, none⟩), Value.map (some mb)]) :: (mp mb (strV T)) :: (mp nb (strV T1)) :: (mp mm (metV met)) :: (isJ j dp ⟨t, q, false⟩) :: (isDisk dp (⟨S, [], false, k0, c⟩ : DS)) :: F) (fun _ h => h) ?_
      refine Wl.imp (L' := (pt kq 47 [Value.map (some nb)]) :: (mp nb (strV T1)) :: (sl 44 3 vl l.length (l.flatMap pairCells)) :: (pt sp 49 [Value.pointer (some ⟨j, 0, none⟩), Value.map (some mb)]) :: (mp mb (strV T)) :: (mp mm (metV met)) :: (isJ j dp ⟨t, q, false⟩) :: (isDisk dp (⟨S, [], false, k0, c⟩ : DS)) :: F) (fun _ h => st_pull [0, 3] h) ?_
      refine Wl.e (e_call (F := (sl 44 3 vl l.length (l.flatMap pairCells)) :: (pt sp 49 [Value.pointer (some ⟨j, 0, none⟩), Value.map (some mb)]) :: (mp mb (strV T)) :: (mp mm (metV met)) :: (isJ j dp ⟨t, q, false⟩) :: (isDisk dp (⟨S, [], false, k0, c⟩ : DS)) :: F) (args := [Value.func (.func 83) #[] #[Value.pointer (some ⟨kq, 0, none⟩)]]) Tryz.call53 rfl (sorted_w W0 kq nb T1 hT1 (by omega))) (fun nv _ => ?_)
      refine Wl.imp (L' := (sl 9 1 nv T1.length ((namesA T1).map Go.Proofs.encStr)) :: (pt kq 47 [Value.map (some nb)]) :: (mp nb (strV T1)) :: (sl 44 3 vl l.length (l.flatMap pairCells)) :: (pt sp 49 [Value.pointer (some ⟨j, 0, none⟩), Value.map (some mb)]) :: (mp mb (strV T)) :: (mp mm (metV met)) :: (isJ j dp ⟨t, q, false⟩) :: (isDisk dp (⟨S, [], false, k0, c⟩ : DS)) :: F) (fun _ h => h) ?_
      refine Wl.q (v := Value.int .i64 ((T1.length : Nat) : Int)) (q_len_sl (i := 0) Tryz.underlying50 rfl rfl) ?_
      refine Wl.q (v := Value.int .i64 0) (q_move rfl) ?_
      refine Wl.done ?_
      refine Wx.go ?_
      refine Wc.block ?_
      refine Wc.loop (X := Nat × Value) (fun (i, v) E => E 74 = Value.int .i64 ((i : Nat) : Int) ∧ E 9 = v ∧ E 0 = Value.pointer (some ⟨sp, 0, none⟩) ∧ E 5 = Value.map (some nb) ∧ E 72 = nv ∧ E 73 = Value.int .i64 ((T1.length : Nat) : Int) ∧ i ≤ T1.length) (fun (i, v) => (sl 44 3 v (((allA T1).take i).length) (((allA T1).take i).flatMap pairCells)) :: (sl 9 1 nv T1.length ((namesA T1).map Go.Proofs.encStr)) :: (sl 44 3 vl l.length (l.flatMap pairCells)) :: (pt sp 49 [Value.pointer (some ⟨j, 0, none⟩), Value.map (some mb)]) :: (mp mb (strV T)) :: (mp nb (strV T1)) :: (isJ j dp ⟨t, q, false⟩) :: (isDisk dp (⟨S, [], false, k0, c⟩ : DS)) :: F) (fun (i, v) => T1.length - i) (0, Value.slice none 0 0) ?_ ?_ ?_
      · exact ⟨rfl, rfl, hE0_0, hE5_0, rfl, rfl, (Nat.zero_le _)⟩
      · exact fun w hs => st_sl_nil (st_pull [0, 1, 1, 1, 0, 0, 0] (st_drop (st_drop (st_pull [1, 5] hs))))
      · rintro ⟨i, v⟩ E6 ⟨hE74_4, hE9_4, hE0_4, hE5_4, hE72_4, hE73_4, hi⟩
        dsimp only at *
        have hall := allA_len T1
        have htl := List.length_take (i := i) (l := allA T1)
        refine Wc.seq ?_
        refine Wc.region ?_
        by_cases hlt2 : ((i : Nat) : Int) < ((T1.length : Nat) : Int)
        ·
          obtain ⟨nm, hnm⟩ : ∃ nm, (namesA T1)[i]? = some nm := ⟨(namesA T1)[i]'(by rw [namesA_len]; omega), List.getElem?_eq_getElem _⟩
          obtain ⟨tx, htx, hal⟩ := names_at hT1.1 hnm
          have hb := hT1.2 _ ((getA_mem hT1.1).1 htx)
          simp only at hb
          refine Wl.sl (i := 1) (m := T1.length) rfl (by omega) (fun nb2 nc2 hvn hcn => ?_)
          subst hvn
          refine Wl.q (v := Value.bool true) (q_lss (r := true) hE74_4 hE73_4 (decide_eq_true hlt2)) ?_
          refine Wl.done ?_
          refine Wx.go ?_
          refine Wc.seq ?_
          refine Wc.yes rfl ?_
          refine Wc.skip ?_
          refine Wx.go ?_
          refine Wc.seq ?_
          refine Wc.block ?_
          refine Wc.seq ?_
          refine Wc.region ?_
          refine Wl.q (v := Value.pointer (some ⟨nb2, i, none⟩)) (q_idx (m := i) se_50 hE72_4 hE74_4 (by omega) (by omega) (by simp)) ?_
          refine Wl.q (v := Value.string (ba nm)) (q_load sc_9 rfl (.row (i := 1) rfl (nm_at hnm))) ?_
          refine Wl.q (v := Value.string (ba nm)) (q_assign rfl) ?_
          refine Wl.done ?_
          refine Wx.go ?_
          refine Wc.region ?_
          refine Wl.q (v := v) (q_move hE9_4) ?_
          refine Wl.q (v := Value.string (ba nm)) (q_move rfl) ?_
          refine Wl.q (v := Value.map (some nb)) (q_move hE5_4) ?_
          refine Wl.q (v := Value.string (ba nm)) (q_move rfl) ?_
          refine Wl.q (v := Value.string tx) (q_lookup1 (i := 5) (key := .string (ba nm)) (r := .string tx) Tryz.underlying47 (Maps.string_keyed Tryz.underlying9) zo_9 rfl rfl rfl (keyS hb.1) (keysS hT1) (.inr (strV_yes hT1.1 htx))) ?_
          refine Wl.q (v := Value.agg #[Value.string (ba nm), Value.string tx, Value.bool false]) (q_build (pl := [(0, 1), (1, 1), (2, 1)]) Tryz.underlying44 zo_44 (by kernel_rfl) (by kernel_rfl)) ?_
          refine Wl.e (e_buildSlice (cs := [Value.string (ba nm), Value.string tx, Value.bool false]) se_22 zo_44 (by decide) (by decide) (by kernel_rfl)) (fun b7 _ => ?_)
          refine Wl.imp (L' := (pt b7 44 [Value.string (ba nm), Value.string tx, Value.bool false]) :: (sl 44 3 v (((allA T1).take i).length) (((allA T1).take i).flatMap pairCells)) :: (slp 9 1 nb2 nc2 ((namesA T1).map Go.Proofs.encStr)) :: (sl 44 3 vl l.length (l.flatMap pairCells)) :: (pt sp 49 [Value.pointer (some ⟨j, 0, none⟩), Value.map (some mb)]) :: (mp mb (strV T)) :: (mp nb (strV T1)) :: (isJ j dp ⟨t, q, false⟩) :: (isDisk dp (⟨S, [], false, k0, c⟩ : DS)) :: F) (fun _ h => h) ?_
          refine Wl.e (e_append (i := 1) (k := 3) (m := 1) (off := 0) (news := [Value.string (ba nm), Value.string tx, Value.bool false]) Tryz.underlying22 sz_44 by_44 zo_44 rfl rfl rfl rfl rfl (Has.of_pt (i := 0) rfl rfl) rfl (by decide) (by simp only [maxLen]; omega) (by omega)) (fun v2 _ => ?_)
          refine Wl.imp (L' := (pt b7 44 [Value.string (ba nm), Value.string tx, Value.bool false]) :: (sl 44 3 v2 ((((allA T1).take i).length) + 1) ((((allA T1).take i).flatMap pairCells) ++ [Value.string (ba nm), Value.string tx, Value.bool false])) :: (slp 9 1 nb2 nc2 ((namesA T1).map Go.Proofs.encStr)) :: (sl 44 3 vl l.length (l.flatMap pairCells)) :: (pt sp 49 [Value.pointer (some ⟨j, 0, none⟩), Value.map (some mb)]) :: (mp mb (strV T)) :: (mp nb (strV T1)) :: (isJ j dp ⟨t, q, false⟩) :: (isDisk dp (⟨S, [], false, k0, c⟩ : DS)) :: F) (fun _ h => h) ?_
          refine Wl.q (v := v2) (q_assign rfl) ?_
          refine Wl.done ?_
          refine Wx.blockEnd ?_
          refine Wx.go ?_
          refine Wc.region ?_
          refine Wl.q (v := Value.int .i64 ((i + 1 : Nat) : Int)) (q_add (c := ((i + 1 : Nat) : Int)) hE74_4 rfl (by rw [wrap_i64] <;> omega)) ?_
          refine Wl.q (v := Value.int .i64 ((i + 1 : Nat) : Int)) (q_move rfl) ?_
          refine Wl.done ?_
          refine Wx.at (i + 1, v2) ⟨(by simp only; omega), rfl, rfl, hE0_4, hE5_4, hE72_4, hE73_4, (by simp only; omega)⟩ (fun w hs => by rw [takeP hal, List.flatMap_append, List.length_append]; exact (fun hs => st_pull [1, 0] (st_sl_mk (e := 9) (by simp [namesA_len]) hcn hs)) (st_pull [1, 0, 0, 0, 0, 0, 0, 0] (st_drop (st_pull [0] hs))))
        ·
          have hie : i = (allA T1).length := by omega
          refine Wl.q (v := Value.bool false) (q_lss (r := false) hE74_4 hE73_4 (decide_eq_false hlt2)) ?_
          refine Wl.done ?_
          refine Wx.go ?_
          refine Wc.seq ?_
          refine Wc.no rfl ?_
          refine Wc.exit ?_
          refine Wx.thenExit ?_
          refine Wx.thenExit ?_
          refine Wx.out ?_
          refine Wx.go ?_
          refine Wc.seq ?_
          refine Wc.region ?_
          refine Wl.imp (L' := (sl 44 3 v ((allA T1).length) ((allA T1).flatMap pairCells)) :: (sl 9 1 nv T1.length ((namesA T1).map Go.Proofs.encStr)) :: (sl 44 3 vl l.length (l.flatMap pairCells)) :: (pt sp 49 [Value.pointer (some ⟨j, 0, none⟩), Value.map (some mb)]) :: (mp mb (strV T)) :: (mp nb (strV T1)) :: (isJ j dp ⟨t, q, false⟩) :: (isDisk dp (⟨S, [], false, k0, c⟩ : DS)) :: F) (fun w hs => by rw [hie, List.take_length] at hs; exact hs) ?_
          refine Wl.q (v := v) (q_move hE9_4) ?_
          refine Wl.e (e_call (F := (sl 9 1 nv T1.length ((namesA T1).map Go.Proofs.encStr)) :: (sl 44 3 vl l.length (l.flatMap pairCells)) :: (pt sp 49 [Value.pointer (some ⟨j, 0, none⟩), Value.map (some mb)]) :: (mp mb (strV T)) :: (mp nb (strV T1)) :: (isJ j dp ⟨t, q, false⟩) :: (isDisk dp (⟨S, [], false, k0, c⟩ : DS)) :: F) (args := [v]) Tryz.call12 rfl (pack_sl W0 v (allA T1) (by omega) (allA_size hT1))) (fun _ _ => ?_)
          refine Wl.imp (L' := (sl 44 3 v ((allA T1).length) ((allA T1).flatMap pairCells)) :: (sl 9 1 nv T1.length ((namesA T1).map Go.Proofs.encStr)) :: (sl 44 3 vl l.length (l.flatMap pairCells)) :: (pt sp 49 [Value.pointer (some ⟨j, 0, none⟩), Value.map (some mb)]) :: (mp mb (strV T)) :: (mp nb (strV T1)) :: (isJ j dp ⟨t, q, false⟩) :: (isDisk dp (⟨S, [], false, k0, c⟩ : DS)) :: F) (fun _ h => h) ?_
          refine Wl.q (v := Value.tuple #[Value.string ((packP (allA T1)).1), Value.int .i64 ((packP (allA T1)).2)]) (q_move rfl) ?_
          refine Wl.q (v := Value.string ((packP (allA T1)).1)) (q_extract (i := 0) rfl rfl) ?_
          refine Wl.q (v := Value.int .i64 ((packP (allA T1)).2)) (q_extract (i := 1) rfl rfl) ?_
          refine Wl.q (v := Value.string ((packP (allA T1)).1)) (q_assign rfl) ?_
          refine Wl.q (v := Value.int .i64 ((packP (allA T1)).2)) (q_assign rfl) ?_
          refine Wl.done ?_
          refine Wx.go ?_
          refine Wc.seq ?_
          refine Wc.seq ?_
          refine Wc.region ?_
          refine Wl.q (v := Value.int .i64 ((packP (allA T1)).2)) (q_move rfl) ?_
          by_cases hpk : (packP (allA T1)).2 = 0
          ·
            have hput2 : (JS.mk t q false).put (⟨S, [], false, k0, c⟩ : DS) (packP (allA T1)).1 = (pe, d2, ⟨t2, q2, dd⟩) := by have := hput (by unfold chOk; rw [hc0]; exact ⟨rfl, hpk⟩); rw [hc0] at this; exact this
            refine Wl.q (v := Value.bool true) (q_eql (r := true) rfl rfl (decide_eq_true hpk)) ?_
            refine Wl.done ?_
            refine Wx.go ?_
            refine Wc.yes rfl ?_
            refine Wc.region ?_
            refine Wl.q (v := Value.pointer (some ⟨sp, 0, none⟩)) (q_move hE0_4) ?_
            refine Wl.q (v := Value.pointer (some ⟨sp, 0, none⟩)) (q_nil_ptr rfl) ?_
            refine Wl.q (v := Value.pointer (some ⟨sp, 0, none⟩)) (q_field (m := 0) fo_49_0 rfl rfl) ?_
            refine Wl.q (v := Value.pointer (some ⟨j, 0, none⟩)) (q_load sc_46 rfl (.cel (i := 3) rfl rfl)) ?_
            refine Wl.q (v := Value.string ((packP (allA T1)).1)) (q_move rfl) ?_
            refine Wl.imp (L' := (isJ j dp ⟨t, q, false⟩) :: (isDisk dp (⟨S, [], false, k0, c⟩ : DS)) :: (sl 44 3 v ((allA T1).length) ((allA T1).flatMap pairCells)) :: (sl 9 1 nv T1.length ((namesA T1).map Go.Proofs.encStr)) :: (sl 44 3 vl l.length (l.flatMap pairCells)) :: (pt sp 49 [Value.pointer (some ⟨j, 0, none⟩), Value.map (some mb)]) :: (mp mb (strV T)) :: (mp nb (strV T1)) :: F) (fun _ h => st_pull [6, 6] h) ?_
            refine Wl.e (e_call (F := (sl 44 3 v ((allA T1).length) ((allA T1).flatMap pairCells)) :: (sl 9 1 nv T1.length ((namesA T1).map Go.Proofs.encStr)) :: (sl 44 3 vl l.length (l.flatMap pairCells)) :: (pt sp 49 [Value.pointer (some ⟨j, 0, none⟩), Value.map (some mb)]) :: (mp mb (strV T)) :: (mp nb (strV T1)) :: F) (args := [Value.pointer (some ⟨j, 0, none⟩), Value.string ((packP (allA T1)).1)]) Tryz.call55 rfl (Con.eqs (val' := fun _ => Value.int .i64 pe) (post' := fun _ => [isJ j dp ⟨t2, q2, dd⟩, isDisk dp d2]) (Put_c W0 j dp (⟨t, q, false⟩ : JS) (⟨S, [], false, k0, c⟩ : DS) ((packP (allA T1)).1) (hwf) (by show 1 ≤ (S).length; omega) (by show 0 < 1000000000000; decide) (by show k0 < 4000000000000000000; omega) (by show 0 ≤ (q : Int); omega) (by show (q : Int) < 9223372036854775807; omega)) (fun _ => by rw [hput2]) (fun _ => by rw [hput2]))) (fun _ _ => ?_)
            refine Wl.imp (L' := (isJ j dp ⟨t2, q2, dd⟩) :: (isDisk dp d2) :: (sl 44 3 v ((allA T1).length) ((allA T1).flatMap pairCells)) :: (sl 9 1 nv T1.length ((namesA T1).map Go.Proofs.encStr)) :: (sl 44 3 vl l.length (l.flatMap pairCells)) :: (pt sp 49 [Value.pointer (some ⟨j, 0, none⟩), Value.map (some mb)]) :: (mp mb (strV T)) :: (mp nb (strV T1)) :: F) (fun _ h => h) ?_
            refine Wl.q (v := Value.int .i64 pe) (q_assign rfl) ?_
            refine Wl.done ?_
            refine Wx.go ?_
            refine Wc.seq ?_
            refine Wc.seq ?_
            refine Wc.region ?_
            refine Wl.q (v := Value.int .i64 pe) (q_move rfl) ?_
            by_cases hpe : pe = 0
            ·
              refine Wl.q (v := Value.bool true) (q_eql (r := true) rfl rfl (decide_eq_true hpe)) ?_
              refine Wl.done ?_
              refine Wx.go ?_
              refine Wc.yes rfl ?_
              refine Wc.region ?_
              refine Wl.q (v := Value.pointer (some ⟨sp, 0, none⟩)) (q_move hE0_4) ?_
              refine Wl.q (v := Value.map (some nb)) (q_move hE5_4) ?_
              refine Wl.q (v := Value.pointer (some ⟨sp, 0, none⟩)) (q_nil_ptr rfl) ?_
              refine Wl.q (v := Value.pointer (some ⟨sp, 1, none⟩)) (q_field (m := 1) fo_49_1 rfl rfl) ?_
              refine Wl.e (e_store (i := 5) (v := Value.map (some nb)) sz_47 rfl rfl (fun _ _ => rfl) rfl (by simp)) (fun _ _ => ?_)
              refine Wl.imp (L' := (isJ j dp ⟨t2, q2, dd⟩) :: (isDisk dp d2) :: (sl 44 3 v ((allA T1).length) ((allA T1).flatMap pairCells)) :: (sl 9 1 nv T1.length ((namesA T1).map Go.Proofs.encStr)) :: (sl 44 3 vl l.length (l.flatMap pairCells)) :: (pt sp 49 [Value.pointer (some ⟨j, 0, none⟩), Value.map (some nb)]) :: (mp mb (strV T)) :: (mp nb (strV T1)) :: F) (fun _ h => h) ?_
              refine Wl.done ?_
              refine Wx.go ?_
              refine Wc.seq ?_
              refine Wc.region ?_
              refine Wl.q (v := Value.int .i64 pe) (q_move rfl) ?_
              refine Wl.q (v := Value.int .i64 pe) (q_assign rfl) ?_
              refine Wl.done ?_
              refine Wx.go ?_
              refine Wc.ret ?_
              refine Wx.fin1 rfl (.inl rfl) (fun w hs => ?_)
              obtain ⟨c1, c2, c3⟩ := chE_ok hc0 hpk hpe
              refine ⟨nb, trivial, by rw [c1, ← hpe]; rfl, ?_⟩
              rw [c2, c3, c3]
              exact (st_pull [2, 2, 2, 0, 0] (st_drop (st_drop (st_drop (st_pull [2, 2, 4] hs)))))
            ·
              refine Wl.q (v := Value.bool false) (q_eql (r := false) rfl rfl (decide_eq_false hpe)) ?_
              refine Wl.done ?_
              refine Wx.go ?_
              refine Wc.no rfl ?_
              refine Wc.skip ?_
              refine Wx.go ?_
              refine Wc.seq ?_
              refine Wc.region ?_
              refine Wl.q (v := Value.int .i64 pe) (q_move rfl) ?_
              refine Wl.q (v := Value.int .i64 pe) (q_assign rfl) ?_
              refine Wl.done ?_
              refine Wx.go ?_
              refine Wc.ret ?_
              refine Wx.fin1 rfl (.inl rfl) (fun w hs => ?_)
              obtain ⟨c1, c2, c3⟩ := chE_put hc0 hpk hpe
              refine ⟨mb, trivial, by rw [c1]; rfl, ?_⟩
              rw [c2, c3, c3]
              exact (st_pull [2, 2, 2, 0, 0] (st_drop (st_drop (st_drop (st_pull [2, 2, 5] hs)))))
          ·
            refine Wl.q (v := Value.bool false) (q_eql (r := false) rfl rfl (decide_eq_false hpk)) ?_
            refine Wl.done ?_
            refine Wx.go ?_
            refine Wc.no rfl ?_
            refine Wc.skip ?_
            refine Wx.go ?_
            refine Wc.seq ?_
            refine Wc.seq ?_
            refine Wc.region ?_
            refine Wl.q (v := Value.int .i64 ((packP (allA T1)).2)) (q_move rfl) ?_
            refine Wl.q (v := Value.bool false) (q_eql (r := false) rfl rfl (decide_eq_false (hpk))) ?_
            refine Wl.done ?_
            refine Wx.go ?_
            refine Wc.no rfl ?_
            refine Wc.skip ?_
            refine Wx.go ?_
            refine Wc.seq ?_
            refine Wc.region ?_
            refine Wl.q (v := Value.int .i64 ((packP (allA T1)).2)) (q_move rfl) ?_
            refine Wl.q (v := Value.int .i64 ((packP (allA T1)).2)) (q_assign rfl) ?_
            refine Wl.done ?_
            refine Wx.go ?_
            refine Wc.ret ?_
            refine Wx.fin1 rfl (.inl rfl) (fun w hs => ?_)
            obtain ⟨c1, c2, c3⟩ := chE_pk (pe := pe) hc0 hpk
            refine ⟨mb, trivial, by rw [c1]; rfl, ?_⟩
            rw [c2, c3, c3]
            exact (st_drop (st_drop (st_drop (st_pull [0, 0, 3] hs))))

end Go.Proofs.YtkndmgfahghcjaaGreat

