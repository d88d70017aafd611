import Derived.Test.YtkndmgfahghcjaaGreatWrF
import Derived.Test.YtkndmgfahghcjaaGreatWrN
import Derived.Test.YtkndmgfahghcjaaGreatWrR
import Derived.Test.YtkndmgfahghcjaaGreatWrO
import Derived.Test.YtkndmgfahghcjaaGreatStM
import Derived.Test.YtkndmgfahghcjaaGreatSLN
import Derived.Test.YtkndmgfahghcjaaGreatSLK
import Derived.Test.YtkndmgfahghcjaaGreatSLR
/- Contracts of the calls. -/
namespace Go.Proofs.YtkndmgfahghcjaaGreat
open Go Go.SL Go.St Go.Wr Go.RowKit
open Go.Dk (DS WF)
open Go.Jn (JS Ok openD_up)
set_option linter.unusedVariables false
set_option maxRecDepth 8000
theorem se_22 : sliceElem Tryz.prog 22 = some (44, 3) := by kernel_rfl
theorem ag_44 : aggSize Tryz.prog 44 = some 3 := by kernel_rfl
theorem zo_44 : zeroOf Tryz.prog 44 = some (Value.agg #[Value.string (⟨#[]⟩), Value.string (⟨#[]⟩), Value.bool false]) := by kernel_rfl
theorem sz_44 : sizeIs Tryz.prog 44 = some 3 := by kernel_rfl
theorem fo_44_0 : fieldOff Tryz.prog 44 0 = some 0 := by kernel_rfl
theorem fo_44_1 : fieldOff Tryz.prog 44 1 = some 1 := by kernel_rfl
theorem fo_44_2 : fieldOff Tryz.prog 44 2 = some 2 := by kernel_rfl
theorem packP_err {l : List PairR} {e : Int} (h1 : ¬ 256 < l.length) (hw : wrongP none l = e) (he : e ≠ 0) : packP l = (⟨#[]⟩, e) := by
 unfold packP; rw [if_neg h1, hw, if_neg he]
theorem packP_ok {l : List PairR} (h1 : ¬ 256 < l.length) (hw : wrongP none l = 0) : packP l = (ba (enc (zz (l.length : Int)) ++ bytesP l), 0) := by
 unfold packP; rw [if_neg h1, if_pos hw]
theorem packP_many {l : List PairR} (h1 : 256 < l.length) : packP l = (⟨#[]⟩, 3) := by unfold packP; rw [if_pos h1]
theorem listW_few {n : Nat} (h : n ≤ 65536) : (listW (n : Int)).2 = enc (zz (n : Int)) := by rw [listW, if_neg (by omega), if_neg (by omega)]

theorem pack_sl (W0 : World) (vl : Value) (l : List PairR) (hlm : l.length ≤ 9223372036854775807) (hsz : ∀ p ∈ l, p.n.size ≤ 9223372036854775807 ∧ p.t.size ≤ 9223372036854775807) :
    Con Tryz.prog W0 12 #[vl] [sl 44 3 vl l.length (l.flatMap pairCells)] (X := Unit) (fun _ => True) (fun _ => .tuple #[.string (packP l).1, .int .i64 (packP l).2]) (fun _ => [sl 44 3 vl l.length (l.flatMap pairCells)]) := by
  refine Con.of (args := [vl]) Tryz.func12 rfl Tryz.ntmps12 rfl (fun F => ?_)
  show Wc _ W0 _ _ _ _ _ ((sl 44 3 vl l.length (l.flatMap pairCells)) :: F)
  refine Wc.seq ?_
  refine Wc.region ?_
  refine Wl.q (v := Value.string (⟨#[]⟩)) (q_assign rfl) ?_
  refine Wl.q (v := Value.int .i64 0) (q_assign rfl) ?_
  refine Wl.done ?_
  refine Wx.go ?_
  refine Wc.seq ?_
  refine Wc.seq ?_
  refine Wc.region ?_
  refine Wl.q (v := vl) (q_move rfl) ?_
  refine Wl.q (v := Value.int .i64 ((l.length : Nat) : Int)) (q_len_sl (i := 0) Tryz.underlying22 rfl rfl) ?_
  by_cases hbig : ((l.length : Nat) : Int) > 256
  ·
    refine Wl.q (v := Value.bool true) (q_gtr (r := true) rfl rfl (decide_eq_true hbig)) ?_
    refine Wl.done ?_
    refine Wx.go ?_
    refine Wc.yes rfl ?_
    refine Wc.seq ?_
    refine Wc.region ?_
    refine Wl.q (v := Value.string (⟨#[]⟩)) (q_assign rfl) ?_
    refine Wl.q (v := Value.int .i64 3) (q_assign rfl) ?_
    refine Wl.done ?_
    refine Wx.go ?_
    refine Wc.ret ?_
    refine Wx.thenRet ?_
    refine Wx.fin2 rfl (.inl rfl) (fun w hs => ?_)
    exact ⟨(), trivial, by rw [packP_many (by omega)]; rfl, hs⟩
  ·
    refine Wl.q (v := Value.bool false) (q_gtr (r := false) rfl rfl (decide_eq_false hbig)) ?_
    refine Wl.done ?_
    refine Wx.go ?_
    refine Wc.no rfl ?_
    refine Wc.skip ?_
    refine Wx.go ?_
    refine Wc.seq ?_
    refine Wc.region ?_
    refine Wl.e (e_call (F := (sl 44 3 vl l.length (l.flatMap pairCells)) :: F) (args := []) Tryz.call32 rfl (wnew_c W0)) (fun wq _ => ?_)
    refine Wl.imp (L' := (isW wq []) :: (sl 44 3 vl l.length (l.flatMap pairCells)) :: F) (fun _ h => h) ?_
    refine Wl.q (v := Value.pointer (some ⟨wq, 0, none⟩)) (q_assign rfl) ?_
    refine Wl.done ?_
    refine Wx.go ?_
    refine Wc.seq ?_
    refine Wc.region ?_
    refine Wl.q (v := Value.pointer (some ⟨wq, 0, none⟩)) (q_move rfl) ?_
    refine Wl.q (v := vl) (q_move rfl) ?_
    refine Wl.q (v := Value.int .i64 ((l.length : Nat) : Int)) (q_len_sl (i := 1) Tryz.underlying22 rfl rfl) ?_
    refine Wl.e (e_call (F := (sl 44 3 vl l.length (l.flatMap pairCells)) :: F) (args := [Value.pointer (some ⟨wq, 0, none⟩), Value.int .i64 ((l.length : Nat) : Int)]) Tryz.call33 rfl (wlist_c W0 wq [] ((l.length : Nat) : Int) (by simp only [List.length_nil]; omega))) (fun _ _ => ?_)
    refine Wl.imp (L' := (isW wq ([] ++ (listW ((l.length : Nat) : Int)).2)) :: (sl 44 3 vl l.length (l.flatMap pairCells)) :: F) (fun _ h => h) ?_
    refine Wl.done ?_
    refine Wx.go ?_
    refine Wc.seq ?_
    refine Wc.seq ?_
    refine Wc.region ?_
    refine Wl.q (v := vl) (q_move rfl) ?_
    refine Wl.q (v := Value.int .i64 ((l.length : Nat) : Int)) (q_len_sl (i := 1) Tryz.underlying22 rfl rfl) ?_
    refine Wl.q (v := Value.int .i64 0) (q_move rfl) ?_
    refine Wl.done ?_
    refine Wx.go ?_
    refine Wc.block ?_
    refine Wc.loop (X := Nat) (fun k E => E 17 = Value.int .i64 ((k : Nat) : Int) ∧ E 0 = vl ∧ E 4 = Value.pointer (some ⟨wq, 0, none⟩) ∧ E 15 = vl ∧ E 16 = Value.int .i64 ((l.length : Nat) : Int) ∧ k ≤ l.length ∧ wrongP none l = wrongP (prevP l k) (l.drop k)) (fun k => (sl 44 3 vl l.length (l.flatMap pairCells)) :: (isW wq (([] ++ (listW ((l.length : Nat) : Int)).2) ++ bytesP (l.take k))) :: F) (fun k => l.length - k) 0 ?_ ?_ ?_
    · exact ⟨rfl, rfl, rfl, rfl, rfl, (Nat.zero_le _), rfl⟩
    · exact fun w hs => by rw [show (([] ++ (listW ((l.length : Nat) : Int)).2) ++ bytesP (l.take 0)) = [] ++ (listW ((l.length : Nat) : Int)).2 from List.append_nil _]; exact (st_pull [1, 0] (hs))
    · rintro k E2 ⟨hE17_0, hE0_0, hE4_0, hE15_0, hE16_0, hk, hp0⟩
      have hbt := bytesP_take l (k := k) (by omega)
      have hlw := listW_few (n := l.length) (by omega)
      have hel := enc_len_le 9 (zz ((l.length : Nat) : Int)) (by have := zz_lt (n := ((l.length : Nat) : Int)) (by omega) (by omega); omega)
      have hll : (listW ((l.length : Nat) : Int)).2.length ≤ 10 := by rw [hlw]; exact hel
      refine Wc.seq ?_
      refine Wc.region ?_
      by_cases hlt : ((k : Nat) : Int) < ((l.length : Nat) : Int)
      ·
        obtain ⟨⟨on, ot, og⟩, hget⟩ : ∃ o, l[k]? = some o := ⟨l[k]'(by omega), List.getElem?_eq_getElem (by omega)⟩
        have hsz0 := hsz _ (List.mem_of_getElem? hget)
        simp only at hsz0
        refine Wl.sl (i := 0) (m := l.length) rfl (by omega) (fun vb vc hv hcl => ?_)
        subst hv
        refine Wl.q (v := Value.bool true) (q_lss (r := true) hE17_0 hE16_0 (decide_eq_true hlt)) ?_
        refine Wl.done ?_
        refine Wx.go ?_
        refine Wc.seq ?_
        refine Wc.yes rfl ?_
        refine Wc.skip ?_
        refine Wx.go ?_
        refine Wc.seq ?_
        refine Wc.block ?_
        refine Wc.seq ?_
        refine Wc.region ?_
        refine Wl.q (v := Value.int .i64 ((k : Nat) : Int)) (q_move hE17_0) ?_
        refine Wl.q (v := Value.pointer (some ⟨vb, k * 3, none⟩)) (q_idx (m := k * 3) se_22 hE15_0 hE17_0 (by omega) (by omega) (by simp)) ?_
        refine Wl.q (v := Value.agg #[Value.string on, Value.string ot, Value.bool og]) (q_loadAgg (vs := [Value.string on, Value.string ot, Value.bool og]) ag_44 rfl (fun j u hj => .row (i := 0) rfl (flat3P hget j u hj))) ?_
        refine Wl.e (e_alloc (vs := [Value.string (⟨#[]⟩), Value.string (⟨#[]⟩), Value.bool false]) zo_44 rfl) (fun b3 _ => ?_)
        refine Wl.imp (L' := (pt b3 44 ([Value.string (⟨#[]⟩), Value.string (⟨#[]⟩), Value.bool false])) :: (slp 44 3 vb vc (l.flatMap pairCells)) :: (isW wq (([] ++ (listW ((l.length : Nat) : Int)).2) ++ bytesP (l.take k))) :: F) (fun _ h => h) ?_
        by_cases hg : og = true
        ·
          subst hg
          refine Wl.q (v := Value.int .i64 ((k : Nat) : Int)) (q_assign rfl) ?_
          refine Wl.e (e_storeAgg (i := 0) (vs := [Value.string on, Value.string ot, Value.bool true]) (c' := [Value.string on, Value.string ot, Value.bool true]) sz_44 rfl rfl rfl rfl (by simp) rfl) (fun _ _ => ?_)
          refine Wl.imp (L' := (pt b3 44 [Value.string on, Value.string ot, Value.bool true]) :: (slp 44 3 vb vc (l.flatMap pairCells)) :: (isW wq (([] ++ (listW ((l.length : Nat) : Int)).2) ++ bytesP (l.take k))) :: F) (fun _ h => h) ?_
          refine Wl.done ?_
          refine Wx.go ?_
          refine Wc.seq ?_
          refine Wc.seq ?_
          refine Wc.region ?_
          refine Wl.q (v := Value.pointer (some ⟨b3, 0, none⟩)) (q_field (m := 0) fo_44_0 rfl rfl) ?_
          refine Wl.q (v := Value.string on) (q_load sc_9 rfl (.cel (i := 0) rfl rfl)) ?_
          refine Wl.q (v := Value.int .i64 ((on.size : Nat) : Int)) (q_len_str Tryz.underlying9 rfl) ?_
          by_cases hn1 : ((on.size : Nat) : Int) > 65536
          ·
            have hlong : longP ⟨on, ot, true⟩ := .inl (by show 65536 < on.size; omega)
            refine Wl.q (v := Value.bool true) (q_gtr (r := true) rfl rfl (decide_eq_true hn1)) ?_
            refine Wl.q (v := Value.bool true) (q_move rfl) ?_
            refine Wl.no ?_
            refine Wl.no ?_
            refine Wl.no ?_
            refine Wl.no ?_
            refine Wl.q (v := Value.bool true) (q_pick (t := true) rfl rfl) ?_
            refine Wl.done ?_
            refine Wx.go ?_
            refine Wc.yes rfl ?_
            refine Wc.seq ?_
            refine Wc.region ?_
            refine Wl.q (v := Value.string (⟨#[]⟩)) (q_assign rfl) ?_
            refine Wl.q (v := Value.int .i64 3) (q_assign rfl) ?_
            refine Wl.done ?_
            refine Wx.go ?_
            refine Wc.ret ?_
            refine Wx.thenRet ?_
            refine Wx.blockRet ?_
            refine Wx.thenRet ?_
            refine Wx.thenRet ?_
            refine Wx.blockRet ?_
            refine Wx.thenRet ?_
            refine Wx.fin2 rfl (.inl rfl) (fun w hs => ?_)
            exact ⟨(), trivial, by rw [packP_err (by omega) (hp0.trans (wrong_long hget hlong)) (by decide)]; rfl, ((fun hs => st_sl_mk (e := 44) (flat_len3P l) hcl hs) (st_drop (st_drop (st_pull [0, 1] hs))))⟩
          ·
            refine Wl.q (v := Value.bool false) (q_gtr (r := false) rfl rfl (decide_eq_false hn1)) ?_
            refine Wl.q (v := Value.bool false) (q_move rfl) ?_
            refine Wl.q (v := Value.pointer (some ⟨b3, 1, none⟩)) (q_field (m := 1) fo_44_1 rfl rfl) ?_
            refine Wl.q (v := Value.string ot) (q_load sc_9 rfl (.cel (i := 0) rfl rfl)) ?_
            refine Wl.q (v := Value.int .i64 ((ot.size : Nat) : Int)) (q_len_str Tryz.underlying9 rfl) ?_
            by_cases hn2 : ((ot.size : Nat) : Int) > 65536
            ·
              have hlong : longP ⟨on, ot, true⟩ := .inr (by show 65536 < ot.size; omega)
              refine Wl.q (v := Value.bool true) (q_gtr (r := true) rfl rfl (decide_eq_true hn2)) ?_
              refine Wl.q (v := Value.bool true) (q_pick (t := false) rfl rfl) ?_
              refine Wl.done ?_
              refine Wx.go ?_
              refine Wc.yes rfl ?_
              refine Wc.seq ?_
              refine Wc.region ?_
              refine Wl.q (v := Value.string (⟨#[]⟩)) (q_assign rfl) ?_
              refine Wl.q (v := Value.int .i64 3) (q_assign rfl) ?_
              refine Wl.done ?_
              refine Wx.go ?_
              refine Wc.ret ?_
              refine Wx.thenRet ?_
              refine Wx.blockRet ?_
              refine Wx.thenRet ?_
              refine Wx.thenRet ?_
              refine Wx.blockRet ?_
              refine Wx.thenRet ?_
              refine Wx.fin2 rfl (.inl rfl) (fun w hs => ?_)
              exact ⟨(), trivial, by rw [packP_err (by omega) (hp0.trans (wrong_long hget hlong)) (by decide)]; rfl, ((fun hs => st_sl_mk (e := 44) (flat_len3P l) hcl hs) (st_drop (st_drop (st_pull [0, 1] hs))))⟩
            ·
              have hlong : ¬ longP ⟨on, ot, true⟩ := by unfold longP; simp only; omega
              refine Wl.q (v := Value.bool false) (q_gtr (r := false) rfl rfl (decide_eq_false hn2)) ?_
              refine Wl.q (v := Value.bool false) (q_pick (t := false) rfl rfl) ?_
              refine Wl.done ?_
              refine Wx.go ?_
              refine Wc.no rfl ?_
              refine Wc.skip ?_
              refine Wx.go ?_
              refine Wc.seq ?_
              refine Wc.seq ?_
              refine Wc.drawsS [] ((pt b3 44 [Value.string on, Value.string ot, Value.bool true]) :: (slp 44 3 vb vc (l.flatMap pairCells)) :: (isW wq (([] ++ (listW ((l.length : Nat) : Int)).2) ++ bytesP (l.take k))) :: []) (by kernel_rfl) ?_
              refine Wr.pure (v := Value.pointer (some ⟨b3, 2, none⟩)) 0 rfl (by kernel_rfl) (.inr (fun _ h => st_take [0, 0, 0] h)) (.inl ⟨rfl, fun _ => q_field (m := 2) fo_44_2 rfl rfl⟩) ?_
              refine Wr.take (v := Value.bool true) 1 rfl (by kernel_rfl) (fun _ h => st_take [0, 0, 0] h) (.inl ⟨rfl, q_load sc_4 rfl (.cel (i := 0) rfl rfl)⟩) ?_
              refine Wr.pure (v := Value.bool true) 2 rfl (by kernel_rfl) (.inr (fun _ h => st_take [0, 0, 0] h)) (.inl ⟨rfl, fun _ => q_move rfl⟩) ?_
              refine Wr.pure (v := undef) 3 rfl (by kernel_rfl) (.inr (fun _ h => st_take [0, 0, 0] h)) (.inr ⟨rfl, rfl⟩) ?_
              refine Wr.pure (v := undef) 4 rfl (by kernel_rfl) (.inr (fun _ h => st_take [0, 0, 0] h)) (.inr ⟨rfl, rfl⟩) ?_
              refine Wr.pure (v := undef) 5 rfl (by kernel_rfl) (.inr (fun _ h => st_take [0, 0, 0] h)) (.inr ⟨rfl, rfl⟩) ?_
              refine Wr.pure (v := undef) 6 rfl (by kernel_rfl) (.inr (fun _ h => st_take [0, 0, 0] h)) (.inr ⟨rfl, rfl⟩) ?_
              refine Wr.pure (v := undef) 7 rfl (by kernel_rfl) (.inr (fun _ h => st_take [0, 0, 0] h)) (.inr ⟨rfl, rfl⟩) ?_
              refine Wr.pure (v := undef) 8 rfl (by kernel_rfl) (.inr (fun _ h => st_take [0, 0, 0] h)) (.inr ⟨rfl, rfl⟩) ?_
              refine Wr.pure (v := undef) 9 rfl (by kernel_rfl) (.inr (fun _ h => st_take [0, 0, 0] h)) (.inr ⟨rfl, rfl⟩) ?_
              refine Wr.pure (v := undef) 10 rfl (by kernel_rfl) (.inr (fun _ h => st_take [0, 0, 0] h)) (.inr ⟨rfl, rfl⟩) ?_
              refine Wr.pure (v := undef) 11 rfl (by kernel_rfl) (.inr (fun _ h => st_take [0, 0, 0] h)) (.inr ⟨rfl, rfl⟩) ?_
              refine Wr.pure (v := undef) 12 rfl (by kernel_rfl) (.inr (fun _ h => st_take [0, 0, 0] h)) (.inr ⟨rfl, rfl⟩) ?_
              refine Wr.pure (v := undef) 13 rfl (by kernel_rfl) (.inr (fun _ h => st_take [0, 0, 0] h)) (.inr ⟨rfl, rfl⟩) ?_
              refine Wr.pure (v := undef) 14 rfl (by kernel_rfl) (.inr (fun _ h => st_take [0, 0, 0] h)) (.inr ⟨rfl, rfl⟩) ?_
              refine Wr.pure (v := undef) 15 rfl (by kernel_rfl) (.inr (fun _ h => st_take [0, 0, 0] h)) (.inr ⟨rfl, rfl⟩) ?_
              refine Wr.pure (v := Value.bool true) 16 rfl (by kernel_rfl) (.inr (fun _ h => st_take [0, 0, 0] h)) (.inl ⟨rfl, fun _ => q_pick (t := true) rfl rfl⟩) ?_
              refine Wr.done (by kernel_rfl) ?_
              refine Wx.go ?_
              refine Wc.yes rfl ?_
              refine Wc.seq ?_
              refine Wc.region ?_
              refine Wl.q (v := Value.string (⟨#[]⟩)) (q_assign rfl) ?_
              refine Wl.q (v := Value.int .i64 1) (q_assign rfl) ?_
              refine Wl.done ?_
              refine Wx.go ?_
              refine Wc.ret ?_
              refine Wx.thenRet ?_
              refine Wx.blockRet ?_
              refine Wx.thenRet ?_
              refine Wx.thenRet ?_
              refine Wx.blockRet ?_
              refine Wx.thenRet ?_
              refine Wx.fin2 rfl (.inl rfl) (fun w hs => ?_)
              exact ⟨(), trivial, by rw [packP_err (by omega) (hp0.trans (wrong_gone hget hlong rfl)) (by decide)]; rfl, ((fun hs => st_sl_mk (e := 44) (flat_len3P l) hcl hs) (st_drop (st_drop (st_pull [0, 1] hs))))⟩
        ·
          obtain rfl : og = false := Bool.eq_false_iff.2 hg
          refine Wl.q (v := Value.int .i64 ((k : Nat) : Int)) (q_assign rfl) ?_
          refine Wl.e (e_storeAgg (i := 0) (vs := [Value.string on, Value.string ot, Value.bool false]) (c' := [Value.string on, Value.string ot, Value.bool false]) sz_44 rfl rfl rfl rfl (by simp) rfl) (fun _ _ => ?_)
          refine Wl.imp (L' := (pt b3 44 [Value.string on, Value.string ot, Value.bool false]) :: (slp 44 3 vb vc (l.flatMap pairCells)) :: (isW wq (([] ++ (listW ((l.length : Nat) : Int)).2) ++ bytesP (l.take k))) :: F) (fun _ h => h) ?_
          refine Wl.done ?_
          refine Wx.go ?_
          refine Wc.seq ?_
          refine Wc.seq ?_
          refine Wc.region ?_
          refine Wl.q (v := Value.pointer (some ⟨b3, 0, none⟩)) (q_field (m := 0) fo_44_0 rfl rfl) ?_
          refine Wl.q (v := Value.string on) (q_load sc_9 rfl (.cel (i := 0) rfl rfl)) ?_
          refine Wl.q (v := Value.int .i64 ((on.size : Nat) : Int)) (q_len_str Tryz.underlying9 rfl) ?_
          by_cases hn1 : ((on.size : Nat) : Int) > 65536
          ·
            have hlong : longP ⟨on, ot, false⟩ := .inl (by show 65536 < on.size; omega)
            refine Wl.q (v := Value.bool true) (q_gtr (r := true) rfl rfl (decide_eq_true hn1)) ?_
            refine Wl.q (v := Value.bool true) (q_move rfl) ?_
            refine Wl.no ?_
            refine Wl.no ?_
            refine Wl.no ?_
            refine Wl.no ?_
            refine Wl.q (v := Value.bool true) (q_pick (t := true) rfl rfl) ?_
            refine Wl.done ?_
            refine Wx.go ?_
            refine Wc.yes rfl ?_
            refine Wc.seq ?_
            refine Wc.region ?_
            refine Wl.q (v := Value.string (⟨#[]⟩)) (q_assign rfl) ?_
            refine Wl.q (v := Value.int .i64 3) (q_assign rfl) ?_
            refine Wl.done ?_
            refine Wx.go ?_
            refine Wc.ret ?_
            refine Wx.thenRet ?_
            refine Wx.blockRet ?_
            refine Wx.thenRet ?_
            refine Wx.thenRet ?_
            refine Wx.blockRet ?_
            refine Wx.thenRet ?_
            refine Wx.fin2 rfl (.inl rfl) (fun w hs => ?_)
            exact ⟨(), trivial, by rw [packP_err (by omega) (hp0.trans (wrong_long hget hlong)) (by decide)]; rfl, ((fun hs => st_sl_mk (e := 44) (flat_len3P l) hcl hs) (st_drop (st_drop (st_pull [0, 1] hs))))⟩
          ·
            refine Wl.q (v := Value.bool false) (q_gtr (r := false) rfl rfl (decide_eq_false hn1)) ?_
            refine Wl.q (v := Value.bool false) (q_move rfl) ?_
            refine Wl.q (v := Value.pointer (some ⟨b3, 1, none⟩)) (q_field (m := 1) fo_44_1 rfl rfl) ?_
            refine Wl.q (v := Value.string ot) (q_load sc_9 rfl (.cel (i := 0) rfl rfl)) ?_
            refine Wl.q (v := Value.int .i64 ((ot.size : Nat) : Int)) (q_len_str Tryz.underlying9 rfl) ?_
            by_cases hn2 : ((ot.size : Nat) : Int) > 65536
            ·
              have hlong : longP ⟨on, ot, false⟩ := .inr (by show 65536 < ot.size; omega)
              refine Wl.q (v := Value.bool true) (q_gtr (r := true) rfl rfl (decide_eq_true hn2)) ?_
              refine Wl.q (v := Value.bool true) (q_pick (t := false) rfl rfl) ?_
              refine Wl.done ?_
              refine Wx.go ?_
              refine Wc.yes rfl ?_
              refine Wc.seq ?_
              refine Wc.region ?_
              refine Wl.q (v := Value.string (⟨#[]⟩)) (q_assign rfl) ?_
              refine Wl.q (v := Value.int .i64 3) (q_assign rfl) ?_
              refine Wl.done ?_
              refine Wx.go ?_
              refine Wc.ret ?_
              refine Wx.thenRet ?_
              refine Wx.blockRet ?_
              refine Wx.thenRet ?_
              refine Wx.thenRet ?_
              refine Wx.blockRet ?_
              refine Wx.thenRet ?_
              refine Wx.fin2 rfl (.inl rfl) (fun w hs => ?_)
              exact ⟨(), trivial, by rw [packP_err (by omega) (hp0.trans (wrong_long hget hlong)) (by decide)]; rfl, ((fun hs => st_sl_mk (e := 44) (flat_len3P l) hcl hs) (st_drop (st_drop (st_pull [0, 1] hs))))⟩
            ·
              have hlong : ¬ longP ⟨on, ot, false⟩ := by unfold longP; simp only; omega
              refine Wl.q (v := Value.bool false) (q_gtr (r := false) rfl rfl (decide_eq_false hn2)) ?_
              refine Wl.q (v := Value.bool false) (q_pick (t := false) rfl rfl) ?_
              refine Wl.done ?_
              refine Wx.go ?_
              refine Wc.no rfl ?_
              refine Wc.skip ?_
              refine Wx.go ?_
              refine Wc.seq ?_
              refine Wc.seq ?_
              refine Wc.drawsS [] ((pt b3 44 [Value.string on, Value.string ot, Value.bool false]) :: (slp 44 3 vb vc (l.flatMap pairCells)) :: (isW wq (([] ++ (listW ((l.length : Nat) : Int)).2) ++ bytesP (l.take k))) :: []) (by kernel_rfl) ?_
              refine Wr.pure (v := Value.pointer (some ⟨b3, 2, none⟩)) 0 rfl (by kernel_rfl) (.inr (fun _ h => st_take [0, 0, 0] h)) (.inl ⟨rfl, fun _ => q_field (m := 2) fo_44_2 rfl rfl⟩) ?_
              refine Wr.take (v := Value.bool false) 1 rfl (by kernel_rfl) (fun _ h => st_take [0, 0, 0] h) (.inl ⟨rfl, q_load sc_4 rfl (.cel (i := 0) rfl rfl)⟩) ?_
              refine Wr.pure (v := Value.bool false) 2 rfl (by kernel_rfl) (.inr (fun _ h => st_take [0, 0, 0] h)) (.inl ⟨rfl, fun _ => q_move rfl⟩) ?_
              refine Wr.pure (v := Value.int .i64 ((k : Nat) : Int)) 3 rfl (by kernel_rfl) (.inr (fun _ h => st_take [0, 0, 0] h)) (.inl ⟨rfl, fun _ => q_move rfl⟩) ?_
              by_cases hk0 : ((k : Nat) : Int) > 0
              ·
                obtain ⟨q, hq⟩ : ∃ q, l[k - 1]? = some q := ⟨l[k - 1]'(by omega), List.getElem?_eq_getElem (by omega)⟩
                refine Wr.pure (v := Value.bool true) 4 rfl (by kernel_rfl) (.inr (fun _ h => st_take [0, 0, 0] h)) (.inl ⟨rfl, fun _ => q_gtr (r := true) rfl rfl (decide_eq_true hk0)⟩) ?_
                refine Wr.pure (v := Value.bool true) 5 rfl (by kernel_rfl) (.inr (fun _ h => st_take [0, 0, 0] h)) (.inl ⟨rfl, fun _ => q_move rfl⟩) ?_
                refine Wr.pure (v := Value.pointer (some ⟨b3, 0, none⟩)) 6 rfl (by kernel_rfl) (.inr (fun _ h => st_take [0, 0, 0] h)) (.inl ⟨rfl, fun _ => q_field (m := 0) fo_44_0 rfl rfl⟩) ?_
                refine Wr.take (v := Value.string on) 7 rfl (by kernel_rfl) (fun _ h => st_take [0, 0, 0] h) (.inl ⟨rfl, q_load sc_9 rfl (.cel (i := 0) rfl rfl)⟩) ?_
                refine Wr.pure (v := Value.slice (some ⟨vb, 0, none⟩) l.length vc) 8 rfl (by kernel_rfl) (.inr (fun _ h => st_take [0, 0, 0] h)) (.inl ⟨rfl, fun _ => q_move hE0_0⟩) ?_
                refine Wr.pure (v := Value.int .i64 ((k : Nat) : Int)) 9 rfl (by kernel_rfl) (.inr (fun _ h => st_take [0, 0, 0] h)) (.inl ⟨rfl, fun _ => q_move rfl⟩) ?_
                refine Wr.pure (v := Value.int .i64 (((k - 1) : Nat) : Int)) 10 rfl (by kernel_rfl) (.inr (fun _ h => st_take [0, 0, 0] h)) (.inl ⟨rfl, fun _ => q_sub (c := (((k - 1) : Nat) : Int)) rfl rfl (by rw [wrap_i64 (by omega) (by omega)]; omega)⟩) ?_
                refine Wr.pure (v := Value.pointer (some ⟨vb, (k - 1) * 3, none⟩)) 11 rfl (by kernel_rfl) (.inr (fun _ h => st_take [0, 0, 0] h)) (.inl ⟨rfl, fun _ => q_idx (m := (k - 1) * 3) se_22 rfl rfl (by omega) (by omega) (by simp)⟩) ?_
                refine Wr.pure (v := Value.pointer (some ⟨vb, (k - 1) * 3, none⟩)) 12 rfl (by kernel_rfl) (.inr (fun _ h => st_take [0, 0, 0] h)) (.inl ⟨rfl, fun _ => q_field (m := (k - 1) * 3) fo_44_0 rfl rfl⟩) ?_
                refine Wr.take (v := Value.string q.n) 13 rfl (by kernel_rfl) (fun _ h => st_take [0, 0, 0] h) (.inl ⟨rfl, q_load sc_9 rfl (.row (i := 1) rfl (flat3P hq 0 _ rfl))⟩) ?_
                by_cases hlt2 : ltS q.n on
                ·
                  refine Wr.pure (v := Value.bool false) 14 rfl (by kernel_rfl) (.inr (fun _ h => st_take [0, 0, 0] h)) (.inl ⟨rfl, fun _ => q_leq_str (r := false) rfl rfl (leq_lt hlt2)⟩) ?_
                  refine Wr.pure (v := Value.bool false) 15 rfl (by kernel_rfl) (.inr (fun _ h => st_take [0, 0, 0] h)) (.inl ⟨rfl, fun _ => q_pick (t := true) rfl rfl⟩) ?_
                  refine Wr.pure (v := Value.bool false) 16 rfl (by kernel_rfl) (.inr (fun _ h => st_take [0, 0, 0] h)) (.inl ⟨rfl, fun _ => q_pick (t := false) rfl rfl⟩) ?_
                  refine Wr.done (by kernel_rfl) ?_
                  refine Wx.go ?_
                  refine Wc.no rfl ?_
                  refine Wc.skip ?_
                  refine Wx.go ?_
                  refine Wc.seq ?_
                  refine Wc.region ?_
                  refine Wl.q (v := Value.pointer (some ⟨wq, 0, none⟩)) (q_move hE4_0) ?_
                  refine Wl.q (v := Value.pointer (some ⟨b3, 0, none⟩)) (q_field (m := 0) fo_44_0 rfl rfl) ?_
                  refine Wl.q (v := Value.string on) (q_load sc_9 rfl (.cel (i := 0) rfl rfl)) ?_
                  refine Wl.imp (L' := (isW wq (([] ++ (listW ((l.length : Nat) : Int)).2) ++ bytesP (l.take k))) :: (pt b3 44 [Value.string on, Value.string ot, Value.bool false]) :: (slp 44 3 vb vc (l.flatMap pairCells)) :: F) (fun _ h => st_pull [2] h) ?_
                  refine Wl.e (e_call (F := (pt b3 44 [Value.string on, Value.string ot, Value.bool false]) :: (slp 44 3 vb vc (l.flatMap pairCells)) :: F) (args := [Value.pointer (some ⟨wq, 0, none⟩), Value.string on]) Tryz.call34 rfl (wtextW_c W0 wq (([] ++ (listW ((l.length : Nat) : Int)).2) ++ bytesP (l.take k)) on (by simp only [List.length_append, List.length_nil]; (try have := textW_len on); omega))) (fun _ _ => ?_)
                  refine Wl.imp (L' := (isW wq ((([] ++ (listW ((l.length : Nat) : Int)).2) ++ bytesP (l.take k)) ++ (textW on).2)) :: (pt b3 44 [Value.string on, Value.string ot, Value.bool false]) :: (slp 44 3 vb vc (l.flatMap pairCells)) :: F) (fun _ h => h) ?_
                  refine Wl.done ?_
                  refine Wx.go ?_
                  refine Wc.region ?_
                  refine Wl.q (v := Value.pointer (some ⟨wq, 0, none⟩)) (q_move hE4_0) ?_
                  refine Wl.q (v := Value.pointer (some ⟨b3, 1, none⟩)) (q_field (m := 1) fo_44_1 rfl rfl) ?_
                  refine Wl.q (v := Value.string ot) (q_load sc_9 rfl (.cel (i := 1) rfl rfl)) ?_
                  refine Wl.e (e_call (F := (pt b3 44 [Value.string on, Value.string ot, Value.bool false]) :: (slp 44 3 vb vc (l.flatMap pairCells)) :: F) (args := [Value.pointer (some ⟨wq, 0, none⟩), Value.string ot]) Tryz.call34 rfl (wtextW_c W0 wq ((([] ++ (listW ((l.length : Nat) : Int)).2) ++ bytesP (l.take k)) ++ (textW on).2) ot (by simp only [List.length_append, List.length_nil]; (try have := textW_len on); omega))) (fun _ _ => ?_)
                  refine Wl.imp (L' := (isW wq (((([] ++ (listW ((l.length : Nat) : Int)).2) ++ bytesP (l.take k)) ++ (textW on).2) ++ (textW ot).2)) :: (pt b3 44 [Value.string on, Value.string ot, Value.bool false]) :: (slp 44 3 vb vc (l.flatMap pairCells)) :: F) (fun _ h => h) ?_
                  refine Wl.done ?_
                  refine Wx.blockEnd ?_
                  refine Wx.go ?_
                  refine Wc.region ?_
                  refine Wl.q (v := Value.int .i64 ((k + 1 : Nat) : Int)) (q_add (c := ((k + 1 : Nat) : Int)) hE17_0 rfl (by rw [wrap_i64] <;> omega)) ?_
                  refine Wl.q (v := Value.int .i64 ((k + 1 : Nat) : Int)) (q_move rfl) ?_
                  refine Wl.done ?_
                  refine Wx.at (k + 1) ⟨(by omega), rfl, hE0_0, hE4_0, hE15_0, hE16_0, (by omega), (hp0.trans (wrong_next hget hlong rfl (by omega) hq hlt2))⟩ (fun w hs => by rw [bytesP_snoc hget, ← List.append_assoc, ← List.append_assoc]; exact ((fun hs => st_sl_mk (e := 44) (flat_len3P l) hcl hs) (st_pull [1, 0] (st_drop (st_pull [1] hs)))))
                ·
                  refine Wr.pure (v := Value.bool true) 14 rfl (by kernel_rfl) (.inr (fun _ h => st_take [0, 0, 0] h)) (.inl ⟨rfl, fun _ => q_leq_str (r := true) rfl rfl (leq_ge hlt2)⟩) ?_
                  refine Wr.pure (v := Value.bool true) 15 rfl (by kernel_rfl) (.inr (fun _ h => st_take [0, 0, 0] h)) (.inl ⟨rfl, fun _ => q_pick (t := true) rfl rfl⟩) ?_
                  refine Wr.pure (v := Value.bool true) 16 rfl (by kernel_rfl) (.inr (fun _ h => st_take [0, 0, 0] h)) (.inl ⟨rfl, fun _ => q_pick (t := false) rfl rfl⟩) ?_
                  refine Wr.done (by kernel_rfl) ?_
                  refine Wx.go ?_
                  refine Wc.yes rfl ?_
                  refine Wc.seq ?_
                  refine Wc.region ?_
                  refine Wl.q (v := Value.string (⟨#[]⟩)) (q_assign rfl) ?_
                  refine Wl.q (v := Value.int .i64 1) (q_assign rfl) ?_
                  refine Wl.done ?_
                  refine Wx.go ?_
                  refine Wc.ret ?_
                  refine Wx.thenRet ?_
                  refine Wx.blockRet ?_
                  refine Wx.thenRet ?_
                  refine Wx.thenRet ?_
                  refine Wx.blockRet ?_
                  refine Wx.thenRet ?_
                  refine Wx.fin2 rfl (.inl rfl) (fun w hs => ?_)
                  exact ⟨(), trivial, by rw [packP_err (by omega) (hp0.trans (wrong_ord hget hlong (by omega) hq hlt2)) (by decide)]; rfl, ((fun hs => st_sl_mk (e := 44) (flat_len3P l) hcl hs) (st_drop (st_drop (st_pull [0, 1] hs))))⟩
              ·
                have hk00 : k = 0 := by omega
                refine Wr.pure (v := Value.bool false) 4 rfl (by kernel_rfl) (.inr (fun _ h => st_take [0, 0, 0] h)) (.inl ⟨rfl, fun _ => q_gtr (r := false) rfl rfl (decide_eq_false hk0)⟩) ?_
                refine Wr.pure (v := Value.bool false) 5 rfl (by kernel_rfl) (.inr (fun _ h => st_take [0, 0, 0] h)) (.inl ⟨rfl, fun _ => q_move rfl⟩) ?_
                refine Wr.pure (v := undef) 6 rfl (by kernel_rfl) (.inr (fun _ h => st_take [0, 0, 0] h)) (.inr ⟨rfl, rfl⟩) ?_
                refine Wr.pure (v := undef) 7 rfl (by kernel_rfl) (.inr (fun _ h => st_take [0, 0, 0] h)) (.inr ⟨rfl, rfl⟩) ?_
                refine Wr.pure (v := undef) 8 rfl (by kernel_rfl) (.inr (fun _ h => st_take [0, 0, 0] h)) (.inr ⟨rfl, rfl⟩) ?_
                refine Wr.pure (v := undef) 9 rfl (by kernel_rfl) (.inr (fun _ h => st_take [0, 0, 0] h)) (.inr ⟨rfl, rfl⟩) ?_
                refine Wr.pure (v := undef) 10 rfl (by kernel_rfl) (.inr (fun _ h => st_take [0, 0, 0] h)) (.inr ⟨rfl, rfl⟩) ?_
                refine Wr.pure (v := undef) 11 rfl (by kernel_rfl) (.inr (fun _ h => st_take [0, 0, 0] h)) (.inr ⟨rfl, rfl⟩) ?_
                refine Wr.pure (v := undef) 12 rfl (by kernel_rfl) (.inr (fun _ h => st_take [0, 0, 0] h)) (.inr ⟨rfl, rfl⟩) ?_
                refine Wr.pure (v := undef) 13 rfl (by kernel_rfl) (.inr (fun _ h => st_take [0, 0, 0] h)) (.inr ⟨rfl, rfl⟩) ?_
                refine Wr.pure (v := undef) 14 rfl (by kernel_rfl) (.inr (fun _ h => st_take [0, 0, 0] h)) (.inr ⟨rfl, rfl⟩) ?_
                refine Wr.pure (v := Value.bool false) 15 rfl (by kernel_rfl) (.inr (fun _ h => st_take [0, 0, 0] h)) (.inl ⟨rfl, fun _ => q_pick (t := false) rfl rfl⟩) ?_
                refine Wr.pure (v := Value.bool false) 16 rfl (by kernel_rfl) (.inr (fun _ h => st_take [0, 0, 0] h)) (.inl ⟨rfl, fun _ => q_pick (t := false) rfl rfl⟩) ?_
                refine Wr.done (by kernel_rfl) ?_
                refine Wx.go ?_
                refine Wc.no rfl ?_
                refine Wc.skip ?_
                refine Wx.go ?_
                refine Wc.seq ?_
                refine Wc.region ?_
                refine Wl.q (v := Value.pointer (some ⟨wq, 0, none⟩)) (q_move hE4_0) ?_
                refine Wl.q (v := Value.pointer (some ⟨b3, 0, none⟩)) (q_field (m := 0) fo_44_0 rfl rfl) ?_
                refine Wl.q (v := Value.string on) (q_load sc_9 rfl (.cel (i := 0) rfl rfl)) ?_
                refine Wl.imp (L' := (isW wq (([] ++ (listW ((l.length : Nat) : Int)).2) ++ bytesP (l.take k))) :: (pt b3 44 [Value.string on, Value.string ot, Value.bool false]) :: (slp 44 3 vb vc (l.flatMap pairCells)) :: F) (fun _ h => st_pull [2] h) ?_
                refine Wl.e (e_call (F := (pt b3 44 [Value.string on, Value.string ot, Value.bool false]) :: (slp 44 3 vb vc (l.flatMap pairCells)) :: F) (args := [Value.pointer (some ⟨wq, 0, none⟩), Value.string on]) Tryz.call34 rfl (wtextW_c W0 wq (([] ++ (listW ((l.length : Nat) : Int)).2) ++ bytesP (l.take k)) on (by simp only [List.length_append, List.length_nil]; (try have := textW_len on); omega))) (fun _ _ => ?_)
                refine Wl.imp (L' := (isW wq ((([] ++ (listW ((l.length : Nat) : Int)).2) ++ bytesP (l.take k)) ++ (textW on).2)) :: (pt b3 44 [Value.string on, Value.string ot, Value.bool false]) :: (slp 44 3 vb vc (l.flatMap pairCells)) :: F) (fun _ h => h) ?_
                refine Wl.done ?_
                refine Wx.go ?_
                refine Wc.region ?_
                refine Wl.q (v := Value.pointer (some ⟨wq, 0, none⟩)) (q_move hE4_0) ?_
                refine Wl.q (v := Value.pointer (some ⟨b3, 1, none⟩)) (q_field (m := 1) fo_44_1 rfl rfl) ?_
                refine Wl.q (v := Value.string ot) (q_load sc_9 rfl (.cel (i := 1) rfl rfl)) ?_
                refine Wl.e (e_call (F := (pt b3 44 [Value.string on, Value.string ot, Value.bool false]) :: (slp 44 3 vb vc (l.flatMap pairCells)) :: F) (args := [Value.pointer (some ⟨wq, 0, none⟩), Value.string ot]) Tryz.call34 rfl (wtextW_c W0 wq ((([] ++ (listW ((l.length : Nat) : Int)).2) ++ bytesP (l.take k)) ++ (textW on).2) ot (by simp only [List.length_append, List.length_nil]; (try have := textW_len on); omega))) (fun _ _ => ?_)
                refine Wl.imp (L' := (isW wq (((([] ++ (listW ((l.length : Nat) : Int)).2) ++ bytesP (l.take k)) ++ (textW on).2) ++ (textW ot).2)) :: (pt b3 44 [Value.string on, Value.string ot, Value.bool false]) :: (slp 44 3 vb vc (l.flatMap pairCells)) :: F) (fun _ h => h) ?_
                refine Wl.done ?_
                refine Wx.blockEnd ?_
                refine Wx.go ?_
                refine Wc.region ?_
                refine Wl.q (v := Value.int .i64 ((k + 1 : Nat) : Int)) (q_add (c := ((k + 1 : Nat) : Int)) hE17_0 rfl (by rw [wrap_i64] <;> omega)) ?_
                refine Wl.q (v := Value.int .i64 ((k + 1 : Nat) : Int)) (q_move rfl) ?_
                refine Wl.done ?_
                refine Wx.at (k + 1) ⟨(by omega), rfl, hE0_0, hE4_0, hE15_0, hE16_0, (by omega), (hp0.trans (by subst hk00; exact wrong_first hget hlong rfl))⟩ (fun w hs => by rw [bytesP_snoc hget, ← List.append_assoc, ← List.append_assoc]; exact ((fun hs => st_sl_mk (e := 44) (flat_len3P l) hcl hs) (st_pull [1, 0] (st_drop (st_pull [1] hs)))))
      ·
        have hke : k = l.length := by omega
        refine Wl.q (v := Value.bool false) (q_lss (r := false) hE17_0 hE16_0 (decide_eq_false hlt)) ?_
        refine Wl.done ?_
        refine Wx.go ?_
        refine Wc.seq ?_
        refine Wc.no rfl ?_
        refine Wc.exit ?_
        refine Wx.thenExit ?_
        refine Wx.thenExit ?_
        refine Wx.out ?_
        refine Wx.go ?_
        refine Wc.seq ?_
        refine Wc.region ?_
        refine Wl.q (v := Value.pointer (some ⟨wq, 0, none⟩)) (q_move hE4_0) ?_
        refine Wl.imp (L' := (isW wq (([] ++ (listW ((l.length : Nat) : Int)).2) ++ bytesP (l.take k))) :: (sl 44 3 vl l.length (l.flatMap pairCells)) :: F) (fun _ h => st_pull [1] h) ?_
        refine Wl.e (e_call (F := (sl 44 3 vl l.length (l.flatMap pairCells)) :: F) (args := [Value.pointer (some ⟨wq, 0, none⟩)]) Tryz.call35 rfl (wbytes_c W0 wq (([] ++ (listW ((l.length : Nat) : Int)).2) ++ bytesP (l.take k)))) (fun _ _ => ?_)
        refine Wl.imp (L' := (isW wq (([] ++ (listW ((l.length : Nat) : Int)).2) ++ bytesP (l.take k))) :: (sl 44 3 vl l.length (l.flatMap pairCells)) :: F) (fun _ h => h) ?_
        refine Wl.q (v := Value.string (⟨((([] ++ (listW ((l.length : Nat) : Int)).2) ++ bytesP (l.take k))).toArray⟩)) (q_assign rfl) ?_
        refine Wl.q (v := Value.int .i64 0) (q_assign rfl) ?_
        refine Wl.done ?_
        refine Wx.go ?_
        refine Wc.ret ?_
        refine Wx.fin2 rfl (.inl rfl) (fun w hs => ?_)
        have hw0 : wrongP none l = 0 := by rw [hp0, hke, List.drop_length]; cases prevP l l.length <;> rfl
        exact ⟨(), trivial, by rw [packP_ok (by omega) hw0, hke, List.take_length, hlw]; rfl, (st_drop (st_pull [0] hs))⟩

end Go.Proofs.YtkndmgfahghcjaaGreat

