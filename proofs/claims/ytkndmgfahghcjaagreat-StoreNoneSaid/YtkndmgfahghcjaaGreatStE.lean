import Derived.Test.YtkndmgfahghcjaaGreatStD
import Derived.Test.YtkndmgfahghcjaaGreatJnL
/- Contracts of the calls. -/
namespace Go.Proofs.YtkndmgfahghcjaaGreat
open Go Go.SL Go.St Go.Wr Go.RowKit
open Go.Dk (DS WF)
open Go.Jn (JS Ok openD_up)
set_option linter.unusedVariables false
set_option maxRecDepth 8000

theorem same_t (W0 : World) (va vb : Value) (l : List ByteArray) (hl : l.length ≤ 100000000) :
    Con Tryz.prog W0 46 #[va, vb] [sl 9 1 va l.length (l.map Value.string), sl 9 1 vb l.length (l.map Value.string)] (X := Unit) (fun _ => True) (fun _ => .bool true) (fun _ => [sl 9 1 va l.length (l.map Value.string), sl 9 1 vb l.length (l.map Value.string)]) := by
  refine Con.of (args := [va, vb]) Tryz.func46 rfl Tryz.ntmps46 rfl (fun F => ?_)
  show Wc _ W0 _ _ _ _ _ ((sl 9 1 va l.length (l.map Value.string)) :: (sl 9 1 vb l.length (l.map Value.string)) :: F)
  refine Wc.seq ?_
  refine Wc.region ?_
  refine Wl.q (v := Value.bool false) (q_assign rfl) ?_
  refine Wl.done ?_
  refine Wx.go ?_
  refine Wc.seq ?_
  refine Wc.seq ?_
  refine Wc.region ?_
  refine Wl.q (v := va) (q_move rfl) ?_
  refine Wl.q (v := Value.int .i64 ((l.length : Nat) : Int)) (q_len_sl (i := 0) Tryz.underlying50 rfl rfl) ?_
  refine Wl.q (v := vb) (q_move rfl) ?_
  refine Wl.q (v := Value.int .i64 ((l.length : Nat) : Int)) (q_len_sl (i := 1) Tryz.underlying50 rfl rfl) ?_
  refine Wl.q (v := Value.bool false) (q_neq (r := true) rfl rfl (decide_eq_true (rfl))) ?_
  refine Wl.done ?_
  refine Wx.go ?_
  refine Wc.no rfl ?_
  refine Wc.skip ?_
  refine Wx.go ?_
  refine Wc.seq ?_
  refine Wc.seq ?_
  refine Wc.region ?_
  refine Wl.q (v := va) (q_move rfl) ?_
  refine Wl.q (v := Value.int .i64 ((l.length : Nat) : Int)) (q_len_sl (i := 0) Tryz.underlying50 rfl rfl) ?_
  refine Wl.q (v := Value.int .i64 0) (q_move rfl) ?_
  refine Wl.done ?_
  refine Wx.go ?_
  refine Wc.block ?_
  refine Wc.loop (X := Nat) (fun i E => E 13 = Value.int .i64 ((i : Nat) : Int) ∧ E 0 = va ∧ E 1 = vb ∧ E 12 = Value.int .i64 ((l.length : Nat) : Int) ∧ i ≤ l.length) (fun i => (sl 9 1 va l.length (l.map Value.string)) :: (sl 9 1 vb l.length (l.map Value.string)) :: F) (fun i => l.length - i) 0 ?_ ?_ ?_
  · exact ⟨rfl, rfl, rfl, rfl, (Nat.zero_le _)⟩
  · exact fun w hs => hs
  · rintro i E2 ⟨hE13_0, hE0_0, hE1_0, hE12_0, hi⟩
    refine Wc.seq ?_
    refine Wc.region ?_
    by_cases hlt : ((i : Nat) : Int) < ((l.length : Nat) : Int)
    ·
      obtain ⟨y, hy⟩ : ∃ y, l[i]? = some y := ⟨l[i]'(by omega), List.getElem?_eq_getElem (by omega)⟩
      have hym : (l.map Value.string)[i]? = some (.string y) := by rw [List.getElem?_map, hy]; rfl
      refine Wl.sl (i := 0) (m := l.length) rfl (by omega) (fun ba ca hva hca => ?_)
      subst hva
      refine Wl.sl (i := 1) (m := l.length) rfl (by omega) (fun bb cb hvb hcb => ?_)
      subst hvb
      refine Wl.q (v := Value.bool true) (q_lss (r := true) hE13_0 hE12_0 (decide_eq_true hlt)) ?_
      refine Wl.done ?_
      refine Wx.go ?_
      refine Wc.seq ?_
      refine Wc.yes rfl ?_
      refine Wc.skip ?_
      refine Wx.go ?_
      refine Wc.seq ?_
      refine Wc.block ?_
      refine Wc.seq ?_
      refine Wc.region ?_
      refine Wl.q (v := Value.int .i64 ((i : Nat) : Int)) (q_move hE13_0) ?_
      refine Wl.q (v := Value.int .i64 ((i : Nat) : Int)) (q_assign rfl) ?_
      refine Wl.done ?_
      refine Wx.go ?_
      refine Wc.seq ?_
      refine Wc.drawsS [] ((slp 9 1 ba ca (l.map Value.string)) :: (slp 9 1 bb cb (l.map Value.string)) :: []) (by kernel_rfl) ?_
      refine Wr.pure (v := Value.slice (some ⟨ba, 0, none⟩) l.length ca) 0 rfl (by kernel_rfl) (.inr (fun _ h => st_take [0, 0] h)) (.inl ⟨rfl, fun _ => q_move hE0_0⟩) ?_
      refine Wr.pure (v := Value.int .i64 ((i : Nat) : Int)) 1 rfl (by kernel_rfl) (.inr (fun _ h => st_take [0, 0] h)) (.inl ⟨rfl, fun _ => q_move rfl⟩) ?_
      refine Wr.pure (v := Value.pointer (some ⟨ba, i, none⟩)) 2 rfl (by kernel_rfl) (.inr (fun _ h => st_take [0, 0] h)) (.inl ⟨rfl, fun _ => q_idx (m := i) se_50 rfl rfl (by omega) (by omega) (by simp)⟩) ?_
      refine Wr.take (v := Value.string y) 3 rfl (by kernel_rfl) (fun _ h => st_take [0, 0] h) (.inl ⟨rfl, q_load sc_9 rfl (.row (i := 0) rfl hym)⟩) ?_
      refine Wr.pure (v := Value.slice (some ⟨bb, 0, none⟩) l.length cb) 4 rfl (by kernel_rfl) (.inr (fun _ h => st_take [0, 0] h)) (.inl ⟨rfl, fun _ => q_move hE1_0⟩) ?_
      refine Wr.pure (v := Value.int .i64 ((i : Nat) : Int)) 5 rfl (by kernel_rfl) (.inr (fun _ h => st_take [0, 0] h)) (.inl ⟨rfl, fun _ => q_move rfl⟩) ?_
      refine Wr.pure (v := Value.pointer (some ⟨bb, i, none⟩)) 6 rfl (by kernel_rfl) (.inr (fun _ h => st_take [0, 0] h)) (.inl ⟨rfl, fun _ => q_idx (m := i) se_50 rfl rfl (by omega) (by omega) (by simp)⟩) ?_
      refine Wr.take (v := Value.string y) 7 rfl (by kernel_rfl) (fun _ h => st_take [0, 0] h) (.inl ⟨rfl, q_load sc_9 rfl (.row (i := 1) rfl hym)⟩) ?_
      refine Wr.pure (v := Value.bool false) 8 rfl (by kernel_rfl) (.inr (fun _ h => st_take [0, 0] h)) (.inl ⟨rfl, fun _ => q_neq_str (r := true) rfl rfl (text_true (rfl))⟩) ?_
      refine Wr.done (by kernel_rfl) ?_
      refine Wx.go ?_
      refine Wc.no rfl ?_
      refine Wc.skip ?_
      refine Wx.blockEnd ?_
      refine Wx.go ?_
      refine Wc.region ?_
      refine Wl.q (v := Value.int .i64 ((i + 1 : Nat) : Int)) (q_add (c := ((i + 1 : Nat) : Int)) hE13_0 rfl (by rw [wrap_i64] <;> omega)) ?_
      refine Wl.q (v := Value.int .i64 ((i + 1 : Nat) : Int)) (q_move rfl) ?_
      refine Wl.done ?_
      refine Wx.at (i + 1) ⟨(by omega), rfl, hE0_0, hE1_0, hE12_0, (by omega)⟩ (fun w hs => (fun hs => st_sl_mk (e := 9) (by simp) hca (st_swap (st_sl_mk (e := 9) (by simp) hcb hs))) (st_pull [1, 0] (hs)))
    ·
      refine Wl.q (v := Value.bool false) (q_lss (r := false) hE13_0 hE12_0 (decide_eq_false hlt)) ?_
      refine Wl.done ?_
      refine Wx.go ?_
      refine Wc.seq ?_
      refine Wc.no rfl ?_
      refine Wc.exit ?_
      refine Wx.thenExit ?_
      refine Wx.thenExit ?_
      refine Wx.out ?_
      refine Wx.go ?_
      refine Wc.seq ?_
      refine Wc.region ?_
      refine Wl.q (v := Value.bool true) (q_assign rfl) ?_
      refine Wl.done ?_
      refine Wx.go ?_
      refine Wc.ret ?_
      refine Wx.fin1 rfl (.inl rfl) (fun w hs => ?_)
      exact ⟨(), trivial, rfl, hs⟩

set_option maxHeartbeats 4000000 in
theorem alive_w (W0 : World) (S1 : List ByteArray) (K1 : Nat) (hS1 : 1 ≤ S1.length) (hK1 : K1 ≤ 100) (ok0 : Ok (List.replicate 16 Go.Dk.noughts) ByteArray.empty 0) (ok1 : Ok S1 aA 1) (hp : (JS.mk ByteArray.empty 0 false).put (⟨List.replicate 16 Go.Dk.noughts, [], false, 0, none⟩ : DS) aA = (0, (⟨S1, [], false, K1, none⟩ : DS), ⟨aA, 1, false⟩)) :
  Con Tryz.prog W0 17 #[] [] (X := Unit) (fun _ => True) (fun _ => .bool true) (fun _ => []) := by
 refine Con.of (args := []) Tryz.func17 rfl Tryz.ntmps17 rfl (fun F => ?_)
 have af := chE_ok (T := []) (l := aL) (pe := 0) a_chg (by rw [a_pack]) rfl
 have ad := chE_bad (T := aT) (l := aD) (pe := 0) (e := 13) a_dup (by decide)
 show Wc _ W0 _ _ _ _ _ (F)
 refine Wc.seq ?_
 refine Wc.region ?_
 refine Wl.q (v := Value.bool false) (q_assign rfl) ?_
 refine Wl.done ?_
 refine Wx.go ?_
 refine Wc.seq ?_
 refine Wc.region ?_
 refine Wl.e (e_call (F := F) (args := [Value.int .i64 16]) Tryz.call18 rfl (new_ok W0 16 (by omega) (by omega))) (fun pp _ => ?_)
 refine Wl.imp (L' := (isDisk pp (DS.new 16)) :: F) (fun _ h => h) ?_
 refine Wl.q (v := Value.tuple #[Value.pointer (some ⟨pp, 0, none⟩), Value.int .i64 0]) (q_move rfl) ?_
 refine Wl.q (v := Value.pointer (some ⟨pp, 0, none⟩)) (q_extract (i := 0) rfl rfl) ?_
 refine Wl.q (v := Value.int .i64 0) (q_extract (i := 1) rfl rfl) ?_
 refine Wl.q (v := Value.pointer (some ⟨pp, 0, none⟩)) (q_assign rfl) ?_
 refine Wl.q (v := Value.int .i64 0) (q_assign rfl) ?_
 refine Wl.done ?_
 refine Wx.go ?_
 refine Wc.seq ?_
 refine Wc.seq ?_
 refine Wc.region ?_
 refine Wl.q (v := Value.int .i64 0) (q_move rfl) ?_
 refine Wl.q (v := Value.bool false) (q_neq (r := true) rfl rfl (decide_eq_true (by decide))) ?_
 refine Wl.done ?_
 refine Wx.go ?_
 refine Wc.no rfl ?_
 refine Wc.skip ?_
 refine Wx.go ?_
 refine Wc.seq ?_
 refine Wc.region ?_
 refine Wl.q (v := Value.pointer (some ⟨pp, 0, none⟩)) (q_move rfl) ?_
 refine Wl.e (e_call (F := F) (args := [Value.pointer (some ⟨pp, 0, none⟩)]) Tryz.call19 rfl (open_fresh W0 pp (List.replicate 16 Go.Dk.noughts) 0 ok0)) (fun ⟨sp, j, mb⟩ _ => ?_)
 refine Wl.imp (L' := (pt sp 49 [Value.pointer (some ⟨j, 0, none⟩), Value.map (some mb)]) :: (mp mb (strV [])) :: (isJ j pp ⟨ByteArray.empty, 0, false⟩) :: (isDisk pp (⟨List.replicate 16 Go.Dk.noughts, [], false, 0, none⟩ : DS)) :: F) (fun _ h => h) ?_
 refine Wl.q (v := Value.tuple #[Value.pointer (some ⟨sp, 0, none⟩), Value.int .i64 0]) (q_move rfl) ?_
 refine Wl.q (v := Value.pointer (some ⟨sp, 0, none⟩)) (q_extract (i := 0) rfl rfl) ?_
 refine Wl.q (v := Value.int .i64 0) (q_extract (i := 1) rfl rfl) ?_
 refine Wl.q (v := Value.pointer (some ⟨sp, 0, none⟩)) (q_assign rfl) ?_
 refine Wl.q (v := Value.int .i64 0) (q_assign rfl) ?_
 refine Wl.done ?_
 refine Wx.go ?_
 refine Wc.seq ?_
 refine Wc.seq ?_
 refine Wc.region ?_
 refine Wl.q (v := Value.int .i64 0) (q_move rfl) ?_
 refine Wl.q (v := Value.bool false) (q_neq (r := true) rfl rfl (decide_eq_true (by decide))) ?_
 refine Wl.q (v := Value.bool false) (q_move rfl) ?_
 refine Wl.q (v := Value.pointer (some ⟨sp, 0, none⟩)) (q_move rfl) ?_
 refine Wl.q (v := Value.bool false) (q_eql_nil (r := false) rfl rfl Tryz.underlying36 rfl) ?_
 refine Wl.q (v := Value.bool false) (q_pick (t := false) rfl rfl) ?_
 refine Wl.done ?_
 refine Wx.go ?_
 refine Wc.no rfl ?_
 refine Wc.skip ?_
 refine Wx.go ?_
 refine Wc.seq ?_
 refine Wc.region ?_
 refine Wl.q (v := Value.pointer (some ⟨sp, 0, none⟩)) (q_move rfl) ?_
 refine Wl.q (v := Value.agg #[Value.string (⟨#[98]⟩), Value.string (⟨#[49]⟩), Value.bool false]) (q_build (pl := [(0, 1), (1, 1), (2, 1)]) Tryz.underlying44 zo_44 (by kernel_rfl) (by kernel_rfl)) ?_
 refine Wl.q (v := Value.agg #[Value.string (⟨#[97]⟩), Value.string (⟨#[50]⟩), Value.bool false]) (q_build (pl := [(0, 1), (1, 1), (2, 1)]) Tryz.underlying44 zo_44 (by kernel_rfl) (by kernel_rfl)) ?_
 refine Wl.e (e_buildSlice (cs := [Value.string (⟨#[98]⟩), Value.string (⟨#[49]⟩), Value.bool false, Value.string (⟨#[97]⟩), Value.string (⟨#[50]⟩), Value.bool false]) se_22 zo_44 (by decide) (by decide) (by kernel_rfl)) (fun b1 _ => ?_)
 refine Wl.imp (L' := (pt b1 44 ([Value.string (⟨#[98]⟩), Value.string (⟨#[49]⟩), Value.bool false, Value.string (⟨#[97]⟩), Value.string (⟨#[50]⟩), Value.bool false])) :: (pt sp 49 [Value.pointer (some ⟨j, 0, none⟩), Value.map (some mb)]) :: (mp mb (strV [])) :: (isJ j pp ⟨ByteArray.empty, 0, false⟩) :: (isDisk pp (⟨List.replicate 16 Go.Dk.noughts, [], false, 0, none⟩ : DS)) :: F) (fun _ h => h) ?_
 refine Wl.imp (L' := (sl 44 3 (Value.slice (some ⟨b1, 0, none⟩) 2 2) aL.length (aL.flatMap pairCells)) :: (pt sp 49 [Value.pointer (some ⟨j, 0, none⟩), Value.map (some mb)]) :: (mp mb (strV [])) :: (isJ j pp ⟨ByteArray.empty, 0, false⟩) :: (isDisk pp (⟨List.replicate 16 Go.Dk.noughts, [], false, 0, none⟩ : DS)) :: F) (fun w hs => st_sl_mk (n := 2) rfl (by decide) (st_slp_pt rfl (by decide) hs)) ?_
 refine Wl.e (e_call (F := F) (args := [Value.pointer (some ⟨sp, 0, none⟩), Value.slice (some ⟨b1, 0, none⟩) 2 2]) Tryz.call20 rfl (Con.eqs (val' := fun _ => .int .i64 0) (post' := fun mc : Nat => [sl 44 3 (Value.slice (some ⟨b1, 0, none⟩) 2 2) aL.length (aL.flatMap pairCells), pt sp 49 [Value.pointer (some ⟨j, 0, none⟩), Value.map (some mc)], mp mc (strV aT), isJ j pp ⟨aA, 1, false⟩, isDisk pp (⟨S1, [], false, K1, none⟩ : DS)]) (change_sl W0 (Value.slice (some ⟨b1, 0, none⟩) 2 2) aL (by decide) (by decide) sp j mb pp [] ⟨List.nodup_nil, fun p hp => by cases hp⟩ (by decide) ByteArray.empty 0 (List.replicate 16 Go.Dk.noughts) 0 none ok0.wf (by simp) (by decide) (by decide) (by decide) 0 (⟨S1, [], false, K1, none⟩ : DS) aA 1 false (fun _ => by rw [a_chg]; simp only; rw [a_pack]; exact hp)) (fun _ => by rw [af.1]) (fun _ => by rw [af.2.1, af.2.2, af.2.2]))) (fun mc _ => ?_)
 refine Wl.imp (L' := (sl 44 3 (Value.slice (some ⟨b1, 0, none⟩) 2 2) aL.length (aL.flatMap pairCells)) :: (pt sp 49 [Value.pointer (some ⟨j, 0, none⟩), Value.map (some mc)]) :: (mp mc (strV aT)) :: (isJ j pp ⟨aA, 1, false⟩) :: (isDisk pp (⟨S1, [], false, K1, none⟩ : DS)) :: F) (fun _ h => h) ?_
 refine Wl.q (v := Value.int .i64 0) (q_assign rfl) ?_
 refine Wl.done ?_
 refine Wx.go ?_
 refine Wc.seq ?_
 refine Wc.region ?_
 refine Wl.q (v := Value.pointer (some ⟨sp, 0, none⟩)) (q_move rfl) ?_
 refine Wl.imp (L' := (pt sp 49 [Value.pointer (some ⟨j, 0, none⟩), Value.map (some mc)]) :: (mp mc (strV aT)) :: (sl 44 3 (Value.slice (some ⟨b1, 0, none⟩) 2 2) aL.length (aL.flatMap pairCells)) :: (isJ j pp ⟨aA, 1, false⟩) :: (isDisk pp (⟨S1, [], false, K1, none⟩ : DS)) :: F) (fun _ h => st_pull [1, 1] h) ?_
 refine Wl.e (e_call (F := (sl 44 3 (Value.slice (some ⟨b1, 0, none⟩) 2 2) aL.length (aL.flatMap pairCells)) :: (isJ j pp ⟨aA, 1, false⟩) :: (isDisk pp (⟨S1, [], false, K1, none⟩ : DS)) :: F) (args := [Value.pointer (some ⟨sp, 0, none⟩), Value.string (⟨#[97]⟩)]) Tryz.call22 rfl (get_yes W0 sp j mc aT ⟨#[97]⟩ a_ok (by decide) ⟨#[50]⟩ a_get)) (fun _ _ => ?_)
 refine Wl.imp (L' := (pt sp 49 [Value.pointer (some ⟨j, 0, none⟩), Value.map (some mc)]) :: (mp mc (strV aT)) :: (sl 44 3 (Value.slice (some ⟨b1, 0, none⟩) 2 2) aL.length (aL.flatMap pairCells)) :: (isJ j pp ⟨aA, 1, false⟩) :: (isDisk pp (⟨S1, [], false, K1, none⟩ : DS)) :: F) (fun _ h => h) ?_
 refine Wl.q (v := Value.tuple #[Value.string (⟨#[50]⟩), Value.bool true]) (q_move rfl) ?_
 refine Wl.q (v := Value.string (⟨#[50]⟩)) (q_extract (i := 0) rfl rfl) ?_
 refine Wl.q (v := Value.bool true) (q_extract (i := 1) rfl rfl) ?_
 refine Wl.q (v := Value.string (⟨#[50]⟩)) (q_assign rfl) ?_
 refine Wl.q (v := Value.bool true) (q_assign rfl) ?_
 refine Wl.done ?_
 refine Wx.go ?_
 refine Wc.seq ?_
 refine Wc.region ?_
 refine Wl.q (v := Value.agg #[Value.string (⟨#[97]⟩), Value.string (⟨#[120, 121]⟩), Value.bool false]) (q_build (pl := [(0, 1), (1, 1), (2, 1)]) Tryz.underlying44 zo_44 (by kernel_rfl) (by kernel_rfl)) ?_
 refine Wl.e (e_buildSlice (cs := [Value.string (⟨#[97]⟩), Value.string (⟨#[120, 121]⟩), Value.bool false]) se_22 zo_44 (by decide) (by decide) (by kernel_rfl)) (fun b2 _ => ?_)
 refine Wl.imp (L' := (pt b2 44 ([Value.string (⟨#[97]⟩), Value.string (⟨#[120, 121]⟩), Value.bool false])) :: (pt sp 49 [Value.pointer (some ⟨j, 0, none⟩), Value.map (some mc)]) :: (mp mc (strV aT)) :: (sl 44 3 (Value.slice (some ⟨b1, 0, none⟩) 2 2) aL.length (aL.flatMap pairCells)) :: (isJ j pp ⟨aA, 1, false⟩) :: (isDisk pp (⟨S1, [], false, K1, none⟩ : DS)) :: F) (fun _ h => h) ?_
 refine Wl.imp (L' := (sl 44 3 (Value.slice (some ⟨b2, 0, none⟩) 1 1) aP.length (aP.flatMap pairCells)) :: (pt sp 49 [Value.pointer (some ⟨j, 0, none⟩), Value.map (some mc)]) :: (mp mc (strV aT)) :: (sl 44 3 (Value.slice (some ⟨b1, 0, none⟩) 2 2) aL.length (aL.flatMap pairCells)) :: (isJ j pp ⟨aA, 1, false⟩) :: (isDisk pp (⟨S1, [], false, K1, none⟩ : DS)) :: F) (fun w hs => st_sl_mk (n := 1) rfl (by decide) (st_slp_pt rfl (by decide) hs)) ?_
 refine Wl.e (e_call (F := (pt sp 49 [Value.pointer (some ⟨j, 0, none⟩), Value.map (some mc)]) :: (mp mc (strV aT)) :: (sl 44 3 (Value.slice (some ⟨b1, 0, none⟩) 2 2) aL.length (aL.flatMap pairCells)) :: (isJ j pp ⟨aA, 1, false⟩) :: (isDisk pp (⟨S1, [], false, K1, none⟩ : DS)) :: F) (args := [Value.slice (some ⟨b2, 0, none⟩) 1 1]) Tryz.call12 rfl (Con.eqs (val' := fun _ => .tuple #[.string ⟨#[2, 2, 97, 4, 120, 121]⟩, .int .i64 0]) (post' := fun _ => [sl 44 3 (Value.slice (some ⟨b2, 0, none⟩) 1 1) aP.length (aP.flatMap pairCells)]) (pack_sl W0 (Value.slice (some ⟨b2, 0, none⟩) 1 1) aP (by decide) (by decide)) (fun _ => by rw [a_one]) (fun _ => rfl))) (fun _ _ => ?_)
 refine Wl.imp (L' := (sl 44 3 (Value.slice (some ⟨b2, 0, none⟩) 1 1) aP.length (aP.flatMap pairCells)) :: (pt sp 49 [Value.pointer (some ⟨j, 0, none⟩), Value.map (some mc)]) :: (mp mc (strV aT)) :: (sl 44 3 (Value.slice (some ⟨b1, 0, none⟩) 2 2) aL.length (aL.flatMap pairCells)) :: (isJ j pp ⟨aA, 1, false⟩) :: (isDisk pp (⟨S1, [], false, K1, none⟩ : DS)) :: F) (fun _ h => h) ?_
 refine Wl.q (v := Value.tuple #[Value.string (⟨#[2, 2, 97, 4, 120, 121]⟩), Value.int .i64 0]) (q_move rfl) ?_
 refine Wl.q (v := Value.string (⟨#[2, 2, 97, 4, 120, 121]⟩)) (q_extract (i := 0) rfl rfl) ?_
 refine Wl.q (v := Value.int .i64 0) (q_extract (i := 1) rfl rfl) ?_
 refine Wl.q (v := Value.string (⟨#[2, 2, 97, 4, 120, 121]⟩)) (q_assign rfl) ?_
 refine Wl.q (v := Value.int .i64 0) (q_assign rfl) ?_
 refine Wl.done ?_
 refine Wx.go ?_
 refine Wc.seq ?_
 refine Wc.region ?_
 refine Wl.q (v := Value.int .i64 0) (q_move rfl) ?_
 refine Wl.q (v := Value.bool true) (q_eql (r := true) rfl rfl (decide_eq_true (by decide))) ?_
 refine Wl.q (v := Value.bool true) (q_move rfl) ?_
 refine Wl.q (v := Value.bool true) (q_move rfl) ?_
 refine Wl.q (v := Value.bool true) (q_pick (t := true) rfl rfl) ?_
 refine Wl.q (v := Value.bool true) (q_move rfl) ?_
 refine Wl.q (v := Value.string (⟨#[50]⟩)) (q_move rfl) ?_
 refine Wl.q (v := Value.bool true) (q_eql_str (r := true) rfl rfl (text_true (rfl))) ?_
 refine Wl.q (v := Value.bool true) (q_pick (t := true) rfl rfl) ?_
 refine Wl.q (v := Value.bool true) (q_move rfl) ?_
 refine Wl.q (v := Value.pointer (some ⟨sp, 0, none⟩)) (q_move rfl) ?_
 refine Wl.imp (L' := (pt sp 49 [Value.pointer (some ⟨j, 0, none⟩), Value.map (some mc)]) :: (mp mc (strV aT)) :: (sl 44 3 (Value.slice (some ⟨b2, 0, none⟩) 1 1) aP.length (aP.flatMap pairCells)) :: (sl 44 3 (Value.slice (some ⟨b1, 0, none⟩) 2 2) aL.length (aL.flatMap pairCells)) :: (isJ j pp ⟨aA, 1, false⟩) :: (isDisk pp (⟨S1, [], false, K1, none⟩ : DS)) :: F) (fun _ h => st_pull [1, 1] h) ?_
 refine Wl.e (e_call (F := (sl 44 3 (Value.slice (some ⟨b2, 0, none⟩) 1 1) aP.length (aP.flatMap pairCells)) :: (sl 44 3 (Value.slice (some ⟨b1, 0, none⟩) 2 2) aL.length (aL.flatMap pairCells)) :: (isJ j pp ⟨aA, 1, false⟩) :: (isDisk pp (⟨S1, [], false, K1, none⟩ : DS)) :: F) (args := [Value.pointer (some ⟨sp, 0, none⟩)]) Tryz.call24 rfl (Con.eqs (val' := fun v => v) (post' := fun nv2 : Value => [sl 9 1 nv2 aN.length (aN.map Value.string), pt sp 49 [Value.pointer (some ⟨j, 0, none⟩), Value.map (some mc)], mp mc (strV aT)]) (names_w W0 sp j mc aT a_ok (by decide)) (fun _ => rfl) (fun _ => by rw [a_names]; rfl))) (fun nv2 _ => ?_)
 refine Wl.imp (L' := (sl 9 1 nv2 aN.length (aN.map Value.string)) :: (pt sp 49 [Value.pointer (some ⟨j, 0, none⟩), Value.map (some mc)]) :: (mp mc (strV aT)) :: (sl 44 3 (Value.slice (some ⟨b2, 0, none⟩) 1 1) aP.length (aP.flatMap pairCells)) :: (sl 44 3 (Value.slice (some ⟨b1, 0, none⟩) 2 2) aL.length (aL.flatMap pairCells)) :: (isJ j pp ⟨aA, 1, false⟩) :: (isDisk pp (⟨S1, [], false, K1, none⟩ : DS)) :: F) (fun _ h => h) ?_
 refine Wl.e (e_buildSlice (cs := [Value.string (⟨#[97]⟩), Value.string (⟨#[98]⟩)]) se_50 zo_9 (by decide) (by decide) (by kernel_rfl)) (fun b3 _ => ?_)
 refine Wl.imp (L' := (pt b3 9 ([Value.string (⟨#[97]⟩), Value.string (⟨#[98]⟩)])) :: (sl 9 1 nv2 aN.length (aN.map Value.string)) :: (pt sp 49 [Value.pointer (some ⟨j, 0, none⟩), Value.map (some mc)]) :: (mp mc (strV aT)) :: (sl 44 3 (Value.slice (some ⟨b2, 0, none⟩) 1 1) aP.length (aP.flatMap pairCells)) :: (sl 44 3 (Value.slice (some ⟨b1, 0, none⟩) 2 2) aL.length (aL.flatMap pairCells)) :: (isJ j pp ⟨aA, 1, false⟩) :: (isDisk pp (⟨S1, [], false, K1, none⟩ : DS)) :: F) (fun _ h => h) ?_
 refine Wl.imp (L' := (sl 9 1 (Value.slice (some ⟨b3, 0, none⟩) 2 2) aN.length (aN.map Value.string)) :: (sl 9 1 nv2 aN.length (aN.map Value.string)) :: (pt sp 49 [Value.pointer (some ⟨j, 0, none⟩), Value.map (some mc)]) :: (mp mc (strV aT)) :: (sl 44 3 (Value.slice (some ⟨b2, 0, none⟩) 1 1) aP.length (aP.flatMap pairCells)) :: (sl 44 3 (Value.slice (some ⟨b1, 0, none⟩) 2 2) aL.length (aL.flatMap pairCells)) :: (isJ j pp ⟨aA, 1, false⟩) :: (isDisk pp (⟨S1, [], false, K1, none⟩ : DS)) :: F) (fun w hs => st_sl_mk (n := 2) rfl (by decide) (st_slp_pt rfl (by decide) hs)) ?_
 refine Wl.imp (L' := (sl 9 1 nv2 aN.length (aN.map Value.string)) :: (sl 9 1 (Value.slice (some ⟨b3, 0, none⟩) 2 2) aN.length (aN.map Value.string)) :: (pt sp 49 [Value.pointer (some ⟨j, 0, none⟩), Value.map (some mc)]) :: (mp mc (strV aT)) :: (sl 44 3 (Value.slice (some ⟨b2, 0, none⟩) 1 1) aP.length (aP.flatMap pairCells)) :: (sl 44 3 (Value.slice (some ⟨b1, 0, none⟩) 2 2) aL.length (aL.flatMap pairCells)) :: (isJ j pp ⟨aA, 1, false⟩) :: (isDisk pp (⟨S1, [], false, K1, none⟩ : DS)) :: F) (fun _ h => st_pull [1, 0] h) ?_
 refine Wl.e (e_call (F := (pt sp 49 [Value.pointer (some ⟨j, 0, none⟩), Value.map (some mc)]) :: (mp mc (strV aT)) :: (sl 44 3 (Value.slice (some ⟨b2, 0, none⟩) 1 1) aP.length (aP.flatMap pairCells)) :: (sl 44 3 (Value.slice (some ⟨b1, 0, none⟩) 2 2) aL.length (aL.flatMap pairCells)) :: (isJ j pp ⟨aA, 1, false⟩) :: (isDisk pp (⟨S1, [], false, K1, none⟩ : DS)) :: F) (args := [nv2, Value.slice (some ⟨b3, 0, none⟩) 2 2]) Tryz.call46 rfl (same_t W0 nv2 (Value.slice (some ⟨b3, 0, none⟩) 2 2) aN (by decide))) (fun _ _ => ?_)
 refine Wl.imp (L' := (sl 9 1 nv2 aN.length (aN.map Value.string)) :: (sl 9 1 (Value.slice (some ⟨b3, 0, none⟩) 2 2) aN.length (aN.map Value.string)) :: (pt sp 49 [Value.pointer (some ⟨j, 0, none⟩), Value.map (some mc)]) :: (mp mc (strV aT)) :: (sl 44 3 (Value.slice (some ⟨b2, 0, none⟩) 1 1) aP.length (aP.flatMap pairCells)) :: (sl 44 3 (Value.slice (some ⟨b1, 0, none⟩) 2 2) aL.length (aL.flatMap pairCells)) :: (isJ j pp ⟨aA, 1, false⟩) :: (isDisk pp (⟨S1, [], false, K1, none⟩ : DS)) :: F) (fun _ h => h) ?_
 refine Wl.q (v := Value.bool true) (q_pick (t := true) rfl rfl) ?_
 refine Wl.q (v := Value.bool true) (q_move rfl) ?_
 refine Wl.q (v := Value.pointer (some ⟨sp, 0, none⟩)) (q_move rfl) ?_
 refine Wl.imp (L' := (pt sp 49 [Value.pointer (some ⟨j, 0, none⟩), Value.map (some mc)]) :: (isJ j pp ⟨aA, 1, false⟩) :: (sl 9 1 nv2 aN.length (aN.map Value.string)) :: (sl 9 1 (Value.slice (some ⟨b3, 0, none⟩) 2 2) aN.length (aN.map Value.string)) :: (mp mc (strV aT)) :: (sl 44 3 (Value.slice (some ⟨b2, 0, none⟩) 1 1) aP.length (aP.flatMap pairCells)) :: (sl 44 3 (Value.slice (some ⟨b1, 0, none⟩) 2 2) aL.length (aL.flatMap pairCells)) :: (isDisk pp (⟨S1, [], false, K1, none⟩ : DS)) :: F) (fun _ h => st_pull [2, 5] h) ?_
 refine Wl.e (e_call (F := (sl 9 1 nv2 aN.length (aN.map Value.string)) :: (sl 9 1 (Value.slice (some ⟨b3, 0, none⟩) 2 2) aN.length (aN.map Value.string)) :: (mp mc (strV aT)) :: (sl 44 3 (Value.slice (some ⟨b2, 0, none⟩) 1 1) aP.length (aP.flatMap pairCells)) :: (sl 44 3 (Value.slice (some ⟨b1, 0, none⟩) 2 2) aL.length (aL.flatMap pairCells)) :: (isDisk pp (⟨S1, [], false, K1, none⟩ : DS)) :: F) (args := [Value.pointer (some ⟨sp, 0, none⟩)]) Tryz.call25 rfl (seq_w W0 sp j mc pp aA 1)) (fun _ _ => ?_)
 refine Wl.imp (L' := (pt sp 49 [Value.pointer (some ⟨j, 0, none⟩), Value.map (some mc)]) :: (isJ j pp ⟨aA, 1, false⟩) :: (sl 9 1 nv2 aN.length (aN.map Value.string)) :: (sl 9 1 (Value.slice (some ⟨b3, 0, none⟩) 2 2) aN.length (aN.map Value.string)) :: (mp mc (strV aT)) :: (sl 44 3 (Value.slice (some ⟨b2, 0, none⟩) 1 1) aP.length (aP.flatMap pairCells)) :: (sl 44 3 (Value.slice (some ⟨b1, 0, none⟩) 2 2) aL.length (aL.flatMap pairCells)) :: (isDisk pp (⟨S1, [], false, K1, none⟩ : DS)) :: F) (fun _ h => h) ?_
 refine Wl.q (v := Value.bool true) (q_eql (r := true) rfl rfl (decide_eq_true (by decide))) ?_
 refine Wl.q (v := Value.bool true) (q_pick (t := true) rfl rfl) ?_
 refine Wl.q (v := Value.bool true) (q_move rfl) ?_
 refine Wl.q (v := Value.int .i64 0) (q_move rfl) ?_
 refine Wl.q (v := Value.bool true) (q_eql (r := true) rfl rfl (decide_eq_true (by decide))) ?_
 refine Wl.q (v := Value.bool true) (q_pick (t := true) rfl rfl) ?_
 refine Wl.q (v := Value.bool true) (q_move rfl) ?_
 refine Wl.q (v := Value.string (⟨#[2, 2, 97, 4, 120, 121]⟩)) (q_move rfl) ?_
 refine Wl.q (v := Value.bool true) (q_eql_str (r := true) rfl rfl (text_true (rfl))) ?_
 refine Wl.q (v := Value.bool true) (q_pick (t := true) rfl rfl) ?_
 refine Wl.q (v := Value.bool true) (q_move rfl) ?_
 refine Wl.q (v := Value.pointer (some ⟨sp, 0, none⟩)) (q_move rfl) ?_
 refine Wl.q (v := Value.agg #[Value.string (⟨#[97]⟩), Value.string (⟨#[]⟩), Value.bool false]) (q_build (pl := [(0, 1), (1, 1), (2, 1)]) Tryz.underlying44 zo_44 (by kernel_rfl) (by kernel_rfl)) ?_
 refine Wl.q (v := Value.agg #[Value.string (⟨#[97]⟩), Value.string (⟨#[]⟩), Value.bool false]) (q_build (pl := [(0, 1), (1, 1), (2, 1)]) Tryz.underlying44 zo_44 (by kernel_rfl) (by kernel_rfl)) ?_
 refine Wl.e (e_buildSlice (cs := [Value.string (⟨#[97]⟩), Value.string (⟨#[]⟩), Value.bool false, Value.string (⟨#[97]⟩), Value.string (⟨#[]⟩), Value.bool false]) se_22 zo_44 (by decide) (by decide) (by kernel_rfl)) (fun b4 _ => ?_)
 refine Wl.imp (L' := (pt b4 44 ([Value.string (⟨#[97]⟩), Value.string (⟨#[]⟩), Value.bool false, Value.string (⟨#[97]⟩), Value.string (⟨#[]⟩), Value.bool false])) :: (pt sp 49 [Value.pointer (some ⟨j, 0, none⟩), Value.map (some mc)]) :: (isJ j pp ⟨aA, 1, false⟩) :: (sl 9 1 nv2 aN.length (aN.map Value.string)) :: (sl 9 1 (Value.slice (some ⟨b3, 0, none⟩) 2 2) aN.length (aN.map Value.string)) :: (mp mc (strV aT)) :: (sl 44 3 (Value.slice (some ⟨b2, 0, none⟩) 1 1) aP.length (aP.flatMap pairCells)) :: (sl 44 3 (Value.slice (some ⟨b1, 0, none⟩) 2 2) aL.length (aL.flatMap pairCells)) :: (isDisk pp (⟨S1, [], false, K1, none⟩ : DS)) :: F) (fun _ h => h) ?_
 refine Wl.imp (L' := (sl 44 3 (Value.slice (some ⟨b4, 0, none⟩) 2 2) aD.length (aD.flatMap pairCells)) :: (pt sp 49 [Value.pointer (some ⟨j, 0, none⟩), Value.map (some mc)]) :: (isJ j pp ⟨aA, 1, false⟩) :: (sl 9 1 nv2 aN.length (aN.map Value.string)) :: (sl 9 1 (Value.slice (some ⟨b3, 0, none⟩) 2 2) aN.length (aN.map Value.string)) :: (mp mc (strV aT)) :: (sl 44 3 (Value.slice (some ⟨b2, 0, none⟩) 1 1) aP.length (aP.flatMap pairCells)) :: (sl 44 3 (Value.slice (some ⟨b1, 0, none⟩) 2 2) aL.length (aL.flatMap pairCells)) :: (isDisk pp (⟨S1, [], false, K1, none⟩ : DS)) :: F) (fun w hs => st_sl_mk (n := 2) rfl (by decide) (st_slp_pt rfl (by decide) hs)) ?_
 refine Wl.imp (L' := (sl 44 3 (Value.slice (some ⟨b4, 0, none⟩) 2 2) aD.length (aD.flatMap pairCells)) :: (pt sp 49 [Value.pointer (some ⟨j, 0, none⟩), Value.map (some mc)]) :: (mp mc (strV aT)) :: (isJ j pp ⟨aA, 1, false⟩) :: (isDisk pp (⟨S1, [], false, K1, none⟩ : DS)) :: (sl 9 1 nv2 aN.length (aN.map Value.string)) :: (sl 9 1 (Value.slice (some ⟨b3, 0, none⟩) 2 2) aN.length (aN.map Value.string)) :: (sl 44 3 (Value.slice (some ⟨b2, 0, none⟩) 1 1) aP.length (aP.flatMap pairCells)) :: (sl 44 3 (Value.slice (some ⟨b1, 0, none⟩) 2 2) aL.length (aL.flatMap pairCells)) :: F) (fun _ h => st_pull [0, 0, 3, 0, 4] h) ?_
 refine Wl.e (e_call (F := (sl 9 1 nv2 aN.length (aN.map Value.string)) :: (sl 9 1 (Value.slice (some ⟨b3, 0, none⟩) 2 2) aN.length (aN.map Value.string)) :: (sl 44 3 (Value.slice (some ⟨b2, 0, none⟩) 1 1) aP.length (aP.flatMap pairCells)) :: (sl 44 3 (Value.slice (some ⟨b1, 0, none⟩) 2 2) aL.length (aL.flatMap pairCells)) :: F) (args := [Value.pointer (some ⟨sp, 0, none⟩), Value.slice (some ⟨b4, 0, none⟩) 2 2]) Tryz.call20 rfl (Con.eqs (val' := fun _ => .int .i64 13) (post' := fun md : Nat => [sl 44 3 (Value.slice (some ⟨b4, 0, none⟩) 2 2) aD.length (aD.flatMap pairCells), pt sp 49 [Value.pointer (some ⟨j, 0, none⟩), Value.map (some md)], mp md (strV aT), isJ j pp ⟨aA, 1, false⟩, isDisk pp (⟨S1, [], false, K1, none⟩ : DS)]) (change_sl W0 (Value.slice (some ⟨b4, 0, none⟩) 2 2) aD (by decide) (by decide) sp j mc pp aT a_ok (by decide) aA 1 S1 K1 none ok1.wf hS1 (by omega) (by decide) (by decide) 0 (⟨S1, [], false, K1, none⟩ : DS) aA 1 false (fun hc => absurd hc.1 (by rw [a_dup]; decide))) (fun _ => by rw [ad.1]) (fun _ => by rw [ad.2.1, ad.2.2, ad.2.2]))) (fun md _ => ?_)
 refine Wl.imp (L' := (sl 44 3 (Value.slice (some ⟨b4, 0, none⟩) 2 2) aD.length (aD.flatMap pairCells)) :: (pt sp 49 [Value.pointer (some ⟨j, 0, none⟩), Value.map (some md)]) :: (mp md (strV aT)) :: (isJ j pp ⟨aA, 1, false⟩) :: (isDisk pp (⟨S1, [], false, K1, none⟩ : DS)) :: (sl 9 1 nv2 aN.length (aN.map Value.string)) :: (sl 9 1 (Value.slice (some ⟨b3, 0, none⟩) 2 2) aN.length (aN.map Value.string)) :: (sl 44 3 (Value.slice (some ⟨b2, 0, none⟩) 1 1) aP.length (aP.flatMap pairCells)) :: (sl 44 3 (Value.slice (some ⟨b1, 0, none⟩) 2 2) aL.length (aL.flatMap pairCells)) :: F) (fun _ h => h) ?_
 refine Wl.q (v := Value.bool true) (q_eql (r := true) rfl rfl (decide_eq_true (by decide))) ?_
 refine Wl.q (v := Value.bool true) (q_pick (t := true) rfl rfl) ?_
 refine Wl.q (v := Value.bool true) (q_assign rfl) ?_
 refine Wl.done ?_
 refine Wx.go ?_
 refine Wc.ret ?_
 refine Wx.fin1 rfl (.inl rfl) (fun w hs => ?_)
 exact ⟨(), trivial, rfl, (st_drop (st_drop (st_drop (st_drop (st_drop (st_drop (st_drop (st_drop (st_drop (st_pull [0, 0, 0, 0, 0, 0, 0, 0, 0] hs))))))))))⟩

theorem alive_c07 (W0 : World) : Con Tryz.prog W0 17 #[] [] (X := Unit) (fun _ => True) (fun _ => .bool true) (fun _ => []) := by
 have ok0 := Go.Jn.ok_new (n := 16) (by decide) (by decide)
 obtain ⟨S1, h1, h2, h3⟩ := Go.Jn.put_js (s := aA) ok0 (by decide) (by rw [Go.Jn.half, List.length_replicate]; decide) 0
 rw [List.length_replicate] at h1
 exact alive_w W0 S1 _ (by omega) (by show 0 + Go.Jn.nPieces aA + 3 ≤ 100; decide) ok0 h2 h3

end Go.Proofs.YtkndmgfahghcjaaGreat

