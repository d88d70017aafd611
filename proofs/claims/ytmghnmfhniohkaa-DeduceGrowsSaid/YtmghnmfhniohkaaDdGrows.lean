/- What follows: contracts of the calls. -/
import Derived.Test.YtmghnmfhniohkaaDdN
import Derived.Test.YtmghnmfhniohkaaDdP
namespace Go.Proofs.Ytmghnmfhniohkaa
open Go Go.SL Go.Dd Go.RowKit
set_option linter.unusedVariables false

theorem grows_big (W0 : World) (vl : Value) (l : List TermR) (hl : Rd W0 vl l.length (l.flatMap termCells)) (hlm : l.length ≤ 9223372036854775807) (hlo : ∀ x ∈ l, okT x) (vk : Value) (kn : List Int) (hk : Rd W0 vk kn.length (kn.flatMap int1)) (hkm : kn.length ≤ 9223372036854775807) (more : Int) (hbig : 600 < l.length ∨ 1000 < kn.length) :
    Con Try.prog W0 8 #[vl, vk, Value.int .i64 more] [] (X := Unit) (fun _ => True) (fun _ => .bool true) (fun _ => []) := by
  refine Con.of (args := [vl, vk, Value.int .i64 more]) Try.func8 rfl Try.ntmps8 rfl (fun F => ?_)
  show Wc _ W0 _ _ _ _ _ (F)
  refine Wc.seq ?_
  refine Wc.region ?_
  refine Wl.q (v := Value.bool false) (q_assign rfl) ?_
  refine Wl.done ?_
  refine Wx.go ?_
  refine Wc.seq ?_
  refine Wc.seq ?_
  refine Wc.region ?_
  refine Wl.q (v := vl) (q_move rfl) ?_
  refine Wl.q (v := Value.int .i64 ((l.length : Nat) : Int)) (q_len_is Try.underlying22 rfl hl.shape) ?_
  by_cases hb1 : ((l.length : Nat) : Int) > 600
  ·
    refine Wl.q (v := Value.bool true) (q_gtr (r := true) rfl rfl (decide_eq_true hb1)) ?_
    refine Wl.q (v := Value.bool true) (q_move rfl) ?_
    refine Wl.no ?_
    refine Wl.no ?_
    refine Wl.no ?_
    refine Wl.q (v := Value.bool true) (q_pick (t := true) rfl rfl) ?_
    refine Wl.done ?_
    refine Wx.go ?_
    refine Wc.yes rfl ?_
    refine Wc.seq ?_
    refine Wc.region ?_
    refine Wl.q (v := Value.bool true) (q_assign rfl) ?_
    refine Wl.done ?_
    refine Wx.go ?_
    refine Wc.ret ?_
    refine Wx.thenRet ?_
    refine Wx.fin1 rfl (.inl rfl) (fun w hs => ?_)
    exact ⟨(), trivial, rfl, hs⟩
  ·
    refine Wl.q (v := Value.bool false) (q_gtr (r := false) rfl rfl (decide_eq_false hb1)) ?_
    refine Wl.q (v := Value.bool false) (q_move rfl) ?_
    refine Wl.q (v := vk) (q_move rfl) ?_
    refine Wl.q (v := Value.int .i64 ((kn.length : Nat) : Int)) (q_len_is Try.underlying23 rfl hk.shape) ?_
    by_cases hb2 : ((kn.length : Nat) : Int) > 1000
    ·
      refine Wl.q (v := Value.bool true) (q_gtr (r := true) rfl rfl (decide_eq_true hb2)) ?_
      refine Wl.q (v := Value.bool true) (q_pick (t := false) rfl rfl) ?_
      refine Wl.done ?_
      refine Wx.go ?_
      refine Wc.yes rfl ?_
      refine Wc.seq ?_
      refine Wc.region ?_
      refine Wl.q (v := Value.bool true) (q_assign rfl) ?_
      refine Wl.done ?_
      refine Wx.go ?_
      refine Wc.ret ?_
      refine Wx.thenRet ?_
      refine Wx.fin1 rfl (.inl rfl) (fun w hs => ?_)
      exact ⟨(), trivial, rfl, hs⟩
    ·
      exfalso; omega

theorem grows_bad (W0 : World) (vl : Value) (l : List TermR) (hl : Rd W0 vl l.length (l.flatMap termCells)) (hlm : l.length ≤ 9223372036854775807) (hlo : ∀ x ∈ l, okT x) (vk : Value) (kn : List Int) (hk : Rd W0 vk kn.length (kn.flatMap int1)) (hkm : kn.length ≤ 9223372036854775807) (more : Int) (hs1 : l.length ≤ 600) (hs2 : kn.length ≤ 1000) (hbad : ∃ x ∈ kn, ¬ (1 ≤ x ∧ x ≤ ((build [] l).length : Int))) :
    Con Try.prog W0 8 #[vl, vk, Value.int .i64 more] [] (X := Unit) (fun _ => True) (fun _ => .bool true) (fun _ => []) := by
  refine Con.of (args := [vl, vk, Value.int .i64 more]) Try.func8 rfl Try.ntmps8 rfl (fun F => ?_)
  show Wc _ W0 _ _ _ _ _ (F)
  refine Wc.seq ?_
  refine Wc.region ?_
  refine Wl.q (v := Value.bool false) (q_assign rfl) ?_
  refine Wl.done ?_
  refine Wx.go ?_
  refine Wc.seq ?_
  refine Wc.seq ?_
  refine Wc.region ?_
  refine Wl.q (v := vl) (q_move rfl) ?_
  refine Wl.q (v := Value.int .i64 ((l.length : Nat) : Int)) (q_len_is Try.underlying22 rfl hl.shape) ?_
  refine Wl.q (v := Value.bool false) (q_gtr (r := false) rfl rfl (decide_eq_false (by omega))) ?_
  refine Wl.q (v := Value.bool false) (q_move rfl) ?_
  refine Wl.q (v := vk) (q_move rfl) ?_
  refine Wl.q (v := Value.int .i64 ((kn.length : Nat) : Int)) (q_len_is Try.underlying23 rfl hk.shape) ?_
  refine Wl.q (v := Value.bool false) (q_gtr (r := false) rfl rfl (decide_eq_false (by omega))) ?_
  refine Wl.q (v := Value.bool false) (q_pick (t := false) rfl rfl) ?_
  refine Wl.done ?_
  refine Wx.go ?_
  refine Wc.no rfl ?_
  refine Wc.skip ?_
  refine Wx.go ?_
  refine Wc.seq ?_
  refine Wc.region ?_
  refine Wl.q (v := vl) (q_move rfl) ?_
  refine Wl.e (e_call (F := F) (args := [vl]) Try.call9 rfl (build_c W0 vl l hl (by omega) hlo)) (fun ⟨s, r⟩ _ => ?_)
  refine Wl.imp (L' := (storeI s (build [] l)) :: (refI r (build [] l)) :: F) (fun _ h => h) ?_
  have hw := build_all hlo
  have hT := build_all_le l
  refine Wl.q (v := Value.tuple #[Value.pointer (some ⟨s, 0, none⟩), Value.pointer (some ⟨r, 0, none⟩), Value.bool true]) (q_move rfl) ?_
  refine Wl.q (v := Value.pointer (some ⟨s, 0, none⟩)) (q_extract (i := 0) rfl rfl) ?_
  refine Wl.q (v := Value.pointer (some ⟨r, 0, none⟩)) (q_extract (i := 1) rfl rfl) ?_
  refine Wl.q (v := Value.bool true) (q_extract (i := 2) rfl rfl) ?_
  refine Wl.q (v := Value.pointer (some ⟨s, 0, none⟩)) (q_assign rfl) ?_
  refine Wl.q (v := Value.pointer (some ⟨r, 0, none⟩)) (q_assign rfl) ?_
  refine Wl.q (v := Value.bool true) (q_assign rfl) ?_
  refine Wl.done ?_
  refine Wx.go ?_
  refine Wc.seq ?_
  refine Wc.seq ?_
  refine Wc.region ?_
  refine Wl.q (v := Value.bool true) (q_move rfl) ?_
  refine Wl.q (v := Value.bool false) (q_not rfl rfl) ?_
  refine Wl.done ?_
  refine Wx.go ?_
  refine Wc.no rfl ?_
  refine Wc.skip ?_
  refine Wx.go ?_
  refine Wc.seq ?_
  refine Wc.region ?_
  refine Wl.q (v := Value.pointer (some ⟨s, 0, none⟩)) (q_move rfl) ?_
  refine Wl.q (v := vk) (q_move rfl) ?_
  refine Wl.e (e_call (F := (refI r (build [] l)) :: F) (args := [Value.pointer (some ⟨s, 0, none⟩), vk]) Try.call15 rfl (new_bad_ro W0 s (build [] l) hw (by omega) (vk) kn hk (by omega) (by omega) hbad)) (fun _ _ => ?_)
  refine Wl.imp (L' := (storeI s (build [] l)) :: (refI r (build [] l)) :: F) (fun _ h => h) ?_
  refine Wl.q (v := Value.tuple #[Value.pointer none, Value.int .i64 1]) (q_move rfl) ?_
  refine Wl.q (v := Value.pointer none) (q_extract (i := 0) rfl rfl) ?_
  refine Wl.q (v := Value.int .i64 1) (q_extract (i := 1) rfl rfl) ?_
  refine Wl.q (v := Value.pointer none) (q_assign rfl) ?_
  refine Wl.q (v := Value.int .i64 1) (q_assign rfl) ?_
  refine Wl.done ?_
  refine Wx.go ?_
  refine Wc.seq ?_
  refine Wc.seq ?_
  refine Wc.region ?_
  refine Wl.q (v := Value.int .i64 1) (q_move rfl) ?_
  refine Wl.q (v := Value.bool true) (q_neq (r := false) rfl rfl (decide_eq_false (by decide))) ?_
  refine Wl.q (v := Value.bool true) (q_move rfl) ?_
  refine Wl.no ?_
  refine Wl.no ?_
  refine Wl.q (v := Value.bool true) (q_pick (t := true) rfl rfl) ?_
  refine Wl.done ?_
  refine Wx.go ?_
  refine Wc.yes rfl ?_
  refine Wc.seq ?_
  refine Wc.region ?_
  refine Wl.e (e_call (F := (storeI s (build [] l)) :: (refI r (build [] l)) :: F) (args := []) Try.call12 rfl (lives_c W0)) (fun _ _ => ?_)
  refine Wl.imp (L' := (storeI s (build [] l)) :: (refI r (build [] l)) :: F) (fun _ h => h) ?_
  refine Wl.q (v := Value.bool true) (q_assign rfl) ?_
  refine Wl.done ?_
  refine Wx.go ?_
  refine Wc.ret ?_
  refine Wx.thenRet ?_
  refine Wx.fin1 rfl (.inl rfl) (fun w hs => ?_)
  exact ⟨(), trivial, rfl, (st_drop (st_drop (st_pull [0, 0] hs)))⟩

set_option maxRecDepth 4000 in
theorem grows_ok (W0 : World) (vl : Value) (l : List TermR) (hl : Rd W0 vl l.length (l.flatMap termCells)) (hlm : l.length ≤ 9223372036854775807) (hlo : ∀ x ∈ l, okT x) (vk : Value) (kn : List Int) (hk : Rd W0 vk kn.length (kn.flatMap int1)) (hkm : kn.length ≤ 9223372036854775807) (more : Int) (hs1 : l.length ≤ 600) (hs2 : kn.length ≤ 1000) (hall0 : ∀ x ∈ kn, (1 ≤ x ∧ x ≤ ((build [] l).length : Int))) :
    Con Try.prog W0 8 #[vl, vk, Value.int .i64 more] [] (X := Unit) (fun _ => True) (fun _ => .bool true) (fun _ => []) := by
  refine Con.of (args := [vl, vk, Value.int .i64 more]) Try.func8 rfl Try.ntmps8 rfl (fun F => ?_)
  show Wc _ W0 _ _ _ _ _ (F)
  refine Wc.seq ?_
  refine Wc.region ?_
  refine Wl.q (v := Value.bool false) (q_assign rfl) ?_
  refine Wl.done ?_
  refine Wx.go ?_
  refine Wc.seq ?_
  refine Wc.seq ?_
  refine Wc.region ?_
  refine Wl.q (v := vl) (q_move rfl) ?_
  refine Wl.q (v := Value.int .i64 ((l.length : Nat) : Int)) (q_len_is Try.underlying22 rfl hl.shape) ?_
  refine Wl.q (v := Value.bool false) (q_gtr (r := false) rfl rfl (decide_eq_false (by omega))) ?_
  refine Wl.q (v := Value.bool false) (q_move rfl) ?_
  refine Wl.q (v := vk) (q_move rfl) ?_
  refine Wl.q (v := Value.int .i64 ((kn.length : Nat) : Int)) (q_len_is Try.underlying23 rfl hk.shape) ?_
  refine Wl.q (v := Value.bool false) (q_gtr (r := false) rfl rfl (decide_eq_false (by omega))) ?_
  refine Wl.q (v := Value.bool false) (q_pick (t := false) rfl rfl) ?_
  refine Wl.done ?_
  refine Wx.go ?_
  refine Wc.no rfl ?_
  refine Wc.skip ?_
  refine Wx.go ?_
  refine Wc.seq ?_
  refine Wc.region ?_
  refine Wl.q (v := vl) (q_move rfl) ?_
  refine Wl.e (e_call (F := F) (args := [vl]) Try.call9 rfl (build_c W0 vl l hl (by omega) hlo)) (fun ⟨s, r⟩ _ => ?_)
  refine Wl.imp (L' := (storeI s (build [] l)) :: (refI r (build [] l)) :: F) (fun _ h => h) ?_
  have hw := build_all hlo
  have hT := build_all_le l
  refine Wl.q (v := Value.tuple #[Value.pointer (some ⟨s, 0, none⟩), Value.pointer (some ⟨r, 0, none⟩), Value.bool true]) (q_move rfl) ?_
  refine Wl.q (v := Value.pointer (some ⟨s, 0, none⟩)) (q_extract (i := 0) rfl rfl) ?_
  refine Wl.q (v := Value.pointer (some ⟨r, 0, none⟩)) (q_extract (i := 1) rfl rfl) ?_
  refine Wl.q (v := Value.bool true) (q_extract (i := 2) rfl rfl) ?_
  refine Wl.q (v := Value.pointer (some ⟨s, 0, none⟩)) (q_assign rfl) ?_
  refine Wl.q (v := Value.pointer (some ⟨r, 0, none⟩)) (q_assign rfl) ?_
  refine Wl.q (v := Value.bool true) (q_assign rfl) ?_
  refine Wl.done ?_
  refine Wx.go ?_
  refine Wc.seq ?_
  refine Wc.seq ?_
  refine Wc.region ?_
  refine Wl.q (v := Value.bool true) (q_move rfl) ?_
  refine Wl.q (v := Value.bool false) (q_not rfl rfl) ?_
  refine Wl.done ?_
  refine Wx.go ?_
  refine Wc.no rfl ?_
  refine Wc.skip ?_
  refine Wx.go ?_
  refine Wc.seq ?_
  refine Wc.region ?_
  refine Wl.q (v := Value.pointer (some ⟨s, 0, none⟩)) (q_move rfl) ?_
  refine Wl.q (v := vk) (q_move rfl) ?_
  refine Wl.e (e_call (F := (refI r (build [] l)) :: F) (args := [Value.pointer (some ⟨s, 0, none⟩), vk]) Try.call15 rfl (new_ok_ro W0 s (build [] l) hw (by omega) (vk) kn hk (by omega) (by omega) hall0)) (fun k _ => ?_)
  refine Wl.imp (L' := (knowK k s (build [] l) (KL kn)) :: (storeI s (build [] l)) :: (refI r (build [] l)) :: F) (fun _ h => h) ?_
  refine Wl.q (v := Value.tuple #[Value.pointer (some ⟨k, 0, none⟩), Value.int .i64 0]) (q_move rfl) ?_
  refine Wl.q (v := Value.pointer (some ⟨k, 0, none⟩)) (q_extract (i := 0) rfl rfl) ?_
  refine Wl.q (v := Value.int .i64 0) (q_extract (i := 1) rfl rfl) ?_
  refine Wl.q (v := Value.pointer (some ⟨k, 0, none⟩)) (q_assign rfl) ?_
  refine Wl.q (v := Value.int .i64 0) (q_assign rfl) ?_
  refine Wl.done ?_
  refine Wx.go ?_
  refine Wc.seq ?_
  refine Wc.seq ?_
  refine Wc.region ?_
  refine Wl.q (v := Value.int .i64 0) (q_move rfl) ?_
  refine Wl.q (v := Value.bool false) (q_neq (r := true) rfl rfl (decide_eq_true (by decide))) ?_
  refine Wl.q (v := Value.bool false) (q_move rfl) ?_
  refine Wl.q (v := Value.pointer (some ⟨k, 0, none⟩)) (q_move rfl) ?_
  refine Wl.q (v := Value.bool false) (q_eql_nil (r := false) rfl rfl Try.underlying38 rfl) ?_
  refine Wl.q (v := Value.bool false) (q_pick (t := false) rfl rfl) ?_
  refine Wl.done ?_
  refine Wx.go ?_
  refine Wc.no rfl ?_
  refine Wc.skip ?_
  refine Wx.go ?_
  refine Wc.seq ?_
  refine Wc.seq ?_
  refine Wc.region ?_
  refine Wl.q (v := Value.int .i64 0) (q_assign rfl) ?_
  refine Wl.done ?_
  refine Wx.go ?_
  refine Wc.block ?_
  refine Wc.loop (X := Nat) (fun i E => E 12 = Value.int .i64 ((i : Nat) : Int) ∧ E 1 = vk ∧ E 2 = Value.int .i64 more ∧ E 7 = Value.pointer (some ⟨s, 0, none⟩) ∧ E 10 = Value.pointer (some ⟨k, 0, none⟩) ∧ i ≤ kn.length) (fun i => (knowK k s (build [] l) (KL kn)) :: (storeI s (build [] l)) :: F) (fun i => kn.length - i) 0 ?_ ?_ ?_
  · exact ⟨rfl, rfl, rfl, rfl, rfl, (by omega)⟩
  · exact fun w hs => (st_drop (st_pull [2] hs))
  · rintro i E2 ⟨hE12_0, hE1_0, hE2_0, hE7_0, hE10_0, hi⟩
    refine Wc.seq ?_
    refine Wc.seq ?_
    refine Wc.region ?_
    refine Wl.q (v := Value.int .i64 ((i : Nat) : Int)) (q_move hE12_0) ?_
    refine Wl.q (v := vk) (q_move hE1_0) ?_
    refine Wl.q (v := Value.int .i64 ((kn.length : Nat) : Int)) (q_len_is Try.underlying23 rfl hk.shape) ?_
    by_cases hlt : ((i : Nat) : Int) < ((kn.length : Nat) : Int)
    ·
      obtain ⟨o, hget⟩ : ∃ o, kn[i]? = some o := ⟨kn[i]'(by omega), List.getElem?_eq_getElem (by omega)⟩
      have hmem := List.mem_of_getElem? hget
      refine Wl.q (v := Value.bool true) (q_lss (r := true) rfl rfl (decide_eq_true hlt)) ?_
      refine Wl.done ?_
      refine Wx.go ?_
      refine Wc.yes rfl ?_
      refine Wc.skip ?_
      refine Wx.go ?_
      refine Wc.seq ?_
      refine Wc.block ?_
      refine Wc.seq ?_
      refine Wc.region ?_
      refine Wl.q (v := Value.pointer (some ⟨k, 0, none⟩)) (q_move hE10_0) ?_
      refine Wl.q (v := vk) (q_move hE1_0) ?_
      refine Wl.q (v := Value.int .i64 ((i : Nat) : Int)) (q_move hE12_0) ?_
      refine Wl.q (v := Value.pointer (some ⟨(rb vk), ro vk + i, none⟩)) (q_idx_is (m := ro vk + i) se_23 rfl (hk.some_ (by omega)) rfl (by omega) (by omega) (by simp)) ?_
      refine Wl.q (v := Value.int .i64 o) (q_load sc_3 rfl (.old (rd1 hk hget))) ?_
      refine Wl.e (e_call (F := F) (args := [Value.pointer (some ⟨k, 0, none⟩), Value.int .i64 o]) Try.call17 rfl (khas_is (b := true) W0 k s (build [] l) (KL kn) o (by omega) (derB_known hmem (hall0 o hmem)))) (fun _ _ => ?_)
      refine Wl.imp (L' := (knowK k s (build [] l) (KL kn)) :: (storeI s (build [] l)) :: F) (fun _ h => h) ?_
      refine Wl.q (v := Value.bool false) (q_not rfl rfl) ?_
      refine Wl.done ?_
      refine Wx.go ?_
      refine Wc.no rfl ?_
      refine Wc.skip ?_
      refine Wx.blockEnd ?_
      refine Wx.go ?_
      refine Wc.region ?_
      refine Wl.q (v := Value.int .i64 ((i : Nat) : Int)) (q_move hE12_0) ?_
      refine Wl.q (v := Value.int .i64 ((i + 1 : Nat) : Int)) (q_add (c := ((i + 1 : Nat) : Int)) rfl rfl (by rw [wrap_i64] <;> omega)) ?_
      refine Wl.q (v := Value.int .i64 ((i + 1 : Nat) : Int)) (q_assign rfl) ?_
      refine Wl.done ?_
      refine Wx.at (i + 1) ⟨(by omega), rfl, hE1_0, hE2_0, hE7_0, hE10_0, (by omega)⟩ (fun w hs => hs)
    ·
      refine Wl.q (v := Value.bool false) (q_lss (r := false) rfl rfl (decide_eq_false hlt)) ?_
      refine Wl.done ?_
      refine Wx.go ?_
      refine Wc.no rfl ?_
      refine Wc.exit ?_
      refine Wx.thenExit ?_
      refine Wx.thenExit ?_
      refine Wx.out ?_
      refine Wx.go ?_
      refine Wc.seq ?_
      refine Wc.region ?_
      refine Wl.q (v := Value.slice none 0 0) (q_assign rfl) ?_
      refine Wl.done ?_
      refine Wx.go ?_
      refine Wc.seq ?_
      refine Wc.seq ?_
      refine Wc.region ?_
      refine Wl.q (v := Value.int .i64 1) (q_assign rfl) ?_
      refine Wl.done ?_
      refine Wx.go ?_
      refine Wc.block ?_
      refine Wc.loop (X := Nat × Value) (fun (j, v) E => E 14 = Value.int .i64 (((j + 1) : Nat) : Int) ∧ E 13 = v ∧ E 2 = Value.int .i64 more ∧ E 7 = Value.pointer (some ⟨s, 0, none⟩) ∧ E 10 = Value.pointer (some ⟨k, 0, none⟩) ∧ j ≤ (build [] l).length) (fun (j, v) => (sl 3 1 v ((now (derB (build [] l) (KL kn)) j).length) ((now (derB (build [] l) (KL kn)) j).map intV)) :: (knowK k s (build [] l) (KL kn)) :: (storeI s (build [] l)) :: F) (fun (j, v) => (build [] l).length - j) (0, Value.slice none 0 0) ?_ ?_ ?_
      · exact ⟨rfl, rfl, hE2_0, hE7_0, hE10_0, (by omega)⟩
      · exact fun w hs => st_sl_nil hs
      · rintro ⟨j, v⟩ E4 ⟨hE14_2, hE13_2, hE2_2, hE7_2, hE10_2, hj⟩
        dsimp only at *
        have hnl := now_len (derB (build [] l) (KL kn)) j
        refine Wc.seq ?_
        refine Wc.seq ?_
        refine Wc.region ?_
        refine Wl.q (v := Value.int .i64 (((j + 1) : Nat) : Int)) (q_move hE14_2) ?_
        refine Wl.q (v := Value.pointer (some ⟨s, 0, none⟩)) (q_move hE7_2) ?_
        refine Wl.imp (L' := (storeI s (build [] l)) :: (sl 3 1 v ((now (derB (build [] l) (KL kn)) j).length) ((now (derB (build [] l) (KL kn)) j).map intV)) :: (knowK k s (build [] l) (KL kn)) :: F) (fun _ h => st_pull [2] h) ?_
        refine Wl.e (e_call (F := (sl 3 1 v ((now (derB (build [] l) (KL kn)) j).length) ((now (derB (build [] l) (KL kn)) j).map intV)) :: (knowK k s (build [] l) (KL kn)) :: F) (args := [Value.pointer (some ⟨s, 0, none⟩)]) Try.call13 rfl (len_c W0 s (build [] l))) (fun _ _ => ?_)
        refine Wl.imp (L' := (storeI s (build [] l)) :: (sl 3 1 v ((now (derB (build [] l) (KL kn)) j).length) ((now (derB (build [] l) (KL kn)) j).map intV)) :: (knowK k s (build [] l) (KL kn)) :: F) (fun _ h => h) ?_
        by_cases hlt2 : (((j + 1) : Nat) : Int) ≤ (((build [] l).length : Nat) : Int)
        ·
          refine Wl.q (v := Value.bool true) (q_leq (r := true) rfl rfl (decide_eq_true hlt2)) ?_
          refine Wl.done ?_
          refine Wx.go ?_
          refine Wc.yes rfl ?_
          refine Wc.skip ?_
          refine Wx.go ?_
          refine Wc.seq ?_
          refine Wc.block ?_
          refine Wc.seq ?_
          refine Wc.region ?_
          by_cases hd : derB (build [] l) (KL kn) ((j + 1 : Nat) : Int) = true
          ·
            refine Wl.q (v := Value.pointer (some ⟨k, 0, none⟩)) (q_move hE10_2) ?_
            refine Wl.q (v := Value.int .i64 (((j + 1) : Nat) : Int)) (q_move hE14_2) ?_
            refine Wl.imp (L' := (knowK k s (build [] l) (KL kn)) :: (storeI s (build [] l)) :: (sl 3 1 v ((now (derB (build [] l) (KL kn)) j).length) ((now (derB (build [] l) (KL kn)) j).map intV)) :: F) (fun _ h => st_pull [2, 0] h) ?_
            refine Wl.e (e_call (F := (sl 3 1 v ((now (derB (build [] l) (KL kn)) j).length) ((now (derB (build [] l) (KL kn)) j).map intV)) :: F) (args := [Value.pointer (some ⟨k, 0, none⟩), Value.int .i64 (((j + 1) : Nat) : Int)]) Try.call17 rfl (khas_is (b := true) W0 k s (build [] l) (KL kn) (((j + 1) : Nat) : Int) (by omega) hd)) (fun _ _ => ?_)
            refine Wl.imp (L' := (knowK k s (build [] l) (KL kn)) :: (storeI s (build [] l)) :: (sl 3 1 v ((now (derB (build [] l) (KL kn)) j).length) ((now (derB (build [] l) (KL kn)) j).map intV)) :: F) (fun _ h => h) ?_
            refine Wl.done ?_
            refine Wx.go ?_
            refine Wc.yes rfl ?_
            refine Wc.region ?_
            refine Wl.q (v := v) (q_move hE13_2) ?_
            refine Wl.q (v := Value.int .i64 (((j + 1) : Nat) : Int)) (q_move hE14_2) ?_
            refine Wl.e (e_buildSlice (cs := [Value.int .i64 (((j + 1) : Nat) : Int)]) se_23 zo_3 (by decide) (by decide) (by kernel_rfl)) (fun b5 _ => ?_)
            refine Wl.imp (L' := (pt b5 3 [Value.int .i64 (((j + 1) : Nat) : Int)]) :: (knowK k s (build [] l) (KL kn)) :: (storeI s (build [] l)) :: (sl 3 1 v ((now (derB (build [] l) (KL kn)) j).length) ((now (derB (build [] l) (KL kn)) j).map intV)) :: F) (fun _ h => h) ?_
            refine Wl.e (e_append (i := 3) (k := 1) (m := 1) (off := 0) (news := [Value.int .i64 (((j + 1) : Nat) : Int)]) Try.underlying23 sz_3 by_3 zo_3 rfl rfl rfl rfl rfl (Has.of_pt (i := 0) rfl rfl) rfl (by decide) (by simp only [maxLen]; omega) (by omega)) (fun v2 _ => ?_)
            refine Wl.imp (L' := (pt b5 3 [Value.int .i64 (((j + 1) : Nat) : Int)]) :: (knowK k s (build [] l) (KL kn)) :: (storeI s (build [] l)) :: (sl 3 1 v2 (((now (derB (build [] l) (KL kn)) j).length) + 1) (((now (derB (build [] l) (KL kn)) j).map intV) ++ [Value.int .i64 (((j + 1) : Nat) : Int)])) :: F) (fun _ h => h) ?_
            refine Wl.q (v := v2) (q_assign rfl) ?_
            refine Wl.done ?_
            refine Wx.blockEnd ?_
            refine Wx.go ?_
            refine Wc.region ?_
            refine Wl.q (v := Value.int .i64 (((j + 1) : Nat) : Int)) (q_move hE14_2) ?_
            refine Wl.q (v := Value.int .i64 (((j + 1) + 1 : Nat) : Int)) (q_add (c := (((j + 1) + 1 : Nat) : Int)) rfl rfl (by rw [wrap_i64] <;> omega)) ?_
            refine Wl.q (v := Value.int .i64 (((j + 1) + 1 : Nat) : Int)) (q_assign rfl) ?_
            refine Wl.done ?_
            refine Wx.at (j + 1, v2) ⟨(by simp only; omega), rfl, rfl, hE2_2, hE7_2, hE10_2, (by simp only; omega)⟩ (fun w hs => by rw [now_y hd]; rw [List.length_append, List.map_append]; exact (st_pull [2, 0, 0] (st_drop (st_pull [0] hs))))
          ·
            refine Wl.q (v := Value.pointer (some ⟨k, 0, none⟩)) (q_move hE10_2) ?_
            refine Wl.q (v := Value.int .i64 (((j + 1) : Nat) : Int)) (q_move hE14_2) ?_
            refine Wl.imp (L' := (knowK k s (build [] l) (KL kn)) :: (storeI s (build [] l)) :: (sl 3 1 v ((now (derB (build [] l) (KL kn)) j).length) ((now (derB (build [] l) (KL kn)) j).map intV)) :: F) (fun _ h => st_pull [2, 0] h) ?_
            refine Wl.e (e_call (F := (sl 3 1 v ((now (derB (build [] l) (KL kn)) j).length) ((now (derB (build [] l) (KL kn)) j).map intV)) :: F) (args := [Value.pointer (some ⟨k, 0, none⟩), Value.int .i64 (((j + 1) : Nat) : Int)]) Try.call17 rfl (khas_is (b := false) W0 k s (build [] l) (KL kn) (((j + 1) : Nat) : Int) (by omega) (Bool.eq_false_iff.2 hd))) (fun _ _ => ?_)
            refine Wl.imp (L' := (knowK k s (build [] l) (KL kn)) :: (storeI s (build [] l)) :: (sl 3 1 v ((now (derB (build [] l) (KL kn)) j).length) ((now (derB (build [] l) (KL kn)) j).map intV)) :: F) (fun _ h => h) ?_
            refine Wl.done ?_
            refine Wx.go ?_
            refine Wc.no rfl ?_
            refine Wc.skip ?_
            refine Wx.blockEnd ?_
            refine Wx.go ?_
            refine Wc.region ?_
            refine Wl.q (v := Value.int .i64 (((j + 1) : Nat) : Int)) (q_move hE14_2) ?_
            refine Wl.q (v := Value.int .i64 (((j + 1) + 1 : Nat) : Int)) (q_add (c := (((j + 1) + 1 : Nat) : Int)) rfl rfl (by rw [wrap_i64] <;> omega)) ?_
            refine Wl.q (v := Value.int .i64 (((j + 1) + 1 : Nat) : Int)) (q_assign rfl) ?_
            refine Wl.done ?_
            refine Wx.at (j + 1, v) ⟨(by simp only; omega), rfl, hE13_2, hE2_2, hE7_2, hE10_2, (by simp only; omega)⟩ (fun w hs => by rw [now_n hd]; exact (st_pull [2, 0, 0] (hs)))
        ·
          have hje : j = (build [] l).length := by omega
          refine Wl.q (v := Value.bool false) (q_leq (r := false) rfl rfl (decide_eq_false hlt2)) ?_
          refine Wl.done ?_
          refine Wx.go ?_
          refine Wc.no rfl ?_
          refine Wc.exit ?_
          refine Wx.thenExit ?_
          refine Wx.thenExit ?_
          refine Wx.out ?_
          refine Wx.go ?_
          refine Wc.seq ?_
          refine Wc.region ?_
          have hnl := now_len (derB (build [] l) (KL kn)) (build [] l).length
          refine Wl.imp (L' := (storeI s (build [] l)) :: (sl 3 1 v ((now (derB (build [] l) (KL kn)) (build [] l).length).length) ((now (derB (build [] l) (KL kn)) (build [] l).length).map intV)) :: (knowK k s (build [] l) (KL kn)) :: F) (fun w hs => hje ▸ hs) ?_
          refine Wl.q (v := Value.pointer (some ⟨s, 0, none⟩)) (q_move hE7_2) ?_
          refine Wl.q (v := v) (q_move hE13_2) ?_
          refine Wl.e (e_call (F := (knowK k s (build [] l) (KL kn)) :: F) (args := [Value.pointer (some ⟨s, 0, none⟩), v]) Try.call15 rfl (new_ok_sl W0 s (build [] l) hw (by omega) (v) (now (derB (build [] l) (KL kn)) (build [] l).length) (by omega) (by omega) (fun x hx => by have := now_mem.1 hx; omega))) (fun k2 _ => ?_)
          refine Wl.imp (L' := (knowK k2 s (build [] l) (KL (now (derB (build [] l) (KL kn)) (build [] l).length))) :: (storeI s (build [] l)) :: (sl 3 1 v ((now (derB (build [] l) (KL kn)) (build [] l).length).length) ((now (derB (build [] l) (KL kn)) (build [] l).length).map intV)) :: (knowK k s (build [] l) (KL kn)) :: F) (fun _ h => h) ?_
          refine Wl.q (v := Value.tuple #[Value.pointer (some ⟨k2, 0, none⟩), Value.int .i64 0]) (q_move rfl) ?_
          refine Wl.q (v := Value.pointer (some ⟨k2, 0, none⟩)) (q_extract (i := 0) rfl rfl) ?_
          refine Wl.q (v := Value.int .i64 0) (q_extract (i := 1) rfl rfl) ?_
          refine Wl.q (v := Value.pointer (some ⟨k2, 0, none⟩)) (q_assign rfl) ?_
          refine Wl.q (v := Value.int .i64 0) (q_assign rfl) ?_
          refine Wl.done ?_
          refine Wx.go ?_
          refine Wc.seq ?_
          refine Wc.seq ?_
          refine Wc.region ?_
          refine Wl.q (v := Value.int .i64 0) (q_move rfl) ?_
          refine Wl.q (v := Value.bool false) (q_neq (r := true) rfl rfl (decide_eq_true (by decide))) ?_
          refine Wl.q (v := Value.bool false) (q_move rfl) ?_
          refine Wl.q (v := Value.pointer (some ⟨k2, 0, none⟩)) (q_move rfl) ?_
          refine Wl.q (v := Value.bool false) (q_eql_nil (r := false) rfl rfl Try.underlying38 rfl) ?_
          refine Wl.q (v := Value.bool false) (q_pick (t := false) rfl rfl) ?_
          refine Wl.done ?_
          refine Wx.go ?_
          refine Wc.no rfl ?_
          refine Wc.skip ?_
          refine Wx.go ?_
          refine Wc.seq ?_
          refine Wc.region ?_
          by_cases hhad : derB (build [] l) (KL kn) more = true
          ·
            have hrg := derB_iff.1 hhad
            refine Wl.q (v := Value.pointer (some ⟨k, 0, none⟩)) (q_move hE10_2) ?_
            refine Wl.q (v := Value.int .i64 more) (q_move hE2_2) ?_
            refine Wl.imp (L' := (knowK k s (build [] l) (KL kn)) :: (storeI s (build [] l)) :: (knowK k2 s (build [] l) (KL (now (derB (build [] l) (KL kn)) (build [] l).length))) :: (sl 3 1 v ((now (derB (build [] l) (KL kn)) (build [] l).length).length) ((now (derB (build [] l) (KL kn)) (build [] l).length).map intV)) :: F) (fun _ h => st_pull [3, 1] h) ?_
            refine Wl.e (e_call (F := (knowK k2 s (build [] l) (KL (now (derB (build [] l) (KL kn)) (build [] l).length))) :: (sl 3 1 v ((now (derB (build [] l) (KL kn)) (build [] l).length).length) ((now (derB (build [] l) (KL kn)) (build [] l).length).map intV)) :: F) (args := [Value.pointer (some ⟨k, 0, none⟩), Value.int .i64 more]) Try.call17 rfl (khas_is (b := true) W0 k s (build [] l) (KL kn) more (by omega) hhad)) (fun _ _ => ?_)
            refine Wl.imp (L' := (knowK k s (build [] l) (KL kn)) :: (storeI s (build [] l)) :: (knowK k2 s (build [] l) (KL (now (derB (build [] l) (KL kn)) (build [] l).length))) :: (sl 3 1 v ((now (derB (build [] l) (KL kn)) (build [] l).length).length) ((now (derB (build [] l) (KL kn)) (build [] l).length).map intV)) :: F) (fun _ h => h) ?_
            refine Wl.q (v := Value.bool true) (q_assign rfl) ?_
            refine Wl.done ?_
            refine Wx.go ?_
            refine Wc.seq ?_
            refine Wc.region ?_
            refine Wl.q (v := Value.pointer (some ⟨k, 0, none⟩)) (q_move hE10_2) ?_
            refine Wl.q (v := Value.int .i64 more) (q_move hE2_2) ?_
            refine Wl.e (e_call (F := (knowK k2 s (build [] l) (KL (now (derB (build [] l) (KL kn)) (build [] l).length))) :: (sl 3 1 v ((now (derB (build [] l) (KL kn)) (build [] l).length).length) ((now (derB (build [] l) (KL kn)) (build [] l).length).map intV)) :: F) (args := [Value.pointer (some ⟨k, 0, none⟩), Value.int .i64 more]) Try.call22 rfl (klearn_ok W0 k s (build [] l) (KL kn) more (by omega) (by omega) (by omega))) (fun _ _ => ?_)
            refine Wl.imp (L' := (knowK k s (build [] l) (fun n => (KL kn) n ∨ n = (more).toNat)) :: (storeI s (build [] l)) :: (knowK k2 s (build [] l) (KL (now (derB (build [] l) (KL kn)) (build [] l).length))) :: (sl 3 1 v ((now (derB (build [] l) (KL kn)) (build [] l).length).length) ((now (derB (build [] l) (KL kn)) (build [] l).length).map intV)) :: F) (fun _ h => h) ?_
            refine Wl.done ?_
            refine Wx.go ?_
            refine Wc.seq ?_
            refine Wc.seq ?_
            refine Wc.region ?_
            refine Wl.q (v := Value.int .i64 1) (q_assign rfl) ?_
            refine Wl.done ?_
            refine Wx.go ?_
            refine Wc.block ?_
            refine Wc.loop (X := Nat) (fun i E => E 17 = Value.int .i64 (((i + 1) : Nat) : Int) ∧ E 7 = Value.pointer (some ⟨s, 0, none⟩) ∧ E 10 = Value.pointer (some ⟨k, 0, none⟩) ∧ E 15 = Value.pointer (some ⟨k2, 0, none⟩) ∧ E 16 = Value.bool true ∧ i ≤ (build [] l).length) (fun i => (knowK k s (build [] l) (fun n => (KL kn) n ∨ n = (more).toNat)) :: (knowK k2 s (build [] l) (KL (now (derB (build [] l) (KL kn)) (build [] l).length))) :: (storeI s (build [] l)) :: F) (fun i => (build [] l).length - i) 0 ?_ ?_ ?_
            · exact ⟨rfl, hE7_2, hE10_2, rfl, rfl, (by omega)⟩
            · exact fun w hs => (st_pull [0, 1, 0] (st_drop (st_pull [3] hs)))
            · rintro i E7 ⟨hE17_5, hE7_5, hE10_5, hE15_5, hE16_5, hi⟩
              refine Wc.seq ?_
              refine Wc.seq ?_
              refine Wc.region ?_
              refine Wl.q (v := Value.int .i64 (((i + 1) : Nat) : Int)) (q_move hE17_5) ?_
              refine Wl.q (v := Value.pointer (some ⟨s, 0, none⟩)) (q_move hE7_5) ?_
              refine Wl.imp (L' := (storeI s (build [] l)) :: (knowK k s (build [] l) (fun n => (KL kn) n ∨ n = (more).toNat)) :: (knowK k2 s (build [] l) (KL (now (derB (build [] l) (KL kn)) (build [] l).length))) :: F) (fun _ h => st_pull [2] h) ?_
              refine Wl.e (e_call (F := (knowK k s (build [] l) (fun n => (KL kn) n ∨ n = (more).toNat)) :: (knowK k2 s (build [] l) (KL (now (derB (build [] l) (KL kn)) (build [] l).length))) :: F) (args := [Value.pointer (some ⟨s, 0, none⟩)]) Try.call13 rfl (len_c W0 s (build [] l))) (fun _ _ => ?_)
              refine Wl.imp (L' := (storeI s (build [] l)) :: (knowK k s (build [] l) (fun n => (KL kn) n ∨ n = (more).toNat)) :: (knowK k2 s (build [] l) (KL (now (derB (build [] l) (KL kn)) (build [] l).length))) :: F) (fun _ h => h) ?_
              by_cases hlt3 : (((i + 1) : Nat) : Int) ≤ (((build [] l).length : Nat) : Int)
              ·
                refine Wl.q (v := Value.bool true) (q_leq (r := true) rfl rfl (decide_eq_true hlt3)) ?_
                refine Wl.done ?_
                refine Wx.go ?_
                refine Wc.yes rfl ?_
                refine Wc.skip ?_
                refine Wx.go ?_
                refine Wc.seq ?_
                refine Wc.block ?_
                refine Wc.seq ?_
                refine Wc.region ?_
                by_cases hbn : derB (build [] l) (KL kn) ((i + 1 : Nat) : Int) = true
                ·
                  refine Wl.q (v := Value.pointer (some ⟨k2, 0, none⟩)) (q_move hE15_5) ?_
                  refine Wl.q (v := Value.int .i64 (((i + 1) : Nat) : Int)) (q_move hE17_5) ?_
                  refine Wl.imp (L' := (knowK k2 s (build [] l) (KL (now (derB (build [] l) (KL kn)) (build [] l).length))) :: (storeI s (build [] l)) :: (knowK k s (build [] l) (fun n => (KL kn) n ∨ n = (more).toNat)) :: F) (fun _ h => st_pull [2, 0] h) ?_
                  refine Wl.e (e_call (F := (knowK k s (build [] l) (fun n => (KL kn) n ∨ n = (more).toNat)) :: F) (args := [Value.pointer (some ⟨k2, 0, none⟩), Value.int .i64 (((i + 1) : Nat) : Int)]) Try.call17 rfl (khas_is (b := true) W0 k2 s (build [] l) (KL (now (derB (build [] l) (KL kn)) (build [] l).length)) (((i + 1) : Nat) : Int) (by omega) (by rw [now_same]; exact hbn))) (fun _ _ => ?_)
                  refine Wl.imp (L' := (knowK k2 s (build [] l) (KL (now (derB (build [] l) (KL kn)) (build [] l).length))) :: (storeI s (build [] l)) :: (knowK k s (build [] l) (fun n => (KL kn) n ∨ n = (more).toNat)) :: F) (fun _ h => h) ?_
                  refine Wl.q (v := Value.bool true) (q_move rfl) ?_
                  refine Wl.q (v := Value.pointer (some ⟨k, 0, none⟩)) (q_move hE10_5) ?_
                  refine Wl.q (v := Value.int .i64 (((i + 1) : Nat) : Int)) (q_move hE17_5) ?_
                  refine Wl.imp (L' := (knowK k s (build [] l) (fun n => (KL kn) n ∨ n = (more).toNat)) :: (storeI s (build [] l)) :: (knowK k2 s (build [] l) (KL (now (derB (build [] l) (KL kn)) (build [] l).length))) :: F) (fun _ h => st_pull [2, 1] h) ?_
                  refine Wl.e (e_call (F := (knowK k2 s (build [] l) (KL (now (derB (build [] l) (KL kn)) (build [] l).length))) :: F) (args := [Value.pointer (some ⟨k, 0, none⟩), Value.int .i64 (((i + 1) : Nat) : Int)]) Try.call17 rfl (khas_is (b := true) W0 k s (build [] l) (fun n => (KL kn) n ∨ n = (more).toNat) (((i + 1) : Nat) : Int) (by omega) (learn_more hbn))) (fun _ _ => ?_)
                  refine Wl.imp (L' := (knowK k s (build [] l) (fun n => (KL kn) n ∨ n = (more).toNat)) :: (storeI s (build [] l)) :: (knowK k2 s (build [] l) (KL (now (derB (build [] l) (KL kn)) (build [] l).length))) :: F) (fun _ h => h) ?_
                  refine Wl.q (v := Value.bool false) (q_not rfl rfl) ?_
                  refine Wl.q (v := Value.bool false) (q_pick (t := true) rfl rfl) ?_
                  refine Wl.q (v := Value.bool false) (q_move rfl) ?_
                  refine Wl.q (v := Value.bool true) (q_move hE16_5) ?_
                  refine Wl.q (v := Value.bool true) (q_move rfl) ?_
                  refine Wl.q (v := Value.pointer (some ⟨k, 0, none⟩)) (q_move hE10_5) ?_
                  refine Wl.q (v := Value.int .i64 (((i + 1) : Nat) : Int)) (q_move hE17_5) ?_
                  refine Wl.e (e_call (F := (knowK k2 s (build [] l) (KL (now (derB (build [] l) (KL kn)) (build [] l).length))) :: F) (args := [Value.pointer (some ⟨k, 0, none⟩), Value.int .i64 (((i + 1) : Nat) : Int)]) Try.call17 rfl (khas_is (b := true) W0 k s (build [] l) (fun n => (KL kn) n ∨ n = (more).toNat) (((i + 1) : Nat) : Int) (by omega) (learn_more hbn))) (fun _ _ => ?_)
                  refine Wl.imp (L' := (knowK k s (build [] l) (fun n => (KL kn) n ∨ n = (more).toNat)) :: (storeI s (build [] l)) :: (knowK k2 s (build [] l) (KL (now (derB (build [] l) (KL kn)) (build [] l).length))) :: F) (fun _ h => h) ?_
                  refine Wl.q (v := Value.pointer (some ⟨k2, 0, none⟩)) (q_move hE15_5) ?_
                  refine Wl.q (v := Value.int .i64 (((i + 1) : Nat) : Int)) (q_move hE17_5) ?_
                  refine Wl.imp (L' := (knowK k2 s (build [] l) (KL (now (derB (build [] l) (KL kn)) (build [] l).length))) :: (storeI s (build [] l)) :: (knowK k s (build [] l) (fun n => (KL kn) n ∨ n = (more).toNat)) :: F) (fun _ h => st_pull [2, 1] h) ?_
                  refine Wl.e (e_call (F := (knowK k s (build [] l) (fun n => (KL kn) n ∨ n = (more).toNat)) :: F) (args := [Value.pointer (some ⟨k2, 0, none⟩), Value.int .i64 (((i + 1) : Nat) : Int)]) Try.call17 rfl (khas_is (b := true) W0 k2 s (build [] l) (KL (now (derB (build [] l) (KL kn)) (build [] l).length)) (((i + 1) : Nat) : Int) (by omega) (by rw [now_same]; exact hbn))) (fun _ _ => ?_)
                  refine Wl.imp (L' := (knowK k2 s (build [] l) (KL (now (derB (build [] l) (KL kn)) (build [] l).length))) :: (storeI s (build [] l)) :: (knowK k s (build [] l) (fun n => (KL kn) n ∨ n = (more).toNat)) :: F) (fun _ h => h) ?_
                  refine Wl.q (v := Value.bool false) (q_neq_bool (r := true) rfl rfl Try.underlying4 rfl) ?_
                  refine Wl.q (v := Value.bool false) (q_pick (t := true) rfl rfl) ?_
                  refine Wl.q (v := Value.bool false) (q_pick (t := false) rfl rfl) ?_
                  refine Wl.done ?_
                  refine Wx.go ?_
                  refine Wc.no rfl ?_
                  refine Wc.skip ?_
                  refine Wx.blockEnd ?_
                  refine Wx.go ?_
                  refine Wc.region ?_
                  refine Wl.q (v := Value.int .i64 (((i + 1) : Nat) : Int)) (q_move hE17_5) ?_
                  refine Wl.q (v := Value.int .i64 (((i + 1) + 1 : Nat) : Int)) (q_add (c := (((i + 1) + 1 : Nat) : Int)) rfl rfl (by rw [wrap_i64] <;> omega)) ?_
                  refine Wl.q (v := Value.int .i64 (((i + 1) + 1 : Nat) : Int)) (q_assign rfl) ?_
                  refine Wl.done ?_
                  refine Wx.at (i + 1) ⟨(by omega), rfl, hE7_5, hE10_5, hE15_5, hE16_5, (by omega)⟩ (fun w hs => (st_pull [2, 0, 0] (hs)))
                ·
                  refine Wl.q (v := Value.pointer (some ⟨k2, 0, none⟩)) (q_move hE15_5) ?_
                  refine Wl.q (v := Value.int .i64 (((i + 1) : Nat) : Int)) (q_move hE17_5) ?_
                  refine Wl.imp (L' := (knowK k2 s (build [] l) (KL (now (derB (build [] l) (KL kn)) (build [] l).length))) :: (storeI s (build [] l)) :: (knowK k s (build [] l) (fun n => (KL kn) n ∨ n = (more).toNat)) :: F) (fun _ h => st_pull [2, 0] h) ?_
                  refine Wl.e (e_call (F := (knowK k s (build [] l) (fun n => (KL kn) n ∨ n = (more).toNat)) :: F) (args := [Value.pointer (some ⟨k2, 0, none⟩), Value.int .i64 (((i + 1) : Nat) : Int)]) Try.call17 rfl (khas_is (b := false) W0 k2 s (build [] l) (KL (now (derB (build [] l) (KL kn)) (build [] l).length)) (((i + 1) : Nat) : Int) (by omega) (by rw [now_same]; exact Bool.eq_false_iff.2 hbn))) (fun _ _ => ?_)
                  refine Wl.imp (L' := (knowK k2 s (build [] l) (KL (now (derB (build [] l) (KL kn)) (build [] l).length))) :: (storeI s (build [] l)) :: (knowK k s (build [] l) (fun n => (KL kn) n ∨ n = (more).toNat)) :: F) (fun _ h => h) ?_
                  refine Wl.q (v := Value.bool false) (q_move rfl) ?_
                  refine Wl.no ?_
                  refine Wl.no ?_
                  refine Wl.no ?_
                  refine Wl.no ?_
                  refine Wl.q (v := Value.bool false) (q_pick (t := false) rfl rfl) ?_
                  refine Wl.q (v := Value.bool false) (q_move rfl) ?_
                  refine Wl.q (v := Value.bool true) (q_move hE16_5) ?_
                  refine Wl.q (v := Value.bool true) (q_move rfl) ?_
                  refine Wl.q (v := Value.pointer (some ⟨k, 0, none⟩)) (q_move hE10_5) ?_
                  refine Wl.q (v := Value.int .i64 (((i + 1) : Nat) : Int)) (q_move hE17_5) ?_
                  refine Wl.imp (L' := (knowK k s (build [] l) (fun n => (KL kn) n ∨ n = (more).toNat)) :: (storeI s (build [] l)) :: (knowK k2 s (build [] l) (KL (now (derB (build [] l) (KL kn)) (build [] l).length))) :: F) (fun _ h => st_pull [2, 1] h) ?_
                  refine Wl.e (e_call (F := (knowK k2 s (build [] l) (KL (now (derB (build [] l) (KL kn)) (build [] l).length))) :: F) (args := [Value.pointer (some ⟨k, 0, none⟩), Value.int .i64 (((i + 1) : Nat) : Int)]) Try.call17 rfl (khas_is (b := false) W0 k s (build [] l) (fun n => (KL kn) n ∨ n = (more).toNat) (((i + 1) : Nat) : Int) (by omega) (by rw [learn_had hhad]; exact Bool.eq_false_iff.2 hbn))) (fun _ _ => ?_)
                  refine Wl.imp (L' := (knowK k s (build [] l) (fun n => (KL kn) n ∨ n = (more).toNat)) :: (storeI s (build [] l)) :: (knowK k2 s (build [] l) (KL (now (derB (build [] l) (KL kn)) (build [] l).length))) :: F) (fun _ h => h) ?_
                  refine Wl.q (v := Value.pointer (some ⟨k2, 0, none⟩)) (q_move hE15_5) ?_
                  refine Wl.q (v := Value.int .i64 (((i + 1) : Nat) : Int)) (q_move hE17_5) ?_
                  refine Wl.imp (L' := (knowK k2 s (build [] l) (KL (now (derB (build [] l) (KL kn)) (build [] l).length))) :: (storeI s (build [] l)) :: (knowK k s (build [] l) (fun n => (KL kn) n ∨ n = (more).toNat)) :: F) (fun _ h => st_pull [2, 1] h) ?_
                  refine Wl.e (e_call (F := (knowK k s (build [] l) (fun n => (KL kn) n ∨ n = (more).toNat)) :: F) (args := [Value.pointer (some ⟨k2, 0, none⟩), Value.int .i64 (((i + 1) : Nat) : Int)]) Try.call17 rfl (khas_is (b := false) W0 k2 s (build [] l) (KL (now (derB (build [] l) (KL kn)) (build [] l).length)) (((i + 1) : Nat) : Int) (by omega) (by rw [now_same]; exact Bool.eq_false_iff.2 hbn))) (fun _ _ => ?_)
                  refine Wl.imp (L' := (knowK k2 s (build [] l) (KL (now (derB (build [] l) (KL kn)) (build [] l).length))) :: (storeI s (build [] l)) :: (knowK k s (build [] l) (fun n => (KL kn) n ∨ n = (more).toNat)) :: F) (fun _ h => h) ?_
                  refine Wl.q (v := Value.bool false) (q_neq_bool (r := true) rfl rfl Try.underlying4 rfl) ?_
                  refine Wl.q (v := Value.bool false) (q_pick (t := true) rfl rfl) ?_
                  refine Wl.q (v := Value.bool false) (q_pick (t := false) rfl rfl) ?_
                  refine Wl.done ?_
                  refine Wx.go ?_
                  refine Wc.no rfl ?_
                  refine Wc.skip ?_
                  refine Wx.blockEnd ?_
                  refine Wx.go ?_
                  refine Wc.region ?_
                  refine Wl.q (v := Value.int .i64 (((i + 1) : Nat) : Int)) (q_move hE17_5) ?_
                  refine Wl.q (v := Value.int .i64 (((i + 1) + 1 : Nat) : Int)) (q_add (c := (((i + 1) + 1 : Nat) : Int)) rfl rfl (by rw [wrap_i64] <;> omega)) ?_
                  refine Wl.q (v := Value.int .i64 (((i + 1) + 1 : Nat) : Int)) (q_assign rfl) ?_
                  refine Wl.done ?_
                  refine Wx.at (i + 1) ⟨(by omega), rfl, hE7_5, hE10_5, hE15_5, hE16_5, (by omega)⟩ (fun w hs => (st_pull [2, 0, 0] (hs)))
              ·
                refine Wl.q (v := Value.bool false) (q_leq (r := false) rfl rfl (decide_eq_false hlt3)) ?_
                refine Wl.done ?_
                refine Wx.go ?_
                refine Wc.no rfl ?_
                refine Wc.exit ?_
                refine Wx.thenExit ?_
                refine Wx.thenExit ?_
                refine Wx.out ?_
                refine Wx.go ?_
                refine Wc.seq ?_
                refine Wc.region ?_
                refine Wl.e (e_call (F := (storeI s (build [] l)) :: (knowK k s (build [] l) (fun n => (KL kn) n ∨ n = (more).toNat)) :: (knowK k2 s (build [] l) (KL (now (derB (build [] l) (KL kn)) (build [] l).length))) :: F) (args := []) Try.call12 rfl (lives_c W0)) (fun _ _ => ?_)
                refine Wl.imp (L' := (storeI s (build [] l)) :: (knowK k s (build [] l) (fun n => (KL kn) n ∨ n = (more).toNat)) :: (knowK k2 s (build [] l) (KL (now (derB (build [] l) (KL kn)) (build [] l).length))) :: F) (fun _ h => h) ?_
                refine Wl.q (v := Value.bool true) (q_assign rfl) ?_
                refine Wl.done ?_
                refine Wx.go ?_
                refine Wc.ret ?_
                refine Wx.fin1 rfl (.inl rfl) (fun w hs => ?_)
                exact ⟨(), trivial, rfl, (st_drop (st_drop (st_drop (st_pull [0, 0, 0] hs))))⟩
          ·
            by_cases hrg : 1 ≤ more ∧ more ≤ ((build [] l).length : Int)
            ·
              refine Wl.q (v := Value.pointer (some ⟨k, 0, none⟩)) (q_move hE10_2) ?_
              refine Wl.q (v := Value.int .i64 more) (q_move hE2_2) ?_
              refine Wl.imp (L' := (knowK k s (build [] l) (KL kn)) :: (storeI s (build [] l)) :: (knowK k2 s (build [] l) (KL (now (derB (build [] l) (KL kn)) (build [] l).length))) :: (sl 3 1 v ((now (derB (build [] l) (KL kn)) (build [] l).length).length) ((now (derB (build [] l) (KL kn)) (build [] l).length).map intV)) :: F) (fun _ h => st_pull [3, 1] h) ?_
              refine Wl.e (e_call (F := (knowK k2 s (build [] l) (KL (now (derB (build [] l) (KL kn)) (build [] l).length))) :: (sl 3 1 v ((now (derB (build [] l) (KL kn)) (build [] l).length).length) ((now (derB (build [] l) (KL kn)) (build [] l).length).map intV)) :: F) (args := [Value.pointer (some ⟨k, 0, none⟩), Value.int .i64 more]) Try.call17 rfl (khas_is (b := false) W0 k s (build [] l) (KL kn) more (by omega) (Bool.eq_false_iff.2 hhad))) (fun _ _ => ?_)
              refine Wl.imp (L' := (knowK k s (build [] l) (KL kn)) :: (storeI s (build [] l)) :: (knowK k2 s (build [] l) (KL (now (derB (build [] l) (KL kn)) (build [] l).length))) :: (sl 3 1 v ((now (derB (build [] l) (KL kn)) (build [] l).length).length) ((now (derB (build [] l) (KL kn)) (build [] l).length).map intV)) :: F) (fun _ h => h) ?_
              refine Wl.q (v := Value.bool false) (q_assign rfl) ?_
              refine Wl.done ?_
              refine Wx.go ?_
              refine Wc.seq ?_
              refine Wc.region ?_
              refine Wl.q (v := Value.pointer (some ⟨k, 0, none⟩)) (q_move hE10_2) ?_
              refine Wl.q (v := Value.int .i64 more) (q_move hE2_2) ?_
              refine Wl.e (e_call (F := (knowK k2 s (build [] l) (KL (now (derB (build [] l) (KL kn)) (build [] l).length))) :: (sl 3 1 v ((now (derB (build [] l) (KL kn)) (build [] l).length).length) ((now (derB (build [] l) (KL kn)) (build [] l).length).map intV)) :: F) (args := [Value.pointer (some ⟨k, 0, none⟩), Value.int .i64 more]) Try.call22 rfl (klearn_ok W0 k s (build [] l) (KL kn) more (by omega) (by omega) (by omega))) (fun _ _ => ?_)
              refine Wl.imp (L' := (knowK k s (build [] l) (fun n => (KL kn) n ∨ n = (more).toNat)) :: (storeI s (build [] l)) :: (knowK k2 s (build [] l) (KL (now (derB (build [] l) (KL kn)) (build [] l).length))) :: (sl 3 1 v ((now (derB (build [] l) (KL kn)) (build [] l).length).length) ((now (derB (build [] l) (KL kn)) (build [] l).length).map intV)) :: F) (fun _ h => h) ?_
              refine Wl.done ?_
              refine Wx.go ?_
              refine Wc.seq ?_
              refine Wc.seq ?_
              refine Wc.region ?_
              refine Wl.q (v := Value.int .i64 1) (q_assign rfl) ?_
              refine Wl.done ?_
              refine Wx.go ?_
              refine Wc.block ?_
              refine Wc.loop (X := Nat) (fun i E => E 17 = Value.int .i64 (((i + 1) : Nat) : Int) ∧ E 7 = Value.pointer (some ⟨s, 0, none⟩) ∧ E 10 = Value.pointer (some ⟨k, 0, none⟩) ∧ E 15 = Value.pointer (some ⟨k2, 0, none⟩) ∧ E 16 = Value.bool false ∧ i ≤ (build [] l).length) (fun i => (knowK k s (build [] l) (fun n => (KL kn) n ∨ n = (more).toNat)) :: (knowK k2 s (build [] l) (KL (now (derB (build [] l) (KL kn)) (build [] l).length))) :: (storeI s (build [] l)) :: F) (fun i => (build [] l).length - i) 0 ?_ ?_ ?_
              · exact ⟨rfl, hE7_2, hE10_2, rfl, rfl, (by omega)⟩
              · exact fun w hs => (st_pull [0, 1, 0] (st_drop (st_pull [3] hs)))
              · rintro i E9 ⟨hE17_7, hE7_7, hE10_7, hE15_7, hE16_7, hi⟩
                refine Wc.seq ?_
                refine Wc.seq ?_
                refine Wc.region ?_
                refine Wl.q (v := Value.int .i64 (((i + 1) : Nat) : Int)) (q_move hE17_7) ?_
                refine Wl.q (v := Value.pointer (some ⟨s, 0, none⟩)) (q_move hE7_7) ?_
                refine Wl.imp (L' := (storeI s (build [] l)) :: (knowK k s (build [] l) (fun n => (KL kn) n ∨ n = (more).toNat)) :: (knowK k2 s (build [] l) (KL (now (derB (build [] l) (KL kn)) (build [] l).length))) :: F) (fun _ h => st_pull [2] h) ?_
                refine Wl.e (e_call (F := (knowK k s (build [] l) (fun n => (KL kn) n ∨ n = (more).toNat)) :: (knowK k2 s (build [] l) (KL (now (derB (build [] l) (KL kn)) (build [] l).length))) :: F) (args := [Value.pointer (some ⟨s, 0, none⟩)]) Try.call13 rfl (len_c W0 s (build [] l))) (fun _ _ => ?_)
                refine Wl.imp (L' := (storeI s (build [] l)) :: (knowK k s (build [] l) (fun n => (KL kn) n ∨ n = (more).toNat)) :: (knowK k2 s (build [] l) (KL (now (derB (build [] l) (KL kn)) (build [] l).length))) :: F) (fun _ h => h) ?_
                by_cases hlt3 : (((i + 1) : Nat) : Int) ≤ (((build [] l).length : Nat) : Int)
                ·
                  refine Wl.q (v := Value.bool true) (q_leq (r := true) rfl rfl (decide_eq_true hlt3)) ?_
                  refine Wl.done ?_
                  refine Wx.go ?_
                  refine Wc.yes rfl ?_
                  refine Wc.skip ?_
                  refine Wx.go ?_
                  refine Wc.seq ?_
                  refine Wc.block ?_
                  refine Wc.seq ?_
                  refine Wc.region ?_
                  by_cases hbn : derB (build [] l) (KL kn) ((i + 1 : Nat) : Int) = true
                  ·
                    refine Wl.q (v := Value.pointer (some ⟨k2, 0, none⟩)) (q_move hE15_7) ?_
                    refine Wl.q (v := Value.int .i64 (((i + 1) : Nat) : Int)) (q_move hE17_7) ?_
                    refine Wl.imp (L' := (knowK k2 s (build [] l) (KL (now (derB (build [] l) (KL kn)) (build [] l).length))) :: (storeI s (build [] l)) :: (knowK k s (build [] l) (fun n => (KL kn) n ∨ n = (more).toNat)) :: F) (fun _ h => st_pull [2, 0] h) ?_
                    refine Wl.e (e_call (F := (knowK k s (build [] l) (fun n => (KL kn) n ∨ n = (more).toNat)) :: F) (args := [Value.pointer (some ⟨k2, 0, none⟩), Value.int .i64 (((i + 1) : Nat) : Int)]) Try.call17 rfl (khas_is (b := true) W0 k2 s (build [] l) (KL (now (derB (build [] l) (KL kn)) (build [] l).length)) (((i + 1) : Nat) : Int) (by omega) (by rw [now_same]; exact hbn))) (fun _ _ => ?_)
                    refine Wl.imp (L' := (knowK k2 s (build [] l) (KL (now (derB (build [] l) (KL kn)) (build [] l).length))) :: (storeI s (build [] l)) :: (knowK k s (build [] l) (fun n => (KL kn) n ∨ n = (more).toNat)) :: F) (fun _ h => h) ?_
                    refine Wl.q (v := Value.bool true) (q_move rfl) ?_
                    refine Wl.q (v := Value.pointer (some ⟨k, 0, none⟩)) (q_move hE10_7) ?_
                    refine Wl.q (v := Value.int .i64 (((i + 1) : Nat) : Int)) (q_move hE17_7) ?_
                    refine Wl.imp (L' := (knowK k s (build [] l) (fun n => (KL kn) n ∨ n = (more).toNat)) :: (storeI s (build [] l)) :: (knowK k2 s (build [] l) (KL (now (derB (build [] l) (KL kn)) (build [] l).length))) :: F) (fun _ h => st_pull [2, 1] h) ?_
                    refine Wl.e (e_call (F := (knowK k2 s (build [] l) (KL (now (derB (build [] l) (KL kn)) (build [] l).length))) :: F) (args := [Value.pointer (some ⟨k, 0, none⟩), Value.int .i64 (((i + 1) : Nat) : Int)]) Try.call17 rfl (khas_is (b := true) W0 k s (build [] l) (fun n => (KL kn) n ∨ n = (more).toNat) (((i + 1) : Nat) : Int) (by omega) (learn_more hbn))) (fun _ _ => ?_)
                    refine Wl.imp (L' := (knowK k s (build [] l) (fun n => (KL kn) n ∨ n = (more).toNat)) :: (storeI s (build [] l)) :: (knowK k2 s (build [] l) (KL (now (derB (build [] l) (KL kn)) (build [] l).length))) :: F) (fun _ h => h) ?_
                    refine Wl.q (v := Value.bool false) (q_not rfl rfl) ?_
                    refine Wl.q (v := Value.bool false) (q_pick (t := true) rfl rfl) ?_
                    refine Wl.q (v := Value.bool false) (q_move rfl) ?_
                    refine Wl.q (v := Value.bool false) (q_move hE16_7) ?_
                    refine Wl.q (v := Value.bool false) (q_move rfl) ?_
                    refine Wl.no ?_
                    refine Wl.no ?_
                    refine Wl.no ?_
                    refine Wl.no ?_
                    refine Wl.no ?_
                    refine Wl.no ?_
                    refine Wl.no ?_
                    refine Wl.q (v := Value.bool false) (q_pick (t := false) rfl rfl) ?_
                    refine Wl.q (v := Value.bool false) (q_pick (t := false) rfl rfl) ?_
                    refine Wl.done ?_
                    refine Wx.go ?_
                    refine Wc.no rfl ?_
                    refine Wc.skip ?_
                    refine Wx.blockEnd ?_
                    refine Wx.go ?_
                    refine Wc.region ?_
                    refine Wl.q (v := Value.int .i64 (((i + 1) : Nat) : Int)) (q_move hE17_7) ?_
                    refine Wl.q (v := Value.int .i64 (((i + 1) + 1 : Nat) : Int)) (q_add (c := (((i + 1) + 1 : Nat) : Int)) rfl rfl (by rw [wrap_i64] <;> omega)) ?_
                    refine Wl.q (v := Value.int .i64 (((i + 1) + 1 : Nat) : Int)) (q_assign rfl) ?_
                    refine Wl.done ?_
                    refine Wx.at (i + 1) ⟨(by omega), rfl, hE7_7, hE10_7, hE15_7, hE16_7, (by omega)⟩ (fun w hs => (st_pull [0, 1, 0] (hs)))
                  ·
                    refine Wl.q (v := Value.pointer (some ⟨k2, 0, none⟩)) (q_move hE15_7) ?_
                    refine Wl.q (v := Value.int .i64 (((i + 1) : Nat) : Int)) (q_move hE17_7) ?_
                    refine Wl.imp (L' := (knowK k2 s (build [] l) (KL (now (derB (build [] l) (KL kn)) (build [] l).length))) :: (storeI s (build [] l)) :: (knowK k s (build [] l) (fun n => (KL kn) n ∨ n = (more).toNat)) :: F) (fun _ h => st_pull [2, 0] h) ?_
                    refine Wl.e (e_call (F := (knowK k s (build [] l) (fun n => (KL kn) n ∨ n = (more).toNat)) :: F) (args := [Value.pointer (some ⟨k2, 0, none⟩), Value.int .i64 (((i + 1) : Nat) : Int)]) Try.call17 rfl (khas_is (b := false) W0 k2 s (build [] l) (KL (now (derB (build [] l) (KL kn)) (build [] l).length)) (((i + 1) : Nat) : Int) (by omega) (by rw [now_same]; exact Bool.eq_false_iff.2 hbn))) (fun _ _ => ?_)
                    refine Wl.imp (L' := (knowK k2 s (build [] l) (KL (now (derB (build [] l) (KL kn)) (build [] l).length))) :: (storeI s (build [] l)) :: (knowK k s (build [] l) (fun n => (KL kn) n ∨ n = (more).toNat)) :: F) (fun _ h => h) ?_
                    refine Wl.q (v := Value.bool false) (q_move rfl) ?_
                    refine Wl.no ?_
                    refine Wl.no ?_
                    refine Wl.no ?_
                    refine Wl.no ?_
                    refine Wl.q (v := Value.bool false) (q_pick (t := false) rfl rfl) ?_
                    refine Wl.q (v := Value.bool false) (q_move rfl) ?_
                    refine Wl.q (v := Value.bool false) (q_move hE16_7) ?_
                    refine Wl.q (v := Value.bool false) (q_move rfl) ?_
                    refine Wl.no ?_
                    refine Wl.no ?_
                    refine Wl.no ?_
                    refine Wl.no ?_
                    refine Wl.no ?_
                    refine Wl.no ?_
                    refine Wl.no ?_
                    refine Wl.q (v := Value.bool false) (q_pick (t := false) rfl rfl) ?_
                    refine Wl.q (v := Value.bool false) (q_pick (t := false) rfl rfl) ?_
                    refine Wl.done ?_
                    refine Wx.go ?_
                    refine Wc.no rfl ?_
                    refine Wc.skip ?_
                    refine Wx.blockEnd ?_
                    refine Wx.go ?_
                    refine Wc.region ?_
                    refine Wl.q (v := Value.int .i64 (((i + 1) : Nat) : Int)) (q_move hE17_7) ?_
                    refine Wl.q (v := Value.int .i64 (((i + 1) + 1 : Nat) : Int)) (q_add (c := (((i + 1) + 1 : Nat) : Int)) rfl rfl (by rw [wrap_i64] <;> omega)) ?_
                    refine Wl.q (v := Value.int .i64 (((i + 1) + 1 : Nat) : Int)) (q_assign rfl) ?_
                    refine Wl.done ?_
                    refine Wx.at (i + 1) ⟨(by omega), rfl, hE7_7, hE10_7, hE15_7, hE16_7, (by omega)⟩ (fun w hs => (st_pull [2, 0, 0] (hs)))
                ·
                  refine Wl.q (v := Value.bool false) (q_leq (r := false) rfl rfl (decide_eq_false hlt3)) ?_
                  refine Wl.done ?_
                  refine Wx.go ?_
                  refine Wc.no rfl ?_
                  refine Wc.exit ?_
                  refine Wx.thenExit ?_
                  refine Wx.thenExit ?_
                  refine Wx.out ?_
                  refine Wx.go ?_
                  refine Wc.seq ?_
                  refine Wc.region ?_
                  refine Wl.e (e_call (F := (storeI s (build [] l)) :: (knowK k s (build [] l) (fun n => (KL kn) n ∨ n = (more).toNat)) :: (knowK k2 s (build [] l) (KL (now (derB (build [] l) (KL kn)) (build [] l).length))) :: F) (args := []) Try.call12 rfl (lives_c W0)) (fun _ _ => ?_)
                  refine Wl.imp (L' := (storeI s (build [] l)) :: (knowK k s (build [] l) (fun n => (KL kn) n ∨ n = (more).toNat)) :: (knowK k2 s (build [] l) (KL (now (derB (build [] l) (KL kn)) (build [] l).length))) :: F) (fun _ h => h) ?_
                  refine Wl.q (v := Value.bool true) (q_assign rfl) ?_
                  refine Wl.done ?_
                  refine Wx.go ?_
                  refine Wc.ret ?_
                  refine Wx.fin1 rfl (.inl rfl) (fun w hs => ?_)
                  exact ⟨(), trivial, rfl, (st_drop (st_drop (st_drop (st_pull [0, 0, 0] hs))))⟩
            ·
              refine Wl.q (v := Value.pointer (some ⟨k, 0, none⟩)) (q_move hE10_2) ?_
              refine Wl.q (v := Value.int .i64 more) (q_move hE2_2) ?_
              refine Wl.imp (L' := (knowK k s (build [] l) (KL kn)) :: (storeI s (build [] l)) :: (knowK k2 s (build [] l) (KL (now (derB (build [] l) (KL kn)) (build [] l).length))) :: (sl 3 1 v ((now (derB (build [] l) (KL kn)) (build [] l).length).length) ((now (derB (build [] l) (KL kn)) (build [] l).length).map intV)) :: F) (fun _ h => st_pull [3, 1] h) ?_
              refine Wl.e (e_call (F := (knowK k2 s (build [] l) (KL (now (derB (build [] l) (KL kn)) (build [] l).length))) :: (sl 3 1 v ((now (derB (build [] l) (KL kn)) (build [] l).length).length) ((now (derB (build [] l) (KL kn)) (build [] l).length).map intV)) :: F) (args := [Value.pointer (some ⟨k, 0, none⟩), Value.int .i64 more]) Try.call17 rfl (khas_is (b := false) W0 k s (build [] l) (KL kn) more (by omega) (Bool.eq_false_iff.2 hhad))) (fun _ _ => ?_)
              refine Wl.imp (L' := (knowK k s (build [] l) (KL kn)) :: (storeI s (build [] l)) :: (knowK k2 s (build [] l) (KL (now (derB (build [] l) (KL kn)) (build [] l).length))) :: (sl 3 1 v ((now (derB (build [] l) (KL kn)) (build [] l).length).length) ((now (derB (build [] l) (KL kn)) (build [] l).length).map intV)) :: F) (fun _ h => h) ?_
              refine Wl.q (v := Value.bool false) (q_assign rfl) ?_
              refine Wl.done ?_
              refine Wx.go ?_
              refine Wc.seq ?_
              refine Wc.region ?_
              refine Wl.q (v := Value.pointer (some ⟨k, 0, none⟩)) (q_move hE10_2) ?_
              refine Wl.q (v := Value.int .i64 more) (q_move hE2_2) ?_
              refine Wl.e (e_call (F := (knowK k2 s (build [] l) (KL (now (derB (build [] l) (KL kn)) (build [] l).length))) :: (sl 3 1 v ((now (derB (build [] l) (KL kn)) (build [] l).length).length) ((now (derB (build [] l) (KL kn)) (build [] l).length).map intV)) :: F) (args := [Value.pointer (some ⟨k, 0, none⟩), Value.int .i64 more]) Try.call22 rfl (klearn_bad W0 k s (build [] l) (KL kn) more (by omega) hrg)) (fun _ _ => ?_)
              refine Wl.imp (L' := (knowK k s (build [] l) (KL kn)) :: (storeI s (build [] l)) :: (knowK k2 s (build [] l) (KL (now (derB (build [] l) (KL kn)) (build [] l).length))) :: (sl 3 1 v ((now (derB (build [] l) (KL kn)) (build [] l).length).length) ((now (derB (build [] l) (KL kn)) (build [] l).length).map intV)) :: F) (fun _ h => h) ?_
              refine Wl.done ?_
              refine Wx.go ?_
              refine Wc.seq ?_
              refine Wc.seq ?_
              refine Wc.region ?_
              refine Wl.q (v := Value.int .i64 1) (q_assign rfl) ?_
              refine Wl.done ?_
              refine Wx.go ?_
              refine Wc.block ?_
              refine Wc.loop (X := Nat) (fun i E => E 17 = Value.int .i64 (((i + 1) : Nat) : Int) ∧ E 7 = Value.pointer (some ⟨s, 0, none⟩) ∧ E 10 = Value.pointer (some ⟨k, 0, none⟩) ∧ E 15 = Value.pointer (some ⟨k2, 0, none⟩) ∧ E 16 = Value.bool false ∧ i ≤ (build [] l).length) (fun i => (knowK k s (build [] l) (KL kn)) :: (knowK k2 s (build [] l) (KL (now (derB (build [] l) (KL kn)) (build [] l).length))) :: (storeI s (build [] l)) :: F) (fun i => (build [] l).length - i) 0 ?_ ?_ ?_
              · exact ⟨rfl, hE7_2, hE10_2, rfl, rfl, (by omega)⟩
              · exact fun w hs => (st_pull [0, 1, 0] (st_drop (st_pull [3] hs)))
              · rintro i E11 ⟨hE17_9, hE7_9, hE10_9, hE15_9, hE16_9, hi⟩
                refine Wc.seq ?_
                refine Wc.seq ?_
                refine Wc.region ?_
                refine Wl.q (v := Value.int .i64 (((i + 1) : Nat) : Int)) (q_move hE17_9) ?_
                refine Wl.q (v := Value.pointer (some ⟨s, 0, none⟩)) (q_move hE7_9) ?_
                refine Wl.imp (L' := (storeI s (build [] l)) :: (knowK k s (build [] l) (KL kn)) :: (knowK k2 s (build [] l) (KL (now (derB (build [] l) (KL kn)) (build [] l).length))) :: F) (fun _ h => st_pull [2] h) ?_
                refine Wl.e (e_call (F := (knowK k s (build [] l) (KL kn)) :: (knowK k2 s (build [] l) (KL (now (derB (build [] l) (KL kn)) (build [] l).length))) :: F) (args := [Value.pointer (some ⟨s, 0, none⟩)]) Try.call13 rfl (len_c W0 s (build [] l))) (fun _ _ => ?_)
                refine Wl.imp (L' := (storeI s (build [] l)) :: (knowK k s (build [] l) (KL kn)) :: (knowK k2 s (build [] l) (KL (now (derB (build [] l) (KL kn)) (build [] l).length))) :: F) (fun _ h => h) ?_
                by_cases hlt3 : (((i + 1) : Nat) : Int) ≤ (((build [] l).length : Nat) : Int)
                ·
                  refine Wl.q (v := Value.bool true) (q_leq (r := true) rfl rfl (decide_eq_true hlt3)) ?_
                  refine Wl.done ?_
                  refine Wx.go ?_
                  refine Wc.yes rfl ?_
                  refine Wc.skip ?_
                  refine Wx.go ?_
                  refine Wc.seq ?_
                  refine Wc.block ?_
                  refine Wc.seq ?_
                  refine Wc.region ?_
                  by_cases hbn : derB (build [] l) (KL kn) ((i + 1 : Nat) : Int) = true
                  ·
                    refine Wl.q (v := Value.pointer (some ⟨k2, 0, none⟩)) (q_move hE15_9) ?_
                    refine Wl.q (v := Value.int .i64 (((i + 1) : Nat) : Int)) (q_move hE17_9) ?_
                    refine Wl.imp (L' := (knowK k2 s (build [] l) (KL (now (derB (build [] l) (KL kn)) (build [] l).length))) :: (storeI s (build [] l)) :: (knowK k s (build [] l) (KL kn)) :: F) (fun _ h => st_pull [2, 0] h) ?_
                    refine Wl.e (e_call (F := (knowK k s (build [] l) (KL kn)) :: F) (args := [Value.pointer (some ⟨k2, 0, none⟩), Value.int .i64 (((i + 1) : Nat) : Int)]) Try.call17 rfl (khas_is (b := true) W0 k2 s (build [] l) (KL (now (derB (build [] l) (KL kn)) (build [] l).length)) (((i + 1) : Nat) : Int) (by omega) (by rw [now_same]; exact hbn))) (fun _ _ => ?_)
                    refine Wl.imp (L' := (knowK k2 s (build [] l) (KL (now (derB (build [] l) (KL kn)) (build [] l).length))) :: (storeI s (build [] l)) :: (knowK k s (build [] l) (KL kn)) :: F) (fun _ h => h) ?_
                    refine Wl.q (v := Value.bool true) (q_move rfl) ?_
                    refine Wl.q (v := Value.pointer (some ⟨k, 0, none⟩)) (q_move hE10_9) ?_
                    refine Wl.q (v := Value.int .i64 (((i + 1) : Nat) : Int)) (q_move hE17_9) ?_
                    refine Wl.imp (L' := (knowK k s (build [] l) (KL kn)) :: (storeI s (build [] l)) :: (knowK k2 s (build [] l) (KL (now (derB (build [] l) (KL kn)) (build [] l).length))) :: F) (fun _ h => st_pull [2, 1] h) ?_
                    refine Wl.e (e_call (F := (knowK k2 s (build [] l) (KL (now (derB (build [] l) (KL kn)) (build [] l).length))) :: F) (args := [Value.pointer (some ⟨k, 0, none⟩), Value.int .i64 (((i + 1) : Nat) : Int)]) Try.call17 rfl (khas_is (b := true) W0 k s (build [] l) (KL kn) (((i + 1) : Nat) : Int) (by omega) hbn)) (fun _ _ => ?_)
                    refine Wl.imp (L' := (knowK k s (build [] l) (KL kn)) :: (storeI s (build [] l)) :: (knowK k2 s (build [] l) (KL (now (derB (build [] l) (KL kn)) (build [] l).length))) :: F) (fun _ h => h) ?_
                    refine Wl.q (v := Value.bool false) (q_not rfl rfl) ?_
                    refine Wl.q (v := Value.bool false) (q_pick (t := true) rfl rfl) ?_
                    refine Wl.q (v := Value.bool false) (q_move rfl) ?_
                    refine Wl.q (v := Value.bool false) (q_move hE16_9) ?_
                    refine Wl.q (v := Value.bool false) (q_move rfl) ?_
                    refine Wl.no ?_
                    refine Wl.no ?_
                    refine Wl.no ?_
                    refine Wl.no ?_
                    refine Wl.no ?_
                    refine Wl.no ?_
                    refine Wl.no ?_
                    refine Wl.q (v := Value.bool false) (q_pick (t := false) rfl rfl) ?_
                    refine Wl.q (v := Value.bool false) (q_pick (t := false) rfl rfl) ?_
                    refine Wl.done ?_
                    refine Wx.go ?_
                    refine Wc.no rfl ?_
                    refine Wc.skip ?_
                    refine Wx.blockEnd ?_
                    refine Wx.go ?_
                    refine Wc.region ?_
                    refine Wl.q (v := Value.int .i64 (((i + 1) : Nat) : Int)) (q_move hE17_9) ?_
                    refine Wl.q (v := Value.int .i64 (((i + 1) + 1 : Nat) : Int)) (q_add (c := (((i + 1) + 1 : Nat) : Int)) rfl rfl (by rw [wrap_i64] <;> omega)) ?_
                    refine Wl.q (v := Value.int .i64 (((i + 1) + 1 : Nat) : Int)) (q_assign rfl) ?_
                    refine Wl.done ?_
                    refine Wx.at (i + 1) ⟨(by omega), rfl, hE7_9, hE10_9, hE15_9, hE16_9, (by omega)⟩ (fun w hs => (st_pull [0, 1, 0] (hs)))
                  ·
                    refine Wl.q (v := Value.pointer (some ⟨k2, 0, none⟩)) (q_move hE15_9) ?_
                    refine Wl.q (v := Value.int .i64 (((i + 1) : Nat) : Int)) (q_move hE17_9) ?_
                    refine Wl.imp (L' := (knowK k2 s (build [] l) (KL (now (derB (build [] l) (KL kn)) (build [] l).length))) :: (storeI s (build [] l)) :: (knowK k s (build [] l) (KL kn)) :: F) (fun _ h => st_pull [2, 0] h) ?_
                    refine Wl.e (e_call (F := (knowK k s (build [] l) (KL kn)) :: F) (args := [Value.pointer (some ⟨k2, 0, none⟩), Value.int .i64 (((i + 1) : Nat) : Int)]) Try.call17 rfl (khas_is (b := false) W0 k2 s (build [] l) (KL (now (derB (build [] l) (KL kn)) (build [] l).length)) (((i + 1) : Nat) : Int) (by omega) (by rw [now_same]; exact Bool.eq_false_iff.2 hbn))) (fun _ _ => ?_)
                    refine Wl.imp (L' := (knowK k2 s (build [] l) (KL (now (derB (build [] l) (KL kn)) (build [] l).length))) :: (storeI s (build [] l)) :: (knowK k s (build [] l) (KL kn)) :: F) (fun _ h => h) ?_
                    refine Wl.q (v := Value.bool false) (q_move rfl) ?_
                    refine Wl.no ?_
                    refine Wl.no ?_
                    refine Wl.no ?_
                    refine Wl.no ?_
                    refine Wl.q (v := Value.bool false) (q_pick (t := false) rfl rfl) ?_
                    refine Wl.q (v := Value.bool false) (q_move rfl) ?_
                    refine Wl.q (v := Value.bool false) (q_move hE16_9) ?_
                    refine Wl.q (v := Value.bool false) (q_move rfl) ?_
                    refine Wl.no ?_
                    refine Wl.no ?_
                    refine Wl.no ?_
                    refine Wl.no ?_
                    refine Wl.no ?_
                    refine Wl.no ?_
                    refine Wl.no ?_
                    refine Wl.q (v := Value.bool false) (q_pick (t := false) rfl rfl) ?_
                    refine Wl.q (v := Value.bool false) (q_pick (t := false) rfl rfl) ?_
                    refine Wl.done ?_
                    refine Wx.go ?_
                    refine Wc.no rfl ?_
                    refine Wc.skip ?_
                    refine Wx.blockEnd ?_
                    refine Wx.go ?_
                    refine Wc.region ?_
                    refine Wl.q (v := Value.int .i64 (((i + 1) : Nat) : Int)) (q_move hE17_9) ?_
                    refine Wl.q (v := Value.int .i64 (((i + 1) + 1 : Nat) : Int)) (q_add (c := (((i + 1) + 1 : Nat) : Int)) rfl rfl (by rw [wrap_i64] <;> omega)) ?_
                    refine Wl.q (v := Value.int .i64 (((i + 1) + 1 : Nat) : Int)) (q_assign rfl) ?_
                    refine Wl.done ?_
                    refine Wx.at (i + 1) ⟨(by omega), rfl, hE7_9, hE10_9, hE15_9, hE16_9, (by omega)⟩ (fun w hs => (st_pull [2, 0, 0] (hs)))
                ·
                  refine Wl.q (v := Value.bool false) (q_leq (r := false) rfl rfl (decide_eq_false hlt3)) ?_
                  refine Wl.done ?_
                  refine Wx.go ?_
                  refine Wc.no rfl ?_
                  refine Wc.exit ?_
                  refine Wx.thenExit ?_
                  refine Wx.thenExit ?_
                  refine Wx.out ?_
                  refine Wx.go ?_
                  refine Wc.seq ?_
                  refine Wc.region ?_
                  refine Wl.e (e_call (F := (storeI s (build [] l)) :: (knowK k s (build [] l) (KL kn)) :: (knowK k2 s (build [] l) (KL (now (derB (build [] l) (KL kn)) (build [] l).length))) :: F) (args := []) Try.call12 rfl (lives_c W0)) (fun _ _ => ?_)
                  refine Wl.imp (L' := (storeI s (build [] l)) :: (knowK k s (build [] l) (KL kn)) :: (knowK k2 s (build [] l) (KL (now (derB (build [] l) (KL kn)) (build [] l).length))) :: F) (fun _ h => h) ?_
                  refine Wl.q (v := Value.bool true) (q_assign rfl) ?_
                  refine Wl.done ?_
                  refine Wx.go ?_
                  refine Wc.ret ?_
                  refine Wx.fin1 rfl (.inl rfl) (fun w hs => ?_)
                  exact ⟨(), trivial, rfl, (st_drop (st_drop (st_drop (st_pull [0, 0, 0] hs))))⟩

theorem grows_law (W0 : World) (vl : Value) (l : List TermR) (hl : Rd W0 vl l.length (l.flatMap termCells)) (hlm : l.length ≤ 9223372036854775807) (hlo : ∀ x ∈ l, okT x) (vk : Value) (kn : List Int) (hk : Rd W0 vk kn.length (kn.flatMap int1)) (hkm : kn.length ≤ 9223372036854775807) (more : Int)  : Con Try.prog W0 8 #[vl, vk, Value.int .i64 more] [] (X := Unit) (fun _ => True) (fun _ => .bool true) (fun _ => []) := by
  by_cases hbig : 600 < l.length ∨ 1000 < kn.length
  · exact grows_big W0 vl l hl hlm hlo vk kn hk hkm more hbig
  rcases all_or_bad kn ((build [] l).length : Int) with hall | hbad
  · exact grows_ok W0 vl l hl hlm hlo vk kn hk hkm more (by omega) (by omega) hall
  · exact grows_bad W0 vl l hl hlm hlo vk kn hk hkm more (by omega) (by omega) hbad

end Go.Proofs.Ytmghnmfhniohkaa
