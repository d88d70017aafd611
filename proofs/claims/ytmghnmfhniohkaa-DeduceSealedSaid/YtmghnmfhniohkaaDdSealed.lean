/- What follows: contracts of the calls. -/
import Derived.Test.YtmghnmfhniohkaaDdN
import Derived.Test.YtmghnmfhniohkaaDdP
import Derived.Test.YtmghnmfhniohkaaSLA
namespace Go.Proofs.Ytmghnmfhniohkaa
open Go Go.SL Go.Dd Go.RowKit
set_option linter.unusedVariables false

theorem sealed_big_t (W0 : World) (vl : Value) (l : List TermR) (hl : Rd W0 vl l.length (l.flatMap termCells)) (hlm : l.length ≤ 9223372036854775807) (hlo : ∀ x ∈ l, okT x) (vk : Value) (kn : List Int) (hk : Rd W0 vk kn.length (kn.flatMap int1)) (hkm : kn.length ≤ 9223372036854775807) (what : Int) (hbig : 300 < l.length ∨ 500 < kn.length) :
    Con Try.prog W0 5 #[vl, vk, Value.int .i64 what, Value.bool true] [] (X := Unit) (fun _ => True) (fun _ => .bool true) (fun _ => []) := by
  refine Con.of (args := [vl, vk, Value.int .i64 what, Value.bool true]) Try.func5 rfl Try.ntmps5 rfl (fun F => ?_)
  show Wc _ W0 _ _ _ _ _ (F)
  refine Wc.seq ?_
  refine Wc.region ?_
  refine Wl.q (v := Value.bool false) (q_assign rfl) ?_
  refine Wl.done ?_
  refine Wx.go ?_
  refine Wc.seq ?_
  refine Wc.seq ?_
  refine Wc.region ?_
  refine Wl.q (v := vl) (q_move rfl) ?_
  refine Wl.q (v := Value.int .i64 ((l.length : Nat) : Int)) (q_len_is Try.underlying22 rfl hl.shape) ?_
  by_cases hb1 : ((l.length : Nat) : Int) > 300
  ·
    refine Wl.q (v := Value.bool true) (q_gtr (r := true) rfl rfl (decide_eq_true hb1)) ?_
    refine Wl.q (v := Value.bool true) (q_move rfl) ?_
    refine Wl.no ?_
    refine Wl.no ?_
    refine Wl.no ?_
    refine Wl.q (v := Value.bool true) (q_pick (t := true) rfl rfl) ?_
    refine Wl.done ?_
    refine Wx.go ?_
    refine Wc.yes rfl ?_
    refine Wc.seq ?_
    refine Wc.region ?_
    refine Wl.q (v := Value.bool true) (q_assign rfl) ?_
    refine Wl.done ?_
    refine Wx.go ?_
    refine Wc.ret ?_
    refine Wx.thenRet ?_
    refine Wx.fin1 rfl (.inl rfl) (fun w hs => ?_)
    exact ⟨(), trivial, rfl, hs⟩
  ·
    refine Wl.q (v := Value.bool false) (q_gtr (r := false) rfl rfl (decide_eq_false hb1)) ?_
    refine Wl.q (v := Value.bool false) (q_move rfl) ?_
    refine Wl.q (v := vk) (q_move rfl) ?_
    refine Wl.q (v := Value.int .i64 ((kn.length : Nat) : Int)) (q_len_is Try.underlying23 rfl hk.shape) ?_
    by_cases hb2 : ((kn.length : Nat) : Int) > 500
    ·
      refine Wl.q (v := Value.bool true) (q_gtr (r := true) rfl rfl (decide_eq_true hb2)) ?_
      refine Wl.q (v := Value.bool true) (q_pick (t := false) rfl rfl) ?_
      refine Wl.done ?_
      refine Wx.go ?_
      refine Wc.yes rfl ?_
      refine Wc.seq ?_
      refine Wc.region ?_
      refine Wl.q (v := Value.bool true) (q_assign rfl) ?_
      refine Wl.done ?_
      refine Wx.go ?_
      refine Wc.ret ?_
      refine Wx.thenRet ?_
      refine Wx.fin1 rfl (.inl rfl) (fun w hs => ?_)
      exact ⟨(), trivial, rfl, hs⟩
    ·
      exfalso; omega

theorem sealed_what_t (W0 : World) (vl : Value) (l : List TermR) (hl : Rd W0 vl l.length (l.flatMap termCells)) (hlm : l.length ≤ 9223372036854775807) (hlo : ∀ x ∈ l, okT x) (vk : Value) (kn : List Int) (hk : Rd W0 vk kn.length (kn.flatMap int1)) (hkm : kn.length ≤ 9223372036854775807) (what : Int) (hs1 : l.length ≤ 300) (hs2 : kn.length ≤ 500) (hwh : ¬ (1 ≤ what ∧ what ≤ ((build [] l).length : Int))) :
    Con Try.prog W0 5 #[vl, vk, Value.int .i64 what, Value.bool true] [] (X := Unit) (fun _ => True) (fun _ => .bool true) (fun _ => []) := by
  refine Con.of (args := [vl, vk, Value.int .i64 what, Value.bool true]) Try.func5 rfl Try.ntmps5 rfl (fun F => ?_)
  show Wc _ W0 _ _ _ _ _ (F)
  refine Wc.seq ?_
  refine Wc.region ?_
  refine Wl.q (v := Value.bool false) (q_assign rfl) ?_
  refine Wl.done ?_
  refine Wx.go ?_
  refine Wc.seq ?_
  refine Wc.seq ?_
  refine Wc.region ?_
  refine Wl.q (v := vl) (q_move rfl) ?_
  refine Wl.q (v := Value.int .i64 ((l.length : Nat) : Int)) (q_len_is Try.underlying22 rfl hl.shape) ?_
  refine Wl.q (v := Value.bool false) (q_gtr (r := false) rfl rfl (decide_eq_false (by omega))) ?_
  refine Wl.q (v := Value.bool false) (q_move rfl) ?_
  refine Wl.q (v := vk) (q_move rfl) ?_
  refine Wl.q (v := Value.int .i64 ((kn.length : Nat) : Int)) (q_len_is Try.underlying23 rfl hk.shape) ?_
  refine Wl.q (v := Value.bool false) (q_gtr (r := false) rfl rfl (decide_eq_false (by omega))) ?_
  refine Wl.q (v := Value.bool false) (q_pick (t := false) rfl rfl) ?_
  refine Wl.done ?_
  refine Wx.go ?_
  refine Wc.no rfl ?_
  refine Wc.skip ?_
  refine Wx.go ?_
  refine Wc.seq ?_
  refine Wc.region ?_
  refine Wl.q (v := vl) (q_move rfl) ?_
  refine Wl.e (e_call (F := F) (args := [vl]) Try.call9 rfl (build_c W0 vl l hl (by omega) hlo)) (fun ⟨s, r⟩ _ => ?_)
  refine Wl.imp (L' := (storeI s (build [] l)) :: (refI r (build [] l)) :: F) (fun _ h => h) ?_
  have hw := build_all hlo
  have hT := build_all_le l
  refine Wl.q (v := Value.tuple #[Value.pointer (some ⟨s, 0, none⟩), Value.pointer (some ⟨r, 0, none⟩), Value.bool true]) (q_move rfl) ?_
  refine Wl.q (v := Value.pointer (some ⟨s, 0, none⟩)) (q_extract (i := 0) rfl rfl) ?_
  refine Wl.q (v := Value.pointer (some ⟨r, 0, none⟩)) (q_extract (i := 1) rfl rfl) ?_
  refine Wl.q (v := Value.bool true) (q_extract (i := 2) rfl rfl) ?_
  refine Wl.q (v := Value.pointer (some ⟨s, 0, none⟩)) (q_assign rfl) ?_
  refine Wl.q (v := Value.pointer (some ⟨r, 0, none⟩)) (q_assign rfl) ?_
  refine Wl.q (v := Value.bool true) (q_assign rfl) ?_
  refine Wl.done ?_
  refine Wx.go ?_
  refine Wc.seq ?_
  refine Wc.seq ?_
  refine Wc.region ?_
  refine Wl.q (v := Value.bool true) (q_move rfl) ?_
  refine Wl.q (v := Value.bool false) (q_not rfl rfl) ?_
  refine Wl.done ?_
  refine Wx.go ?_
  refine Wc.no rfl ?_
  refine Wc.skip ?_
  refine Wx.go ?_
  refine Wc.seq ?_
  refine Wc.region ?_
  refine Wl.q (v := Value.pointer (some ⟨s, 0, none⟩)) (q_move rfl) ?_
  refine Wl.e (e_call (F := (refI r (build [] l)) :: F) (args := [Value.pointer (some ⟨s, 0, none⟩)]) Try.call13 rfl (len_c W0 s (build [] l))) (fun _ _ => ?_)
  refine Wl.imp (L' := (storeI s (build [] l)) :: (refI r (build [] l)) :: F) (fun _ h => h) ?_
  refine Wl.q (v := Value.int .i64 (((build [] l).length : Nat) : Int)) (q_assign rfl) ?_
  refine Wl.done ?_
  refine Wx.go ?_
  refine Wc.seq ?_
  refine Wc.seq ?_
  refine Wc.region ?_
  refine Wl.q (v := Value.int .i64 what) (q_move rfl) ?_
  by_cases hw1 : what < 1
  ·
    refine Wl.q (v := Value.bool true) (q_lss (r := true) rfl rfl (decide_eq_true hw1)) ?_
    refine Wl.q (v := Value.bool true) (q_move rfl) ?_
    refine Wl.no ?_
    refine Wl.no ?_
    refine Wl.no ?_
    refine Wl.q (v := Value.bool true) (q_pick (t := true) rfl rfl) ?_
    refine Wl.done ?_
    refine Wx.go ?_
    refine Wc.yes rfl ?_
    refine Wc.seq ?_
    refine Wc.region ?_
    refine Wl.e (e_call (F := (storeI s (build [] l)) :: (refI r (build [] l)) :: F) (args := []) Try.call12 rfl (lives_c W0)) (fun _ _ => ?_)
    refine Wl.imp (L' := (storeI s (build [] l)) :: (refI r (build [] l)) :: F) (fun _ h => h) ?_
    refine Wl.q (v := Value.bool true) (q_assign rfl) ?_
    refine Wl.done ?_
    refine Wx.go ?_
    refine Wc.ret ?_
    refine Wx.thenRet ?_
    refine Wx.fin1 rfl (.inl rfl) (fun w hs => ?_)
    exact ⟨(), trivial, rfl, (st_drop (st_drop (st_pull [0, 0] hs)))⟩
  ·
    refine Wl.q (v := Value.bool false) (q_lss (r := false) rfl rfl (decide_eq_false hw1)) ?_
    refine Wl.q (v := Value.bool false) (q_move rfl) ?_
    refine Wl.q (v := Value.int .i64 what) (q_move rfl) ?_
    refine Wl.q (v := Value.int .i64 (((build [] l).length : Nat) : Int)) (q_move rfl) ?_
    by_cases hw2 : what > (((build [] l).length : Nat) : Int)
    ·
      refine Wl.q (v := Value.bool true) (q_gtr (r := true) rfl rfl (decide_eq_true hw2)) ?_
      refine Wl.q (v := Value.bool true) (q_pick (t := false) rfl rfl) ?_
      refine Wl.done ?_
      refine Wx.go ?_
      refine Wc.yes rfl ?_
      refine Wc.seq ?_
      refine Wc.region ?_
      refine Wl.e (e_call (F := (storeI s (build [] l)) :: (refI r (build [] l)) :: F) (args := []) Try.call12 rfl (lives_c W0)) (fun _ _ => ?_)
      refine Wl.imp (L' := (storeI s (build [] l)) :: (refI r (build [] l)) :: F) (fun _ h => h) ?_
      refine Wl.q (v := Value.bool true) (q_assign rfl) ?_
      refine Wl.done ?_
      refine Wx.go ?_
      refine Wc.ret ?_
      refine Wx.thenRet ?_
      refine Wx.fin1 rfl (.inl rfl) (fun w hs => ?_)
      exact ⟨(), trivial, rfl, (st_drop (st_drop (st_pull [0, 0] hs)))⟩
    ·
      exfalso; omega

set_option maxRecDepth 4000 in
theorem sealed_ok_t (W0 : World) (vl : Value) (l : List TermR) (hl : Rd W0 vl l.length (l.flatMap termCells)) (hlm : l.length ≤ 9223372036854775807) (hlo : ∀ x ∈ l, okT x) (vk : Value) (kn : List Int) (hk : Rd W0 vk kn.length (kn.flatMap int1)) (hkm : kn.length ≤ 9223372036854775807) (what : Int) (hs1 : l.length ≤ 300) (hs2 : kn.length ≤ 500) (hwh : (1 ≤ what ∧ what ≤ ((build [] l).length : Int))) (hall0 : ∀ x ∈ kn, (1 ≤ x ∧ x ≤ ((build [] l).length : Int))) :
    Con Try.prog W0 5 #[vl, vk, Value.int .i64 what, Value.bool true] [] (X := Unit) (fun _ => True) (fun _ => .bool true) (fun _ => []) := by
  refine Con.of (args := [vl, vk, Value.int .i64 what, Value.bool true]) Try.func5 rfl Try.ntmps5 rfl (fun F => ?_)
  show Wc _ W0 _ _ _ _ _ (F)
  refine Wc.seq ?_
  refine Wc.region ?_
  refine Wl.q (v := Value.bool false) (q_assign rfl) ?_
  refine Wl.done ?_
  refine Wx.go ?_
  refine Wc.seq ?_
  refine Wc.seq ?_
  refine Wc.region ?_
  refine Wl.q (v := vl) (q_move rfl) ?_
  refine Wl.q (v := Value.int .i64 ((l.length : Nat) : Int)) (q_len_is Try.underlying22 rfl hl.shape) ?_
  refine Wl.q (v := Value.bool false) (q_gtr (r := false) rfl rfl (decide_eq_false (by omega))) ?_
  refine Wl.q (v := Value.bool false) (q_move rfl) ?_
  refine Wl.q (v := vk) (q_move rfl) ?_
  refine Wl.q (v := Value.int .i64 ((kn.length : Nat) : Int)) (q_len_is Try.underlying23 rfl hk.shape) ?_
  refine Wl.q (v := Value.bool false) (q_gtr (r := false) rfl rfl (decide_eq_false (by omega))) ?_
  refine Wl.q (v := Value.bool false) (q_pick (t := false) rfl rfl) ?_
  refine Wl.done ?_
  refine Wx.go ?_
  refine Wc.no rfl ?_
  refine Wc.skip ?_
  refine Wx.go ?_
  refine Wc.seq ?_
  refine Wc.region ?_
  refine Wl.q (v := vl) (q_move rfl) ?_
  refine Wl.e (e_call (F := F) (args := [vl]) Try.call9 rfl (build_c W0 vl l hl (by omega) hlo)) (fun ⟨s, r⟩ _ => ?_)
  refine Wl.imp (L' := (storeI s (build [] l)) :: (refI r (build [] l)) :: F) (fun _ h => h) ?_
  have hw := build_all hlo
  have hT := build_all_le l
  refine Wl.q (v := Value.tuple #[Value.pointer (some ⟨s, 0, none⟩), Value.pointer (some ⟨r, 0, none⟩), Value.bool true]) (q_move rfl) ?_
  refine Wl.q (v := Value.pointer (some ⟨s, 0, none⟩)) (q_extract (i := 0) rfl rfl) ?_
  refine Wl.q (v := Value.pointer (some ⟨r, 0, none⟩)) (q_extract (i := 1) rfl rfl) ?_
  refine Wl.q (v := Value.bool true) (q_extract (i := 2) rfl rfl) ?_
  refine Wl.q (v := Value.pointer (some ⟨s, 0, none⟩)) (q_assign rfl) ?_
  refine Wl.q (v := Value.pointer (some ⟨r, 0, none⟩)) (q_assign rfl) ?_
  refine Wl.q (v := Value.bool true) (q_assign rfl) ?_
  refine Wl.done ?_
  refine Wx.go ?_
  refine Wc.seq ?_
  refine Wc.seq ?_
  refine Wc.region ?_
  refine Wl.q (v := Value.bool true) (q_move rfl) ?_
  refine Wl.q (v := Value.bool false) (q_not rfl rfl) ?_
  refine Wl.done ?_
  refine Wx.go ?_
  refine Wc.no rfl ?_
  refine Wc.skip ?_
  refine Wx.go ?_
  refine Wc.seq ?_
  refine Wc.region ?_
  refine Wl.q (v := Value.pointer (some ⟨s, 0, none⟩)) (q_move rfl) ?_
  refine Wl.e (e_call (F := (refI r (build [] l)) :: F) (args := [Value.pointer (some ⟨s, 0, none⟩)]) Try.call13 rfl (len_c W0 s (build [] l))) (fun _ _ => ?_)
  refine Wl.imp (L' := (storeI s (build [] l)) :: (refI r (build [] l)) :: F) (fun _ h => h) ?_
  refine Wl.q (v := Value.int .i64 (((build [] l).length : Nat) : Int)) (q_assign rfl) ?_
  refine Wl.done ?_
  refine Wx.go ?_
  refine Wc.seq ?_
  refine Wc.seq ?_
  refine Wc.region ?_
  refine Wl.q (v := Value.int .i64 what) (q_move rfl) ?_
  refine Wl.q (v := Value.bool false) (q_lss (r := false) rfl rfl (decide_eq_false (by omega))) ?_
  refine Wl.q (v := Value.bool false) (q_move rfl) ?_
  refine Wl.q (v := Value.int .i64 what) (q_move rfl) ?_
  refine Wl.q (v := Value.int .i64 (((build [] l).length : Nat) : Int)) (q_move rfl) ?_
  refine Wl.q (v := Value.bool false) (q_gtr (r := false) rfl rfl (decide_eq_false (by omega))) ?_
  refine Wl.q (v := Value.bool false) (q_pick (t := false) rfl rfl) ?_
  refine Wl.done ?_
  refine Wx.go ?_
  refine Wc.no rfl ?_
  refine Wc.skip ?_
  refine Wx.go ?_
  refine Wc.seq ?_
  refine Wc.seq ?_
  refine Wc.region ?_
  refine Wl.q (v := Value.int .i64 1) (q_assign rfl) ?_
  refine Wl.done ?_
  refine Wx.go ?_
  refine Wc.block ?_
  refine Wc.loop (X := Nat) (fun j E => E 13 = Value.int .i64 (((j + 1) : Nat) : Int) ∧ E 1 = vk ∧ E 2 = Value.int .i64 what ∧ E 3 = Value.bool true ∧ E 9 = Value.pointer (some ⟨s, 0, none⟩) ∧ E 12 = Value.int .i64 (((build [] l).length : Nat) : Int) ∧ j ≤ (build [] l).length ∧ (∀ t ∈ (build [] l).take j, ¬ (t.kind = 1 ∧ t.n = 1125899906842624))) (fun j => (storeI s (build [] l)) :: F) (fun j => (build [] l).length - j) 0 ?_ ?_ ?_
  · exact ⟨rfl, rfl, rfl, rfl, rfl, rfl, (by omega), (fun t ht => by simp at ht)⟩
  · exact fun w hs => (st_drop (st_pull [1] hs))
  · rintro j E2 ⟨hE13_0, hE1_0, hE2_0, hE3_0, hE9_0, hE12_0, hj, hall⟩
    refine Wc.seq ?_
    refine Wc.seq ?_
    refine Wc.region ?_
    refine Wl.q (v := Value.int .i64 (((j + 1) : Nat) : Int)) (q_move hE13_0) ?_
    refine Wl.q (v := Value.int .i64 (((build [] l).length : Nat) : Int)) (q_move hE12_0) ?_
    by_cases hlt : (((j + 1) : Nat) : Int) ≤ (((build [] l).length : Nat) : Int)
    ·
      obtain ⟨u, hget⟩ : ∃ u, (build [] l)[j]? = some u := ⟨(build [] l)[j]'(by omega), List.getElem?_eq_getElem (by omega)⟩
      refine Wl.q (v := Value.bool true) (q_leq (r := true) rfl rfl (decide_eq_true hlt)) ?_
      refine Wl.done ?_
      refine Wx.go ?_
      refine Wc.yes rfl ?_
      refine Wc.skip ?_
      refine Wx.go ?_
      refine Wc.seq ?_
      refine Wc.block ?_
      refine Wc.seq ?_
      refine Wc.region ?_
      refine Wl.q (v := Value.pointer (some ⟨s, 0, none⟩)) (q_move hE9_0) ?_
      refine Wl.q (v := Value.int .i64 (((j + 1) : Nat) : Int)) (q_move hE13_0) ?_
      refine Wl.e (e_call (F := F) (args := [Value.pointer (some ⟨s, 0, none⟩), Value.int .i64 (((j + 1) : Nat) : Int)]) Try.call18 rfl (get_c W0 s (build [] l) (((j + 1) : Nat) : Int) (by omega) u (by omega) (by rw [show (((j + 1 : Nat) : Int) - 1).toNat = j by omega]; exact hget))) (fun _ _ => ?_)
      refine Wl.imp (L' := (storeI s (build [] l)) :: F) (fun _ h => h) ?_
      refine Wl.q (v := Value.tuple #[Value.agg #[Value.int .u8 ((u.kind : Nat) : Int), Value.int .i64 u.n, Value.int .i64 u.a, Value.int .i64 u.b], Value.bool true]) (q_move rfl) ?_
      refine Wl.q (v := Value.agg #[Value.int .u8 ((u.kind : Nat) : Int), Value.int .i64 u.n, Value.int .i64 u.a, Value.int .i64 u.b]) (q_extract (i := 0) rfl rfl) ?_
      refine Wl.q (v := Value.bool true) (q_extract (i := 1) rfl rfl) ?_
      refine Wl.e (e_alloc (vs := [Value.int .u8 0, Value.int .i64 0, Value.int .i64 0, Value.int .i64 0]) zo_46 rfl) (fun b3 _ => ?_)
      refine Wl.imp (L' := (pt b3 46 [Value.int .u8 0, Value.int .i64 0, Value.int .i64 0, Value.int .i64 0]) :: (storeI s (build [] l)) :: F) (fun _ h => h) ?_
      refine Wl.e (e_storeAgg (i := 0) (vs := [Value.int .u8 ((u.kind : Nat) : Int), Value.int .i64 u.n, Value.int .i64 u.a, Value.int .i64 u.b]) (c' := [Value.int .u8 ((u.kind : Nat) : Int), Value.int .i64 u.n, Value.int .i64 u.a, Value.int .i64 u.b]) sz_46 rfl rfl rfl rfl (by simp) rfl) (fun _ _ => ?_)
      refine Wl.imp (L' := (pt b3 46 [Value.int .u8 ((u.kind : Nat) : Int), Value.int .i64 u.n, Value.int .i64 u.a, Value.int .i64 u.b]) :: (storeI s (build [] l)) :: F) (fun _ h => h) ?_
      refine Wl.q (v := Value.bool true) (q_assign rfl) ?_
      refine Wl.done ?_
      refine Wx.go ?_
      refine Wc.seq ?_
      refine Wc.region ?_
      refine Wl.q (v := Value.pointer (some ⟨b3, 0, none⟩)) (q_field (m := 0) fo_46_0 rfl rfl) ?_
      refine Wl.q (v := Value.int .u8 ((u.kind : Nat) : Int)) (q_load sc_44 rfl (.cel (i := 0) rfl rfl)) ?_
      by_cases hk1 : ((u.kind : Nat) : Int) = 1
      ·
        refine Wl.q (v := Value.bool true) (q_eql (r := true) rfl rfl (decide_eq_true hk1)) ?_
        refine Wl.q (v := Value.bool true) (q_move rfl) ?_
        refine Wl.q (v := Value.pointer (some ⟨b3, 1, none⟩)) (q_field (m := 1) fo_46_1 rfl rfl) ?_
        refine Wl.q (v := Value.int .i64 u.n) (q_load sc_2 rfl (.cel (i := 0) rfl rfl)) ?_
        by_cases hn50 : u.n = 1125899906842624
        ·
          refine Wl.q (v := Value.bool true) (q_eql (r := true) rfl rfl (decide_eq_true hn50)) ?_
          refine Wl.q (v := Value.bool true) (q_pick (t := true) rfl rfl) ?_
          refine Wl.done ?_
          refine Wx.go ?_
          refine Wc.yes rfl ?_
          refine Wc.seq ?_
          refine Wc.region ?_
          refine Wl.e (e_call (F := (pt b3 46 [Value.int .u8 ((u.kind : Nat) : Int), Value.int .i64 u.n, Value.int .i64 u.a, Value.int .i64 u.b]) :: (storeI s (build [] l)) :: F) (args := []) Try.call12 rfl (lives_c W0)) (fun _ _ => ?_)
          refine Wl.imp (L' := (pt b3 46 [Value.int .u8 ((u.kind : Nat) : Int), Value.int .i64 u.n, Value.int .i64 u.a, Value.int .i64 u.b]) :: (storeI s (build [] l)) :: F) (fun _ h => h) ?_
          refine Wl.q (v := Value.bool true) (q_assign rfl) ?_
          refine Wl.done ?_
          refine Wx.go ?_
          refine Wc.ret ?_
          refine Wx.blockRet ?_
          refine Wx.thenRet ?_
          refine Wx.thenRet ?_
          refine Wx.blockRet ?_
          refine Wx.thenRet ?_
          refine Wx.fin1 rfl (.inl rfl) (fun w hs => ?_)
          exact ⟨(), trivial, rfl, (st_drop (st_drop (st_pull [0, 0] hs)))⟩
        ·
          refine Wl.q (v := Value.bool false) (q_eql (r := false) rfl rfl (decide_eq_false hn50)) ?_
          refine Wl.q (v := Value.bool false) (q_pick (t := true) rfl rfl) ?_
          refine Wl.done ?_
          refine Wx.go ?_
          refine Wc.no rfl ?_
          refine Wc.skip ?_
          refine Wx.blockEnd ?_
          refine Wx.go ?_
          refine Wc.region ?_
          refine Wl.q (v := Value.int .i64 (((j + 1) : Nat) : Int)) (q_move hE13_0) ?_
          refine Wl.q (v := Value.int .i64 (((j + 1) + 1 : Nat) : Int)) (q_add (c := (((j + 1) + 1 : Nat) : Int)) rfl rfl (by rw [wrap_i64] <;> omega)) ?_
          refine Wl.q (v := Value.int .i64 (((j + 1) + 1 : Nat) : Int)) (q_assign rfl) ?_
          refine Wl.done ?_
          refine Wx.at (j + 1) ⟨(by omega), rfl, hE1_0, hE2_0, hE3_0, hE9_0, hE12_0, (by omega), (take_not hget hall (fun h => hn50 h.2))⟩ (fun w hs => (st_drop (st_pull [0] hs)))
      ·
        refine Wl.q (v := Value.bool false) (q_eql (r := false) rfl rfl (decide_eq_false hk1)) ?_
        refine Wl.q (v := Value.bool false) (q_move rfl) ?_
        refine Wl.no ?_
        refine Wl.no ?_
        refine Wl.no ?_
        refine Wl.q (v := Value.bool false) (q_pick (t := false) rfl rfl) ?_
        refine Wl.done ?_
        refine Wx.go ?_
        refine Wc.no rfl ?_
        refine Wc.skip ?_
        refine Wx.blockEnd ?_
        refine Wx.go ?_
        refine Wc.region ?_
        refine Wl.q (v := Value.int .i64 (((j + 1) : Nat) : Int)) (q_move hE13_0) ?_
        refine Wl.q (v := Value.int .i64 (((j + 1) + 1 : Nat) : Int)) (q_add (c := (((j + 1) + 1 : Nat) : Int)) rfl rfl (by rw [wrap_i64] <;> omega)) ?_
        refine Wl.q (v := Value.int .i64 (((j + 1) + 1 : Nat) : Int)) (q_assign rfl) ?_
        refine Wl.done ?_
        refine Wx.at (j + 1) ⟨(by omega), rfl, hE1_0, hE2_0, hE3_0, hE9_0, hE12_0, (by omega), (take_not hget hall (fun h => hk1 (by omega)))⟩ (fun w hs => (st_drop (st_pull [0] hs)))
    ·
      have hno : ∀ t ∈ (build [] l), ¬ (t.kind = 1 ∧ t.n = 1125899906842624) := by rw [show j = (build [] l).length by omega, List.take_length] at hall; exact hall
      have e1 := mk_tk (ts := (build [] l)) (by omega) hno
      have w1 := sl1_wf hw (by omega) hno
      have l1 := sl1_len (build [] l)
      have e2 := mk_pub w1 (by omega)
      have w2 := sl2_wf w1 (by omega)
      have l2 := sl2_len (build [] l)
      have e3 := mk_seal2 w2 (by omega) hwh
      have w3 := seal2_wf w2 (by omega) hwh
      have l3 : (sl2 (build [] l) ++ [seal2 (build [] l) what]).length = (build [] l).length + 3 := by rw [List.length_append]; simp only [List.length_singleton]; omega
      refine Wl.q (v := Value.bool false) (q_leq (r := false) rfl rfl (decide_eq_false hlt)) ?_
      refine Wl.done ?_
      refine Wx.go ?_
      refine Wc.no rfl ?_
      refine Wc.exit ?_
      refine Wx.thenExit ?_
      refine Wx.thenExit ?_
      refine Wx.out ?_
      refine Wx.go ?_
      refine Wc.seq ?_
      refine Wc.region ?_
      refine Wl.q (v := Value.pointer (some ⟨s, 0, none⟩)) (q_move hE9_0) ?_
      refine Wl.q (v := vk) (q_move hE1_0) ?_
      refine Wl.e (e_call (F := F) (args := [Value.pointer (some ⟨s, 0, none⟩), vk]) Try.call15 rfl (new_ok_ro W0 s (build [] l) hw (by omega) (vk) kn hk (by omega) (by omega) hall0)) (fun k _ => ?_)
      refine Wl.imp (L' := (knowK k s (build [] l) (KL kn)) :: (storeI s (build [] l)) :: F) (fun _ h => h) ?_
      refine Wl.q (v := Value.tuple #[Value.pointer (some ⟨k, 0, none⟩), Value.int .i64 0]) (q_move rfl) ?_
      refine Wl.q (v := Value.pointer (some ⟨k, 0, none⟩)) (q_extract (i := 0) rfl rfl) ?_
      refine Wl.q (v := Value.int .i64 0) (q_extract (i := 1) rfl rfl) ?_
      refine Wl.q (v := Value.pointer (some ⟨k, 0, none⟩)) (q_assign rfl) ?_
      refine Wl.q (v := Value.int .i64 0) (q_assign rfl) ?_
      refine Wl.done ?_
      refine Wx.go ?_
      refine Wc.seq ?_
      refine Wc.region ?_
      refine Wl.q (v := Value.pointer (some ⟨s, 0, none⟩)) (q_move hE9_0) ?_
      refine Wl.q (v := Value.agg #[Value.int .u8 1, Value.int .i64 1125899906842624, Value.int .i64 0, Value.int .i64 0]) (q_build (pl := [(0, 1), (1, 1), (2, 1), (3, 1)]) Try.underlying46 zo_46 (by kernel_rfl) (by kernel_rfl)) ?_
      refine Wl.imp (L' := (storeI s (build [] l)) :: (knowK k s (build [] l) (KL kn)) :: F) (fun _ h => st_pull [1] h) ?_
      refine Wl.e (e_call (F := (knowK k s (build [] l) (KL kn)) :: F) (args := [Value.pointer (some ⟨s, 0, none⟩), Value.agg #[Value.int .u8 1, Value.int .i64 1125899906842624, Value.int .i64 0, Value.int .i64 0]]) Try.call19 rfl (Con.eqs (val' := fun _ => .tuple #[.int .i64 ((((build [] l).length + 1) : Nat) : Int), .int .i64 0]) (post' := fun _ => [storeI s (sl1 (build [] l))]) (make_c W0 s (build [] l) tkT hw (by omega) (ok4 (by decide) (by decide) (by decide) (by omega) (by omega) (by omega) (by omega))) (fun _ => by rw [e1]) (fun _ => by rw [e1]))) (fun _ _ => ?_)
      refine Wl.imp (L' := (storeI s (sl1 (build [] l))) :: (knowK k s (build [] l) (KL kn)) :: F) (fun _ h => h) ?_
      refine Wl.q (v := Value.tuple #[Value.int .i64 ((((build [] l).length + 1) : Nat) : Int), Value.int .i64 0]) (q_move rfl) ?_
      refine Wl.q (v := Value.int .i64 ((((build [] l).length + 1) : Nat) : Int)) (q_extract (i := 0) rfl rfl) ?_
      refine Wl.q (v := Value.int .i64 0) (q_extract (i := 1) rfl rfl) ?_
      refine Wl.q (v := Value.int .i64 ((((build [] l).length + 1) : Nat) : Int)) (q_assign rfl) ?_
      refine Wl.q (v := Value.int .i64 0) (q_assign rfl) ?_
      refine Wl.done ?_
      refine Wx.go ?_
      refine Wc.seq ?_
      refine Wc.seq ?_
      refine Wc.region ?_
      refine Wl.q (v := Value.int .i64 0) (q_move rfl) ?_
      refine Wl.q (v := Value.bool true) (q_eql (r := true) rfl rfl (decide_eq_true (by decide))) ?_
      refine Wl.q (v := Value.bool true) (q_move rfl) ?_
      refine Wl.q (v := Value.bool true) (q_move hE3_0) ?_
      refine Wl.q (v := Value.bool true) (q_pick (t := true) rfl rfl) ?_
      refine Wl.done ?_
      refine Wx.go ?_
      refine Wc.yes rfl ?_
      refine Wc.region ?_
      refine Wl.q (v := Value.pointer (some ⟨s, 0, none⟩)) (q_move hE9_0) ?_
      refine Wl.q (v := Value.int .i64 ((((build [] l).length + 1) : Nat) : Int)) (q_move rfl) ?_
      refine Wl.q (v := Value.agg #[Value.int .u8 5, Value.int .i64 0, Value.int .i64 ((((build [] l).length + 1) : Nat) : Int), Value.int .i64 0]) (q_build (pl := [(0, 1), (1, 1), (2, 1), (3, 1)]) Try.underlying46 zo_46 (by kernel_rfl) (by kernel_rfl)) ?_
      refine Wl.e (e_call (F := (knowK k s (build [] l) (KL kn)) :: F) (args := [Value.pointer (some ⟨s, 0, none⟩), Value.agg #[Value.int .u8 5, Value.int .i64 0, Value.int .i64 ((((build [] l).length + 1) : Nat) : Int), Value.int .i64 0]]) Try.call19 rfl (Con.eqs (val' := fun _ => .tuple #[.int .i64 ((((build [] l).length + 2) : Nat) : Int), .int .i64 0]) (post' := fun _ => [storeI s (sl2 (build [] l))]) (make_c W0 s (sl1 (build [] l)) (pubT (build [] l)) w1 (by omega) (ok4 (by decide) (by decide) (by decide) (by omega) (by omega) (by omega) (by omega))) (fun _ => by rw [e2]) (fun _ => by rw [e2]))) (fun _ _ => ?_)
      refine Wl.imp (L' := (storeI s (sl2 (build [] l))) :: (knowK k s (build [] l) (KL kn)) :: F) (fun _ h => h) ?_
      refine Wl.q (v := Value.tuple #[Value.int .i64 ((((build [] l).length + 2) : Nat) : Int), Value.int .i64 0]) (q_move rfl) ?_
      refine Wl.q (v := Value.int .i64 ((((build [] l).length + 2) : Nat) : Int)) (q_extract (i := 0) rfl rfl) ?_
      refine Wl.q (v := Value.int .i64 0) (q_extract (i := 1) rfl rfl) ?_
      refine Wl.q (v := Value.int .i64 ((((build [] l).length + 2) : Nat) : Int)) (q_assign rfl) ?_
      refine Wl.q (v := Value.int .i64 0) (q_assign rfl) ?_
      refine Wl.done ?_
      refine Wx.go ?_
      refine Wc.seq ?_
      refine Wc.region ?_
      refine Wl.q (v := Value.pointer (some ⟨s, 0, none⟩)) (q_move hE9_0) ?_
      refine Wl.q (v := Value.int .i64 ((((build [] l).length + 2) : Nat) : Int)) (q_move rfl) ?_
      refine Wl.q (v := Value.int .i64 what) (q_move hE2_0) ?_
      refine Wl.q (v := Value.agg #[Value.int .u8 6, Value.int .i64 0, Value.int .i64 ((((build [] l).length + 2) : Nat) : Int), Value.int .i64 what]) (q_build (pl := [(0, 1), (1, 1), (2, 1), (3, 1)]) Try.underlying46 zo_46 (by kernel_rfl) (by kernel_rfl)) ?_
      refine Wl.e (e_call (F := (knowK k s (build [] l) (KL kn)) :: F) (args := [Value.pointer (some ⟨s, 0, none⟩), Value.agg #[Value.int .u8 6, Value.int .i64 0, Value.int .i64 ((((build [] l).length + 2) : Nat) : Int), Value.int .i64 what]]) Try.call19 rfl (Con.eqs (val' := fun _ => .tuple #[.int .i64 ((((build [] l).length + 3) : Nat) : Int), .int .i64 0]) (post' := fun _ => [storeI s (sl2 (build [] l) ++ [seal2 (build [] l) what])]) (make_c W0 s (sl2 (build [] l)) (seal2 (build [] l) what) w2 (by omega) (ok4 (by decide) (by decide) (by decide) (by omega) (by omega) (by omega) (by omega))) (fun _ => by rw [e3]) (fun _ => by rw [e3]))) (fun _ _ => ?_)
      refine Wl.imp (L' := (storeI s (sl2 (build [] l) ++ [seal2 (build [] l) what])) :: (knowK k s (build [] l) (KL kn)) :: F) (fun _ h => h) ?_
      refine Wl.q (v := Value.tuple #[Value.int .i64 ((((build [] l).length + 3) : Nat) : Int), Value.int .i64 0]) (q_move rfl) ?_
      refine Wl.q (v := Value.int .i64 ((((build [] l).length + 3) : Nat) : Int)) (q_extract (i := 0) rfl rfl) ?_
      refine Wl.q (v := Value.int .i64 0) (q_extract (i := 1) rfl rfl) ?_
      refine Wl.q (v := Value.int .i64 ((((build [] l).length + 3) : Nat) : Int)) (q_assign rfl) ?_
      refine Wl.q (v := Value.int .i64 0) (q_assign rfl) ?_
      refine Wl.done ?_
      refine Wx.go ?_
      refine Wc.seq ?_
      refine Wc.seq ?_
      refine Wc.region ?_
      refine Wl.q (v := Value.int .i64 0) (q_move rfl) ?_
      refine Wl.q (v := Value.bool false) (q_neq (r := true) rfl rfl (decide_eq_true (by decide))) ?_
      refine Wl.done ?_
      refine Wx.go ?_
      refine Wc.no rfl ?_
      refine Wc.skip ?_
      refine Wx.go ?_
      refine Wc.seq ?_
      refine Wc.seq ?_
      refine Wc.region ?_
      refine Wl.q (v := Value.int .i64 0) (q_move rfl) ?_
      refine Wl.q (v := Value.bool false) (q_neq (r := true) rfl rfl (decide_eq_true (by decide))) ?_
      refine Wl.q (v := Value.bool false) (q_move rfl) ?_
      refine Wl.q (v := Value.int .i64 0) (q_move rfl) ?_
      refine Wl.q (v := Value.bool false) (q_neq (r := true) rfl rfl (decide_eq_true (by decide))) ?_
      refine Wl.q (v := Value.bool false) (q_pick (t := false) rfl rfl) ?_
      refine Wl.done ?_
      refine Wx.go ?_
      refine Wc.no rfl ?_
      refine Wc.skip ?_
      refine Wx.go ?_
      refine Wc.seq ?_
      refine Wc.region ?_
      have eT : (sl2 (build [] l) ++ [seal2 (build [] l) what]) = (build [] l) ++ [tkT, pubT (build [] l), seal2 (build [] l) what] := by simp [sl1, sl2]
      refine Wl.imp (L' := (knowK k s (sl2 (build [] l) ++ [seal2 (build [] l) what]) (KL kn)) :: (storeI s (sl2 (build [] l) ++ [seal2 (build [] l) what])) :: F) (fun w hs => by have hs := (st_pull [1, 0] (hs)); have h2 := knowK_ext (xs := [tkT, pubT (build [] l), seal2 (build [] l) what]) (eT ▸ w3) hs; rw [← eT] at h2; exact h2) ?_
      refine Wl.q (v := Value.pointer (some ⟨s, 0, none⟩)) (q_move hE9_0) ?_
      refine Wl.e (e_buildSlice0 se_23) (fun b4 _ => ?_)
      refine Wl.imp (L' := (sl 3 1 (Value.slice (some ⟨b4, 0, none⟩) 0 0) 0 []) :: (knowK k s (sl2 (build [] l) ++ [seal2 (build [] l) what]) (KL kn)) :: (storeI s (sl2 (build [] l) ++ [seal2 (build [] l) what])) :: F) (fun _ h => h) ?_
      refine Wl.q (v := vk) (q_move hE1_0) ?_
      refine Wl.e (e_append_rd (i := 0) (m := kn.length) (news := (kn.flatMap int1)) Try.underlying23 sz_3 by_3 zo_3 rfl rfl rfl rfl hk (by rw [flat_map1, List.length_map]) (int_cells kn) (by simp only [maxLen]; omega) (by omega)) (fun v5 _ => ?_)
      refine Wl.imp (L' := (sl 3 1 v5 (0 + kn.length) ([] ++ (kn.flatMap int1))) :: (knowK k s (sl2 (build [] l) ++ [seal2 (build [] l) what]) (KL kn)) :: (storeI s (sl2 (build [] l) ++ [seal2 (build [] l) what])) :: F) (fun _ h => h) ?_
      refine Wl.q (v := Value.int .i64 ((((build [] l).length + 3) : Nat) : Int)) (q_move rfl) ?_
      refine Wl.e (e_buildSlice (cs := [Value.int .i64 ((((build [] l).length + 3) : Nat) : Int)]) se_23 zo_3 (by decide) (by decide) (by kernel_rfl)) (fun b6 _ => ?_)
      refine Wl.imp (L' := (pt b6 3 ([Value.int .i64 ((((build [] l).length + 3) : Nat) : Int)])) :: (sl 3 1 v5 (0 + kn.length) ([] ++ (kn.flatMap int1))) :: (knowK k s (sl2 (build [] l) ++ [seal2 (build [] l) what]) (KL kn)) :: (storeI s (sl2 (build [] l) ++ [seal2 (build [] l) what])) :: F) (fun _ h => h) ?_
      refine Wl.e (e_append (i := 1) (k := 1) (m := 1) (off := 0) (news := [Value.int .i64 ((((build [] l).length + 3) : Nat) : Int)]) Try.underlying23 sz_3 by_3 zo_3 rfl rfl rfl rfl rfl (Has.of_pt (i := 0) rfl rfl) rfl (by decide) (by simp only [maxLen]; omega) (by omega)) (fun v7 _ => ?_)
      refine Wl.imp (L' := (pt b6 3 ([Value.int .i64 ((((build [] l).length + 3) : Nat) : Int)])) :: (sl 3 1 v7 ((0 + kn.length) + 1) (([] ++ (kn.flatMap int1)) ++ [Value.int .i64 ((((build [] l).length + 3) : Nat) : Int)])) :: (knowK k s (sl2 (build [] l) ++ [seal2 (build [] l) what]) (KL kn)) :: (storeI s (sl2 (build [] l) ++ [seal2 (build [] l) what])) :: F) (fun _ h => h) ?_
      have lA : (kn ++ [((((build [] l).length + 3) : Nat) : Int)]).length = kn.length + 1 := by simp
      refine Wl.imp (L' := (sl 3 1 v7 ((kn ++ [((((build [] l).length + 3) : Nat) : Int)]).length) ((kn ++ [((((build [] l).length + 3) : Nat) : Int)]).map intV)) :: (knowK k s (sl2 (build [] l) ++ [seal2 (build [] l) what]) (KL kn)) :: (storeI s (sl2 (build [] l) ++ [seal2 (build [] l) what])) :: F) (fun w hs => by have hs := (st_drop (st_pull [0] hs)); rw [flat_map1, Nat.zero_add, List.nil_append] at hs; rw [List.length_append, List.map_append]; exact hs) ?_
      refine Wl.imp (L' := (storeI s (sl2 (build [] l) ++ [seal2 (build [] l) what])) :: (sl 3 1 v7 ((kn ++ [((((build [] l).length + 3) : Nat) : Int)]).length) ((kn ++ [((((build [] l).length + 3) : Nat) : Int)]).map intV)) :: (knowK k s (sl2 (build [] l) ++ [seal2 (build [] l) what]) (KL kn)) :: F) (fun _ h => st_pull [2, 0] h) ?_
      refine Wl.e (e_call (F := (knowK k s (sl2 (build [] l) ++ [seal2 (build [] l) what]) (KL kn)) :: F) (args := [Value.pointer (some ⟨s, 0, none⟩), v7]) Try.call15 rfl (new_ok_sl W0 s (sl2 (build [] l) ++ [seal2 (build [] l) what]) w3 (by omega) (v7) (kn ++ [((((build [] l).length + 3) : Nat) : Int)]) (by omega) (by omega) (fun x hx => by rcases List.mem_append.1 hx with hx | hx; (have := hall0 x hx; omega); (rw [List.mem_singleton] at hx; omega)))) (fun k2 _ => ?_)
      refine Wl.imp (L' := (knowK k2 s (sl2 (build [] l) ++ [seal2 (build [] l) what]) (KL (kn ++ [((((build [] l).length + 3) : Nat) : Int)]))) :: (storeI s (sl2 (build [] l) ++ [seal2 (build [] l) what])) :: (sl 3 1 v7 ((kn ++ [((((build [] l).length + 3) : Nat) : Int)]).length) ((kn ++ [((((build [] l).length + 3) : Nat) : Int)]).map intV)) :: (knowK k s (sl2 (build [] l) ++ [seal2 (build [] l) what]) (KL kn)) :: F) (fun _ h => h) ?_
      refine Wl.q (v := Value.tuple #[Value.pointer (some ⟨k2, 0, none⟩), Value.int .i64 0]) (q_move rfl) ?_
      refine Wl.q (v := Value.pointer (some ⟨k2, 0, none⟩)) (q_extract (i := 0) rfl rfl) ?_
      refine Wl.q (v := Value.int .i64 0) (q_extract (i := 1) rfl rfl) ?_
      refine Wl.q (v := Value.pointer (some ⟨k2, 0, none⟩)) (q_assign rfl) ?_
      refine Wl.q (v := Value.int .i64 0) (q_assign rfl) ?_
      refine Wl.done ?_
      refine Wx.go ?_
      refine Wc.seq ?_
      refine Wc.seq ?_
      refine Wc.region ?_
      refine Wl.q (v := Value.int .i64 0) (q_move rfl) ?_
      refine Wl.q (v := Value.bool false) (q_neq (r := true) rfl rfl (decide_eq_true (by decide))) ?_
      refine Wl.q (v := Value.bool false) (q_move rfl) ?_
      refine Wl.q (v := Value.pointer (some ⟨k2, 0, none⟩)) (q_move rfl) ?_
      refine Wl.q (v := Value.int .i64 ((((build [] l).length + 3) : Nat) : Int)) (q_move rfl) ?_
      refine Wl.e (e_call (F := (sl 3 1 v7 ((kn ++ [((((build [] l).length + 3) : Nat) : Int)]).length) ((kn ++ [((((build [] l).length + 3) : Nat) : Int)]).map intV)) :: (knowK k s (sl2 (build [] l) ++ [seal2 (build [] l) what]) (KL kn)) :: F) (args := [Value.pointer (some ⟨k2, 0, none⟩), Value.int .i64 ((((build [] l).length + 3) : Nat) : Int)]) Try.call17 rfl (khas_is (b := true) W0 k2 s (sl2 (build [] l) ++ [seal2 (build [] l) what]) (KL (kn ++ [((((build [] l).length + 3) : Nat) : Int)])) ((((build [] l).length + 3) : Nat) : Int) (by omega) (derB_known (by simp) (by omega)))) (fun _ _ => ?_)
      refine Wl.imp (L' := (knowK k2 s (sl2 (build [] l) ++ [seal2 (build [] l) what]) (KL (kn ++ [((((build [] l).length + 3) : Nat) : Int)]))) :: (storeI s (sl2 (build [] l) ++ [seal2 (build [] l) what])) :: (sl 3 1 v7 ((kn ++ [((((build [] l).length + 3) : Nat) : Int)]).length) ((kn ++ [((((build [] l).length + 3) : Nat) : Int)]).map intV)) :: (knowK k s (sl2 (build [] l) ++ [seal2 (build [] l) what]) (KL kn)) :: F) (fun _ h => h) ?_
      refine Wl.q (v := Value.bool false) (q_not rfl rfl) ?_
      refine Wl.q (v := Value.bool false) (q_pick (t := false) rfl rfl) ?_
      refine Wl.done ?_
      refine Wx.go ?_
      refine Wc.no rfl ?_
      refine Wc.skip ?_
      refine Wx.go ?_
      refine Wc.seq ?_
      refine Wc.seq ?_
      refine Wc.region ?_
      refine Wl.q (v := Value.int .i64 1) (q_assign rfl) ?_
      refine Wl.done ?_
      refine Wx.go ?_
      refine Wc.block ?_
      refine Wc.loop (X := Nat) (fun j E => E 23 = Value.int .i64 (((j + 1) : Nat) : Int) ∧ E 12 = Value.int .i64 (((build [] l).length : Nat) : Int) ∧ E 16 = Value.pointer (some ⟨k, 0, none⟩) ∧ E 22 = Value.pointer (some ⟨k2, 0, none⟩) ∧ j ≤ (build [] l).length) (fun j => (knowK k s (sl2 (build [] l) ++ [seal2 (build [] l) what]) (KL kn)) :: (knowK k2 s (sl2 (build [] l) ++ [seal2 (build [] l) what]) (KL (kn ++ [((((build [] l).length + 3) : Nat) : Int)]))) :: (storeI s (sl2 (build [] l) ++ [seal2 (build [] l) what])) :: F) (fun j => (build [] l).length - j) 0 ?_ ?_ ?_
      · exact ⟨rfl, hE12_0, rfl, rfl, (by omega)⟩
      · exact fun w hs => (st_pull [2, 0, 0] (st_drop (st_pull [2] hs)))
      · rintro j E9 ⟨hE23_7, hE12_7, hE16_7, hE22_7, hj⟩
        refine Wc.seq ?_
        refine Wc.seq ?_
        refine Wc.region ?_
        refine Wl.q (v := Value.int .i64 (((j + 1) : Nat) : Int)) (q_move hE23_7) ?_
        refine Wl.q (v := Value.int .i64 (((build [] l).length : Nat) : Int)) (q_move hE12_7) ?_
        by_cases hlt2 : (((j + 1) : Nat) : Int) ≤ (((build [] l).length : Nat) : Int)
        ·
          refine Wl.q (v := Value.bool true) (q_leq (r := true) rfl rfl (decide_eq_true hlt2)) ?_
          refine Wl.done ?_
          refine Wx.go ?_
          refine Wc.yes rfl ?_
          refine Wc.skip ?_
          refine Wx.go ?_
          refine Wc.seq ?_
          refine Wc.block ?_
          refine Wc.seq ?_
          refine Wc.region ?_
          refine Wl.q (v := Value.pointer (some ⟨k, 0, none⟩)) (q_move hE16_7) ?_
          refine Wl.q (v := Value.int .i64 (((j + 1) : Nat) : Int)) (q_move hE23_7) ?_
          refine Wl.imp (L' := (knowK k s (sl2 (build [] l) ++ [seal2 (build [] l) what]) (KL kn)) :: (storeI s (sl2 (build [] l) ++ [seal2 (build [] l) what])) :: (knowK k2 s (sl2 (build [] l) ++ [seal2 (build [] l) what]) (KL (kn ++ [((((build [] l).length + 3) : Nat) : Int)]))) :: F) (fun _ h => st_pull [0, 1] h) ?_
          refine Wl.e (e_call (F := (knowK k2 s (sl2 (build [] l) ++ [seal2 (build [] l) what]) (KL (kn ++ [((((build [] l).length + 3) : Nat) : Int)]))) :: F) (args := [Value.pointer (some ⟨k, 0, none⟩), Value.int .i64 (((j + 1) : Nat) : Int)]) Try.call17 rfl (khas_c W0 k s (sl2 (build [] l) ++ [seal2 (build [] l) what]) (KL kn) (((j + 1) : Nat) : Int) (by omega))) (fun _ _ => ?_)
          refine Wl.imp (L' := (knowK k s (sl2 (build [] l) ++ [seal2 (build [] l) what]) (KL kn)) :: (storeI s (sl2 (build [] l) ++ [seal2 (build [] l) what])) :: (knowK k2 s (sl2 (build [] l) ++ [seal2 (build [] l) what]) (KL (kn ++ [((((build [] l).length + 3) : Nat) : Int)]))) :: F) (fun _ h => h) ?_
          refine Wl.q (v := Value.pointer (some ⟨k2, 0, none⟩)) (q_move hE22_7) ?_
          refine Wl.q (v := Value.int .i64 (((j + 1) : Nat) : Int)) (q_move hE23_7) ?_
          refine Wl.imp (L' := (knowK k2 s (sl2 (build [] l) ++ [seal2 (build [] l) what]) (KL (kn ++ [((((build [] l).length + 3) : Nat) : Int)]))) :: (storeI s (sl2 (build [] l) ++ [seal2 (build [] l) what])) :: (knowK k s (sl2 (build [] l) ++ [seal2 (build [] l) what]) (KL kn)) :: F) (fun _ h => st_pull [2, 1] h) ?_
          refine Wl.e (e_call (F := (knowK k s (sl2 (build [] l) ++ [seal2 (build [] l) what]) (KL kn)) :: F) (args := [Value.pointer (some ⟨k2, 0, none⟩), Value.int .i64 (((j + 1) : Nat) : Int)]) Try.call17 rfl (khas_c W0 k2 s (sl2 (build [] l) ++ [seal2 (build [] l) what]) (KL (kn ++ [((((build [] l).length + 3) : Nat) : Int)])) (((j + 1) : Nat) : Int) (by omega))) (fun _ _ => ?_)
          refine Wl.imp (L' := (knowK k2 s (sl2 (build [] l) ++ [seal2 (build [] l) what]) (KL (kn ++ [((((build [] l).length + 3) : Nat) : Int)]))) :: (storeI s (sl2 (build [] l) ++ [seal2 (build [] l) what])) :: (knowK k s (sl2 (build [] l) ++ [seal2 (build [] l) what]) (KL kn)) :: F) (fun _ h => h) ?_
          refine Wl.q (v := Value.bool false) (q_neq_bool (r := true) rfl rfl Try.underlying4 (beq_iff_eq.2 (seal_same2 w3 hall0 (by omega)))) ?_
          refine Wl.done ?_
          refine Wx.go ?_
          refine Wc.no rfl ?_
          refine Wc.skip ?_
          refine Wx.blockEnd ?_
          refine Wx.go ?_
          refine Wc.region ?_
          refine Wl.q (v := Value.int .i64 (((j + 1) : Nat) : Int)) (q_move hE23_7) ?_
          refine Wl.q (v := Value.int .i64 (((j + 1) + 1 : Nat) : Int)) (q_add (c := (((j + 1) + 1 : Nat) : Int)) rfl rfl (by rw [wrap_i64] <;> omega)) ?_
          refine Wl.q (v := Value.int .i64 (((j + 1) + 1 : Nat) : Int)) (q_assign rfl) ?_
          refine Wl.done ?_
          refine Wx.at (j + 1) ⟨(by omega), rfl, hE12_7, hE16_7, hE22_7, (by omega)⟩ (fun w hs => (st_pull [2, 0, 0] (hs)))
        ·
          refine Wl.q (v := Value.bool false) (q_leq (r := false) rfl rfl (decide_eq_false hlt2)) ?_
          refine Wl.done ?_
          refine Wx.go ?_
          refine Wc.no rfl ?_
          refine Wc.exit ?_
          refine Wx.thenExit ?_
          refine Wx.thenExit ?_
          refine Wx.out ?_
          refine Wx.go ?_
          refine Wc.seq ?_
          refine Wc.region ?_
          refine Wl.e (e_call (F := (knowK k s (sl2 (build [] l) ++ [seal2 (build [] l) what]) (KL kn)) :: (knowK k2 s (sl2 (build [] l) ++ [seal2 (build [] l) what]) (KL (kn ++ [((((build [] l).length + 3) : Nat) : Int)]))) :: (storeI s (sl2 (build [] l) ++ [seal2 (build [] l) what])) :: F) (args := []) Try.call12 rfl (lives_c W0)) (fun _ _ => ?_)
          refine Wl.imp (L' := (knowK k s (sl2 (build [] l) ++ [seal2 (build [] l) what]) (KL kn)) :: (knowK k2 s (sl2 (build [] l) ++ [seal2 (build [] l) what]) (KL (kn ++ [((((build [] l).length + 3) : Nat) : Int)]))) :: (storeI s (sl2 (build [] l) ++ [seal2 (build [] l) what])) :: F) (fun _ h => h) ?_
          refine Wl.q (v := Value.bool true) (q_assign rfl) ?_
          refine Wl.done ?_
          refine Wx.go ?_
          refine Wc.ret ?_
          refine Wx.fin1 rfl (.inl rfl) (fun w hs => ?_)
          exact ⟨(), trivial, rfl, (st_drop (st_drop (st_drop (st_pull [0, 0, 0] hs))))⟩

set_option maxRecDepth 4000 in
theorem sealed_bad_t (W0 : World) (vl : Value) (l : List TermR) (hl : Rd W0 vl l.length (l.flatMap termCells)) (hlm : l.length ≤ 9223372036854775807) (hlo : ∀ x ∈ l, okT x) (vk : Value) (kn : List Int) (hk : Rd W0 vk kn.length (kn.flatMap int1)) (hkm : kn.length ≤ 9223372036854775807) (what : Int) (hs1 : l.length ≤ 300) (hs2 : kn.length ≤ 500) (hwh : (1 ≤ what ∧ what ≤ ((build [] l).length : Int))) (hbad : ∃ x ∈ kn, ¬ (1 ≤ x ∧ x ≤ ((build [] l).length : Int))) :
    Con Try.prog W0 5 #[vl, vk, Value.int .i64 what, Value.bool true] [] (X := Unit) (fun _ => True) (fun _ => .bool true) (fun _ => []) := by
  refine Con.of (args := [vl, vk, Value.int .i64 what, Value.bool true]) Try.func5 rfl Try.ntmps5 rfl (fun F => ?_)
  show Wc _ W0 _ _ _ _ _ (F)
  refine Wc.seq ?_
  refine Wc.region ?_
  refine Wl.q (v := Value.bool false) (q_assign rfl) ?_
  refine Wl.done ?_
  refine Wx.go ?_
  refine Wc.seq ?_
  refine Wc.seq ?_
  refine Wc.region ?_
  refine Wl.q (v := vl) (q_move rfl) ?_
  refine Wl.q (v := Value.int .i64 ((l.length : Nat) : Int)) (q_len_is Try.underlying22 rfl hl.shape) ?_
  refine Wl.q (v := Value.bool false) (q_gtr (r := false) rfl rfl (decide_eq_false (by omega))) ?_
  refine Wl.q (v := Value.bool false) (q_move rfl) ?_
  refine Wl.q (v := vk) (q_move rfl) ?_
  refine Wl.q (v := Value.int .i64 ((kn.length : Nat) : Int)) (q_len_is Try.underlying23 rfl hk.shape) ?_
  refine Wl.q (v := Value.bool false) (q_gtr (r := false) rfl rfl (decide_eq_false (by omega))) ?_
  refine Wl.q (v := Value.bool false) (q_pick (t := false) rfl rfl) ?_
  refine Wl.done ?_
  refine Wx.go ?_
  refine Wc.no rfl ?_
  refine Wc.skip ?_
  refine Wx.go ?_
  refine Wc.seq ?_
  refine Wc.region ?_
  refine Wl.q (v := vl) (q_move rfl) ?_
  refine Wl.e (e_call (F := F) (args := [vl]) Try.call9 rfl (build_c W0 vl l hl (by omega) hlo)) (fun ⟨s, r⟩ _ => ?_)
  refine Wl.imp (L' := (storeI s (build [] l)) :: (refI r (build [] l)) :: F) (fun _ h => h) ?_
  have hw := build_all hlo
  have hT := build_all_le l
  refine Wl.q (v := Value.tuple #[Value.pointer (some ⟨s, 0, none⟩), Value.pointer (some ⟨r, 0, none⟩), Value.bool true]) (q_move rfl) ?_
  refine Wl.q (v := Value.pointer (some ⟨s, 0, none⟩)) (q_extract (i := 0) rfl rfl) ?_
  refine Wl.q (v := Value.pointer (some ⟨r, 0, none⟩)) (q_extract (i := 1) rfl rfl) ?_
  refine Wl.q (v := Value.bool true) (q_extract (i := 2) rfl rfl) ?_
  refine Wl.q (v := Value.pointer (some ⟨s, 0, none⟩)) (q_assign rfl) ?_
  refine Wl.q (v := Value.pointer (some ⟨r, 0, none⟩)) (q_assign rfl) ?_
  refine Wl.q (v := Value.bool true) (q_assign rfl) ?_
  refine Wl.done ?_
  refine Wx.go ?_
  refine Wc.seq ?_
  refine Wc.seq ?_
  refine Wc.region ?_
  refine Wl.q (v := Value.bool true) (q_move rfl) ?_
  refine Wl.q (v := Value.bool false) (q_not rfl rfl) ?_
  refine Wl.done ?_
  refine Wx.go ?_
  refine Wc.no rfl ?_
  refine Wc.skip ?_
  refine Wx.go ?_
  refine Wc.seq ?_
  refine Wc.region ?_
  refine Wl.q (v := Value.pointer (some ⟨s, 0, none⟩)) (q_move rfl) ?_
  refine Wl.e (e_call (F := (refI r (build [] l)) :: F) (args := [Value.pointer (some ⟨s, 0, none⟩)]) Try.call13 rfl (len_c W0 s (build [] l))) (fun _ _ => ?_)
  refine Wl.imp (L' := (storeI s (build [] l)) :: (refI r (build [] l)) :: F) (fun _ h => h) ?_
  refine Wl.q (v := Value.int .i64 (((build [] l).length : Nat) : Int)) (q_assign rfl) ?_
  refine Wl.done ?_
  refine Wx.go ?_
  refine Wc.seq ?_
  refine Wc.seq ?_
  refine Wc.region ?_
  refine Wl.q (v := Value.int .i64 what) (q_move rfl) ?_
  refine Wl.q (v := Value.bool false) (q_lss (r := false) rfl rfl (decide_eq_false (by omega))) ?_
  refine Wl.q (v := Value.bool false) (q_move rfl) ?_
  refine Wl.q (v := Value.int .i64 what) (q_move rfl) ?_
  refine Wl.q (v := Value.int .i64 (((build [] l).length : Nat) : Int)) (q_move rfl) ?_
  refine Wl.q (v := Value.bool false) (q_gtr (r := false) rfl rfl (decide_eq_false (by omega))) ?_
  refine Wl.q (v := Value.bool false) (q_pick (t := false) rfl rfl) ?_
  refine Wl.done ?_
  refine Wx.go ?_
  refine Wc.no rfl ?_
  refine Wc.skip ?_
  refine Wx.go ?_
  refine Wc.seq ?_
  refine Wc.seq ?_
  refine Wc.region ?_
  refine Wl.q (v := Value.int .i64 1) (q_assign rfl) ?_
  refine Wl.done ?_
  refine Wx.go ?_
  refine Wc.block ?_
  refine Wc.loop (X := Nat) (fun j E => E 13 = Value.int .i64 (((j + 1) : Nat) : Int) ∧ E 1 = vk ∧ E 2 = Value.int .i64 what ∧ E 3 = Value.bool true ∧ E 9 = Value.pointer (some ⟨s, 0, none⟩) ∧ E 12 = Value.int .i64 (((build [] l).length : Nat) : Int) ∧ j ≤ (build [] l).length ∧ (∀ t ∈ (build [] l).take j, ¬ (t.kind = 1 ∧ t.n = 1125899906842624))) (fun j => (storeI s (build [] l)) :: F) (fun j => (build [] l).length - j) 0 ?_ ?_ ?_
  · exact ⟨rfl, rfl, rfl, rfl, rfl, rfl, (by omega), (fun t ht => by simp at ht)⟩
  · exact fun w hs => (st_drop (st_pull [1] hs))
  · rintro j E2 ⟨hE13_0, hE1_0, hE2_0, hE3_0, hE9_0, hE12_0, hj, hall⟩
    refine Wc.seq ?_
    refine Wc.seq ?_
    refine Wc.region ?_
    refine Wl.q (v := Value.int .i64 (((j + 1) : Nat) : Int)) (q_move hE13_0) ?_
    refine Wl.q (v := Value.int .i64 (((build [] l).length : Nat) : Int)) (q_move hE12_0) ?_
    by_cases hlt : (((j + 1) : Nat) : Int) ≤ (((build [] l).length : Nat) : Int)
    ·
      obtain ⟨u, hget⟩ : ∃ u, (build [] l)[j]? = some u := ⟨(build [] l)[j]'(by omega), List.getElem?_eq_getElem (by omega)⟩
      refine Wl.q (v := Value.bool true) (q_leq (r := true) rfl rfl (decide_eq_true hlt)) ?_
      refine Wl.done ?_
      refine Wx.go ?_
      refine Wc.yes rfl ?_
      refine Wc.skip ?_
      refine Wx.go ?_
      refine Wc.seq ?_
      refine Wc.block ?_
      refine Wc.seq ?_
      refine Wc.region ?_
      refine Wl.q (v := Value.pointer (some ⟨s, 0, none⟩)) (q_move hE9_0) ?_
      refine Wl.q (v := Value.int .i64 (((j + 1) : Nat) : Int)) (q_move hE13_0) ?_
      refine Wl.e (e_call (F := F) (args := [Value.pointer (some ⟨s, 0, none⟩), Value.int .i64 (((j + 1) : Nat) : Int)]) Try.call18 rfl (get_c W0 s (build [] l) (((j + 1) : Nat) : Int) (by omega) u (by omega) (by rw [show (((j + 1 : Nat) : Int) - 1).toNat = j by omega]; exact hget))) (fun _ _ => ?_)
      refine Wl.imp (L' := (storeI s (build [] l)) :: F) (fun _ h => h) ?_
      refine Wl.q (v := Value.tuple #[Value.agg #[Value.int .u8 ((u.kind : Nat) : Int), Value.int .i64 u.n, Value.int .i64 u.a, Value.int .i64 u.b], Value.bool true]) (q_move rfl) ?_
      refine Wl.q (v := Value.agg #[Value.int .u8 ((u.kind : Nat) : Int), Value.int .i64 u.n, Value.int .i64 u.a, Value.int .i64 u.b]) (q_extract (i := 0) rfl rfl) ?_
      refine Wl.q (v := Value.bool true) (q_extract (i := 1) rfl rfl) ?_
      refine Wl.e (e_alloc (vs := [Value.int .u8 0, Value.int .i64 0, Value.int .i64 0, Value.int .i64 0]) zo_46 rfl) (fun b3 _ => ?_)
      refine Wl.imp (L' := (pt b3 46 [Value.int .u8 0, Value.int .i64 0, Value.int .i64 0, Value.int .i64 0]) :: (storeI s (build [] l)) :: F) (fun _ h => h) ?_
      refine Wl.e (e_storeAgg (i := 0) (vs := [Value.int .u8 ((u.kind : Nat) : Int), Value.int .i64 u.n, Value.int .i64 u.a, Value.int .i64 u.b]) (c' := [Value.int .u8 ((u.kind : Nat) : Int), Value.int .i64 u.n, Value.int .i64 u.a, Value.int .i64 u.b]) sz_46 rfl rfl rfl rfl (by simp) rfl) (fun _ _ => ?_)
      refine Wl.imp (L' := (pt b3 46 [Value.int .u8 ((u.kind : Nat) : Int), Value.int .i64 u.n, Value.int .i64 u.a, Value.int .i64 u.b]) :: (storeI s (build [] l)) :: F) (fun _ h => h) ?_
      refine Wl.q (v := Value.bool true) (q_assign rfl) ?_
      refine Wl.done ?_
      refine Wx.go ?_
      refine Wc.seq ?_
      refine Wc.region ?_
      refine Wl.q (v := Value.pointer (some ⟨b3, 0, none⟩)) (q_field (m := 0) fo_46_0 rfl rfl) ?_
      refine Wl.q (v := Value.int .u8 ((u.kind : Nat) : Int)) (q_load sc_44 rfl (.cel (i := 0) rfl rfl)) ?_
      by_cases hk1 : ((u.kind : Nat) : Int) = 1
      ·
        refine Wl.q (v := Value.bool true) (q_eql (r := true) rfl rfl (decide_eq_true hk1)) ?_
        refine Wl.q (v := Value.bool true) (q_move rfl) ?_
        refine Wl.q (v := Value.pointer (some ⟨b3, 1, none⟩)) (q_field (m := 1) fo_46_1 rfl rfl) ?_
        refine Wl.q (v := Value.int .i64 u.n) (q_load sc_2 rfl (.cel (i := 0) rfl rfl)) ?_
        by_cases hn50 : u.n = 1125899906842624
        ·
          refine Wl.q (v := Value.bool true) (q_eql (r := true) rfl rfl (decide_eq_true hn50)) ?_
          refine Wl.q (v := Value.bool true) (q_pick (t := true) rfl rfl) ?_
          refine Wl.done ?_
          refine Wx.go ?_
          refine Wc.yes rfl ?_
          refine Wc.seq ?_
          refine Wc.region ?_
          refine Wl.e (e_call (F := (pt b3 46 [Value.int .u8 ((u.kind : Nat) : Int), Value.int .i64 u.n, Value.int .i64 u.a, Value.int .i64 u.b]) :: (storeI s (build [] l)) :: F) (args := []) Try.call12 rfl (lives_c W0)) (fun _ _ => ?_)
          refine Wl.imp (L' := (pt b3 46 [Value.int .u8 ((u.kind : Nat) : Int), Value.int .i64 u.n, Value.int .i64 u.a, Value.int .i64 u.b]) :: (storeI s (build [] l)) :: F) (fun _ h => h) ?_
          refine Wl.q (v := Value.bool true) (q_assign rfl) ?_
          refine Wl.done ?_
          refine Wx.go ?_
          refine Wc.ret ?_
          refine Wx.blockRet ?_
          refine Wx.thenRet ?_
          refine Wx.thenRet ?_
          refine Wx.blockRet ?_
          refine Wx.thenRet ?_
          refine Wx.fin1 rfl (.inl rfl) (fun w hs => ?_)
          exact ⟨(), trivial, rfl, (st_drop (st_drop (st_pull [0, 0] hs)))⟩
        ·
          refine Wl.q (v := Value.bool false) (q_eql (r := false) rfl rfl (decide_eq_false hn50)) ?_
          refine Wl.q (v := Value.bool false) (q_pick (t := true) rfl rfl) ?_
          refine Wl.done ?_
          refine Wx.go ?_
          refine Wc.no rfl ?_
          refine Wc.skip ?_
          refine Wx.blockEnd ?_
          refine Wx.go ?_
          refine Wc.region ?_
          refine Wl.q (v := Value.int .i64 (((j + 1) : Nat) : Int)) (q_move hE13_0) ?_
          refine Wl.q (v := Value.int .i64 (((j + 1) + 1 : Nat) : Int)) (q_add (c := (((j + 1) + 1 : Nat) : Int)) rfl rfl (by rw [wrap_i64] <;> omega)) ?_
          refine Wl.q (v := Value.int .i64 (((j + 1) + 1 : Nat) : Int)) (q_assign rfl) ?_
          refine Wl.done ?_
          refine Wx.at (j + 1) ⟨(by omega), rfl, hE1_0, hE2_0, hE3_0, hE9_0, hE12_0, (by omega), (take_not hget hall (fun h => hn50 h.2))⟩ (fun w hs => (st_drop (st_pull [0] hs)))
      ·
        refine Wl.q (v := Value.bool false) (q_eql (r := false) rfl rfl (decide_eq_false hk1)) ?_
        refine Wl.q (v := Value.bool false) (q_move rfl) ?_
        refine Wl.no ?_
        refine Wl.no ?_
        refine Wl.no ?_
        refine Wl.q (v := Value.bool false) (q_pick (t := false) rfl rfl) ?_
        refine Wl.done ?_
        refine Wx.go ?_
        refine Wc.no rfl ?_
        refine Wc.skip ?_
        refine Wx.blockEnd ?_
        refine Wx.go ?_
        refine Wc.region ?_
        refine Wl.q (v := Value.int .i64 (((j + 1) : Nat) : Int)) (q_move hE13_0) ?_
        refine Wl.q (v := Value.int .i64 (((j + 1) + 1 : Nat) : Int)) (q_add (c := (((j + 1) + 1 : Nat) : Int)) rfl rfl (by rw [wrap_i64] <;> omega)) ?_
        refine Wl.q (v := Value.int .i64 (((j + 1) + 1 : Nat) : Int)) (q_assign rfl) ?_
        refine Wl.done ?_
        refine Wx.at (j + 1) ⟨(by omega), rfl, hE1_0, hE2_0, hE3_0, hE9_0, hE12_0, (by omega), (take_not hget hall (fun h => hk1 (by omega)))⟩ (fun w hs => (st_drop (st_pull [0] hs)))
    ·
      have hno : ∀ t ∈ (build [] l), ¬ (t.kind = 1 ∧ t.n = 1125899906842624) := by rw [show j = (build [] l).length by omega, List.take_length] at hall; exact hall
      have e1 := mk_tk (ts := (build [] l)) (by omega) hno
      have w1 := sl1_wf hw (by omega) hno
      have l1 := sl1_len (build [] l)
      have e2 := mk_pub w1 (by omega)
      have w2 := sl2_wf w1 (by omega)
      have l2 := sl2_len (build [] l)
      have e3 := mk_seal2 w2 (by omega) hwh
      have w3 := seal2_wf w2 (by omega) hwh
      have l3 : (sl2 (build [] l) ++ [seal2 (build [] l) what]).length = (build [] l).length + 3 := by rw [List.length_append]; simp only [List.length_singleton]; omega
      refine Wl.q (v := Value.bool false) (q_leq (r := false) rfl rfl (decide_eq_false hlt)) ?_
      refine Wl.done ?_
      refine Wx.go ?_
      refine Wc.no rfl ?_
      refine Wc.exit ?_
      refine Wx.thenExit ?_
      refine Wx.thenExit ?_
      refine Wx.out ?_
      refine Wx.go ?_
      refine Wc.seq ?_
      refine Wc.region ?_
      refine Wl.q (v := Value.pointer (some ⟨s, 0, none⟩)) (q_move hE9_0) ?_
      refine Wl.q (v := vk) (q_move hE1_0) ?_
      refine Wl.e (e_call (F := F) (args := [Value.pointer (some ⟨s, 0, none⟩), vk]) Try.call15 rfl (new_bad_ro W0 s (build [] l) hw (by omega) (vk) kn hk (by omega) (by omega) hbad)) (fun _ _ => ?_)
      refine Wl.imp (L' := (storeI s (build [] l)) :: F) (fun _ h => h) ?_
      refine Wl.q (v := Value.tuple #[Value.pointer none, Value.int .i64 1]) (q_move rfl) ?_
      refine Wl.q (v := Value.pointer none) (q_extract (i := 0) rfl rfl) ?_
      refine Wl.q (v := Value.int .i64 1) (q_extract (i := 1) rfl rfl) ?_
      refine Wl.q (v := Value.pointer none) (q_assign rfl) ?_
      refine Wl.q (v := Value.int .i64 1) (q_assign rfl) ?_
      refine Wl.done ?_
      refine Wx.go ?_
      refine Wc.seq ?_
      refine Wc.region ?_
      refine Wl.q (v := Value.pointer (some ⟨s, 0, none⟩)) (q_move hE9_0) ?_
      refine Wl.q (v := Value.agg #[Value.int .u8 1, Value.int .i64 1125899906842624, Value.int .i64 0, Value.int .i64 0]) (q_build (pl := [(0, 1), (1, 1), (2, 1), (3, 1)]) Try.underlying46 zo_46 (by kernel_rfl) (by kernel_rfl)) ?_
      refine Wl.e (e_call (F := F) (args := [Value.pointer (some ⟨s, 0, none⟩), Value.agg #[Value.int .u8 1, Value.int .i64 1125899906842624, Value.int .i64 0, Value.int .i64 0]]) Try.call19 rfl (Con.eqs (val' := fun _ => .tuple #[.int .i64 ((((build [] l).length + 1) : Nat) : Int), .int .i64 0]) (post' := fun _ => [storeI s (sl1 (build [] l))]) (make_c W0 s (build [] l) tkT hw (by omega) (ok4 (by decide) (by decide) (by decide) (by omega) (by omega) (by omega) (by omega))) (fun _ => by rw [e1]) (fun _ => by rw [e1]))) (fun _ _ => ?_)
      refine Wl.imp (L' := (storeI s (sl1 (build [] l))) :: F) (fun _ h => h) ?_
      refine Wl.q (v := Value.tuple #[Value.int .i64 ((((build [] l).length + 1) : Nat) : Int), Value.int .i64 0]) (q_move rfl) ?_
      refine Wl.q (v := Value.int .i64 ((((build [] l).length + 1) : Nat) : Int)) (q_extract (i := 0) rfl rfl) ?_
      refine Wl.q (v := Value.int .i64 0) (q_extract (i := 1) rfl rfl) ?_
      refine Wl.q (v := Value.int .i64 ((((build [] l).length + 1) : Nat) : Int)) (q_assign rfl) ?_
      refine Wl.q (v := Value.int .i64 0) (q_assign rfl) ?_
      refine Wl.done ?_
      refine Wx.go ?_
      refine Wc.seq ?_
      refine Wc.seq ?_
      refine Wc.region ?_
      refine Wl.q (v := Value.int .i64 0) (q_move rfl) ?_
      refine Wl.q (v := Value.bool true) (q_eql (r := true) rfl rfl (decide_eq_true (by decide))) ?_
      refine Wl.q (v := Value.bool true) (q_move rfl) ?_
      refine Wl.q (v := Value.bool true) (q_move hE3_0) ?_
      refine Wl.q (v := Value.bool true) (q_pick (t := true) rfl rfl) ?_
      refine Wl.done ?_
      refine Wx.go ?_
      refine Wc.yes rfl ?_
      refine Wc.region ?_
      refine Wl.q (v := Value.pointer (some ⟨s, 0, none⟩)) (q_move hE9_0) ?_
      refine Wl.q (v := Value.int .i64 ((((build [] l).length + 1) : Nat) : Int)) (q_move rfl) ?_
      refine Wl.q (v := Value.agg #[Value.int .u8 5, Value.int .i64 0, Value.int .i64 ((((build [] l).length + 1) : Nat) : Int), Value.int .i64 0]) (q_build (pl := [(0, 1), (1, 1), (2, 1), (3, 1)]) Try.underlying46 zo_46 (by kernel_rfl) (by kernel_rfl)) ?_
      refine Wl.e (e_call (F := F) (args := [Value.pointer (some ⟨s, 0, none⟩), Value.agg #[Value.int .u8 5, Value.int .i64 0, Value.int .i64 ((((build [] l).length + 1) : Nat) : Int), Value.int .i64 0]]) Try.call19 rfl (Con.eqs (val' := fun _ => .tuple #[.int .i64 ((((build [] l).length + 2) : Nat) : Int), .int .i64 0]) (post' := fun _ => [storeI s (sl2 (build [] l))]) (make_c W0 s (sl1 (build [] l)) (pubT (build [] l)) w1 (by omega) (ok4 (by decide) (by decide) (by decide) (by omega) (by omega) (by omega) (by omega))) (fun _ => by rw [e2]) (fun _ => by rw [e2]))) (fun _ _ => ?_)
      refine Wl.imp (L' := (storeI s (sl2 (build [] l))) :: F) (fun _ h => h) ?_
      refine Wl.q (v := Value.tuple #[Value.int .i64 ((((build [] l).length + 2) : Nat) : Int), Value.int .i64 0]) (q_move rfl) ?_
      refine Wl.q (v := Value.int .i64 ((((build [] l).length + 2) : Nat) : Int)) (q_extract (i := 0) rfl rfl) ?_
      refine Wl.q (v := Value.int .i64 0) (q_extract (i := 1) rfl rfl) ?_
      refine Wl.q (v := Value.int .i64 ((((build [] l).length + 2) : Nat) : Int)) (q_assign rfl) ?_
      refine Wl.q (v := Value.int .i64 0) (q_assign rfl) ?_
      refine Wl.done ?_
      refine Wx.go ?_
      refine Wc.seq ?_
      refine Wc.region ?_
      refine Wl.q (v := Value.pointer (some ⟨s, 0, none⟩)) (q_move hE9_0) ?_
      refine Wl.q (v := Value.int .i64 ((((build [] l).length + 2) : Nat) : Int)) (q_move rfl) ?_
      refine Wl.q (v := Value.int .i64 what) (q_move hE2_0) ?_
      refine Wl.q (v := Value.agg #[Value.int .u8 6, Value.int .i64 0, Value.int .i64 ((((build [] l).length + 2) : Nat) : Int), Value.int .i64 what]) (q_build (pl := [(0, 1), (1, 1), (2, 1), (3, 1)]) Try.underlying46 zo_46 (by kernel_rfl) (by kernel_rfl)) ?_
      refine Wl.e (e_call (F := F) (args := [Value.pointer (some ⟨s, 0, none⟩), Value.agg #[Value.int .u8 6, Value.int .i64 0, Value.int .i64 ((((build [] l).length + 2) : Nat) : Int), Value.int .i64 what]]) Try.call19 rfl (Con.eqs (val' := fun _ => .tuple #[.int .i64 ((((build [] l).length + 3) : Nat) : Int), .int .i64 0]) (post' := fun _ => [storeI s (sl2 (build [] l) ++ [seal2 (build [] l) what])]) (make_c W0 s (sl2 (build [] l)) (seal2 (build [] l) what) w2 (by omega) (ok4 (by decide) (by decide) (by decide) (by omega) (by omega) (by omega) (by omega))) (fun _ => by rw [e3]) (fun _ => by rw [e3]))) (fun _ _ => ?_)
      refine Wl.imp (L' := (storeI s (sl2 (build [] l) ++ [seal2 (build [] l) what])) :: F) (fun _ h => h) ?_
      refine Wl.q (v := Value.tuple #[Value.int .i64 ((((build [] l).length + 3) : Nat) : Int), Value.int .i64 0]) (q_move rfl) ?_
      refine Wl.q (v := Value.int .i64 ((((build [] l).length + 3) : Nat) : Int)) (q_extract (i := 0) rfl rfl) ?_
      refine Wl.q (v := Value.int .i64 0) (q_extract (i := 1) rfl rfl) ?_
      refine Wl.q (v := Value.int .i64 ((((build [] l).length + 3) : Nat) : Int)) (q_assign rfl) ?_
      refine Wl.q (v := Value.int .i64 0) (q_assign rfl) ?_
      refine Wl.done ?_
      refine Wx.go ?_
      refine Wc.seq ?_
      refine Wc.seq ?_
      refine Wc.region ?_
      refine Wl.q (v := Value.int .i64 1) (q_move rfl) ?_
      refine Wl.q (v := Value.bool true) (q_neq (r := false) rfl rfl (decide_eq_false (by decide))) ?_
      refine Wl.done ?_
      refine Wx.go ?_
      refine Wc.yes rfl ?_
      refine Wc.seq ?_
      refine Wc.region ?_
      refine Wl.e (e_call (F := (storeI s (sl2 (build [] l) ++ [seal2 (build [] l) what])) :: F) (args := []) Try.call12 rfl (lives_c W0)) (fun _ _ => ?_)
      refine Wl.imp (L' := (storeI s (sl2 (build [] l) ++ [seal2 (build [] l) what])) :: F) (fun _ h => h) ?_
      refine Wl.q (v := Value.bool true) (q_assign rfl) ?_
      refine Wl.done ?_
      refine Wx.go ?_
      refine Wc.ret ?_
      refine Wx.thenRet ?_
      refine Wx.fin1 rfl (.inl rfl) (fun w hs => ?_)
      exact ⟨(), trivial, rfl, (st_drop (st_pull [0] hs))⟩

theorem sealed_big_f (W0 : World) (vl : Value) (l : List TermR) (hl : Rd W0 vl l.length (l.flatMap termCells)) (hlm : l.length ≤ 9223372036854775807) (hlo : ∀ x ∈ l, okT x) (vk : Value) (kn : List Int) (hk : Rd W0 vk kn.length (kn.flatMap int1)) (hkm : kn.length ≤ 9223372036854775807) (what : Int) (hbig : 300 < l.length ∨ 500 < kn.length) :
    Con Try.prog W0 5 #[vl, vk, Value.int .i64 what, Value.bool false] [] (X := Unit) (fun _ => True) (fun _ => .bool true) (fun _ => []) := by
  refine Con.of (args := [vl, vk, Value.int .i64 what, Value.bool false]) Try.func5 rfl Try.ntmps5 rfl (fun F => ?_)
  show Wc _ W0 _ _ _ _ _ (F)
  refine Wc.seq ?_
  refine Wc.region ?_
  refine Wl.q (v := Value.bool false) (q_assign rfl) ?_
  refine Wl.done ?_
  refine Wx.go ?_
  refine Wc.seq ?_
  refine Wc.seq ?_
  refine Wc.region ?_
  refine Wl.q (v := vl) (q_move rfl) ?_
  refine Wl.q (v := Value.int .i64 ((l.length : Nat) : Int)) (q_len_is Try.underlying22 rfl hl.shape) ?_
  by_cases hb1 : ((l.length : Nat) : Int) > 300
  ·
    refine Wl.q (v := Value.bool true) (q_gtr (r := true) rfl rfl (decide_eq_true hb1)) ?_
    refine Wl.q (v := Value.bool true) (q_move rfl) ?_
    refine Wl.no ?_
    refine Wl.no ?_
    refine Wl.no ?_
    refine Wl.q (v := Value.bool true) (q_pick (t := true) rfl rfl) ?_
    refine Wl.done ?_
    refine Wx.go ?_
    refine Wc.yes rfl ?_
    refine Wc.seq ?_
    refine Wc.region ?_
    refine Wl.q (v := Value.bool true) (q_assign rfl) ?_
    refine Wl.done ?_
    refine Wx.go ?_
    refine Wc.ret ?_
    refine Wx.thenRet ?_
    refine Wx.fin1 rfl (.inl rfl) (fun w hs => ?_)
    exact ⟨(), trivial, rfl, hs⟩
  ·
    refine Wl.q (v := Value.bool false) (q_gtr (r := false) rfl rfl (decide_eq_false hb1)) ?_
    refine Wl.q (v := Value.bool false) (q_move rfl) ?_
    refine Wl.q (v := vk) (q_move rfl) ?_
    refine Wl.q (v := Value.int .i64 ((kn.length : Nat) : Int)) (q_len_is Try.underlying23 rfl hk.shape) ?_
    by_cases hb2 : ((kn.length : Nat) : Int) > 500
    ·
      refine Wl.q (v := Value.bool true) (q_gtr (r := true) rfl rfl (decide_eq_true hb2)) ?_
      refine Wl.q (v := Value.bool true) (q_pick (t := false) rfl rfl) ?_
      refine Wl.done ?_
      refine Wx.go ?_
      refine Wc.yes rfl ?_
      refine Wc.seq ?_
      refine Wc.region ?_
      refine Wl.q (v := Value.bool true) (q_assign rfl) ?_
      refine Wl.done ?_
      refine Wx.go ?_
      refine Wc.ret ?_
      refine Wx.thenRet ?_
      refine Wx.fin1 rfl (.inl rfl) (fun w hs => ?_)
      exact ⟨(), trivial, rfl, hs⟩
    ·
      exfalso; omega

theorem sealed_what_f (W0 : World) (vl : Value) (l : List TermR) (hl : Rd W0 vl l.length (l.flatMap termCells)) (hlm : l.length ≤ 9223372036854775807) (hlo : ∀ x ∈ l, okT x) (vk : Value) (kn : List Int) (hk : Rd W0 vk kn.length (kn.flatMap int1)) (hkm : kn.length ≤ 9223372036854775807) (what : Int) (hs1 : l.length ≤ 300) (hs2 : kn.length ≤ 500) (hwh : ¬ (1 ≤ what ∧ what ≤ ((build [] l).length : Int))) :
    Con Try.prog W0 5 #[vl, vk, Value.int .i64 what, Value.bool false] [] (X := Unit) (fun _ => True) (fun _ => .bool true) (fun _ => []) := by
  refine Con.of (args := [vl, vk, Value.int .i64 what, Value.bool false]) Try.func5 rfl Try.ntmps5 rfl (fun F => ?_)
  show Wc _ W0 _ _ _ _ _ (F)
  refine Wc.seq ?_
  refine Wc.region ?_
  refine Wl.q (v := Value.bool false) (q_assign rfl) ?_
  refine Wl.done ?_
  refine Wx.go ?_
  refine Wc.seq ?_
  refine Wc.seq ?_
  refine Wc.region ?_
  refine Wl.q (v := vl) (q_move rfl) ?_
  refine Wl.q (v := Value.int .i64 ((l.length : Nat) : Int)) (q_len_is Try.underlying22 rfl hl.shape) ?_
  refine Wl.q (v := Value.bool false) (q_gtr (r := false) rfl rfl (decide_eq_false (by omega))) ?_
  refine Wl.q (v := Value.bool false) (q_move rfl) ?_
  refine Wl.q (v := vk) (q_move rfl) ?_
  refine Wl.q (v := Value.int .i64 ((kn.length : Nat) : Int)) (q_len_is Try.underlying23 rfl hk.shape) ?_
  refine Wl.q (v := Value.bool false) (q_gtr (r := false) rfl rfl (decide_eq_false (by omega))) ?_
  refine Wl.q (v := Value.bool false) (q_pick (t := false) rfl rfl) ?_
  refine Wl.done ?_
  refine Wx.go ?_
  refine Wc.no rfl ?_
  refine Wc.skip ?_
  refine Wx.go ?_
  refine Wc.seq ?_
  refine Wc.region ?_
  refine Wl.q (v := vl) (q_move rfl) ?_
  refine Wl.e (e_call (F := F) (args := [vl]) Try.call9 rfl (build_c W0 vl l hl (by omega) hlo)) (fun ⟨s, r⟩ _ => ?_)
  refine Wl.imp (L' := (storeI s (build [] l)) :: (refI r (build [] l)) :: F) (fun _ h => h) ?_
  have hw := build_all hlo
  have hT := build_all_le l
  refine Wl.q (v := Value.tuple #[Value.pointer (some ⟨s, 0, none⟩), Value.pointer (some ⟨r, 0, none⟩), Value.bool true]) (q_move rfl) ?_
  refine Wl.q (v := Value.pointer (some ⟨s, 0, none⟩)) (q_extract (i := 0) rfl rfl) ?_
  refine Wl.q (v := Value.pointer (some ⟨r, 0, none⟩)) (q_extract (i := 1) rfl rfl) ?_
  refine Wl.q (v := Value.bool true) (q_extract (i := 2) rfl rfl) ?_
  refine Wl.q (v := Value.pointer (some ⟨s, 0, none⟩)) (q_assign rfl) ?_
  refine Wl.q (v := Value.pointer (some ⟨r, 0, none⟩)) (q_assign rfl) ?_
  refine Wl.q (v := Value.bool true) (q_assign rfl) ?_
  refine Wl.done ?_
  refine Wx.go ?_
  refine Wc.seq ?_
  refine Wc.seq ?_
  refine Wc.region ?_
  refine Wl.q (v := Value.bool true) (q_move rfl) ?_
  refine Wl.q (v := Value.bool false) (q_not rfl rfl) ?_
  refine Wl.done ?_
  refine Wx.go ?_
  refine Wc.no rfl ?_
  refine Wc.skip ?_
  refine Wx.go ?_
  refine Wc.seq ?_
  refine Wc.region ?_
  refine Wl.q (v := Value.pointer (some ⟨s, 0, none⟩)) (q_move rfl) ?_
  refine Wl.e (e_call (F := (refI r (build [] l)) :: F) (args := [Value.pointer (some ⟨s, 0, none⟩)]) Try.call13 rfl (len_c W0 s (build [] l))) (fun _ _ => ?_)
  refine Wl.imp (L' := (storeI s (build [] l)) :: (refI r (build [] l)) :: F) (fun _ h => h) ?_
  refine Wl.q (v := Value.int .i64 (((build [] l).length : Nat) : Int)) (q_assign rfl) ?_
  refine Wl.done ?_
  refine Wx.go ?_
  refine Wc.seq ?_
  refine Wc.seq ?_
  refine Wc.region ?_
  refine Wl.q (v := Value.int .i64 what) (q_move rfl) ?_
  by_cases hw1 : what < 1
  ·
    refine Wl.q (v := Value.bool true) (q_lss (r := true) rfl rfl (decide_eq_true hw1)) ?_
    refine Wl.q (v := Value.bool true) (q_move rfl) ?_
    refine Wl.no ?_
    refine Wl.no ?_
    refine Wl.no ?_
    refine Wl.q (v := Value.bool true) (q_pick (t := true) rfl rfl) ?_
    refine Wl.done ?_
    refine Wx.go ?_
    refine Wc.yes rfl ?_
    refine Wc.seq ?_
    refine Wc.region ?_
    refine Wl.e (e_call (F := (storeI s (build [] l)) :: (refI r (build [] l)) :: F) (args := []) Try.call12 rfl (lives_c W0)) (fun _ _ => ?_)
    refine Wl.imp (L' := (storeI s (build [] l)) :: (refI r (build [] l)) :: F) (fun _ h => h) ?_
    refine Wl.q (v := Value.bool true) (q_assign rfl) ?_
    refine Wl.done ?_
    refine Wx.go ?_
    refine Wc.ret ?_
    refine Wx.thenRet ?_
    refine Wx.fin1 rfl (.inl rfl) (fun w hs => ?_)
    exact ⟨(), trivial, rfl, (st_drop (st_drop (st_pull [0, 0] hs)))⟩
  ·
    refine Wl.q (v := Value.bool false) (q_lss (r := false) rfl rfl (decide_eq_false hw1)) ?_
    refine Wl.q (v := Value.bool false) (q_move rfl) ?_
    refine Wl.q (v := Value.int .i64 what) (q_move rfl) ?_
    refine Wl.q (v := Value.int .i64 (((build [] l).length : Nat) : Int)) (q_move rfl) ?_
    by_cases hw2 : what > (((build [] l).length : Nat) : Int)
    ·
      refine Wl.q (v := Value.bool true) (q_gtr (r := true) rfl rfl (decide_eq_true hw2)) ?_
      refine Wl.q (v := Value.bool true) (q_pick (t := false) rfl rfl) ?_
      refine Wl.done ?_
      refine Wx.go ?_
      refine Wc.yes rfl ?_
      refine Wc.seq ?_
      refine Wc.region ?_
      refine Wl.e (e_call (F := (storeI s (build [] l)) :: (refI r (build [] l)) :: F) (args := []) Try.call12 rfl (lives_c W0)) (fun _ _ => ?_)
      refine Wl.imp (L' := (storeI s (build [] l)) :: (refI r (build [] l)) :: F) (fun _ h => h) ?_
      refine Wl.q (v := Value.bool true) (q_assign rfl) ?_
      refine Wl.done ?_
      refine Wx.go ?_
      refine Wc.ret ?_
      refine Wx.thenRet ?_
      refine Wx.fin1 rfl (.inl rfl) (fun w hs => ?_)
      exact ⟨(), trivial, rfl, (st_drop (st_drop (st_pull [0, 0] hs)))⟩
    ·
      exfalso; omega

set_option maxRecDepth 4000 in
theorem sealed_ok_f (W0 : World) (vl : Value) (l : List TermR) (hl : Rd W0 vl l.length (l.flatMap termCells)) (hlm : l.length ≤ 9223372036854775807) (hlo : ∀ x ∈ l, okT x) (vk : Value) (kn : List Int) (hk : Rd W0 vk kn.length (kn.flatMap int1)) (hkm : kn.length ≤ 9223372036854775807) (what : Int) (hs1 : l.length ≤ 300) (hs2 : kn.length ≤ 500) (hwh : (1 ≤ what ∧ what ≤ ((build [] l).length : Int))) (hall0 : ∀ x ∈ kn, (1 ≤ x ∧ x ≤ ((build [] l).length : Int))) :
    Con Try.prog W0 5 #[vl, vk, Value.int .i64 what, Value.bool false] [] (X := Unit) (fun _ => True) (fun _ => .bool true) (fun _ => []) := by
  refine Con.of (args := [vl, vk, Value.int .i64 what, Value.bool false]) Try.func5 rfl Try.ntmps5 rfl (fun F => ?_)
  show Wc _ W0 _ _ _ _ _ (F)
  refine Wc.seq ?_
  refine Wc.region ?_
  refine Wl.q (v := Value.bool false) (q_assign rfl) ?_
  refine Wl.done ?_
  refine Wx.go ?_
  refine Wc.seq ?_
  refine Wc.seq ?_
  refine Wc.region ?_
  refine Wl.q (v := vl) (q_move rfl) ?_
  refine Wl.q (v := Value.int .i64 ((l.length : Nat) : Int)) (q_len_is Try.underlying22 rfl hl.shape) ?_
  refine Wl.q (v := Value.bool false) (q_gtr (r := false) rfl rfl (decide_eq_false (by omega))) ?_
  refine Wl.q (v := Value.bool false) (q_move rfl) ?_
  refine Wl.q (v := vk) (q_move rfl) ?_
  refine Wl.q (v := Value.int .i64 ((kn.length : Nat) : Int)) (q_len_is Try.underlying23 rfl hk.shape) ?_
  refine Wl.q (v := Value.bool false) (q_gtr (r := false) rfl rfl (decide_eq_false (by omega))) ?_
  refine Wl.q (v := Value.bool false) (q_pick (t := false) rfl rfl) ?_
  refine Wl.done ?_
  refine Wx.go ?_
  refine Wc.no rfl ?_
  refine Wc.skip ?_
  refine Wx.go ?_
  refine Wc.seq ?_
  refine Wc.region ?_
  refine Wl.q (v := vl) (q_move rfl) ?_
  refine Wl.e (e_call (F := F) (args := [vl]) Try.call9 rfl (build_c W0 vl l hl (by omega) hlo)) (fun ⟨s, r⟩ _ => ?_)
  refine Wl.imp (L' := (storeI s (build [] l)) :: (refI r (build [] l)) :: F) (fun _ h => h) ?_
  have hw := build_all hlo
  have hT := build_all_le l
  refine Wl.q (v := Value.tuple #[Value.pointer (some ⟨s, 0, none⟩), Value.pointer (some ⟨r, 0, none⟩), Value.bool true]) (q_move rfl) ?_
  refine Wl.q (v := Value.pointer (some ⟨s, 0, none⟩)) (q_extract (i := 0) rfl rfl) ?_
  refine Wl.q (v := Value.pointer (some ⟨r, 0, none⟩)) (q_extract (i := 1) rfl rfl) ?_
  refine Wl.q (v := Value.bool true) (q_extract (i := 2) rfl rfl) ?_
  refine Wl.q (v := Value.pointer (some ⟨s, 0, none⟩)) (q_assign rfl) ?_
  refine Wl.q (v := Value.pointer (some ⟨r, 0, none⟩)) (q_assign rfl) ?_
  refine Wl.q (v := Value.bool true) (q_assign rfl) ?_
  refine Wl.done ?_
  refine Wx.go ?_
  refine Wc.seq ?_
  refine Wc.seq ?_
  refine Wc.region ?_
  refine Wl.q (v := Value.bool true) (q_move rfl) ?_
  refine Wl.q (v := Value.bool false) (q_not rfl rfl) ?_
  refine Wl.done ?_
  refine Wx.go ?_
  refine Wc.no rfl ?_
  refine Wc.skip ?_
  refine Wx.go ?_
  refine Wc.seq ?_
  refine Wc.region ?_
  refine Wl.q (v := Value.pointer (some ⟨s, 0, none⟩)) (q_move rfl) ?_
  refine Wl.e (e_call (F := (refI r (build [] l)) :: F) (args := [Value.pointer (some ⟨s, 0, none⟩)]) Try.call13 rfl (len_c W0 s (build [] l))) (fun _ _ => ?_)
  refine Wl.imp (L' := (storeI s (build [] l)) :: (refI r (build [] l)) :: F) (fun _ h => h) ?_
  refine Wl.q (v := Value.int .i64 (((build [] l).length : Nat) : Int)) (q_assign rfl) ?_
  refine Wl.done ?_
  refine Wx.go ?_
  refine Wc.seq ?_
  refine Wc.seq ?_
  refine Wc.region ?_
  refine Wl.q (v := Value.int .i64 what) (q_move rfl) ?_
  refine Wl.q (v := Value.bool false) (q_lss (r := false) rfl rfl (decide_eq_false (by omega))) ?_
  refine Wl.q (v := Value.bool false) (q_move rfl) ?_
  refine Wl.q (v := Value.int .i64 what) (q_move rfl) ?_
  refine Wl.q (v := Value.int .i64 (((build [] l).length : Nat) : Int)) (q_move rfl) ?_
  refine Wl.q (v := Value.bool false) (q_gtr (r := false) rfl rfl (decide_eq_false (by omega))) ?_
  refine Wl.q (v := Value.bool false) (q_pick (t := false) rfl rfl) ?_
  refine Wl.done ?_
  refine Wx.go ?_
  refine Wc.no rfl ?_
  refine Wc.skip ?_
  refine Wx.go ?_
  refine Wc.seq ?_
  refine Wc.seq ?_
  refine Wc.region ?_
  refine Wl.q (v := Value.int .i64 1) (q_assign rfl) ?_
  refine Wl.done ?_
  refine Wx.go ?_
  refine Wc.block ?_
  refine Wc.loop (X := Nat) (fun j E => E 13 = Value.int .i64 (((j + 1) : Nat) : Int) ∧ E 1 = vk ∧ E 2 = Value.int .i64 what ∧ E 3 = Value.bool false ∧ E 9 = Value.pointer (some ⟨s, 0, none⟩) ∧ E 12 = Value.int .i64 (((build [] l).length : Nat) : Int) ∧ j ≤ (build [] l).length ∧ (∀ t ∈ (build [] l).take j, ¬ (t.kind = 1 ∧ t.n = 1125899906842624))) (fun j => (storeI s (build [] l)) :: F) (fun j => (build [] l).length - j) 0 ?_ ?_ ?_
  · exact ⟨rfl, rfl, rfl, rfl, rfl, rfl, (by omega), (fun t ht => by simp at ht)⟩
  · exact fun w hs => (st_drop (st_pull [1] hs))
  · rintro j E2 ⟨hE13_0, hE1_0, hE2_0, hE3_0, hE9_0, hE12_0, hj, hall⟩
    refine Wc.seq ?_
    refine Wc.seq ?_
    refine Wc.region ?_
    refine Wl.q (v := Value.int .i64 (((j + 1) : Nat) : Int)) (q_move hE13_0) ?_
    refine Wl.q (v := Value.int .i64 (((build [] l).length : Nat) : Int)) (q_move hE12_0) ?_
    by_cases hlt : (((j + 1) : Nat) : Int) ≤ (((build [] l).length : Nat) : Int)
    ·
      obtain ⟨u, hget⟩ : ∃ u, (build [] l)[j]? = some u := ⟨(build [] l)[j]'(by omega), List.getElem?_eq_getElem (by omega)⟩
      refine Wl.q (v := Value.bool true) (q_leq (r := true) rfl rfl (decide_eq_true hlt)) ?_
      refine Wl.done ?_
      refine Wx.go ?_
      refine Wc.yes rfl ?_
      refine Wc.skip ?_
      refine Wx.go ?_
      refine Wc.seq ?_
      refine Wc.block ?_
      refine Wc.seq ?_
      refine Wc.region ?_
      refine Wl.q (v := Value.pointer (some ⟨s, 0, none⟩)) (q_move hE9_0) ?_
      refine Wl.q (v := Value.int .i64 (((j + 1) : Nat) : Int)) (q_move hE13_0) ?_
      refine Wl.e (e_call (F := F) (args := [Value.pointer (some ⟨s, 0, none⟩), Value.int .i64 (((j + 1) : Nat) : Int)]) Try.call18 rfl (get_c W0 s (build [] l) (((j + 1) : Nat) : Int) (by omega) u (by omega) (by rw [show (((j + 1 : Nat) : Int) - 1).toNat = j by omega]; exact hget))) (fun _ _ => ?_)
      refine Wl.imp (L' := (storeI s (build [] l)) :: F) (fun _ h => h) ?_
      refine Wl.q (v := Value.tuple #[Value.agg #[Value.int .u8 ((u.kind : Nat) : Int), Value.int .i64 u.n, Value.int .i64 u.a, Value.int .i64 u.b], Value.bool true]) (q_move rfl) ?_
      refine Wl.q (v := Value.agg #[Value.int .u8 ((u.kind : Nat) : Int), Value.int .i64 u.n, Value.int .i64 u.a, Value.int .i64 u.b]) (q_extract (i := 0) rfl rfl) ?_
      refine Wl.q (v := Value.bool true) (q_extract (i := 1) rfl rfl) ?_
      refine Wl.e (e_alloc (vs := [Value.int .u8 0, Value.int .i64 0, Value.int .i64 0, Value.int .i64 0]) zo_46 rfl) (fun b3 _ => ?_)
      refine Wl.imp (L' := (pt b3 46 [Value.int .u8 0, Value.int .i64 0, Value.int .i64 0, Value.int .i64 0]) :: (storeI s (build [] l)) :: F) (fun _ h => h) ?_
      refine Wl.e (e_storeAgg (i := 0) (vs := [Value.int .u8 ((u.kind : Nat) : Int), Value.int .i64 u.n, Value.int .i64 u.a, Value.int .i64 u.b]) (c' := [Value.int .u8 ((u.kind : Nat) : Int), Value.int .i64 u.n, Value.int .i64 u.a, Value.int .i64 u.b]) sz_46 rfl rfl rfl rfl (by simp) rfl) (fun _ _ => ?_)
      refine Wl.imp (L' := (pt b3 46 [Value.int .u8 ((u.kind : Nat) : Int), Value.int .i64 u.n, Value.int .i64 u.a, Value.int .i64 u.b]) :: (storeI s (build [] l)) :: F) (fun _ h => h) ?_
      refine Wl.q (v := Value.bool true) (q_assign rfl) ?_
      refine Wl.done ?_
      refine Wx.go ?_
      refine Wc.seq ?_
      refine Wc.region ?_
      refine Wl.q (v := Value.pointer (some ⟨b3, 0, none⟩)) (q_field (m := 0) fo_46_0 rfl rfl) ?_
      refine Wl.q (v := Value.int .u8 ((u.kind : Nat) : Int)) (q_load sc_44 rfl (.cel (i := 0) rfl rfl)) ?_
      by_cases hk1 : ((u.kind : Nat) : Int) = 1
      ·
        refine Wl.q (v := Value.bool true) (q_eql (r := true) rfl rfl (decide_eq_true hk1)) ?_
        refine Wl.q (v := Value.bool true) (q_move rfl) ?_
        refine Wl.q (v := Value.pointer (some ⟨b3, 1, none⟩)) (q_field (m := 1) fo_46_1 rfl rfl) ?_
        refine Wl.q (v := Value.int .i64 u.n) (q_load sc_2 rfl (.cel (i := 0) rfl rfl)) ?_
        by_cases hn50 : u.n = 1125899906842624
        ·
          refine Wl.q (v := Value.bool true) (q_eql (r := true) rfl rfl (decide_eq_true hn50)) ?_
          refine Wl.q (v := Value.bool true) (q_pick (t := true) rfl rfl) ?_
          refine Wl.done ?_
          refine Wx.go ?_
          refine Wc.yes rfl ?_
          refine Wc.seq ?_
          refine Wc.region ?_
          refine Wl.e (e_call (F := (pt b3 46 [Value.int .u8 ((u.kind : Nat) : Int), Value.int .i64 u.n, Value.int .i64 u.a, Value.int .i64 u.b]) :: (storeI s (build [] l)) :: F) (args := []) Try.call12 rfl (lives_c W0)) (fun _ _ => ?_)
          refine Wl.imp (L' := (pt b3 46 [Value.int .u8 ((u.kind : Nat) : Int), Value.int .i64 u.n, Value.int .i64 u.a, Value.int .i64 u.b]) :: (storeI s (build [] l)) :: F) (fun _ h => h) ?_
          refine Wl.q (v := Value.bool true) (q_assign rfl) ?_
          refine Wl.done ?_
          refine Wx.go ?_
          refine Wc.ret ?_
          refine Wx.blockRet ?_
          refine Wx.thenRet ?_
          refine Wx.thenRet ?_
          refine Wx.blockRet ?_
          refine Wx.thenRet ?_
          refine Wx.fin1 rfl (.inl rfl) (fun w hs => ?_)
          exact ⟨(), trivial, rfl, (st_drop (st_drop (st_pull [0, 0] hs)))⟩
        ·
          refine Wl.q (v := Value.bool false) (q_eql (r := false) rfl rfl (decide_eq_false hn50)) ?_
          refine Wl.q (v := Value.bool false) (q_pick (t := true) rfl rfl) ?_
          refine Wl.done ?_
          refine Wx.go ?_
          refine Wc.no rfl ?_
          refine Wc.skip ?_
          refine Wx.blockEnd ?_
          refine Wx.go ?_
          refine Wc.region ?_
          refine Wl.q (v := Value.int .i64 (((j + 1) : Nat) : Int)) (q_move hE13_0) ?_
          refine Wl.q (v := Value.int .i64 (((j + 1) + 1 : Nat) : Int)) (q_add (c := (((j + 1) + 1 : Nat) : Int)) rfl rfl (by rw [wrap_i64] <;> omega)) ?_
          refine Wl.q (v := Value.int .i64 (((j + 1) + 1 : Nat) : Int)) (q_assign rfl) ?_
          refine Wl.done ?_
          refine Wx.at (j + 1) ⟨(by omega), rfl, hE1_0, hE2_0, hE3_0, hE9_0, hE12_0, (by omega), (take_not hget hall (fun h => hn50 h.2))⟩ (fun w hs => (st_drop (st_pull [0] hs)))
      ·
        refine Wl.q (v := Value.bool false) (q_eql (r := false) rfl rfl (decide_eq_false hk1)) ?_
        refine Wl.q (v := Value.bool false) (q_move rfl) ?_
        refine Wl.no ?_
        refine Wl.no ?_
        refine Wl.no ?_
        refine Wl.q (v := Value.bool false) (q_pick (t := false) rfl rfl) ?_
        refine Wl.done ?_
        refine Wx.go ?_
        refine Wc.no rfl ?_
        refine Wc.skip ?_
        refine Wx.blockEnd ?_
        refine Wx.go ?_
        refine Wc.region ?_
        refine Wl.q (v := Value.int .i64 (((j + 1) : Nat) : Int)) (q_move hE13_0) ?_
        refine Wl.q (v := Value.int .i64 (((j + 1) + 1 : Nat) : Int)) (q_add (c := (((j + 1) + 1 : Nat) : Int)) rfl rfl (by rw [wrap_i64] <;> omega)) ?_
        refine Wl.q (v := Value.int .i64 (((j + 1) + 1 : Nat) : Int)) (q_assign rfl) ?_
        refine Wl.done ?_
        refine Wx.at (j + 1) ⟨(by omega), rfl, hE1_0, hE2_0, hE3_0, hE9_0, hE12_0, (by omega), (take_not hget hall (fun h => hk1 (by omega)))⟩ (fun w hs => (st_drop (st_pull [0] hs)))
    ·
      have hno : ∀ t ∈ (build [] l), ¬ (t.kind = 1 ∧ t.n = 1125899906842624) := by rw [show j = (build [] l).length by omega, List.take_length] at hall; exact hall
      have e1 := mk_tk (ts := (build [] l)) (by omega) hno
      have w1 := sl1_wf hw (by omega) hno
      have l1 := sl1_len (build [] l)
      have e3 := mk_seal1 w1 (by omega) hwh
      have w3 := seal1_wf w1 (by omega) hwh
      have l3 : (sl1 (build [] l) ++ [seal1 (build [] l) what]).length = (build [] l).length + 2 := by rw [List.length_append]; simp only [List.length_singleton]; omega
      refine Wl.q (v := Value.bool false) (q_leq (r := false) rfl rfl (decide_eq_false hlt)) ?_
      refine Wl.done ?_
      refine Wx.go ?_
      refine Wc.no rfl ?_
      refine Wc.exit ?_
      refine Wx.thenExit ?_
      refine Wx.thenExit ?_
      refine Wx.out ?_
      refine Wx.go ?_
      refine Wc.seq ?_
      refine Wc.region ?_
      refine Wl.q (v := Value.pointer (some ⟨s, 0, none⟩)) (q_move hE9_0) ?_
      refine Wl.q (v := vk) (q_move hE1_0) ?_
      refine Wl.e (e_call (F := F) (args := [Value.pointer (some ⟨s, 0, none⟩), vk]) Try.call15 rfl (new_ok_ro W0 s (build [] l) hw (by omega) (vk) kn hk (by omega) (by omega) hall0)) (fun k _ => ?_)
      refine Wl.imp (L' := (knowK k s (build [] l) (KL kn)) :: (storeI s (build [] l)) :: F) (fun _ h => h) ?_
      refine Wl.q (v := Value.tuple #[Value.pointer (some ⟨k, 0, none⟩), Value.int .i64 0]) (q_move rfl) ?_
      refine Wl.q (v := Value.pointer (some ⟨k, 0, none⟩)) (q_extract (i := 0) rfl rfl) ?_
      refine Wl.q (v := Value.int .i64 0) (q_extract (i := 1) rfl rfl) ?_
      refine Wl.q (v := Value.pointer (some ⟨k, 0, none⟩)) (q_assign rfl) ?_
      refine Wl.q (v := Value.int .i64 0) (q_assign rfl) ?_
      refine Wl.done ?_
      refine Wx.go ?_
      refine Wc.seq ?_
      refine Wc.region ?_
      refine Wl.q (v := Value.pointer (some ⟨s, 0, none⟩)) (q_move hE9_0) ?_
      refine Wl.q (v := Value.agg #[Value.int .u8 1, Value.int .i64 1125899906842624, Value.int .i64 0, Value.int .i64 0]) (q_build (pl := [(0, 1), (1, 1), (2, 1), (3, 1)]) Try.underlying46 zo_46 (by kernel_rfl) (by kernel_rfl)) ?_
      refine Wl.imp (L' := (storeI s (build [] l)) :: (knowK k s (build [] l) (KL kn)) :: F) (fun _ h => st_pull [1] h) ?_
      refine Wl.e (e_call (F := (knowK k s (build [] l) (KL kn)) :: F) (args := [Value.pointer (some ⟨s, 0, none⟩), Value.agg #[Value.int .u8 1, Value.int .i64 1125899906842624, Value.int .i64 0, Value.int .i64 0]]) Try.call19 rfl (Con.eqs (val' := fun _ => .tuple #[.int .i64 ((((build [] l).length + 1) : Nat) : Int), .int .i64 0]) (post' := fun _ => [storeI s (sl1 (build [] l))]) (make_c W0 s (build [] l) tkT hw (by omega) (ok4 (by decide) (by decide) (by decide) (by omega) (by omega) (by omega) (by omega))) (fun _ => by rw [e1]) (fun _ => by rw [e1]))) (fun _ _ => ?_)
      refine Wl.imp (L' := (storeI s (sl1 (build [] l))) :: (knowK k s (build [] l) (KL kn)) :: F) (fun _ h => h) ?_
      refine Wl.q (v := Value.tuple #[Value.int .i64 ((((build [] l).length + 1) : Nat) : Int), Value.int .i64 0]) (q_move rfl) ?_
      refine Wl.q (v := Value.int .i64 ((((build [] l).length + 1) : Nat) : Int)) (q_extract (i := 0) rfl rfl) ?_
      refine Wl.q (v := Value.int .i64 0) (q_extract (i := 1) rfl rfl) ?_
      refine Wl.q (v := Value.int .i64 ((((build [] l).length + 1) : Nat) : Int)) (q_assign rfl) ?_
      refine Wl.q (v := Value.int .i64 0) (q_assign rfl) ?_
      refine Wl.done ?_
      refine Wx.go ?_
      refine Wc.seq ?_
      refine Wc.seq ?_
      refine Wc.region ?_
      refine Wl.q (v := Value.int .i64 0) (q_move rfl) ?_
      refine Wl.q (v := Value.bool true) (q_eql (r := true) rfl rfl (decide_eq_true (by decide))) ?_
      refine Wl.q (v := Value.bool true) (q_move rfl) ?_
      refine Wl.q (v := Value.bool false) (q_move hE3_0) ?_
      refine Wl.q (v := Value.bool false) (q_pick (t := true) rfl rfl) ?_
      refine Wl.done ?_
      refine Wx.go ?_
      refine Wc.no rfl ?_
      refine Wc.skip ?_
      refine Wx.go ?_
      refine Wc.seq ?_
      refine Wc.region ?_
      refine Wl.q (v := Value.pointer (some ⟨s, 0, none⟩)) (q_move hE9_0) ?_
      refine Wl.q (v := Value.int .i64 ((((build [] l).length + 1) : Nat) : Int)) (q_move rfl) ?_
      refine Wl.q (v := Value.int .i64 what) (q_move hE2_0) ?_
      refine Wl.q (v := Value.agg #[Value.int .u8 6, Value.int .i64 0, Value.int .i64 ((((build [] l).length + 1) : Nat) : Int), Value.int .i64 what]) (q_build (pl := [(0, 1), (1, 1), (2, 1), (3, 1)]) Try.underlying46 zo_46 (by kernel_rfl) (by kernel_rfl)) ?_
      refine Wl.e (e_call (F := (knowK k s (build [] l) (KL kn)) :: F) (args := [Value.pointer (some ⟨s, 0, none⟩), Value.agg #[Value.int .u8 6, Value.int .i64 0, Value.int .i64 ((((build [] l).length + 1) : Nat) : Int), Value.int .i64 what]]) Try.call19 rfl (Con.eqs (val' := fun _ => .tuple #[.int .i64 ((((build [] l).length + 2) : Nat) : Int), .int .i64 0]) (post' := fun _ => [storeI s (sl1 (build [] l) ++ [seal1 (build [] l) what])]) (make_c W0 s (sl1 (build [] l)) (seal1 (build [] l) what) w1 (by omega) (ok4 (by decide) (by decide) (by decide) (by omega) (by omega) (by omega) (by omega))) (fun _ => by rw [e3]) (fun _ => by rw [e3]))) (fun _ _ => ?_)
      refine Wl.imp (L' := (storeI s (sl1 (build [] l) ++ [seal1 (build [] l) what])) :: (knowK k s (build [] l) (KL kn)) :: F) (fun _ h => h) ?_
      refine Wl.q (v := Value.tuple #[Value.int .i64 ((((build [] l).length + 2) : Nat) : Int), Value.int .i64 0]) (q_move rfl) ?_
      refine Wl.q (v := Value.int .i64 ((((build [] l).length + 2) : Nat) : Int)) (q_extract (i := 0) rfl rfl) ?_
      refine Wl.q (v := Value.int .i64 0) (q_extract (i := 1) rfl rfl) ?_
      refine Wl.q (v := Value.int .i64 ((((build [] l).length + 2) : Nat) : Int)) (q_assign rfl) ?_
      refine Wl.q (v := Value.int .i64 0) (q_assign rfl) ?_
      refine Wl.done ?_
      refine Wx.go ?_
      refine Wc.seq ?_
      refine Wc.seq ?_
      refine Wc.region ?_
      refine Wl.q (v := Value.int .i64 0) (q_move rfl) ?_
      refine Wl.q (v := Value.bool false) (q_neq (r := true) rfl rfl (decide_eq_true (by decide))) ?_
      refine Wl.done ?_
      refine Wx.go ?_
      refine Wc.no rfl ?_
      refine Wc.skip ?_
      refine Wx.go ?_
      refine Wc.seq ?_
      refine Wc.seq ?_
      refine Wc.region ?_
      refine Wl.q (v := Value.int .i64 0) (q_move rfl) ?_
      refine Wl.q (v := Value.bool false) (q_neq (r := true) rfl rfl (decide_eq_true (by decide))) ?_
      refine Wl.q (v := Value.bool false) (q_move rfl) ?_
      refine Wl.q (v := Value.int .i64 0) (q_move rfl) ?_
      refine Wl.q (v := Value.bool false) (q_neq (r := true) rfl rfl (decide_eq_true (by decide))) ?_
      refine Wl.q (v := Value.bool false) (q_pick (t := false) rfl rfl) ?_
      refine Wl.done ?_
      refine Wx.go ?_
      refine Wc.no rfl ?_
      refine Wc.skip ?_
      refine Wx.go ?_
      refine Wc.seq ?_
      refine Wc.region ?_
      have eT : (sl1 (build [] l) ++ [seal1 (build [] l) what]) = (build [] l) ++ [tkT, seal1 (build [] l) what] := by simp [sl1]
      refine Wl.imp (L' := (knowK k s (sl1 (build [] l) ++ [seal1 (build [] l) what]) (KL kn)) :: (storeI s (sl1 (build [] l) ++ [seal1 (build [] l) what])) :: F) (fun w hs => by have hs := (st_pull [1, 0] (hs)); have h2 := knowK_ext (xs := [tkT, seal1 (build [] l) what]) (eT ▸ w3) hs; rw [← eT] at h2; exact h2) ?_
      refine Wl.q (v := Value.pointer (some ⟨s, 0, none⟩)) (q_move hE9_0) ?_
      refine Wl.e (e_buildSlice0 se_23) (fun b4 _ => ?_)
      refine Wl.imp (L' := (sl 3 1 (Value.slice (some ⟨b4, 0, none⟩) 0 0) 0 []) :: (knowK k s (sl1 (build [] l) ++ [seal1 (build [] l) what]) (KL kn)) :: (storeI s (sl1 (build [] l) ++ [seal1 (build [] l) what])) :: F) (fun _ h => h) ?_
      refine Wl.q (v := vk) (q_move hE1_0) ?_
      refine Wl.e (e_append_rd (i := 0) (m := kn.length) (news := (kn.flatMap int1)) Try.underlying23 sz_3 by_3 zo_3 rfl rfl rfl rfl hk (by rw [flat_map1, List.length_map]) (int_cells kn) (by simp only [maxLen]; omega) (by omega)) (fun v5 _ => ?_)
      refine Wl.imp (L' := (sl 3 1 v5 (0 + kn.length) ([] ++ (kn.flatMap int1))) :: (knowK k s (sl1 (build [] l) ++ [seal1 (build [] l) what]) (KL kn)) :: (storeI s (sl1 (build [] l) ++ [seal1 (build [] l) what])) :: F) (fun _ h => h) ?_
      refine Wl.q (v := Value.int .i64 ((((build [] l).length + 2) : Nat) : Int)) (q_move rfl) ?_
      refine Wl.e (e_buildSlice (cs := [Value.int .i64 ((((build [] l).length + 2) : Nat) : Int)]) se_23 zo_3 (by decide) (by decide) (by kernel_rfl)) (fun b6 _ => ?_)
      refine Wl.imp (L' := (pt b6 3 ([Value.int .i64 ((((build [] l).length + 2) : Nat) : Int)])) :: (sl 3 1 v5 (0 + kn.length) ([] ++ (kn.flatMap int1))) :: (knowK k s (sl1 (build [] l) ++ [seal1 (build [] l) what]) (KL kn)) :: (storeI s (sl1 (build [] l) ++ [seal1 (build [] l) what])) :: F) (fun _ h => h) ?_
      refine Wl.e (e_append (i := 1) (k := 1) (m := 1) (off := 0) (news := [Value.int .i64 ((((build [] l).length + 2) : Nat) : Int)]) Try.underlying23 sz_3 by_3 zo_3 rfl rfl rfl rfl rfl (Has.of_pt (i := 0) rfl rfl) rfl (by decide) (by simp only [maxLen]; omega) (by omega)) (fun v7 _ => ?_)
      refine Wl.imp (L' := (pt b6 3 ([Value.int .i64 ((((build [] l).length + 2) : Nat) : Int)])) :: (sl 3 1 v7 ((0 + kn.length) + 1) (([] ++ (kn.flatMap int1)) ++ [Value.int .i64 ((((build [] l).length + 2) : Nat) : Int)])) :: (knowK k s (sl1 (build [] l) ++ [seal1 (build [] l) what]) (KL kn)) :: (storeI s (sl1 (build [] l) ++ [seal1 (build [] l) what])) :: F) (fun _ h => h) ?_
      have lA : (kn ++ [((((build [] l).length + 2) : Nat) : Int)]).length = kn.length + 1 := by simp
      refine Wl.imp (L' := (sl 3 1 v7 ((kn ++ [((((build [] l).length + 2) : Nat) : Int)]).length) ((kn ++ [((((build [] l).length + 2) : Nat) : Int)]).map intV)) :: (knowK k s (sl1 (build [] l) ++ [seal1 (build [] l) what]) (KL kn)) :: (storeI s (sl1 (build [] l) ++ [seal1 (build [] l) what])) :: F) (fun w hs => by have hs := (st_drop (st_pull [0] hs)); rw [flat_map1, Nat.zero_add, List.nil_append] at hs; rw [List.length_append, List.map_append]; exact hs) ?_
      refine Wl.imp (L' := (storeI s (sl1 (build [] l) ++ [seal1 (build [] l) what])) :: (sl 3 1 v7 ((kn ++ [((((build [] l).length + 2) : Nat) : Int)]).length) ((kn ++ [((((build [] l).length + 2) : Nat) : Int)]).map intV)) :: (knowK k s (sl1 (build [] l) ++ [seal1 (build [] l) what]) (KL kn)) :: F) (fun _ h => st_pull [2, 0] h) ?_
      refine Wl.e (e_call (F := (knowK k s (sl1 (build [] l) ++ [seal1 (build [] l) what]) (KL kn)) :: F) (args := [Value.pointer (some ⟨s, 0, none⟩), v7]) Try.call15 rfl (new_ok_sl W0 s (sl1 (build [] l) ++ [seal1 (build [] l) what]) w3 (by omega) (v7) (kn ++ [((((build [] l).length + 2) : Nat) : Int)]) (by omega) (by omega) (fun x hx => by rcases List.mem_append.1 hx with hx | hx; (have := hall0 x hx; omega); (rw [List.mem_singleton] at hx; omega)))) (fun k2 _ => ?_)
      refine Wl.imp (L' := (knowK k2 s (sl1 (build [] l) ++ [seal1 (build [] l) what]) (KL (kn ++ [((((build [] l).length + 2) : Nat) : Int)]))) :: (storeI s (sl1 (build [] l) ++ [seal1 (build [] l) what])) :: (sl 3 1 v7 ((kn ++ [((((build [] l).length + 2) : Nat) : Int)]).length) ((kn ++ [((((build [] l).length + 2) : Nat) : Int)]).map intV)) :: (knowK k s (sl1 (build [] l) ++ [seal1 (build [] l) what]) (KL kn)) :: F) (fun _ h => h) ?_
      refine Wl.q (v := Value.tuple #[Value.pointer (some ⟨k2, 0, none⟩), Value.int .i64 0]) (q_move rfl) ?_
      refine Wl.q (v := Value.pointer (some ⟨k2, 0, none⟩)) (q_extract (i := 0) rfl rfl) ?_
      refine Wl.q (v := Value.int .i64 0) (q_extract (i := 1) rfl rfl) ?_
      refine Wl.q (v := Value.pointer (some ⟨k2, 0, none⟩)) (q_assign rfl) ?_
      refine Wl.q (v := Value.int .i64 0) (q_assign rfl) ?_
      refine Wl.done ?_
      refine Wx.go ?_
      refine Wc.seq ?_
      refine Wc.seq ?_
      refine Wc.region ?_
      refine Wl.q (v := Value.int .i64 0) (q_move rfl) ?_
      refine Wl.q (v := Value.bool false) (q_neq (r := true) rfl rfl (decide_eq_true (by decide))) ?_
      refine Wl.q (v := Value.bool false) (q_move rfl) ?_
      refine Wl.q (v := Value.pointer (some ⟨k2, 0, none⟩)) (q_move rfl) ?_
      refine Wl.q (v := Value.int .i64 ((((build [] l).length + 2) : Nat) : Int)) (q_move rfl) ?_
      refine Wl.e (e_call (F := (sl 3 1 v7 ((kn ++ [((((build [] l).length + 2) : Nat) : Int)]).length) ((kn ++ [((((build [] l).length + 2) : Nat) : Int)]).map intV)) :: (knowK k s (sl1 (build [] l) ++ [seal1 (build [] l) what]) (KL kn)) :: F) (args := [Value.pointer (some ⟨k2, 0, none⟩), Value.int .i64 ((((build [] l).length + 2) : Nat) : Int)]) Try.call17 rfl (khas_is (b := true) W0 k2 s (sl1 (build [] l) ++ [seal1 (build [] l) what]) (KL (kn ++ [((((build [] l).length + 2) : Nat) : Int)])) ((((build [] l).length + 2) : Nat) : Int) (by omega) (derB_known (by simp) (by omega)))) (fun _ _ => ?_)
      refine Wl.imp (L' := (knowK k2 s (sl1 (build [] l) ++ [seal1 (build [] l) what]) (KL (kn ++ [((((build [] l).length + 2) : Nat) : Int)]))) :: (storeI s (sl1 (build [] l) ++ [seal1 (build [] l) what])) :: (sl 3 1 v7 ((kn ++ [((((build [] l).length + 2) : Nat) : Int)]).length) ((kn ++ [((((build [] l).length + 2) : Nat) : Int)]).map intV)) :: (knowK k s (sl1 (build [] l) ++ [seal1 (build [] l) what]) (KL kn)) :: F) (fun _ h => h) ?_
      refine Wl.q (v := Value.bool false) (q_not rfl rfl) ?_
      refine Wl.q (v := Value.bool false) (q_pick (t := false) rfl rfl) ?_
      refine Wl.done ?_
      refine Wx.go ?_
      refine Wc.no rfl ?_
      refine Wc.skip ?_
      refine Wx.go ?_
      refine Wc.seq ?_
      refine Wc.seq ?_
      refine Wc.region ?_
      refine Wl.q (v := Value.int .i64 1) (q_assign rfl) ?_
      refine Wl.done ?_
      refine Wx.go ?_
      refine Wc.block ?_
      refine Wc.loop (X := Nat) (fun j E => E 23 = Value.int .i64 (((j + 1) : Nat) : Int) ∧ E 12 = Value.int .i64 (((build [] l).length : Nat) : Int) ∧ E 16 = Value.pointer (some ⟨k, 0, none⟩) ∧ E 22 = Value.pointer (some ⟨k2, 0, none⟩) ∧ j ≤ (build [] l).length) (fun j => (knowK k s (sl1 (build [] l) ++ [seal1 (build [] l) what]) (KL kn)) :: (knowK k2 s (sl1 (build [] l) ++ [seal1 (build [] l) what]) (KL (kn ++ [((((build [] l).length + 2) : Nat) : Int)]))) :: (storeI s (sl1 (build [] l) ++ [seal1 (build [] l) what])) :: F) (fun j => (build [] l).length - j) 0 ?_ ?_ ?_
      · exact ⟨rfl, hE12_0, rfl, rfl, (by omega)⟩
      · exact fun w hs => (st_pull [2, 0, 0] (st_drop (st_pull [2] hs)))
      · rintro j E9 ⟨hE23_7, hE12_7, hE16_7, hE22_7, hj⟩
        refine Wc.seq ?_
        refine Wc.seq ?_
        refine Wc.region ?_
        refine Wl.q (v := Value.int .i64 (((j + 1) : Nat) : Int)) (q_move hE23_7) ?_
        refine Wl.q (v := Value.int .i64 (((build [] l).length : Nat) : Int)) (q_move hE12_7) ?_
        by_cases hlt2 : (((j + 1) : Nat) : Int) ≤ (((build [] l).length : Nat) : Int)
        ·
          refine Wl.q (v := Value.bool true) (q_leq (r := true) rfl rfl (decide_eq_true hlt2)) ?_
          refine Wl.done ?_
          refine Wx.go ?_
          refine Wc.yes rfl ?_
          refine Wc.skip ?_
          refine Wx.go ?_
          refine Wc.seq ?_
          refine Wc.block ?_
          refine Wc.seq ?_
          refine Wc.region ?_
          refine Wl.q (v := Value.pointer (some ⟨k, 0, none⟩)) (q_move hE16_7) ?_
          refine Wl.q (v := Value.int .i64 (((j + 1) : Nat) : Int)) (q_move hE23_7) ?_
          refine Wl.imp (L' := (knowK k s (sl1 (build [] l) ++ [seal1 (build [] l) what]) (KL kn)) :: (storeI s (sl1 (build [] l) ++ [seal1 (build [] l) what])) :: (knowK k2 s (sl1 (build [] l) ++ [seal1 (build [] l) what]) (KL (kn ++ [((((build [] l).length + 2) : Nat) : Int)]))) :: F) (fun _ h => st_pull [0, 1] h) ?_
          refine Wl.e (e_call (F := (knowK k2 s (sl1 (build [] l) ++ [seal1 (build [] l) what]) (KL (kn ++ [((((build [] l).length + 2) : Nat) : Int)]))) :: F) (args := [Value.pointer (some ⟨k, 0, none⟩), Value.int .i64 (((j + 1) : Nat) : Int)]) Try.call17 rfl (khas_c W0 k s (sl1 (build [] l) ++ [seal1 (build [] l) what]) (KL kn) (((j + 1) : Nat) : Int) (by omega))) (fun _ _ => ?_)
          refine Wl.imp (L' := (knowK k s (sl1 (build [] l) ++ [seal1 (build [] l) what]) (KL kn)) :: (storeI s (sl1 (build [] l) ++ [seal1 (build [] l) what])) :: (knowK k2 s (sl1 (build [] l) ++ [seal1 (build [] l) what]) (KL (kn ++ [((((build [] l).length + 2) : Nat) : Int)]))) :: F) (fun _ h => h) ?_
          refine Wl.q (v := Value.pointer (some ⟨k2, 0, none⟩)) (q_move hE22_7) ?_
          refine Wl.q (v := Value.int .i64 (((j + 1) : Nat) : Int)) (q_move hE23_7) ?_
          refine Wl.imp (L' := (knowK k2 s (sl1 (build [] l) ++ [seal1 (build [] l) what]) (KL (kn ++ [((((build [] l).length + 2) : Nat) : Int)]))) :: (storeI s (sl1 (build [] l) ++ [seal1 (build [] l) what])) :: (knowK k s (sl1 (build [] l) ++ [seal1 (build [] l) what]) (KL kn)) :: F) (fun _ h => st_pull [2, 1] h) ?_
          refine Wl.e (e_call (F := (knowK k s (sl1 (build [] l) ++ [seal1 (build [] l) what]) (KL kn)) :: F) (args := [Value.pointer (some ⟨k2, 0, none⟩), Value.int .i64 (((j + 1) : Nat) : Int)]) Try.call17 rfl (khas_c W0 k2 s (sl1 (build [] l) ++ [seal1 (build [] l) what]) (KL (kn ++ [((((build [] l).length + 2) : Nat) : Int)])) (((j + 1) : Nat) : Int) (by omega))) (fun _ _ => ?_)
          refine Wl.imp (L' := (knowK k2 s (sl1 (build [] l) ++ [seal1 (build [] l) what]) (KL (kn ++ [((((build [] l).length + 2) : Nat) : Int)]))) :: (storeI s (sl1 (build [] l) ++ [seal1 (build [] l) what])) :: (knowK k s (sl1 (build [] l) ++ [seal1 (build [] l) what]) (KL kn)) :: F) (fun _ h => h) ?_
          refine Wl.q (v := Value.bool false) (q_neq_bool (r := true) rfl rfl Try.underlying4 (beq_iff_eq.2 (seal_same1 w3 hall0 (by omega)))) ?_
          refine Wl.done ?_
          refine Wx.go ?_
          refine Wc.no rfl ?_
          refine Wc.skip ?_
          refine Wx.blockEnd ?_
          refine Wx.go ?_
          refine Wc.region ?_
          refine Wl.q (v := Value.int .i64 (((j + 1) : Nat) : Int)) (q_move hE23_7) ?_
          refine Wl.q (v := Value.int .i64 (((j + 1) + 1 : Nat) : Int)) (q_add (c := (((j + 1) + 1 : Nat) : Int)) rfl rfl (by rw [wrap_i64] <;> omega)) ?_
          refine Wl.q (v := Value.int .i64 (((j + 1) + 1 : Nat) : Int)) (q_assign rfl) ?_
          refine Wl.done ?_
          refine Wx.at (j + 1) ⟨(by omega), rfl, hE12_7, hE16_7, hE22_7, (by omega)⟩ (fun w hs => (st_pull [2, 0, 0] (hs)))
        ·
          refine Wl.q (v := Value.bool false) (q_leq (r := false) rfl rfl (decide_eq_false hlt2)) ?_
          refine Wl.done ?_
          refine Wx.go ?_
          refine Wc.no rfl ?_
          refine Wc.exit ?_
          refine Wx.thenExit ?_
          refine Wx.thenExit ?_
          refine Wx.out ?_
          refine Wx.go ?_
          refine Wc.seq ?_
          refine Wc.region ?_
          refine Wl.e (e_call (F := (knowK k s (sl1 (build [] l) ++ [seal1 (build [] l) what]) (KL kn)) :: (knowK k2 s (sl1 (build [] l) ++ [seal1 (build [] l) what]) (KL (kn ++ [((((build [] l).length + 2) : Nat) : Int)]))) :: (storeI s (sl1 (build [] l) ++ [seal1 (build [] l) what])) :: F) (args := []) Try.call12 rfl (lives_c W0)) (fun _ _ => ?_)
          refine Wl.imp (L' := (knowK k s (sl1 (build [] l) ++ [seal1 (build [] l) what]) (KL kn)) :: (knowK k2 s (sl1 (build [] l) ++ [seal1 (build [] l) what]) (KL (kn ++ [((((build [] l).length + 2) : Nat) : Int)]))) :: (storeI s (sl1 (build [] l) ++ [seal1 (build [] l) what])) :: F) (fun _ h => h) ?_
          refine Wl.q (v := Value.bool true) (q_assign rfl) ?_
          refine Wl.done ?_
          refine Wx.go ?_
          refine Wc.ret ?_
          refine Wx.fin1 rfl (.inl rfl) (fun w hs => ?_)
          exact ⟨(), trivial, rfl, (st_drop (st_drop (st_drop (st_pull [0, 0, 0] hs))))⟩

set_option maxRecDepth 4000 in
theorem sealed_bad_f (W0 : World) (vl : Value) (l : List TermR) (hl : Rd W0 vl l.length (l.flatMap termCells)) (hlm : l.length ≤ 9223372036854775807) (hlo : ∀ x ∈ l, okT x) (vk : Value) (kn : List Int) (hk : Rd W0 vk kn.length (kn.flatMap int1)) (hkm : kn.length ≤ 9223372036854775807) (what : Int) (hs1 : l.length ≤ 300) (hs2 : kn.length ≤ 500) (hwh : (1 ≤ what ∧ what ≤ ((build [] l).length : Int))) (hbad : ∃ x ∈ kn, ¬ (1 ≤ x ∧ x ≤ ((build [] l).length : Int))) :
    Con Try.prog W0 5 #[vl, vk, Value.int .i64 what, Value.bool false] [] (X := Unit) (fun _ => True) (fun _ => .bool true) (fun _ => []) := by
  refine Con.of (args := [vl, vk, Value.int .i64 what, Value.bool false]) Try.func5 rfl Try.ntmps5 rfl (fun F => ?_)
  show Wc _ W0 _ _ _ _ _ (F)
  refine Wc.seq ?_
  refine Wc.region ?_
  refine Wl.q (v := Value.bool false) (q_assign rfl) ?_
  refine Wl.done ?_
  refine Wx.go ?_
  refine Wc.seq ?_
  refine Wc.seq ?_
  refine Wc.region ?_
  refine Wl.q (v := vl) (q_move rfl) ?_
  refine Wl.q (v := Value.int .i64 ((l.length : Nat) : Int)) (q_len_is Try.underlying22 rfl hl.shape) ?_
  refine Wl.q (v := Value.bool false) (q_gtr (r := false) rfl rfl (decide_eq_false (by omega))) ?_
  refine Wl.q (v := Value.bool false) (q_move rfl) ?_
  refine Wl.q (v := vk) (q_move rfl) ?_
  refine Wl.q (v := Value.int .i64 ((kn.length : Nat) : Int)) (q_len_is Try.underlying23 rfl hk.shape) ?_
  refine Wl.q (v := Value.bool false) (q_gtr (r := false) rfl rfl (decide_eq_false (by omega))) ?_
  refine Wl.q (v := Value.bool false) (q_pick (t := false) rfl rfl) ?_
  refine Wl.done ?_
  refine Wx.go ?_
  refine Wc.no rfl ?_
  refine Wc.skip ?_
  refine Wx.go ?_
  refine Wc.seq ?_
  refine Wc.region ?_
  refine Wl.q (v := vl) (q_move rfl) ?_
  refine Wl.e (e_call (F := F) (args := [vl]) Try.call9 rfl (build_c W0 vl l hl (by omega) hlo)) (fun ⟨s, r⟩ _ => ?_)
  refine Wl.imp (L' := (storeI s (build [] l)) :: (refI r (build [] l)) :: F) (fun _ h => h) ?_
  have hw := build_all hlo
  have hT := build_all_le l
  refine Wl.q (v := Value.tuple #[Value.pointer (some ⟨s, 0, none⟩), Value.pointer (some ⟨r, 0, none⟩), Value.bool true]) (q_move rfl) ?_
  refine Wl.q (v := Value.pointer (some ⟨s, 0, none⟩)) (q_extract (i := 0) rfl rfl) ?_
  refine Wl.q (v := Value.pointer (some ⟨r, 0, none⟩)) (q_extract (i := 1) rfl rfl) ?_
  refine Wl.q (v := Value.bool true) (q_extract (i := 2) rfl rfl) ?_
  refine Wl.q (v := Value.pointer (some ⟨s, 0, none⟩)) (q_assign rfl) ?_
  refine Wl.q (v := Value.pointer (some ⟨r, 0, none⟩)) (q_assign rfl) ?_
  refine Wl.q (v := Value.bool true) (q_assign rfl) ?_
  refine Wl.done ?_
  refine Wx.go ?_
  refine Wc.seq ?_
  refine Wc.seq ?_
  refine Wc.region ?_
  refine Wl.q (v := Value.bool true) (q_move rfl) ?_
  refine Wl.q (v := Value.bool false) (q_not rfl rfl) ?_
  refine Wl.done ?_
  refine Wx.go ?_
  refine Wc.no rfl ?_
  refine Wc.skip ?_
  refine Wx.go ?_
  refine Wc.seq ?_
  refine Wc.region ?_
  refine Wl.q (v := Value.pointer (some ⟨s, 0, none⟩)) (q_move rfl) ?_
  refine Wl.e (e_call (F := (refI r (build [] l)) :: F) (args := [Value.pointer (some ⟨s, 0, none⟩)]) Try.call13 rfl (len_c W0 s (build [] l))) (fun _ _ => ?_)
  refine Wl.imp (L' := (storeI s (build [] l)) :: (refI r (build [] l)) :: F) (fun _ h => h) ?_
  refine Wl.q (v := Value.int .i64 (((build [] l).length : Nat) : Int)) (q_assign rfl) ?_
  refine Wl.done ?_
  refine Wx.go ?_
  refine Wc.seq ?_
  refine Wc.seq ?_
  refine Wc.region ?_
  refine Wl.q (v := Value.int .i64 what) (q_move rfl) ?_
  refine Wl.q (v := Value.bool false) (q_lss (r := false) rfl rfl (decide_eq_false (by omega))) ?_
  refine Wl.q (v := Value.bool false) (q_move rfl) ?_
  refine Wl.q (v := Value.int .i64 what) (q_move rfl) ?_
  refine Wl.q (v := Value.int .i64 (((build [] l).length : Nat) : Int)) (q_move rfl) ?_
  refine Wl.q (v := Value.bool false) (q_gtr (r := false) rfl rfl (decide_eq_false (by omega))) ?_
  refine Wl.q (v := Value.bool false) (q_pick (t := false) rfl rfl) ?_
  refine Wl.done ?_
  refine Wx.go ?_
  refine Wc.no rfl ?_
  refine Wc.skip ?_
  refine Wx.go ?_
  refine Wc.seq ?_
  refine Wc.seq ?_
  refine Wc.region ?_
  refine Wl.q (v := Value.int .i64 1) (q_assign rfl) ?_
  refine Wl.done ?_
  refine Wx.go ?_
  refine Wc.block ?_
  refine Wc.loop (X := Nat) (fun j E => E 13 = Value.int .i64 (((j + 1) : Nat) : Int) ∧ E 1 = vk ∧ E 2 = Value.int .i64 what ∧ E 3 = Value.bool false ∧ E 9 = Value.pointer (some ⟨s, 0, none⟩) ∧ E 12 = Value.int .i64 (((build [] l).length : Nat) : Int) ∧ j ≤ (build [] l).length ∧ (∀ t ∈ (build [] l).take j, ¬ (t.kind = 1 ∧ t.n = 1125899906842624))) (fun j => (storeI s (build [] l)) :: F) (fun j => (build [] l).length - j) 0 ?_ ?_ ?_
  · exact ⟨rfl, rfl, rfl, rfl, rfl, rfl, (by omega), (fun t ht => by simp at ht)⟩
  · exact fun w hs => (st_drop (st_pull [1] hs))
  · rintro j E2 ⟨hE13_0, hE1_0, hE2_0, hE3_0, hE9_0, hE12_0, hj, hall⟩
    refine Wc.seq ?_
    refine Wc.seq ?_
    refine Wc.region ?_
    refine Wl.q (v := Value.int .i64 (((j + 1) : Nat) : Int)) (q_move hE13_0) ?_
    refine Wl.q (v := Value.int .i64 (((build [] l).length : Nat) : Int)) (q_move hE12_0) ?_
    by_cases hlt : (((j + 1) : Nat) : Int) ≤ (((build [] l).length : Nat) : Int)
    ·
      obtain ⟨u, hget⟩ : ∃ u, (build [] l)[j]? = some u := ⟨(build [] l)[j]'(by omega), List.getElem?_eq_getElem (by omega)⟩
      refine Wl.q (v := Value.bool true) (q_leq (r := true) rfl rfl (decide_eq_true hlt)) ?_
      refine Wl.done ?_
      refine Wx.go ?_
      refine Wc.yes rfl ?_
      refine Wc.skip ?_
      refine Wx.go ?_
      refine Wc.seq ?_
      refine Wc.block ?_
      refine Wc.seq ?_
      refine Wc.region ?_
      refine Wl.q (v := Value.pointer (some ⟨s, 0, none⟩)) (q_move hE9_0) ?_
      refine Wl.q (v := Value.int .i64 (((j + 1) : Nat) : Int)) (q_move hE13_0) ?_
      refine Wl.e (e_call (F := F) (args := [Value.pointer (some ⟨s, 0, none⟩), Value.int .i64 (((j + 1) : Nat) : Int)]) Try.call18 rfl (get_c W0 s (build [] l) (((j + 1) : Nat) : Int) (by omega) u (by omega) (by rw [show (((j + 1 : Nat) : Int) - 1).toNat = j by omega]; exact hget))) (fun _ _ => ?_)
      refine Wl.imp (L' := (storeI s (build [] l)) :: F) (fun _ h => h) ?_
      refine Wl.q (v := Value.tuple #[Value.agg #[Value.int .u8 ((u.kind : Nat) : Int), Value.int .i64 u.n, Value.int .i64 u.a, Value.int .i64 u.b], Value.bool true]) (q_move rfl) ?_
      refine Wl.q (v := Value.agg #[Value.int .u8 ((u.kind : Nat) : Int), Value.int .i64 u.n, Value.int .i64 u.a, Value.int .i64 u.b]) (q_extract (i := 0) rfl rfl) ?_
      refine Wl.q (v := Value.bool true) (q_extract (i := 1) rfl rfl) ?_
      refine Wl.e (e_alloc (vs := [Value.int .u8 0, Value.int .i64 0, Value.int .i64 0, Value.int .i64 0]) zo_46 rfl) (fun b3 _ => ?_)
      refine Wl.imp (L' := (pt b3 46 [Value.int .u8 0, Value.int .i64 0, Value.int .i64 0, Value.int .i64 0]) :: (storeI s (build [] l)) :: F) (fun _ h => h) ?_
      refine Wl.e (e_storeAgg (i := 0) (vs := [Value.int .u8 ((u.kind : Nat) : Int), Value.int .i64 u.n, Value.int .i64 u.a, Value.int .i64 u.b]) (c' := [Value.int .u8 ((u.kind : Nat) : Int), Value.int .i64 u.n, Value.int .i64 u.a, Value.int .i64 u.b]) sz_46 rfl rfl rfl rfl (by simp) rfl) (fun _ _ => ?_)
      refine Wl.imp (L' := (pt b3 46 [Value.int .u8 ((u.kind : Nat) : Int), Value.int .i64 u.n, Value.int .i64 u.a, Value.int .i64 u.b]) :: (storeI s (build [] l)) :: F) (fun _ h => h) ?_
      refine Wl.q (v := Value.bool true) (q_assign rfl) ?_
      refine Wl.done ?_
      refine Wx.go ?_
      refine Wc.seq ?_
      refine Wc.region ?_
      refine Wl.q (v := Value.pointer (some ⟨b3, 0, none⟩)) (q_field (m := 0) fo_46_0 rfl rfl) ?_
      refine Wl.q (v := Value.int .u8 ((u.kind : Nat) : Int)) (q_load sc_44 rfl (.cel (i := 0) rfl rfl)) ?_
      by_cases hk1 : ((u.kind : Nat) : Int) = 1
      ·
        refine Wl.q (v := Value.bool true) (q_eql (r := true) rfl rfl (decide_eq_true hk1)) ?_
        refine Wl.q (v := Value.bool true) (q_move rfl) ?_
        refine Wl.q (v := Value.pointer (some ⟨b3, 1, none⟩)) (q_field (m := 1) fo_46_1 rfl rfl) ?_
        refine Wl.q (v := Value.int .i64 u.n) (q_load sc_2 rfl (.cel (i := 0) rfl rfl)) ?_
        by_cases hn50 : u.n = 1125899906842624
        ·
          refine Wl.q (v := Value.bool true) (q_eql (r := true) rfl rfl (decide_eq_true hn50)) ?_
          refine Wl.q (v := Value.bool true) (q_pick (t := true) rfl rfl) ?_
          refine Wl.done ?_
          refine Wx.go ?_
          refine Wc.yes rfl ?_
          refine Wc.seq ?_
          refine Wc.region ?_
          refine Wl.e (e_call (F := (pt b3 46 [Value.int .u8 ((u.kind : Nat) : Int), Value.int .i64 u.n, Value.int .i64 u.a, Value.int .i64 u.b]) :: (storeI s (build [] l)) :: F) (args := []) Try.call12 rfl (lives_c W0)) (fun _ _ => ?_)
          refine Wl.imp (L' := (pt b3 46 [Value.int .u8 ((u.kind : Nat) : Int), Value.int .i64 u.n, Value.int .i64 u.a, Value.int .i64 u.b]) :: (storeI s (build [] l)) :: F) (fun _ h => h) ?_
          refine Wl.q (v := Value.bool true) (q_assign rfl) ?_
          refine Wl.done ?_
          refine Wx.go ?_
          refine Wc.ret ?_
          refine Wx.blockRet ?_
          refine Wx.thenRet ?_
          refine Wx.thenRet ?_
          refine Wx.blockRet ?_
          refine Wx.thenRet ?_
          refine Wx.fin1 rfl (.inl rfl) (fun w hs => ?_)
          exact ⟨(), trivial, rfl, (st_drop (st_drop (st_pull [0, 0] hs)))⟩
        ·
          refine Wl.q (v := Value.bool false) (q_eql (r := false) rfl rfl (decide_eq_false hn50)) ?_
          refine Wl.q (v := Value.bool false) (q_pick (t := true) rfl rfl) ?_
          refine Wl.done ?_
          refine Wx.go ?_
          refine Wc.no rfl ?_
          refine Wc.skip ?_
          refine Wx.blockEnd ?_
          refine Wx.go ?_
          refine Wc.region ?_
          refine Wl.q (v := Value.int .i64 (((j + 1) : Nat) : Int)) (q_move hE13_0) ?_
          refine Wl.q (v := Value.int .i64 (((j + 1) + 1 : Nat) : Int)) (q_add (c := (((j + 1) + 1 : Nat) : Int)) rfl rfl (by rw [wrap_i64] <;> omega)) ?_
          refine Wl.q (v := Value.int .i64 (((j + 1) + 1 : Nat) : Int)) (q_assign rfl) ?_
          refine Wl.done ?_
          refine Wx.at (j + 1) ⟨(by omega), rfl, hE1_0, hE2_0, hE3_0, hE9_0, hE12_0, (by omega), (take_not hget hall (fun h => hn50 h.2))⟩ (fun w hs => (st_drop (st_pull [0] hs)))
      ·
        refine Wl.q (v := Value.bool false) (q_eql (r := false) rfl rfl (decide_eq_false hk1)) ?_
        refine Wl.q (v := Value.bool false) (q_move rfl) ?_
        refine Wl.no ?_
        refine Wl.no ?_
        refine Wl.no ?_
        refine Wl.q (v := Value.bool false) (q_pick (t := false) rfl rfl) ?_
        refine Wl.done ?_
        refine Wx.go ?_
        refine Wc.no rfl ?_
        refine Wc.skip ?_
        refine Wx.blockEnd ?_
        refine Wx.go ?_
        refine Wc.region ?_
        refine Wl.q (v := Value.int .i64 (((j + 1) : Nat) : Int)) (q_move hE13_0) ?_
        refine Wl.q (v := Value.int .i64 (((j + 1) + 1 : Nat) : Int)) (q_add (c := (((j + 1) + 1 : Nat) : Int)) rfl rfl (by rw [wrap_i64] <;> omega)) ?_
        refine Wl.q (v := Value.int .i64 (((j + 1) + 1 : Nat) : Int)) (q_assign rfl) ?_
        refine Wl.done ?_
        refine Wx.at (j + 1) ⟨(by omega), rfl, hE1_0, hE2_0, hE3_0, hE9_0, hE12_0, (by omega), (take_not hget hall (fun h => hk1 (by omega)))⟩ (fun w hs => (st_drop (st_pull [0] hs)))
    ·
      have hno : ∀ t ∈ (build [] l), ¬ (t.kind = 1 ∧ t.n = 1125899906842624) := by rw [show j = (build [] l).length by omega, List.take_length] at hall; exact hall
      have e1 := mk_tk (ts := (build [] l)) (by omega) hno
      have w1 := sl1_wf hw (by omega) hno
      have l1 := sl1_len (build [] l)
      have e3 := mk_seal1 w1 (by omega) hwh
      have w3 := seal1_wf w1 (by omega) hwh
      have l3 : (sl1 (build [] l) ++ [seal1 (build [] l) what]).length = (build [] l).length + 2 := by rw [List.length_append]; simp only [List.length_singleton]; omega
      refine Wl.q (v := Value.bool false) (q_leq (r := false) rfl rfl (decide_eq_false hlt)) ?_
      refine Wl.done ?_
      refine Wx.go ?_
      refine Wc.no rfl ?_
      refine Wc.exit ?_
      refine Wx.thenExit ?_
      refine Wx.thenExit ?_
      refine Wx.out ?_
      refine Wx.go ?_
      refine Wc.seq ?_
      refine Wc.region ?_
      refine Wl.q (v := Value.pointer (some ⟨s, 0, none⟩)) (q_move hE9_0) ?_
      refine Wl.q (v := vk) (q_move hE1_0) ?_
      refine Wl.e (e_call (F := F) (args := [Value.pointer (some ⟨s, 0, none⟩), vk]) Try.call15 rfl (new_bad_ro W0 s (build [] l) hw (by omega) (vk) kn hk (by omega) (by omega) hbad)) (fun _ _ => ?_)
      refine Wl.imp (L' := (storeI s (build [] l)) :: F) (fun _ h => h) ?_
      refine Wl.q (v := Value.tuple #[Value.pointer none, Value.int .i64 1]) (q_move rfl) ?_
      refine Wl.q (v := Value.pointer none) (q_extract (i := 0) rfl rfl) ?_
      refine Wl.q (v := Value.int .i64 1) (q_extract (i := 1) rfl rfl) ?_
      refine Wl.q (v := Value.pointer none) (q_assign rfl) ?_
      refine Wl.q (v := Value.int .i64 1) (q_assign rfl) ?_
      refine Wl.done ?_
      refine Wx.go ?_
      refine Wc.seq ?_
      refine Wc.region ?_
      refine Wl.q (v := Value.pointer (some ⟨s, 0, none⟩)) (q_move hE9_0) ?_
      refine Wl.q (v := Value.agg #[Value.int .u8 1, Value.int .i64 1125899906842624, Value.int .i64 0, Value.int .i64 0]) (q_build (pl := [(0, 1), (1, 1), (2, 1), (3, 1)]) Try.underlying46 zo_46 (by kernel_rfl) (by kernel_rfl)) ?_
      refine Wl.e (e_call (F := F) (args := [Value.pointer (some ⟨s, 0, none⟩), Value.agg #[Value.int .u8 1, Value.int .i64 1125899906842624, Value.int .i64 0, Value.int .i64 0]]) Try.call19 rfl (Con.eqs (val' := fun _ => .tuple #[.int .i64 ((((build [] l).length + 1) : Nat) : Int), .int .i64 0]) (post' := fun _ => [storeI s (sl1 (build [] l))]) (make_c W0 s (build [] l) tkT hw (by omega) (ok4 (by decide) (by decide) (by decide) (by omega) (by omega) (by omega) (by omega))) (fun _ => by rw [e1]) (fun _ => by rw [e1]))) (fun _ _ => ?_)
      refine Wl.imp (L' := (storeI s (sl1 (build [] l))) :: F) (fun _ h => h) ?_
      refine Wl.q (v := Value.tuple #[Value.int .i64 ((((build [] l).length + 1) : Nat) : Int), Value.int .i64 0]) (q_move rfl) ?_
      refine Wl.q (v := Value.int .i64 ((((build [] l).length + 1) : Nat) : Int)) (q_extract (i := 0) rfl rfl) ?_
      refine Wl.q (v := Value.int .i64 0) (q_extract (i := 1) rfl rfl) ?_
      refine Wl.q (v := Value.int .i64 ((((build [] l).length + 1) : Nat) : Int)) (q_assign rfl) ?_
      refine Wl.q (v := Value.int .i64 0) (q_assign rfl) ?_
      refine Wl.done ?_
      refine Wx.go ?_
      refine Wc.seq ?_
      refine Wc.seq ?_
      refine Wc.region ?_
      refine Wl.q (v := Value.int .i64 0) (q_move rfl) ?_
      refine Wl.q (v := Value.bool true) (q_eql (r := true) rfl rfl (decide_eq_true (by decide))) ?_
      refine Wl.q (v := Value.bool true) (q_move rfl) ?_
      refine Wl.q (v := Value.bool false) (q_move hE3_0) ?_
      refine Wl.q (v := Value.bool false) (q_pick (t := true) rfl rfl) ?_
      refine Wl.done ?_
      refine Wx.go ?_
      refine Wc.no rfl ?_
      refine Wc.skip ?_
      refine Wx.go ?_
      refine Wc.seq ?_
      refine Wc.region ?_
      refine Wl.q (v := Value.pointer (some ⟨s, 0, none⟩)) (q_move hE9_0) ?_
      refine Wl.q (v := Value.int .i64 ((((build [] l).length + 1) : Nat) : Int)) (q_move rfl) ?_
      refine Wl.q (v := Value.int .i64 what) (q_move hE2_0) ?_
      refine Wl.q (v := Value.agg #[Value.int .u8 6, Value.int .i64 0, Value.int .i64 ((((build [] l).length + 1) : Nat) : Int), Value.int .i64 what]) (q_build (pl := [(0, 1), (1, 1), (2, 1), (3, 1)]) Try.underlying46 zo_46 (by kernel_rfl) (by kernel_rfl)) ?_
      refine Wl.e (e_call (F := F) (args := [Value.pointer (some ⟨s, 0, none⟩), Value.agg #[Value.int .u8 6, Value.int .i64 0, Value.int .i64 ((((build [] l).length + 1) : Nat) : Int), Value.int .i64 what]]) Try.call19 rfl (Con.eqs (val' := fun _ => .tuple #[.int .i64 ((((build [] l).length + 2) : Nat) : Int), .int .i64 0]) (post' := fun _ => [storeI s (sl1 (build [] l) ++ [seal1 (build [] l) what])]) (make_c W0 s (sl1 (build [] l)) (seal1 (build [] l) what) w1 (by omega) (ok4 (by decide) (by decide) (by decide) (by omega) (by omega) (by omega) (by omega))) (fun _ => by rw [e3]) (fun _ => by rw [e3]))) (fun _ _ => ?_)
      refine Wl.imp (L' := (storeI s (sl1 (build [] l) ++ [seal1 (build [] l) what])) :: F) (fun _ h => h) ?_
      refine Wl.q (v := Value.tuple #[Value.int .i64 ((((build [] l).length + 2) : Nat) : Int), Value.int .i64 0]) (q_move rfl) ?_
      refine Wl.q (v := Value.int .i64 ((((build [] l).length + 2) : Nat) : Int)) (q_extract (i := 0) rfl rfl) ?_
      refine Wl.q (v := Value.int .i64 0) (q_extract (i := 1) rfl rfl) ?_
      refine Wl.q (v := Value.int .i64 ((((build [] l).length + 2) : Nat) : Int)) (q_assign rfl) ?_
      refine Wl.q (v := Value.int .i64 0) (q_assign rfl) ?_
      refine Wl.done ?_
      refine Wx.go ?_
      refine Wc.seq ?_
      refine Wc.seq ?_
      refine Wc.region ?_
      refine Wl.q (v := Value.int .i64 1) (q_move rfl) ?_
      refine Wl.q (v := Value.bool true) (q_neq (r := false) rfl rfl (decide_eq_false (by decide))) ?_
      refine Wl.done ?_
      refine Wx.go ?_
      refine Wc.yes rfl ?_
      refine Wc.seq ?_
      refine Wc.region ?_
      refine Wl.e (e_call (F := (storeI s (sl1 (build [] l) ++ [seal1 (build [] l) what])) :: F) (args := []) Try.call12 rfl (lives_c W0)) (fun _ _ => ?_)
      refine Wl.imp (L' := (storeI s (sl1 (build [] l) ++ [seal1 (build [] l) what])) :: F) (fun _ h => h) ?_
      refine Wl.q (v := Value.bool true) (q_assign rfl) ?_
      refine Wl.done ?_
      refine Wx.go ?_
      refine Wc.ret ?_
      refine Wx.thenRet ?_
      refine Wx.fin1 rfl (.inl rfl) (fun w hs => ?_)
      exact ⟨(), trivial, rfl, (st_drop (st_pull [0] hs))⟩

theorem sealed_law (W0 : World) (vl : Value) (l : List TermR) (hl : Rd W0 vl l.length (l.flatMap termCells)) (hlm : l.length ≤ 9223372036854775807) (hlo : ∀ x ∈ l, okT x) (vk : Value) (kn : List Int) (hk : Rd W0 vk kn.length (kn.flatMap int1)) (hkm : kn.length ≤ 9223372036854775807) (what : Int) (pub : Bool)  : Con Try.prog W0 5 #[vl, vk, Value.int .i64 what, Value.bool pub] [] (X := Unit) (fun _ => True) (fun _ => .bool true) (fun _ => []) := by
  by_cases hbig : 300 < l.length ∨ 500 < kn.length
  · cases pub
    · exact sealed_big_f W0 vl l hl hlm hlo vk kn hk hkm what hbig
    · exact sealed_big_t W0 vl l hl hlm hlo vk kn hk hkm what hbig
  by_cases hwh : (1 ≤ what ∧ what ≤ ((build [] l).length : Int))
  · rcases all_or_bad kn ((build [] l).length : Int) with hall | hbad <;> cases pub
    · exact sealed_ok_f W0 vl l hl hlm hlo vk kn hk hkm what (by omega) (by omega) hwh hall
    · exact sealed_ok_t W0 vl l hl hlm hlo vk kn hk hkm what (by omega) (by omega) hwh hall
    · exact sealed_bad_f W0 vl l hl hlm hlo vk kn hk hkm what (by omega) (by omega) hwh hbad
    · exact sealed_bad_t W0 vl l hl hlm hlo vk kn hk hkm what (by omega) (by omega) hwh hbad
  · cases pub
    · exact sealed_what_f W0 vl l hl hlm hlo vk kn hk hkm what (by omega) (by omega) hwh
    · exact sealed_what_t W0 vl l hl hlm hlo vk kn hk hkm what (by omega) (by omega) hwh

end Go.Proofs.Ytmghnmfhniohkaa
