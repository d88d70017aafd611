/- What follows: contracts of the calls. -/
import Derived.Test.YtmghnmfhniohkaaDdN
import Derived.Test.YtmghnmfhniohkaaDdP
import Derived.Test.YtmghnmfhniohkaaSLA
namespace Go.Proofs.Ytmghnmfhniohkaa
open Go Go.SL Go.Dd Go.RowKit
set_option linter.unusedVariables false

theorem learns_big (W0 : World) (vl : Value) (l : List TermR) (hl : Rd W0 vl l.length (l.flatMap termCells)) (hlm : l.length ≤ 9223372036854775807) (hlo : ∀ x ∈ l, okT x) (vk : Value) (kn : List Int) (hk : Rd W0 vk kn.length (kn.flatMap int1)) (hkm : kn.length ≤ 9223372036854775807) (vi : Value) (li : List Int) (hli : Rd W0 vi li.length (li.flatMap int1)) (hlim : li.length ≤ 9223372036854775807) (hbig : 600 < l.length ∨ 300 < kn.length ∨ 300 < li.length) :
    Con Try.prog W0 7 #[vl, vk, vi] [] (X := Unit) (fun _ => True) (fun _ => .bool true) (fun _ => []) := by
  refine Con.of (args := [vl, vk, vi]) Try.func7 rfl Try.ntmps7 rfl (fun F => ?_)
  show Wc _ W0 _ _ _ _ _ (F)
  refine Wc.seq ?_
  refine Wc.region ?_
  refine Wl.q (v := Value.bool false) (q_assign rfl) ?_
  refine Wl.done ?_
  refine Wx.go ?_
  refine Wc.seq ?_
  refine Wc.seq ?_
  refine Wc.region ?_
  refine Wl.q (v := vl) (q_move rfl) ?_
  refine Wl.q (v := Value.int .i64 ((l.length : Nat) : Int)) (q_len_is Try.underlying22 rfl hl.shape) ?_
  by_cases hb1 : ((l.length : Nat) : Int) > 600
  ·
    refine Wl.q (v := Value.bool true) (q_gtr (r := true) rfl rfl (decide_eq_true hb1)) ?_
    refine Wl.q (v := Value.bool true) (q_move rfl) ?_
    refine Wl.no ?_
    refine Wl.no ?_
    refine Wl.no ?_
    refine Wl.q (v := Value.bool true) (q_pick (t := true) rfl rfl) ?_
    refine Wl.q (v := Value.bool true) (q_move rfl) ?_
    refine Wl.no ?_
    refine Wl.no ?_
    refine Wl.no ?_
    refine Wl.q (v := Value.bool true) (q_pick (t := true) rfl rfl) ?_
    refine Wl.done ?_
    refine Wx.go ?_
    refine Wc.yes rfl ?_
    refine Wc.seq ?_
    refine Wc.region ?_
    refine Wl.q (v := Value.bool true) (q_assign rfl) ?_
    refine Wl.done ?_
    refine Wx.go ?_
    refine Wc.ret ?_
    refine Wx.thenRet ?_
    refine Wx.fin1 rfl (.inl rfl) (fun w hs => ?_)
    exact ⟨(), trivial, rfl, hs⟩
  ·
    refine Wl.q (v := Value.bool false) (q_gtr (r := false) rfl rfl (decide_eq_false hb1)) ?_
    refine Wl.q (v := Value.bool false) (q_move rfl) ?_
    refine Wl.q (v := vk) (q_move rfl) ?_
    refine Wl.q (v := Value.int .i64 ((kn.length : Nat) : Int)) (q_len_is Try.underlying23 rfl hk.shape) ?_
    by_cases hb2 : ((kn.length : Nat) : Int) > 300
    ·
      refine Wl.q (v := Value.bool true) (q_gtr (r := true) rfl rfl (decide_eq_true hb2)) ?_
      refine Wl.q (v := Value.bool true) (q_pick (t := false) rfl rfl) ?_
      refine Wl.q (v := Value.bool true) (q_move rfl) ?_
      refine Wl.no ?_
      refine Wl.no ?_
      refine Wl.no ?_
      refine Wl.q (v := Value.bool true) (q_pick (t := true) rfl rfl) ?_
      refine Wl.done ?_
      refine Wx.go ?_
      refine Wc.yes rfl ?_
      refine Wc.seq ?_
      refine Wc.region ?_
      refine Wl.q (v := Value.bool true) (q_assign rfl) ?_
      refine Wl.done ?_
      refine Wx.go ?_
      refine Wc.ret ?_
      refine Wx.thenRet ?_
      refine Wx.fin1 rfl (.inl rfl) (fun w hs => ?_)
      exact ⟨(), trivial, rfl, hs⟩
    ·
      refine Wl.q (v := Value.bool false) (q_gtr (r := false) rfl rfl (decide_eq_false hb2)) ?_
      refine Wl.q (v := Value.bool false) (q_pick (t := false) rfl rfl) ?_
      refine Wl.q (v := Value.bool false) (q_move rfl) ?_
      refine Wl.q (v := vi) (q_move rfl) ?_
      refine Wl.q (v := Value.int .i64 ((li.length : Nat) : Int)) (q_len_is Try.underlying23 rfl hli.shape) ?_
      by_cases hb3 : ((li.length : Nat) : Int) > 300
      ·
        refine Wl.q (v := Value.bool true) (q_gtr (r := true) rfl rfl (decide_eq_true hb3)) ?_
        refine Wl.q (v := Value.bool true) (q_pick (t := false) rfl rfl) ?_
        refine Wl.done ?_
        refine Wx.go ?_
        refine Wc.yes rfl ?_
        refine Wc.seq ?_
        refine Wc.region ?_
        refine Wl.q (v := Value.bool true) (q_assign rfl) ?_
        refine Wl.done ?_
        refine Wx.go ?_
        refine Wc.ret ?_
        refine Wx.thenRet ?_
        refine Wx.fin1 rfl (.inl rfl) (fun w hs => ?_)
        exact ⟨(), trivial, rfl, hs⟩
      ·
        exfalso; omega

theorem learns_bad (W0 : World) (vl : Value) (l : List TermR) (hl : Rd W0 vl l.length (l.flatMap termCells)) (hlm : l.length ≤ 9223372036854775807) (hlo : ∀ x ∈ l, okT x) (vk : Value) (kn : List Int) (hk : Rd W0 vk kn.length (kn.flatMap int1)) (hkm : kn.length ≤ 9223372036854775807) (vi : Value) (li : List Int) (hli : Rd W0 vi li.length (li.flatMap int1)) (hlim : li.length ≤ 9223372036854775807) (hs1 : l.length ≤ 600) (hs2 : kn.length ≤ 300) (hs3 : li.length ≤ 300) (hbad : ∃ x ∈ kn, ¬ (1 ≤ x ∧ x ≤ ((build [] l).length : Int))) :
    Con Try.prog W0 7 #[vl, vk, vi] [] (X := Unit) (fun _ => True) (fun _ => .bool true) (fun _ => []) := by
  refine Con.of (args := [vl, vk, vi]) Try.func7 rfl Try.ntmps7 rfl (fun F => ?_)
  show Wc _ W0 _ _ _ _ _ (F)
  refine Wc.seq ?_
  refine Wc.region ?_
  refine Wl.q (v := Value.bool false) (q_assign rfl) ?_
  refine Wl.done ?_
  refine Wx.go ?_
  refine Wc.seq ?_
  refine Wc.seq ?_
  refine Wc.region ?_
  refine Wl.q (v := vl) (q_move rfl) ?_
  refine Wl.q (v := Value.int .i64 ((l.length : Nat) : Int)) (q_len_is Try.underlying22 rfl hl.shape) ?_
  refine Wl.q (v := Value.bool false) (q_gtr (r := false) rfl rfl (decide_eq_false (by omega))) ?_
  refine Wl.q (v := Value.bool false) (q_move rfl) ?_
  refine Wl.q (v := vk) (q_move rfl) ?_
  refine Wl.q (v := Value.int .i64 ((kn.length : Nat) : Int)) (q_len_is Try.underlying23 rfl hk.shape) ?_
  refine Wl.q (v := Value.bool false) (q_gtr (r := false) rfl rfl (decide_eq_false (by omega))) ?_
  refine Wl.q (v := Value.bool false) (q_pick (t := false) rfl rfl) ?_
  refine Wl.q (v := Value.bool false) (q_move rfl) ?_
  refine Wl.q (v := vi) (q_move rfl) ?_
  refine Wl.q (v := Value.int .i64 ((li.length : Nat) : Int)) (q_len_is Try.underlying23 rfl hli.shape) ?_
  refine Wl.q (v := Value.bool false) (q_gtr (r := false) rfl rfl (decide_eq_false (by omega))) ?_
  refine Wl.q (v := Value.bool false) (q_pick (t := false) rfl rfl) ?_
  refine Wl.done ?_
  refine Wx.go ?_
  refine Wc.no rfl ?_
  refine Wc.skip ?_
  refine Wx.go ?_
  refine Wc.seq ?_
  refine Wc.region ?_
  refine Wl.q (v := vl) (q_move rfl) ?_
  refine Wl.e (e_call (F := F) (args := [vl]) Try.call9 rfl (build_c W0 vl l hl (by omega) hlo)) (fun ⟨s, r⟩ _ => ?_)
  refine Wl.imp (L' := (storeI s (build [] l)) :: (refI r (build [] l)) :: F) (fun _ h => h) ?_
  have hw := build_all hlo
  have hT := build_all_le l
  refine Wl.q (v := Value.tuple #[Value.pointer (some ⟨s, 0, none⟩), Value.pointer (some ⟨r, 0, none⟩), Value.bool true]) (q_move rfl) ?_
  refine Wl.q (v := Value.pointer (some ⟨s, 0, none⟩)) (q_extract (i := 0) rfl rfl) ?_
  refine Wl.q (v := Value.pointer (some ⟨r, 0, none⟩)) (q_extract (i := 1) rfl rfl) ?_
  refine Wl.q (v := Value.bool true) (q_extract (i := 2) rfl rfl) ?_
  refine Wl.q (v := Value.pointer (some ⟨s, 0, none⟩)) (q_assign rfl) ?_
  refine Wl.q (v := Value.pointer (some ⟨r, 0, none⟩)) (q_assign rfl) ?_
  refine Wl.q (v := Value.bool true) (q_assign rfl) ?_
  refine Wl.done ?_
  refine Wx.go ?_
  refine Wc.seq ?_
  refine Wc.seq ?_
  refine Wc.region ?_
  refine Wl.q (v := Value.bool true) (q_move rfl) ?_
  refine Wl.q (v := Value.bool false) (q_not rfl rfl) ?_
  refine Wl.done ?_
  refine Wx.go ?_
  refine Wc.no rfl ?_
  refine Wc.skip ?_
  refine Wx.go ?_
  refine Wc.seq ?_
  refine Wc.region ?_
  refine Wl.q (v := Value.pointer (some ⟨s, 0, none⟩)) (q_move rfl) ?_
  refine Wl.q (v := vk) (q_move rfl) ?_
  refine Wl.e (e_call (F := (refI r (build [] l)) :: F) (args := [Value.pointer (some ⟨s, 0, none⟩), vk]) Try.call15 rfl (new_bad_ro W0 s (build [] l) hw (by omega) (vk) kn hk (by omega) (by omega) hbad)) (fun _ _ => ?_)
  refine Wl.imp (L' := (storeI s (build [] l)) :: (refI r (build [] l)) :: F) (fun _ h => h) ?_
  refine Wl.q (v := Value.tuple #[Value.pointer none, Value.int .i64 1]) (q_move rfl) ?_
  refine Wl.q (v := Value.pointer none) (q_extract (i := 0) rfl rfl) ?_
  refine Wl.q (v := Value.int .i64 1) (q_extract (i := 1) rfl rfl) ?_
  refine Wl.q (v := Value.pointer none) (q_assign rfl) ?_
  refine Wl.q (v := Value.int .i64 1) (q_assign rfl) ?_
  refine Wl.done ?_
  refine Wx.go ?_
  refine Wc.seq ?_
  refine Wc.seq ?_
  refine Wc.region ?_
  refine Wl.q (v := Value.int .i64 1) (q_move rfl) ?_
  refine Wl.q (v := Value.bool true) (q_neq (r := false) rfl rfl (decide_eq_false (by decide))) ?_
  refine Wl.q (v := Value.bool true) (q_move rfl) ?_
  refine Wl.no ?_
  refine Wl.no ?_
  refine Wl.q (v := Value.bool true) (q_pick (t := true) rfl rfl) ?_
  refine Wl.done ?_
  refine Wx.go ?_
  refine Wc.yes rfl ?_
  refine Wc.seq ?_
  refine Wc.region ?_
  refine Wl.q (v := Value.pointer none) (q_move rfl) ?_
  refine Wl.q (v := Value.bool true) (q_eql_nil (r := true) rfl rfl Try.underlying38 rfl) ?_
  refine Wl.q (v := Value.bool true) (q_move rfl) ?_
  refine Wl.q (v := Value.int .i64 1) (q_move rfl) ?_
  refine Wl.q (v := Value.bool true) (q_neq (r := false) rfl rfl (decide_eq_false (by decide))) ?_
  refine Wl.q (v := Value.bool true) (q_pick (t := true) rfl rfl) ?_
  refine Wl.q (v := Value.bool true) (q_move rfl) ?_
  refine Wl.e (e_call (F := (storeI s (build [] l)) :: (refI r (build [] l)) :: F) (args := []) Try.call12 rfl (lives_c W0)) (fun _ _ => ?_)
  refine Wl.imp (L' := (storeI s (build [] l)) :: (refI r (build [] l)) :: F) (fun _ h => h) ?_
  refine Wl.q (v := Value.bool true) (q_pick (t := true) rfl rfl) ?_
  refine Wl.q (v := Value.bool true) (q_assign rfl) ?_
  refine Wl.done ?_
  refine Wx.go ?_
  refine Wc.ret ?_
  refine Wx.thenRet ?_
  refine Wx.fin1 rfl (.inl rfl) (fun w hs => ?_)
  exact ⟨(), trivial, rfl, (st_drop (st_drop (st_pull [0, 0] hs)))⟩

set_option maxRecDepth 4000 in
theorem learns_ok (W0 : World) (vl : Value) (l : List TermR) (hl : Rd W0 vl l.length (l.flatMap termCells)) (hlm : l.length ≤ 9223372036854775807) (hlo : ∀ x ∈ l, okT x) (vk : Value) (kn : List Int) (hk : Rd W0 vk kn.length (kn.flatMap int1)) (hkm : kn.length ≤ 9223372036854775807) (vi : Value) (li : List Int) (hli : Rd W0 vi li.length (li.flatMap int1)) (hlim : li.length ≤ 9223372036854775807) (hs1 : l.length ≤ 600) (hs2 : kn.length ≤ 300) (hs3 : li.length ≤ 300) (hall0 : ∀ x ∈ kn, (1 ≤ x ∧ x ≤ ((build [] l).length : Int))) :
    Con Try.prog W0 7 #[vl, vk, vi] [] (X := Unit) (fun _ => True) (fun _ => .bool true) (fun _ => []) := by
  refine Con.of (args := [vl, vk, vi]) Try.func7 rfl Try.ntmps7 rfl (fun F => ?_)
  show Wc _ W0 _ _ _ _ _ (F)
  refine Wc.seq ?_
  refine Wc.region ?_
  refine Wl.q (v := Value.bool false) (q_assign rfl) ?_
  refine Wl.done ?_
  refine Wx.go ?_
  refine Wc.seq ?_
  refine Wc.seq ?_
  refine Wc.region ?_
  refine Wl.q (v := vl) (q_move rfl) ?_
  refine Wl.q (v := Value.int .i64 ((l.length : Nat) : Int)) (q_len_is Try.underlying22 rfl hl.shape) ?_
  refine Wl.q (v := Value.bool false) (q_gtr (r := false) rfl rfl (decide_eq_false (by omega))) ?_
  refine Wl.q (v := Value.bool false) (q_move rfl) ?_
  refine Wl.q (v := vk) (q_move rfl) ?_
  refine Wl.q (v := Value.int .i64 ((kn.length : Nat) : Int)) (q_len_is Try.underlying23 rfl hk.shape) ?_
  refine Wl.q (v := Value.bool false) (q_gtr (r := false) rfl rfl (decide_eq_false (by omega))) ?_
  refine Wl.q (v := Value.bool false) (q_pick (t := false) rfl rfl) ?_
  refine Wl.q (v := Value.bool false) (q_move rfl) ?_
  refine Wl.q (v := vi) (q_move rfl) ?_
  refine Wl.q (v := Value.int .i64 ((li.length : Nat) : Int)) (q_len_is Try.underlying23 rfl hli.shape) ?_
  refine Wl.q (v := Value.bool false) (q_gtr (r := false) rfl rfl (decide_eq_false (by omega))) ?_
  refine Wl.q (v := Value.bool false) (q_pick (t := false) rfl rfl) ?_
  refine Wl.done ?_
  refine Wx.go ?_
  refine Wc.no rfl ?_
  refine Wc.skip ?_
  refine Wx.go ?_
  refine Wc.seq ?_
  refine Wc.region ?_
  refine Wl.q (v := vl) (q_move rfl) ?_
  refine Wl.e (e_call (F := F) (args := [vl]) Try.call9 rfl (build_c W0 vl l hl (by omega) hlo)) (fun ⟨s, r⟩ _ => ?_)
  refine Wl.imp (L' := (storeI s (build [] l)) :: (refI r (build [] l)) :: F) (fun _ h => h) ?_
  have hw := build_all hlo
  have hT := build_all_le l
  refine Wl.q (v := Value.tuple #[Value.pointer (some ⟨s, 0, none⟩), Value.pointer (some ⟨r, 0, none⟩), Value.bool true]) (q_move rfl) ?_
  refine Wl.q (v := Value.pointer (some ⟨s, 0, none⟩)) (q_extract (i := 0) rfl rfl) ?_
  refine Wl.q (v := Value.pointer (some ⟨r, 0, none⟩)) (q_extract (i := 1) rfl rfl) ?_
  refine Wl.q (v := Value.bool true) (q_extract (i := 2) rfl rfl) ?_
  refine Wl.q (v := Value.pointer (some ⟨s, 0, none⟩)) (q_assign rfl) ?_
  refine Wl.q (v := Value.pointer (some ⟨r, 0, none⟩)) (q_assign rfl) ?_
  refine Wl.q (v := Value.bool true) (q_assign rfl) ?_
  refine Wl.done ?_
  refine Wx.go ?_
  refine Wc.seq ?_
  refine Wc.seq ?_
  refine Wc.region ?_
  refine Wl.q (v := Value.bool true) (q_move rfl) ?_
  refine Wl.q (v := Value.bool false) (q_not rfl rfl) ?_
  refine Wl.done ?_
  refine Wx.go ?_
  refine Wc.no rfl ?_
  refine Wc.skip ?_
  refine Wx.go ?_
  refine Wc.seq ?_
  refine Wc.region ?_
  refine Wl.q (v := Value.pointer (some ⟨s, 0, none⟩)) (q_move rfl) ?_
  refine Wl.q (v := vk) (q_move rfl) ?_
  refine Wl.e (e_call (F := (refI r (build [] l)) :: F) (args := [Value.pointer (some ⟨s, 0, none⟩), vk]) Try.call15 rfl (new_ok_ro W0 s (build [] l) hw (by omega) (vk) kn hk (by omega) (by omega) hall0)) (fun k _ => ?_)
  refine Wl.imp (L' := (knowK k s (build [] l) (KL kn)) :: (storeI s (build [] l)) :: (refI r (build [] l)) :: F) (fun _ h => h) ?_
  refine Wl.q (v := Value.tuple #[Value.pointer (some ⟨k, 0, none⟩), Value.int .i64 0]) (q_move rfl) ?_
  refine Wl.q (v := Value.pointer (some ⟨k, 0, none⟩)) (q_extract (i := 0) rfl rfl) ?_
  refine Wl.q (v := Value.int .i64 0) (q_extract (i := 1) rfl rfl) ?_
  refine Wl.q (v := Value.pointer (some ⟨k, 0, none⟩)) (q_assign rfl) ?_
  refine Wl.q (v := Value.int .i64 0) (q_assign rfl) ?_
  refine Wl.done ?_
  refine Wx.go ?_
  refine Wc.seq ?_
  refine Wc.seq ?_
  refine Wc.region ?_
  refine Wl.q (v := Value.int .i64 0) (q_move rfl) ?_
  refine Wl.q (v := Value.bool false) (q_neq (r := true) rfl rfl (decide_eq_true (by decide))) ?_
  refine Wl.q (v := Value.bool false) (q_move rfl) ?_
  refine Wl.q (v := Value.pointer (some ⟨k, 0, none⟩)) (q_move rfl) ?_
  refine Wl.q (v := Value.bool false) (q_eql_nil (r := false) rfl rfl Try.underlying38 rfl) ?_
  refine Wl.q (v := Value.bool false) (q_pick (t := false) rfl rfl) ?_
  refine Wl.done ?_
  refine Wx.go ?_
  refine Wc.no rfl ?_
  refine Wc.skip ?_
  refine Wx.go ?_
  refine Wc.seq ?_
  refine Wc.region ?_
  refine Wl.e (e_buildSlice0 se_23) (fun b1 _ => ?_)
  refine Wl.imp (L' := (sl 3 1 (Value.slice (some ⟨b1, 0, none⟩) 0 0) 0 []) :: (knowK k s (build [] l) (KL kn)) :: (storeI s (build [] l)) :: (refI r (build [] l)) :: F) (fun _ h => h) ?_
  refine Wl.q (v := vk) (q_move rfl) ?_
  refine Wl.e (e_append_rd (i := 0) (m := kn.length) (news := (kn.flatMap int1)) Try.underlying23 sz_3 by_3 zo_3 rfl rfl rfl rfl hk (by rw [flat_map1, List.length_map]) (int_cells kn) (by simp only [maxLen]; omega) (by omega)) (fun v2 _ => ?_)
  refine Wl.imp (L' := (sl 3 1 v2 (0 + kn.length) ([] ++ (kn.flatMap int1))) :: (knowK k s (build [] l) (KL kn)) :: (storeI s (build [] l)) :: (refI r (build [] l)) :: F) (fun _ h => h) ?_
  refine Wl.q (v := v2) (q_assign rfl) ?_
  refine Wl.done ?_
  refine Wx.go ?_
  refine Wc.seq ?_
  refine Wc.seq ?_
  refine Wc.region ?_
  refine Wl.q (v := Value.int .i64 0) (q_assign rfl) ?_
  refine Wl.done ?_
  refine Wx.go ?_
  refine Wc.block ?_
  refine Wc.loop (X := Nat × Value × List Int × (Nat → Prop)) (fun (i, v, al, K) E => E 13 = Value.int .i64 ((i : Nat) : Int) ∧ E 12 = v ∧ E 2 = vi ∧ E 7 = Value.pointer (some ⟨s, 0, none⟩) ∧ E 10 = Value.pointer (some ⟨k, 0, none⟩) ∧ i ≤ li.length ∧ (∀ n, K n ↔ KL al n) ∧ (∀ x ∈ al, 1 ≤ x ∧ x ≤ ((build [] l).length : Int)) ∧ al.length ≤ kn.length + i) (fun (i, v, al, K) => (sl 3 1 v al.length (al.map intV)) :: (knowK k s (build [] l) K) :: (storeI s (build [] l)) :: F) (fun (i, v, al, K) => li.length - i) (0, v2, kn, KL kn) ?_ ?_ ?_
  · exact ⟨rfl, rfl, rfl, rfl, rfl, (by omega), (fun _ => Iff.rfl), hall0, (by omega)⟩
  · exact fun w hs => by have hs := (st_drop (st_pull [3] hs)); rw [flat_map1, Nat.zero_add, List.nil_append] at hs; exact hs
  · rintro ⟨i, v, al, K⟩ E4 ⟨hE13_2, hE12_2, hE2_2, hE7_2, hE10_2, hi, hkl, har, hall⟩
    dsimp only at *
    refine Wc.seq ?_
    refine Wc.seq ?_
    refine Wc.region ?_
    refine Wl.q (v := Value.int .i64 ((i : Nat) : Int)) (q_move hE13_2) ?_
    refine Wl.q (v := vi) (q_move hE2_2) ?_
    refine Wl.q (v := Value.int .i64 ((li.length : Nat) : Int)) (q_len_is Try.underlying23 rfl hli.shape) ?_
    by_cases hlt : ((i : Nat) : Int) < ((li.length : Nat) : Int)
    ·
      obtain ⟨o, hget⟩ : ∃ o, li[i]? = some o := ⟨li[i]'(by omega), List.getElem?_eq_getElem (by omega)⟩
      refine Wl.q (v := Value.bool true) (q_lss (r := true) rfl rfl (decide_eq_true hlt)) ?_
      refine Wl.done ?_
      refine Wx.go ?_
      refine Wc.yes rfl ?_
      refine Wc.skip ?_
      refine Wx.go ?_
      refine Wc.seq ?_
      refine Wc.block ?_
      refine Wc.seq ?_
      refine Wc.drawsS [] ((sl 3 1 v al.length (al.map intV)) :: (knowK k s (build [] l) K) :: (storeI s (build [] l)) :: []) (by kernel_rfl) ?_
      refine Wr.pure (v := vi) 0 rfl (by kernel_rfl) (.inr (fun _ h => st_take [0, 0, 0] h)) (.inl ⟨rfl, fun _ => q_move hE2_2⟩) ?_
      refine Wr.pure (v := Value.int .i64 ((i : Nat) : Int)) 1 rfl (by kernel_rfl) (.inr (fun _ h => st_take [0, 0, 0] h)) (.inl ⟨rfl, fun _ => q_move hE13_2⟩) ?_
      refine Wr.pure (v := Value.pointer (some ⟨(rb vi), ro vi + i, none⟩)) 2 rfl (by kernel_rfl) (.inr (fun _ h => st_take [0, 0, 0] h)) (.inl ⟨rfl, fun _ => q_idx_is (m := ro vi + i) se_23 rfl (hli.some_ (by omega)) rfl (by omega) (by omega) (by simp)⟩) ?_
      refine Wr.take (v := Value.int .i64 o) 3 rfl (by kernel_rfl) (fun _ h => st_take [0, 0, 0] h) (.inl ⟨rfl, q_load sc_3 rfl (.old (rd1 hli hget))⟩) ?_
      by_cases hx1 : o ≥ 1
      ·
        refine Wr.pure (v := Value.bool true) 4 rfl (by kernel_rfl) (.inr (fun _ h => st_take [0, 0, 0] h)) (.inl ⟨rfl, fun _ => q_geq (r := true) rfl rfl (decide_eq_true hx1)⟩) ?_
        refine Wr.pure (v := Value.bool true) 5 rfl (by kernel_rfl) (.inr (fun _ h => st_take [0, 0, 0] h)) (.inl ⟨rfl, fun _ => q_move rfl⟩) ?_
        refine Wr.pure (v := vi) 6 rfl (by kernel_rfl) (.inr (fun _ h => st_take [0, 0, 0] h)) (.inl ⟨rfl, fun _ => q_move hE2_2⟩) ?_
        refine Wr.pure (v := Value.int .i64 ((i : Nat) : Int)) 7 rfl (by kernel_rfl) (.inr (fun _ h => st_take [0, 0, 0] h)) (.inl ⟨rfl, fun _ => q_move hE13_2⟩) ?_
        refine Wr.pure (v := Value.pointer (some ⟨(rb vi), ro vi + i, none⟩)) 8 rfl (by kernel_rfl) (.inr (fun _ h => st_take [0, 0, 0] h)) (.inl ⟨rfl, fun _ => q_idx_is (m := ro vi + i) se_23 rfl (hli.some_ (by omega)) rfl (by omega) (by omega) (by simp)⟩) ?_
        refine Wr.take (v := Value.int .i64 o) 9 rfl (by kernel_rfl) (fun _ h => st_take [0, 0, 0] h) (.inl ⟨rfl, q_load sc_3 rfl (.old (rd1 hli hget))⟩) ?_
        refine Wr.pure (v := Value.pointer (some ⟨s, 0, none⟩)) 10 rfl (by kernel_rfl) (.inr (fun _ h => st_take [0, 0, 0] h)) (.inl ⟨rfl, fun _ => q_move hE7_2⟩) ?_
        refine Wr.imp (L' := (storeI s (build [] l)) :: (sl 3 1 v al.length (al.map intV)) :: (knowK k s (build [] l) K) :: F) (fun _ h => st_pull [2] h) ?_
        refine Wr.e 11 (by kernel_rfl) rfl (e_call (F := (sl 3 1 v al.length (al.map intV)) :: (knowK k s (build [] l) K) :: F) (args := [Value.pointer (some ⟨s, 0, none⟩)]) Try.call13 rfl (len_c W0 s (build [] l))) (.inr fun _ _ _ h => st_take [1, 1, 0] h) (fun _ _ => ?_)
        refine Wr.imp (L' := (storeI s (build [] l)) :: (sl 3 1 v al.length (al.map intV)) :: (knowK k s (build [] l) K) :: F) (fun _ h => h) ?_
        by_cases hx2 : o ≤ (((build [] l).length : Nat) : Int)
        ·
          refine Wr.pure (v := Value.bool true) 12 rfl (by kernel_rfl) (.inr (fun _ h => st_take [1, 1, 0] h)) (.inl ⟨rfl, fun _ => q_leq (r := true) rfl rfl (decide_eq_true hx2)⟩) ?_
          refine Wr.pure (v := Value.bool true) 13 rfl (by kernel_rfl) (.inr (fun _ h => st_take [1, 1, 0] h)) (.inl ⟨rfl, fun _ => q_pick (t := true) rfl rfl⟩) ?_
          refine Wr.pure (v := Value.bool true) 14 rfl (by kernel_rfl) (.inr (fun _ h => st_take [1, 1, 0] h)) (.inl ⟨rfl, fun _ => q_assign rfl⟩) ?_
          refine Wr.done (by kernel_rfl) ?_
          refine Wx.go ?_
          refine Wc.seq ?_
          refine Wc.seq ?_
          refine Wc.region ?_
          refine Wl.q (v := Value.pointer (some ⟨k, 0, none⟩)) (q_move hE10_2) ?_
          refine Wl.q (v := vi) (q_move hE2_2) ?_
          refine Wl.q (v := Value.int .i64 ((i : Nat) : Int)) (q_move hE13_2) ?_
          refine Wl.q (v := Value.pointer (some ⟨(rb vi), ro vi + i, none⟩)) (q_idx_is (m := ro vi + i) se_23 rfl (hli.some_ (by omega)) rfl (by omega) (by omega) (by simp)) ?_
          refine Wl.q (v := Value.int .i64 o) (q_load sc_3 rfl (.old (rd1 hli hget))) ?_
          refine Wl.imp (L' := (knowK k s (build [] l) K) :: (storeI s (build [] l)) :: (sl 3 1 v al.length (al.map intV)) :: F) (fun _ h => st_pull [2, 0] h) ?_
          refine Wl.e (e_call (F := (sl 3 1 v al.length (al.map intV)) :: F) (args := [Value.pointer (some ⟨k, 0, none⟩), Value.int .i64 o]) Try.call22 rfl (klearn_ok W0 k s (build [] l) K o (by omega) (by omega) (by omega))) (fun _ _ => ?_)
          refine Wl.imp (L' := (knowK k s (build [] l) (fun n => K n ∨ n = (o).toNat)) :: (storeI s (build [] l)) :: (sl 3 1 v al.length (al.map intV)) :: F) (fun _ h => h) ?_
          refine Wl.q (v := Value.bool true) (q_eql (r := true) rfl rfl (decide_eq_true (by decide))) ?_
          refine Wl.q (v := Value.bool true) (q_move rfl) ?_
          refine Wl.q (v := Value.bool false) (q_neq_bool (r := true) rfl rfl Try.underlying4 rfl) ?_
          refine Wl.done ?_
          refine Wx.go ?_
          refine Wc.no rfl ?_
          refine Wc.skip ?_
          refine Wx.go ?_
          refine Wc.seq ?_
          refine Wc.region ?_
          refine Wl.q (v := Value.bool true) (q_move rfl) ?_
          refine Wl.done ?_
          refine Wx.go ?_
          refine Wc.yes rfl ?_
          refine Wc.region ?_
          refine Wl.q (v := vi) (q_move hE2_2) ?_
          refine Wl.q (v := Value.int .i64 ((i : Nat) : Int)) (q_move hE13_2) ?_
          refine Wl.q (v := Value.pointer (some ⟨(rb vi), ro vi + i, none⟩)) (q_idx_is (m := ro vi + i) se_23 rfl (hli.some_ (by omega)) rfl (by omega) (by omega) (by simp)) ?_
          refine Wl.q (v := Value.int .i64 o) (q_load sc_3 rfl (.old (rd1 hli hget))) ?_
          refine Wl.e (e_buildSlice (cs := [Value.int .i64 o]) se_23 zo_3 (by decide) (by decide) (by kernel_rfl)) (fun b5 _ => ?_)
          refine Wl.imp (L' := (pt b5 3 [Value.int .i64 o]) :: (knowK k s (build [] l) (fun n => K n ∨ n = (o).toNat)) :: (storeI s (build [] l)) :: (sl 3 1 v al.length (al.map intV)) :: F) (fun _ h => h) ?_
          refine Wl.q (v := v) (q_move hE12_2) ?_
          refine Wl.imp (L' := (sl 3 1 (Value.slice (some ⟨b5, 0, none⟩) 1 1) 1 [Value.int .i64 o]) :: (knowK k s (build [] l) (fun n => K n ∨ n = (o).toNat)) :: (storeI s (build [] l)) :: (sl 3 1 v al.length (al.map intV)) :: F) (fun w hs => st_sl_mk rfl (by decide) (st_slp_pt rfl (by decide) hs)) ?_
          refine Wl.e (e_append_sl (i := 0) (j := 3) Try.underlying23 sz_3 by_3 zo_3 rfl rfl rfl rfl rfl (by decide) (map_cells al) (by simp only [maxLen]; omega) (by omega)) (fun v2 _ => ?_)
          refine Wl.imp (L' := (sl 3 1 v2 (1 + al.length) ([Value.int .i64 o] ++ (al.map intV))) :: (knowK k s (build [] l) (fun n => K n ∨ n = (o).toNat)) :: (storeI s (build [] l)) :: (sl 3 1 v al.length (al.map intV)) :: F) (fun _ h => h) ?_
          refine Wl.q (v := v2) (q_assign rfl) ?_
          refine Wl.done ?_
          refine Wx.blockEnd ?_
          refine Wx.go ?_
          refine Wc.region ?_
          refine Wl.q (v := Value.int .i64 ((i : Nat) : Int)) (q_move hE13_2) ?_
          refine Wl.q (v := Value.int .i64 ((i + 1 : Nat) : Int)) (q_add (c := ((i + 1 : Nat) : Int)) rfl rfl (by rw [wrap_i64] <;> omega)) ?_
          refine Wl.q (v := Value.int .i64 ((i + 1 : Nat) : Int)) (q_assign rfl) ?_
          refine Wl.done ?_
          refine Wx.at (i + 1, v2, o :: al, fun n => K n ∨ n = (o).toNat) ⟨(by simp only; omega), rfl, rfl, hE2_2, hE7_2, hE10_2, (by simp only; omega), (kl_cons hkl), (fun x hx => by rcases List.mem_cons.1 hx with rfl | hx; omega; exact har x hx), (by simp only [List.length_cons]; omega)⟩ (fun w hs => by have hs := (st_drop (st_pull [3] hs)); rw [Nat.add_comm 1] at hs; exact hs)
        ·
          refine Wr.pure (v := Value.bool false) 12 rfl (by kernel_rfl) (.inr (fun _ h => st_take [1, 1, 0] h)) (.inl ⟨rfl, fun _ => q_leq (r := false) rfl rfl (decide_eq_false hx2)⟩) ?_
          refine Wr.pure (v := Value.bool false) 13 rfl (by kernel_rfl) (.inr (fun _ h => st_take [1, 1, 0] h)) (.inl ⟨rfl, fun _ => q_pick (t := true) rfl rfl⟩) ?_
          refine Wr.pure (v := Value.bool false) 14 rfl (by kernel_rfl) (.inr (fun _ h => st_take [1, 1, 0] h)) (.inl ⟨rfl, fun _ => q_assign rfl⟩) ?_
          refine Wr.done (by kernel_rfl) ?_
          refine Wx.go ?_
          refine Wc.seq ?_
          refine Wc.seq ?_
          refine Wc.region ?_
          refine Wl.q (v := Value.pointer (some ⟨k, 0, none⟩)) (q_move hE10_2) ?_
          refine Wl.q (v := vi) (q_move hE2_2) ?_
          refine Wl.q (v := Value.int .i64 ((i : Nat) : Int)) (q_move hE13_2) ?_
          refine Wl.q (v := Value.pointer (some ⟨(rb vi), ro vi + i, none⟩)) (q_idx_is (m := ro vi + i) se_23 rfl (hli.some_ (by omega)) rfl (by omega) (by omega) (by simp)) ?_
          refine Wl.q (v := Value.int .i64 o) (q_load sc_3 rfl (.old (rd1 hli hget))) ?_
          refine Wl.imp (L' := (knowK k s (build [] l) K) :: (storeI s (build [] l)) :: (sl 3 1 v al.length (al.map intV)) :: F) (fun _ h => st_pull [2, 0] h) ?_
          refine Wl.e (e_call (F := (sl 3 1 v al.length (al.map intV)) :: F) (args := [Value.pointer (some ⟨k, 0, none⟩), Value.int .i64 o]) Try.call22 rfl (klearn_bad W0 k s (build [] l) K o (by omega) (by omega))) (fun _ _ => ?_)
          refine Wl.imp (L' := (knowK k s (build [] l) K) :: (storeI s (build [] l)) :: (sl 3 1 v al.length (al.map intV)) :: F) (fun _ h => h) ?_
          refine Wl.q (v := Value.bool false) (q_eql (r := false) rfl rfl (decide_eq_false (by decide))) ?_
          refine Wl.q (v := Value.bool false) (q_move rfl) ?_
          refine Wl.q (v := Value.bool false) (q_neq_bool (r := true) rfl rfl Try.underlying4 rfl) ?_
          refine Wl.done ?_
          refine Wx.go ?_
          refine Wc.no rfl ?_
          refine Wc.skip ?_
          refine Wx.go ?_
          refine Wc.seq ?_
          refine Wc.region ?_
          refine Wl.q (v := Value.bool false) (q_move rfl) ?_
          refine Wl.done ?_
          refine Wx.go ?_
          refine Wc.no rfl ?_
          refine Wc.skip ?_
          refine Wx.blockEnd ?_
          refine Wx.go ?_
          refine Wc.region ?_
          refine Wl.q (v := Value.int .i64 ((i : Nat) : Int)) (q_move hE13_2) ?_
          refine Wl.q (v := Value.int .i64 ((i + 1 : Nat) : Int)) (q_add (c := ((i + 1 : Nat) : Int)) rfl rfl (by rw [wrap_i64] <;> omega)) ?_
          refine Wl.q (v := Value.int .i64 ((i + 1 : Nat) : Int)) (q_assign rfl) ?_
          refine Wl.done ?_
          refine Wx.at (i + 1, v, al, K) ⟨(by simp only; omega), rfl, hE12_2, hE2_2, hE7_2, hE10_2, (by simp only; omega), hkl, har, (by simp only; omega)⟩ (fun w hs => (st_pull [2, 0, 0] (hs)))
      ·
        refine Wr.pure (v := Value.bool false) 4 rfl (by kernel_rfl) (.inr (fun _ h => st_take [0, 0, 0] h)) (.inl ⟨rfl, fun _ => q_geq (r := false) rfl rfl (decide_eq_false hx1)⟩) ?_
        refine Wr.pure (v := Value.bool false) 5 rfl (by kernel_rfl) (.inr (fun _ h => st_take [0, 0, 0] h)) (.inl ⟨rfl, fun _ => q_move rfl⟩) ?_
        refine Wr.pure (v := undef) 6 rfl (by kernel_rfl) (.inr (fun _ h => st_take [0, 0, 0] h)) (.inr ⟨rfl, rfl⟩) ?_
        refine Wr.pure (v := undef) 7 rfl (by kernel_rfl) (.inr (fun _ h => st_take [0, 0, 0] h)) (.inr ⟨rfl, rfl⟩) ?_
        refine Wr.pure (v := undef) 8 rfl (by kernel_rfl) (.inr (fun _ h => st_take [0, 0, 0] h)) (.inr ⟨rfl, rfl⟩) ?_
        refine Wr.pure (v := undef) 9 rfl (by kernel_rfl) (.inr (fun _ h => st_take [0, 0, 0] h)) (.inr ⟨rfl, rfl⟩) ?_
        refine Wr.pure (v := undef) 10 rfl (by kernel_rfl) (.inr (fun _ h => st_take [0, 0, 0] h)) (.inr ⟨rfl, rfl⟩) ?_
        refine Wr.pure (v := undef) 11 rfl (by kernel_rfl) (.inr (fun _ h => st_take [0, 0, 0] h)) (.inr ⟨rfl, rfl⟩) ?_
        refine Wr.pure (v := undef) 12 rfl (by kernel_rfl) (.inr (fun _ h => st_take [0, 0, 0] h)) (.inr ⟨rfl, rfl⟩) ?_
        refine Wr.pure (v := Value.bool false) 13 rfl (by kernel_rfl) (.inr (fun _ h => st_take [0, 0, 0] h)) (.inl ⟨rfl, fun _ => q_pick (t := false) rfl rfl⟩) ?_
        refine Wr.pure (v := Value.bool false) 14 rfl (by kernel_rfl) (.inr (fun _ h => st_take [0, 0, 0] h)) (.inl ⟨rfl, fun _ => q_assign rfl⟩) ?_
        refine Wr.done (by kernel_rfl) ?_
        refine Wx.go ?_
        refine Wc.seq ?_
        refine Wc.seq ?_
        refine Wc.region ?_
        refine Wl.q (v := Value.pointer (some ⟨k, 0, none⟩)) (q_move hE10_2) ?_
        refine Wl.q (v := vi) (q_move hE2_2) ?_
        refine Wl.q (v := Value.int .i64 ((i : Nat) : Int)) (q_move hE13_2) ?_
        refine Wl.q (v := Value.pointer (some ⟨(rb vi), ro vi + i, none⟩)) (q_idx_is (m := ro vi + i) se_23 rfl (hli.some_ (by omega)) rfl (by omega) (by omega) (by simp)) ?_
        refine Wl.q (v := Value.int .i64 o) (q_load sc_3 rfl (.old (rd1 hli hget))) ?_
        refine Wl.imp (L' := (knowK k s (build [] l) K) :: (storeI s (build [] l)) :: (sl 3 1 v al.length (al.map intV)) :: F) (fun _ h => st_pull [1, 1] h) ?_
        refine Wl.e (e_call (F := (sl 3 1 v al.length (al.map intV)) :: F) (args := [Value.pointer (some ⟨k, 0, none⟩), Value.int .i64 o]) Try.call22 rfl (klearn_bad W0 k s (build [] l) K o (by omega) (by omega))) (fun _ _ => ?_)
        refine Wl.imp (L' := (knowK k s (build [] l) K) :: (storeI s (build [] l)) :: (sl 3 1 v al.length (al.map intV)) :: F) (fun _ h => h) ?_
        refine Wl.q (v := Value.bool false) (q_eql (r := false) rfl rfl (decide_eq_false (by decide))) ?_
        refine Wl.q (v := Value.bool false) (q_move rfl) ?_
        refine Wl.q (v := Value.bool false) (q_neq_bool (r := true) rfl rfl Try.underlying4 rfl) ?_
        refine Wl.done ?_
        refine Wx.go ?_
        refine Wc.no rfl ?_
        refine Wc.skip ?_
        refine Wx.go ?_
        refine Wc.seq ?_
        refine Wc.region ?_
        refine Wl.q (v := Value.bool false) (q_move rfl) ?_
        refine Wl.done ?_
        refine Wx.go ?_
        refine Wc.no rfl ?_
        refine Wc.skip ?_
        refine Wx.blockEnd ?_
        refine Wx.go ?_
        refine Wc.region ?_
        refine Wl.q (v := Value.int .i64 ((i : Nat) : Int)) (q_move hE13_2) ?_
        refine Wl.q (v := Value.int .i64 ((i + 1 : Nat) : Int)) (q_add (c := ((i + 1 : Nat) : Int)) rfl rfl (by rw [wrap_i64] <;> omega)) ?_
        refine Wl.q (v := Value.int .i64 ((i + 1 : Nat) : Int)) (q_assign rfl) ?_
        refine Wl.done ?_
        refine Wx.at (i + 1, v, al, K) ⟨(by simp only; omega), rfl, hE12_2, hE2_2, hE7_2, hE10_2, (by simp only; omega), hkl, har, (by simp only; omega)⟩ (fun w hs => (st_pull [2, 0, 0] (hs)))
    ·
      refine Wl.q (v := Value.bool false) (q_lss (r := false) rfl rfl (decide_eq_false hlt)) ?_
      refine Wl.done ?_
      refine Wx.go ?_
      refine Wc.no rfl ?_
      refine Wc.exit ?_
      refine Wx.thenExit ?_
      refine Wx.thenExit ?_
      refine Wx.out ?_
      refine Wx.go ?_
      refine Wc.seq ?_
      refine Wc.region ?_
      refine Wl.q (v := Value.pointer (some ⟨s, 0, none⟩)) (q_move hE7_2) ?_
      refine Wl.q (v := v) (q_move hE12_2) ?_
      refine Wl.imp (L' := (storeI s (build [] l)) :: (sl 3 1 v al.length (al.map intV)) :: (knowK k s (build [] l) K) :: F) (fun _ h => st_pull [2, 0] h) ?_
      refine Wl.e (e_call (F := (knowK k s (build [] l) K) :: F) (args := [Value.pointer (some ⟨s, 0, none⟩), v]) Try.call15 rfl (new_ok_sl W0 s (build [] l) hw (by omega) (v) al (by omega) (by omega) har)) (fun k2 _ => ?_)
      refine Wl.imp (L' := (knowK k2 s (build [] l) (KL al)) :: (storeI s (build [] l)) :: (sl 3 1 v al.length (al.map intV)) :: (knowK k s (build [] l) K) :: F) (fun _ h => h) ?_
      refine Wl.q (v := Value.tuple #[Value.pointer (some ⟨k2, 0, none⟩), Value.int .i64 0]) (q_move rfl) ?_
      refine Wl.q (v := Value.pointer (some ⟨k2, 0, none⟩)) (q_extract (i := 0) rfl rfl) ?_
      refine Wl.q (v := Value.int .i64 0) (q_extract (i := 1) rfl rfl) ?_
      refine Wl.q (v := Value.pointer (some ⟨k2, 0, none⟩)) (q_assign rfl) ?_
      refine Wl.q (v := Value.int .i64 0) (q_assign rfl) ?_
      refine Wl.done ?_
      refine Wx.go ?_
      refine Wc.seq ?_
      refine Wc.seq ?_
      refine Wc.region ?_
      refine Wl.q (v := Value.int .i64 0) (q_move rfl) ?_
      refine Wl.q (v := Value.bool false) (q_neq (r := true) rfl rfl (decide_eq_true (by decide))) ?_
      refine Wl.q (v := Value.bool false) (q_move rfl) ?_
      refine Wl.q (v := Value.pointer (some ⟨k2, 0, none⟩)) (q_move rfl) ?_
      refine Wl.q (v := Value.bool false) (q_eql_nil (r := false) rfl rfl Try.underlying38 rfl) ?_
      refine Wl.q (v := Value.bool false) (q_pick (t := false) rfl rfl) ?_
      refine Wl.done ?_
      refine Wx.go ?_
      refine Wc.no rfl ?_
      refine Wc.skip ?_
      refine Wx.go ?_
      refine Wc.seq ?_
      refine Wc.seq ?_
      refine Wc.region ?_
      refine Wl.q (v := Value.int .i64 0) (q_assign rfl) ?_
      refine Wl.done ?_
      refine Wx.go ?_
      refine Wc.block ?_
      refine Wc.loop (X := Nat) (fun j E => E 16 = Value.int .i64 ((j : Nat) : Int) ∧ E 7 = Value.pointer (some ⟨s, 0, none⟩) ∧ E 10 = Value.pointer (some ⟨k, 0, none⟩) ∧ E 15 = Value.pointer (some ⟨k2, 0, none⟩) ∧ j ≤ (build [] l).length + 2) (fun j => (knowK k s (build [] l) K) :: (knowK k2 s (build [] l) (KL al)) :: (storeI s (build [] l)) :: F) (fun j => (build [] l).length + 2 - j) 0 ?_ ?_ ?_
      · exact ⟨rfl, hE7_2, hE10_2, rfl, (by omega)⟩
      · exact fun w hs => (st_pull [2, 0, 0] (st_drop (st_pull [2] hs)))
      · rintro j E7 ⟨hE16_5, hE7_5, hE10_5, hE15_5, hj⟩
        refine Wc.seq ?_
        refine Wc.seq ?_
        refine Wc.region ?_
        refine Wl.q (v := Value.int .i64 ((j : Nat) : Int)) (q_move hE16_5) ?_
        refine Wl.q (v := Value.pointer (some ⟨s, 0, none⟩)) (q_move hE7_5) ?_
        refine Wl.imp (L' := (storeI s (build [] l)) :: (knowK k s (build [] l) K) :: (knowK k2 s (build [] l) (KL al)) :: F) (fun _ h => st_pull [2] h) ?_
        refine Wl.e (e_call (F := (knowK k s (build [] l) K) :: (knowK k2 s (build [] l) (KL al)) :: F) (args := [Value.pointer (some ⟨s, 0, none⟩)]) Try.call13 rfl (len_c W0 s (build [] l))) (fun _ _ => ?_)
        refine Wl.imp (L' := (storeI s (build [] l)) :: (knowK k s (build [] l) K) :: (knowK k2 s (build [] l) (KL al)) :: F) (fun _ h => h) ?_
        refine Wl.q (v := Value.int .i64 ((((build [] l).length) + 1 : Nat) : Int)) (q_add (c := ((((build [] l).length) + 1 : Nat) : Int)) rfl rfl (by rw [wrap_i64] <;> omega)) ?_
        by_cases hlt2 : ((j : Nat) : Int) ≤ ((((build [] l).length) + 1 : Nat) : Int)
        ·
          refine Wl.q (v := Value.bool true) (q_leq (r := true) rfl rfl (decide_eq_true hlt2)) ?_
          refine Wl.done ?_
          refine Wx.go ?_
          refine Wc.yes rfl ?_
          refine Wc.skip ?_
          refine Wx.go ?_
          refine Wc.seq ?_
          refine Wc.block ?_
          refine Wc.seq ?_
          refine Wc.region ?_
          refine Wl.q (v := Value.pointer (some ⟨k, 0, none⟩)) (q_move hE10_5) ?_
          refine Wl.q (v := Value.int .i64 ((j : Nat) : Int)) (q_move hE16_5) ?_
          refine Wl.imp (L' := (knowK k s (build [] l) K) :: (storeI s (build [] l)) :: (knowK k2 s (build [] l) (KL al)) :: F) (fun _ h => st_pull [1, 0] h) ?_
          refine Wl.e (e_call (F := (knowK k2 s (build [] l) (KL al)) :: F) (args := [Value.pointer (some ⟨k, 0, none⟩), Value.int .i64 ((j : Nat) : Int)]) Try.call17 rfl (khas_c W0 k s (build [] l) K ((j : Nat) : Int) (by omega))) (fun _ _ => ?_)
          refine Wl.imp (L' := (knowK k s (build [] l) K) :: (storeI s (build [] l)) :: (knowK k2 s (build [] l) (KL al)) :: F) (fun _ h => h) ?_
          refine Wl.q (v := Value.pointer (some ⟨k2, 0, none⟩)) (q_move hE15_5) ?_
          refine Wl.q (v := Value.int .i64 ((j : Nat) : Int)) (q_move hE16_5) ?_
          refine Wl.imp (L' := (knowK k2 s (build [] l) (KL al)) :: (storeI s (build [] l)) :: (knowK k s (build [] l) K) :: F) (fun _ h => st_pull [2, 1] h) ?_
          refine Wl.e (e_call (F := (knowK k s (build [] l) K) :: F) (args := [Value.pointer (some ⟨k2, 0, none⟩), Value.int .i64 ((j : Nat) : Int)]) Try.call17 rfl (khas_c W0 k2 s (build [] l) (KL al) ((j : Nat) : Int) (by omega))) (fun _ _ => ?_)
          refine Wl.imp (L' := (knowK k2 s (build [] l) (KL al)) :: (storeI s (build [] l)) :: (knowK k s (build [] l) K) :: F) (fun _ h => h) ?_
          refine Wl.q (v := Value.bool false) (q_neq_bool (r := true) rfl rfl Try.underlying4 (beq_iff_eq.2 (derB_congr hkl _))) ?_
          refine Wl.done ?_
          refine Wx.go ?_
          refine Wc.no rfl ?_
          refine Wc.skip ?_
          refine Wx.blockEnd ?_
          refine Wx.go ?_
          refine Wc.region ?_
          refine Wl.q (v := Value.int .i64 ((j : Nat) : Int)) (q_move hE16_5) ?_
          refine Wl.q (v := Value.int .i64 ((j + 1 : Nat) : Int)) (q_add (c := ((j + 1 : Nat) : Int)) rfl rfl (by rw [wrap_i64] <;> omega)) ?_
          refine Wl.q (v := Value.int .i64 ((j + 1 : Nat) : Int)) (q_assign rfl) ?_
          refine Wl.done ?_
          refine Wx.at (j + 1) ⟨(by omega), rfl, hE7_5, hE10_5, hE15_5, (by omega)⟩ (fun w hs => (st_pull [2, 0, 0] (hs)))
        ·
          refine Wl.q (v := Value.bool false) (q_leq (r := false) rfl rfl (decide_eq_false hlt2)) ?_
          refine Wl.done ?_
          refine Wx.go ?_
          refine Wc.no rfl ?_
          refine Wc.exit ?_
          refine Wx.thenExit ?_
          refine Wx.thenExit ?_
          refine Wx.out ?_
          refine Wx.go ?_
          refine Wc.seq ?_
          refine Wc.region ?_
          refine Wl.e (e_call (F := (storeI s (build [] l)) :: (knowK k s (build [] l) K) :: (knowK k2 s (build [] l) (KL al)) :: F) (args := []) Try.call12 rfl (lives_c W0)) (fun _ _ => ?_)
          refine Wl.imp (L' := (storeI s (build [] l)) :: (knowK k s (build [] l) K) :: (knowK k2 s (build [] l) (KL al)) :: F) (fun _ h => h) ?_
          refine Wl.q (v := Value.bool true) (q_assign rfl) ?_
          refine Wl.done ?_
          refine Wx.go ?_
          refine Wc.ret ?_
          refine Wx.fin1 rfl (.inl rfl) (fun w hs => ?_)
          exact ⟨(), trivial, rfl, (st_drop (st_drop (st_drop (st_pull [0, 0, 0] hs))))⟩

theorem learns_law (W0 : World) (vl : Value) (l : List TermR) (hl : Rd W0 vl l.length (l.flatMap termCells)) (hlm : l.length ≤ 9223372036854775807) (hlo : ∀ x ∈ l, okT x) (vk : Value) (kn : List Int) (hk : Rd W0 vk kn.length (kn.flatMap int1)) (hkm : kn.length ≤ 9223372036854775807) (vi : Value) (li : List Int) (hli : Rd W0 vi li.length (li.flatMap int1)) (hlim : li.length ≤ 9223372036854775807)  : Con Try.prog W0 7 #[vl, vk, vi] [] (X := Unit) (fun _ => True) (fun _ => .bool true) (fun _ => []) := by
  by_cases hbig : 600 < l.length ∨ 300 < kn.length ∨ 300 < li.length
  · exact learns_big W0 vl l hl hlm hlo vk kn hk hkm vi li hli hlim hbig
  rcases all_or_bad kn ((build [] l).length : Int) with hall | hbad
  · exact learns_ok W0 vl l hl hlm hlo vk kn hk hkm vi li hli hlim (by omega) (by omega) (by omega) hall
  · exact learns_bad W0 vl l hl hlm hlo vk kn hk hkm vi li hli hlim (by omega) (by omega) (by omega) hbad

end Go.Proofs.Ytmghnmfhniohkaa
