/- What follows: contracts of the calls. -/
import Derived.Test.YtmghnmfhniohkaaDdN
namespace Go.Proofs.Ytmghnmfhniohkaa
open Go Go.SL Go.Dd Go.RowKit
set_option linter.unusedVariables false

theorem asks_big (W0 : World) (vl : Value) (l : List TermR) (hl : Rd W0 vl l.length (l.flatMap termCells)) (hlm : l.length ≤ 9223372036854775807) (hlo : ∀ x ∈ l, okT x) (vk : Value) (kn : List Int) (hk : Rd W0 vk kn.length (kn.flatMap int1)) (hkm : kn.length ≤ 9223372036854775807) (n : Int) (hbig : 600 < l.length ∨ 1000 < kn.length) :
    Con Try.prog W0 3 #[vl, vk, Value.int .i64 n] [] (X := Unit) (fun _ => True) (fun _ => .bool true) (fun _ => []) := by
  refine Con.of (args := [vl, vk, Value.int .i64 n]) Try.func3 rfl Try.ntmps3 rfl (fun F => ?_)
  show Wc _ W0 _ _ _ _ _ (F)
  refine Wc.seq ?_
  refine Wc.region ?_
  refine Wl.q (v := Value.bool false) (q_assign rfl) ?_
  refine Wl.done ?_
  refine Wx.go ?_
  refine Wc.seq ?_
  refine Wc.seq ?_
  refine Wc.region ?_
  refine Wl.q (v := vl) (q_move rfl) ?_
  refine Wl.q (v := Value.int .i64 ((l.length : Nat) : Int)) (q_len_is Try.underlying22 rfl hl.shape) ?_
  by_cases hb1 : ((l.length : Nat) : Int) > 600
  ·
    refine Wl.q (v := Value.bool true) (q_gtr (r := true) rfl rfl (decide_eq_true hb1)) ?_
    refine Wl.q (v := Value.bool true) (q_move rfl) ?_
    refine Wl.no ?_
    refine Wl.no ?_
    refine Wl.no ?_
    refine Wl.q (v := Value.bool true) (q_pick (t := true) rfl rfl) ?_
    refine Wl.done ?_
    refine Wx.go ?_
    refine Wc.yes rfl ?_
    refine Wc.seq ?_
    refine Wc.region ?_
    refine Wl.q (v := Value.bool true) (q_assign rfl) ?_
    refine Wl.done ?_
    refine Wx.go ?_
    refine Wc.ret ?_
    refine Wx.thenRet ?_
    refine Wx.fin1 rfl (.inl rfl) (fun w hs => ?_)
    exact ⟨(), trivial, rfl, hs⟩
  ·
    refine Wl.q (v := Value.bool false) (q_gtr (r := false) rfl rfl (decide_eq_false hb1)) ?_
    refine Wl.q (v := Value.bool false) (q_move rfl) ?_
    refine Wl.q (v := vk) (q_move rfl) ?_
    refine Wl.q (v := Value.int .i64 ((kn.length : Nat) : Int)) (q_len_is Try.underlying23 rfl hk.shape) ?_
    by_cases hb2 : ((kn.length : Nat) : Int) > 1000
    ·
      refine Wl.q (v := Value.bool true) (q_gtr (r := true) rfl rfl (decide_eq_true hb2)) ?_
      refine Wl.q (v := Value.bool true) (q_pick (t := false) rfl rfl) ?_
      refine Wl.done ?_
      refine Wx.go ?_
      refine Wc.yes rfl ?_
      refine Wc.seq ?_
      refine Wc.region ?_
      refine Wl.q (v := Value.bool true) (q_assign rfl) ?_
      refine Wl.done ?_
      refine Wx.go ?_
      refine Wc.ret ?_
      refine Wx.thenRet ?_
      refine Wx.fin1 rfl (.inl rfl) (fun w hs => ?_)
      exact ⟨(), trivial, rfl, hs⟩
    ·
      exfalso; omega

theorem asks_bad (W0 : World) (vl : Value) (l : List TermR) (hl : Rd W0 vl l.length (l.flatMap termCells)) (hlm : l.length ≤ 9223372036854775807) (hlo : ∀ x ∈ l, okT x) (vk : Value) (kn : List Int) (hk : Rd W0 vk kn.length (kn.flatMap int1)) (hkm : kn.length ≤ 9223372036854775807) (n : Int) (hs1 : l.length ≤ 600) (hs2 : kn.length ≤ 1000) (hbad : ∃ x ∈ kn, ¬ (1 ≤ x ∧ x ≤ ((build [] l).length : Int))) :
    Con Try.prog W0 3 #[vl, vk, Value.int .i64 n] [] (X := Unit) (fun _ => True) (fun _ => .bool true) (fun _ => []) := by
  refine Con.of (args := [vl, vk, Value.int .i64 n]) Try.func3 rfl Try.ntmps3 rfl (fun F => ?_)
  show Wc _ W0 _ _ _ _ _ (F)
  refine Wc.seq ?_
  refine Wc.region ?_
  refine Wl.q (v := Value.bool false) (q_assign rfl) ?_
  refine Wl.done ?_
  refine Wx.go ?_
  refine Wc.seq ?_
  refine Wc.seq ?_
  refine Wc.region ?_
  refine Wl.q (v := vl) (q_move rfl) ?_
  refine Wl.q (v := Value.int .i64 ((l.length : Nat) : Int)) (q_len_is Try.underlying22 rfl hl.shape) ?_
  refine Wl.q (v := Value.bool false) (q_gtr (r := false) rfl rfl (decide_eq_false (by omega))) ?_
  refine Wl.q (v := Value.bool false) (q_move rfl) ?_
  refine Wl.q (v := vk) (q_move rfl) ?_
  refine Wl.q (v := Value.int .i64 ((kn.length : Nat) : Int)) (q_len_is Try.underlying23 rfl hk.shape) ?_
  refine Wl.q (v := Value.bool false) (q_gtr (r := false) rfl rfl (decide_eq_false (by omega))) ?_
  refine Wl.q (v := Value.bool false) (q_pick (t := false) rfl rfl) ?_
  refine Wl.done ?_
  refine Wx.go ?_
  refine Wc.no rfl ?_
  refine Wc.skip ?_
  refine Wx.go ?_
  refine Wc.seq ?_
  refine Wc.region ?_
  refine Wl.q (v := vl) (q_move rfl) ?_
  refine Wl.e (e_call (F := F) (args := [vl]) Try.call9 rfl (build_c W0 vl l hl (by omega) hlo)) (fun ⟨s, r⟩ _ => ?_)
  refine Wl.imp (L' := (storeI s (build [] l)) :: (refI r (build [] l)) :: F) (fun _ h => h) ?_
  have hw := build_all hlo
  have hT := build_all_le l
  refine Wl.q (v := Value.tuple #[Value.pointer (some ⟨s, 0, none⟩), Value.pointer (some ⟨r, 0, none⟩), Value.bool true]) (q_move rfl) ?_
  refine Wl.q (v := Value.pointer (some ⟨s, 0, none⟩)) (q_extract (i := 0) rfl rfl) ?_
  refine Wl.q (v := Value.pointer (some ⟨r, 0, none⟩)) (q_extract (i := 1) rfl rfl) ?_
  refine Wl.q (v := Value.bool true) (q_extract (i := 2) rfl rfl) ?_
  refine Wl.q (v := Value.pointer (some ⟨s, 0, none⟩)) (q_assign rfl) ?_
  refine Wl.q (v := Value.pointer (some ⟨r, 0, none⟩)) (q_assign rfl) ?_
  refine Wl.q (v := Value.bool true) (q_assign rfl) ?_
  refine Wl.done ?_
  refine Wx.go ?_
  refine Wc.seq ?_
  refine Wc.seq ?_
  refine Wc.region ?_
  refine Wl.q (v := Value.bool true) (q_move rfl) ?_
  refine Wl.q (v := Value.bool false) (q_not rfl rfl) ?_
  refine Wl.done ?_
  refine Wx.go ?_
  refine Wc.no rfl ?_
  refine Wc.skip ?_
  refine Wx.go ?_
  refine Wc.seq ?_
  refine Wc.region ?_
  refine Wl.q (v := Value.pointer (some ⟨s, 0, none⟩)) (q_move rfl) ?_
  refine Wl.q (v := vk) (q_move rfl) ?_
  refine Wl.q (v := Value.int .i64 n) (q_move rfl) ?_
  refine Wl.e (e_call (F := (refI r (build [] l)) :: F) (args := [Value.pointer (some ⟨s, 0, none⟩), vk, Value.int .i64 n]) Try.call10 rfl (fol_bad_ro W0 s (build [] l) hw (by omega) vk kn hk (by omega) n (by omega) hbad)) (fun _ _ => ?_)
  refine Wl.imp (L' := (storeI s (build [] l)) :: (refI r (build [] l)) :: F) (fun _ h => h) ?_
  refine Wl.q (v := Value.tuple #[Value.bool false, Value.int .i64 1]) (q_move rfl) ?_
  refine Wl.q (v := Value.bool false) (q_extract (i := 0) rfl rfl) ?_
  refine Wl.q (v := Value.int .i64 1) (q_extract (i := 1) rfl rfl) ?_
  refine Wl.q (v := Value.bool false) (q_assign rfl) ?_
  refine Wl.q (v := Value.int .i64 1) (q_assign rfl) ?_
  refine Wl.done ?_
  refine Wx.go ?_
  refine Wc.seq ?_
  refine Wc.region ?_
  refine Wl.q (v := Value.pointer (some ⟨r, 0, none⟩)) (q_move rfl) ?_
  refine Wl.q (v := vk) (q_move rfl) ?_
  refine Wl.imp (L' := (refI r (build [] l)) :: (storeI s (build [] l)) :: F) (fun _ h => st_pull [1] h) ?_
  refine Wl.e (e_call (F := (storeI s (build [] l)) :: F) (args := [Value.pointer (some ⟨r, 0, none⟩), vk]) Try.call11 rfl (rnew_badc W0 r (build [] l) hw (by omega) vk kn hk (by omega) (by omega) hbad)) (fun _ _ => ?_)
  refine Wl.imp (L' := (refI r (build [] l)) :: (storeI s (build [] l)) :: F) (fun _ h => h) ?_
  refine Wl.q (v := Value.tuple #[Value.pointer none, Value.int .i64 1]) (q_move rfl) ?_
  refine Wl.q (v := Value.pointer none) (q_extract (i := 0) rfl rfl) ?_
  refine Wl.q (v := Value.int .i64 1) (q_extract (i := 1) rfl rfl) ?_
  refine Wl.q (v := Value.pointer none) (q_assign rfl) ?_
  refine Wl.q (v := Value.int .i64 1) (q_assign rfl) ?_
  refine Wl.done ?_
  refine Wx.go ?_
  refine Wc.seq ?_
  refine Wc.seq ?_
  refine Wc.region ?_
  refine Wl.q (v := Value.int .i64 1) (q_move rfl) ?_
  refine Wl.q (v := Value.bool true) (q_neq (r := false) rfl rfl (decide_eq_false (by decide))) ?_
  refine Wl.done ?_
  refine Wx.go ?_
  refine Wc.yes rfl ?_
  refine Wc.seq ?_
  refine Wc.region ?_
  refine Wl.q (v := Value.bool false) (q_move rfl) ?_
  refine Wl.q (v := Value.bool true) (q_not rfl rfl) ?_
  refine Wl.q (v := Value.bool true) (q_move rfl) ?_
  refine Wl.q (v := Value.int .i64 1) (q_move rfl) ?_
  refine Wl.q (v := Value.int .i64 1) (q_move rfl) ?_
  refine Wl.q (v := Value.bool true) (q_eql (r := true) rfl rfl (decide_eq_true (by decide))) ?_
  refine Wl.q (v := Value.bool true) (q_pick (t := true) rfl rfl) ?_
  refine Wl.q (v := Value.bool true) (q_move rfl) ?_
  refine Wl.e (e_call (F := (refI r (build [] l)) :: (storeI s (build [] l)) :: F) (args := []) Try.call12 rfl (lives_c W0)) (fun _ _ => ?_)
  refine Wl.imp (L' := (refI r (build [] l)) :: (storeI s (build [] l)) :: F) (fun _ h => h) ?_
  refine Wl.q (v := Value.bool true) (q_pick (t := true) rfl rfl) ?_
  refine Wl.q (v := Value.bool true) (q_assign rfl) ?_
  refine Wl.done ?_
  refine Wx.go ?_
  refine Wc.ret ?_
  refine Wx.thenRet ?_
  refine Wx.fin1 rfl (.inl rfl) (fun w hs => ?_)
  exact ⟨(), trivial, rfl, (st_drop (st_drop (st_pull [0, 0] hs)))⟩

theorem asks_arg (W0 : World) (vl : Value) (l : List TermR) (hl : Rd W0 vl l.length (l.flatMap termCells)) (hlm : l.length ≤ 9223372036854775807) (hlo : ∀ x ∈ l, okT x) (vk : Value) (kn : List Int) (hk : Rd W0 vk kn.length (kn.flatMap int1)) (hkm : kn.length ≤ 9223372036854775807) (n : Int) (hs1 : l.length ≤ 600) (hs2 : kn.length ≤ 1000) (hall0 : ∀ x ∈ kn, (1 ≤ x ∧ x ≤ ((build [] l).length : Int))) (hn : ¬ (1 ≤ n ∧ n ≤ ((build [] l).length : Int))) :
    Con Try.prog W0 3 #[vl, vk, Value.int .i64 n] [] (X := Unit) (fun _ => True) (fun _ => .bool true) (fun _ => []) := by
  refine Con.of (args := [vl, vk, Value.int .i64 n]) Try.func3 rfl Try.ntmps3 rfl (fun F => ?_)
  show Wc _ W0 _ _ _ _ _ (F)
  refine Wc.seq ?_
  refine Wc.region ?_
  refine Wl.q (v := Value.bool false) (q_assign rfl) ?_
  refine Wl.done ?_
  refine Wx.go ?_
  refine Wc.seq ?_
  refine Wc.seq ?_
  refine Wc.region ?_
  refine Wl.q (v := vl) (q_move rfl) ?_
  refine Wl.q (v := Value.int .i64 ((l.length : Nat) : Int)) (q_len_is Try.underlying22 rfl hl.shape) ?_
  refine Wl.q (v := Value.bool false) (q_gtr (r := false) rfl rfl (decide_eq_false (by omega))) ?_
  refine Wl.q (v := Value.bool false) (q_move rfl) ?_
  refine Wl.q (v := vk) (q_move rfl) ?_
  refine Wl.q (v := Value.int .i64 ((kn.length : Nat) : Int)) (q_len_is Try.underlying23 rfl hk.shape) ?_
  refine Wl.q (v := Value.bool false) (q_gtr (r := false) rfl rfl (decide_eq_false (by omega))) ?_
  refine Wl.q (v := Value.bool false) (q_pick (t := false) rfl rfl) ?_
  refine Wl.done ?_
  refine Wx.go ?_
  refine Wc.no rfl ?_
  refine Wc.skip ?_
  refine Wx.go ?_
  refine Wc.seq ?_
  refine Wc.region ?_
  refine Wl.q (v := vl) (q_move rfl) ?_
  refine Wl.e (e_call (F := F) (args := [vl]) Try.call9 rfl (build_c W0 vl l hl (by omega) hlo)) (fun ⟨s, r⟩ _ => ?_)
  refine Wl.imp (L' := (storeI s (build [] l)) :: (refI r (build [] l)) :: F) (fun _ h => h) ?_
  have hw := build_all hlo
  have hT := build_all_le l
  refine Wl.q (v := Value.tuple #[Value.pointer (some ⟨s, 0, none⟩), Value.pointer (some ⟨r, 0, none⟩), Value.bool true]) (q_move rfl) ?_
  refine Wl.q (v := Value.pointer (some ⟨s, 0, none⟩)) (q_extract (i := 0) rfl rfl) ?_
  refine Wl.q (v := Value.pointer (some ⟨r, 0, none⟩)) (q_extract (i := 1) rfl rfl) ?_
  refine Wl.q (v := Value.bool true) (q_extract (i := 2) rfl rfl) ?_
  refine Wl.q (v := Value.pointer (some ⟨s, 0, none⟩)) (q_assign rfl) ?_
  refine Wl.q (v := Value.pointer (some ⟨r, 0, none⟩)) (q_assign rfl) ?_
  refine Wl.q (v := Value.bool true) (q_assign rfl) ?_
  refine Wl.done ?_
  refine Wx.go ?_
  refine Wc.seq ?_
  refine Wc.seq ?_
  refine Wc.region ?_
  refine Wl.q (v := Value.bool true) (q_move rfl) ?_
  refine Wl.q (v := Value.bool false) (q_not rfl rfl) ?_
  refine Wl.done ?_
  refine Wx.go ?_
  refine Wc.no rfl ?_
  refine Wc.skip ?_
  refine Wx.go ?_
  refine Wc.seq ?_
  refine Wc.region ?_
  refine Wl.q (v := Value.pointer (some ⟨s, 0, none⟩)) (q_move rfl) ?_
  refine Wl.q (v := vk) (q_move rfl) ?_
  refine Wl.q (v := Value.int .i64 n) (q_move rfl) ?_
  refine Wl.e (e_call (F := (refI r (build [] l)) :: F) (args := [Value.pointer (some ⟨s, 0, none⟩), vk, Value.int .i64 n]) Try.call10 rfl (fol_arg_ro W0 s (build [] l) hw (by omega) vk kn hk (by omega) n (by omega) hall0 hn)) (fun _ _ => ?_)
  refine Wl.imp (L' := (storeI s (build [] l)) :: (refI r (build [] l)) :: F) (fun _ h => h) ?_
  refine Wl.q (v := Value.tuple #[Value.bool false, Value.int .i64 1]) (q_move rfl) ?_
  refine Wl.q (v := Value.bool false) (q_extract (i := 0) rfl rfl) ?_
  refine Wl.q (v := Value.int .i64 1) (q_extract (i := 1) rfl rfl) ?_
  refine Wl.q (v := Value.bool false) (q_assign rfl) ?_
  refine Wl.q (v := Value.int .i64 1) (q_assign rfl) ?_
  refine Wl.done ?_
  refine Wx.go ?_
  refine Wc.seq ?_
  refine Wc.region ?_
  refine Wl.q (v := Value.pointer (some ⟨r, 0, none⟩)) (q_move rfl) ?_
  refine Wl.q (v := vk) (q_move rfl) ?_
  refine Wl.imp (L' := (refI r (build [] l)) :: (storeI s (build [] l)) :: F) (fun _ h => st_pull [1] h) ?_
  refine Wl.e (e_call (F := (storeI s (build [] l)) :: F) (args := [Value.pointer (some ⟨r, 0, none⟩), vk]) Try.call11 rfl (rnew_okc W0 r (build [] l) hw (by omega) vk kn hk (by omega) (by omega) hall0)) (fun w _ => ?_)
  refine Wl.imp (L' := (refK w r (build [] l) (KL kn)) :: (refI r (build [] l)) :: (storeI s (build [] l)) :: F) (fun _ h => h) ?_
  refine Wl.q (v := Value.tuple #[Value.pointer (some ⟨w, 0, none⟩), Value.int .i64 0]) (q_move rfl) ?_
  refine Wl.q (v := Value.pointer (some ⟨w, 0, none⟩)) (q_extract (i := 0) rfl rfl) ?_
  refine Wl.q (v := Value.int .i64 0) (q_extract (i := 1) rfl rfl) ?_
  refine Wl.q (v := Value.pointer (some ⟨w, 0, none⟩)) (q_assign rfl) ?_
  refine Wl.q (v := Value.int .i64 0) (q_assign rfl) ?_
  refine Wl.done ?_
  refine Wx.go ?_
  refine Wc.seq ?_
  refine Wc.seq ?_
  refine Wc.region ?_
  refine Wl.q (v := Value.int .i64 0) (q_move rfl) ?_
  refine Wl.q (v := Value.bool false) (q_neq (r := true) rfl rfl (decide_eq_true (by decide))) ?_
  refine Wl.done ?_
  refine Wx.go ?_
  refine Wc.no rfl ?_
  refine Wc.skip ?_
  refine Wx.go ?_
  refine Wc.seq ?_
  refine Wc.seq ?_
  refine Wc.region ?_
  refine Wl.q (v := Value.int .i64 n) (q_move rfl) ?_
  by_cases hn1 : n < 1
  ·
    refine Wl.q (v := Value.bool true) (q_lss (r := true) rfl rfl (decide_eq_true hn1)) ?_
    refine Wl.q (v := Value.bool true) (q_move rfl) ?_
    refine Wl.no ?_
    refine Wl.no ?_
    refine Wl.no ?_
    refine Wl.no ?_
    refine Wl.q (v := Value.bool true) (q_pick (t := true) rfl rfl) ?_
    refine Wl.done ?_
    refine Wx.go ?_
    refine Wc.yes rfl ?_
    refine Wc.seq ?_
    refine Wc.region ?_
    refine Wl.q (v := Value.bool false) (q_move rfl) ?_
    refine Wl.q (v := Value.bool true) (q_not rfl rfl) ?_
    refine Wl.q (v := Value.bool true) (q_move rfl) ?_
    refine Wl.q (v := Value.int .i64 1) (q_move rfl) ?_
    refine Wl.q (v := Value.bool true) (q_eql (r := true) rfl rfl (decide_eq_true (by decide))) ?_
    refine Wl.q (v := Value.bool true) (q_pick (t := true) rfl rfl) ?_
    refine Wl.q (v := Value.bool true) (q_move rfl) ?_
    refine Wl.e (e_call (F := (refK w r (build [] l) (KL kn)) :: (refI r (build [] l)) :: (storeI s (build [] l)) :: F) (args := []) Try.call12 rfl (lives_c W0)) (fun _ _ => ?_)
    refine Wl.imp (L' := (refK w r (build [] l) (KL kn)) :: (refI r (build [] l)) :: (storeI s (build [] l)) :: F) (fun _ h => h) ?_
    refine Wl.q (v := Value.bool true) (q_pick (t := true) rfl rfl) ?_
    refine Wl.q (v := Value.bool true) (q_assign rfl) ?_
    refine Wl.done ?_
    refine Wx.go ?_
    refine Wc.ret ?_
    refine Wx.thenRet ?_
    refine Wx.fin1 rfl (.inl rfl) (fun w hs => ?_)
    exact ⟨(), trivial, rfl, (st_drop (st_drop (st_drop (st_pull [0, 0, 0] hs))))⟩
  ·
    refine Wl.q (v := Value.bool false) (q_lss (r := false) rfl rfl (decide_eq_false hn1)) ?_
    refine Wl.q (v := Value.bool false) (q_move rfl) ?_
    refine Wl.q (v := Value.int .i64 n) (q_move rfl) ?_
    refine Wl.q (v := Value.pointer (some ⟨s, 0, none⟩)) (q_move rfl) ?_
    refine Wl.imp (L' := (storeI s (build [] l)) :: (refK w r (build [] l) (KL kn)) :: (refI r (build [] l)) :: F) (fun _ h => st_pull [2] h) ?_
    refine Wl.e (e_call (F := (refK w r (build [] l) (KL kn)) :: (refI r (build [] l)) :: F) (args := [Value.pointer (some ⟨s, 0, none⟩)]) Try.call13 rfl (len_c W0 s (build [] l))) (fun _ _ => ?_)
    refine Wl.imp (L' := (storeI s (build [] l)) :: (refK w r (build [] l) (KL kn)) :: (refI r (build [] l)) :: F) (fun _ h => h) ?_
    refine Wl.q (v := Value.bool true) (q_gtr (r := true) rfl rfl (decide_eq_true (by omega))) ?_
    refine Wl.q (v := Value.bool true) (q_pick (t := false) rfl rfl) ?_
    refine Wl.done ?_
    refine Wx.go ?_
    refine Wc.yes rfl ?_
    refine Wc.seq ?_
    refine Wc.region ?_
    refine Wl.q (v := Value.bool false) (q_move rfl) ?_
    refine Wl.q (v := Value.bool true) (q_not rfl rfl) ?_
    refine Wl.q (v := Value.bool true) (q_move rfl) ?_
    refine Wl.q (v := Value.int .i64 1) (q_move rfl) ?_
    refine Wl.q (v := Value.bool true) (q_eql (r := true) rfl rfl (decide_eq_true (by decide))) ?_
    refine Wl.q (v := Value.bool true) (q_pick (t := true) rfl rfl) ?_
    refine Wl.q (v := Value.bool true) (q_move rfl) ?_
    refine Wl.e (e_call (F := (storeI s (build [] l)) :: (refK w r (build [] l) (KL kn)) :: (refI r (build [] l)) :: F) (args := []) Try.call12 rfl (lives_c W0)) (fun _ _ => ?_)
    refine Wl.imp (L' := (storeI s (build [] l)) :: (refK w r (build [] l) (KL kn)) :: (refI r (build [] l)) :: F) (fun _ h => h) ?_
    refine Wl.q (v := Value.bool true) (q_pick (t := true) rfl rfl) ?_
    refine Wl.q (v := Value.bool true) (q_assign rfl) ?_
    refine Wl.done ?_
    refine Wx.go ?_
    refine Wc.ret ?_
    refine Wx.thenRet ?_
    refine Wx.fin1 rfl (.inl rfl) (fun w hs => ?_)
    exact ⟨(), trivial, rfl, (st_drop (st_drop (st_drop (st_pull [0, 0, 0] hs))))⟩

theorem asks_ok (W0 : World) (vl : Value) (l : List TermR) (hl : Rd W0 vl l.length (l.flatMap termCells)) (hlm : l.length ≤ 9223372036854775807) (hlo : ∀ x ∈ l, okT x) (vk : Value) (kn : List Int) (hk : Rd W0 vk kn.length (kn.flatMap int1)) (hkm : kn.length ≤ 9223372036854775807) (n : Int) (hs1 : l.length ≤ 600) (hs2 : kn.length ≤ 1000) (hall0 : ∀ x ∈ kn, (1 ≤ x ∧ x ≤ ((build [] l).length : Int))) (hn : (1 ≤ n ∧ n ≤ ((build [] l).length : Int))) :
    Con Try.prog W0 3 #[vl, vk, Value.int .i64 n] [] (X := Unit) (fun _ => True) (fun _ => .bool true) (fun _ => []) := by
  refine Con.of (args := [vl, vk, Value.int .i64 n]) Try.func3 rfl Try.ntmps3 rfl (fun F => ?_)
  show Wc _ W0 _ _ _ _ _ (F)
  refine Wc.seq ?_
  refine Wc.region ?_
  refine Wl.q (v := Value.bool false) (q_assign rfl) ?_
  refine Wl.done ?_
  refine Wx.go ?_
  refine Wc.seq ?_
  refine Wc.seq ?_
  refine Wc.region ?_
  refine Wl.q (v := vl) (q_move rfl) ?_
  refine Wl.q (v := Value.int .i64 ((l.length : Nat) : Int)) (q_len_is Try.underlying22 rfl hl.shape) ?_
  refine Wl.q (v := Value.bool false) (q_gtr (r := false) rfl rfl (decide_eq_false (by omega))) ?_
  refine Wl.q (v := Value.bool false) (q_move rfl) ?_
  refine Wl.q (v := vk) (q_move rfl) ?_
  refine Wl.q (v := Value.int .i64 ((kn.length : Nat) : Int)) (q_len_is Try.underlying23 rfl hk.shape) ?_
  refine Wl.q (v := Value.bool false) (q_gtr (r := false) rfl rfl (decide_eq_false (by omega))) ?_
  refine Wl.q (v := Value.bool false) (q_pick (t := false) rfl rfl) ?_
  refine Wl.done ?_
  refine Wx.go ?_
  refine Wc.no rfl ?_
  refine Wc.skip ?_
  refine Wx.go ?_
  refine Wc.seq ?_
  refine Wc.region ?_
  refine Wl.q (v := vl) (q_move rfl) ?_
  refine Wl.e (e_call (F := F) (args := [vl]) Try.call9 rfl (build_c W0 vl l hl (by omega) hlo)) (fun ⟨s, r⟩ _ => ?_)
  refine Wl.imp (L' := (storeI s (build [] l)) :: (refI r (build [] l)) :: F) (fun _ h => h) ?_
  have hw := build_all hlo
  have hT := build_all_le l
  refine Wl.q (v := Value.tuple #[Value.pointer (some ⟨s, 0, none⟩), Value.pointer (some ⟨r, 0, none⟩), Value.bool true]) (q_move rfl) ?_
  refine Wl.q (v := Value.pointer (some ⟨s, 0, none⟩)) (q_extract (i := 0) rfl rfl) ?_
  refine Wl.q (v := Value.pointer (some ⟨r, 0, none⟩)) (q_extract (i := 1) rfl rfl) ?_
  refine Wl.q (v := Value.bool true) (q_extract (i := 2) rfl rfl) ?_
  refine Wl.q (v := Value.pointer (some ⟨s, 0, none⟩)) (q_assign rfl) ?_
  refine Wl.q (v := Value.pointer (some ⟨r, 0, none⟩)) (q_assign rfl) ?_
  refine Wl.q (v := Value.bool true) (q_assign rfl) ?_
  refine Wl.done ?_
  refine Wx.go ?_
  refine Wc.seq ?_
  refine Wc.seq ?_
  refine Wc.region ?_
  refine Wl.q (v := Value.bool true) (q_move rfl) ?_
  refine Wl.q (v := Value.bool false) (q_not rfl rfl) ?_
  refine Wl.done ?_
  refine Wx.go ?_
  refine Wc.no rfl ?_
  refine Wc.skip ?_
  refine Wx.go ?_
  refine Wc.seq ?_
  refine Wc.region ?_
  refine Wl.q (v := Value.pointer (some ⟨s, 0, none⟩)) (q_move rfl) ?_
  refine Wl.q (v := vk) (q_move rfl) ?_
  refine Wl.q (v := Value.int .i64 n) (q_move rfl) ?_
  refine Wl.e (e_call (F := (refI r (build [] l)) :: F) (args := [Value.pointer (some ⟨s, 0, none⟩), vk, Value.int .i64 n]) Try.call10 rfl (fol_ok_ro W0 s (build [] l) hw (by omega) vk kn hk (by omega) n (by omega) hall0 hn)) (fun _ _ => ?_)
  refine Wl.imp (L' := (storeI s (build [] l)) :: (refI r (build [] l)) :: F) (fun _ h => h) ?_
  refine Wl.q (v := Value.tuple #[Value.bool (derB (build [] l) (KL kn) n), Value.int .i64 0]) (q_move rfl) ?_
  refine Wl.q (v := Value.bool (derB (build [] l) (KL kn) n)) (q_extract (i := 0) rfl rfl) ?_
  refine Wl.q (v := Value.int .i64 0) (q_extract (i := 1) rfl rfl) ?_
  refine Wl.q (v := Value.bool (derB (build [] l) (KL kn) n)) (q_assign rfl) ?_
  refine Wl.q (v := Value.int .i64 0) (q_assign rfl) ?_
  refine Wl.done ?_
  refine Wx.go ?_
  refine Wc.seq ?_
  refine Wc.region ?_
  refine Wl.q (v := Value.pointer (some ⟨r, 0, none⟩)) (q_move rfl) ?_
  refine Wl.q (v := vk) (q_move rfl) ?_
  refine Wl.imp (L' := (refI r (build [] l)) :: (storeI s (build [] l)) :: F) (fun _ h => st_pull [1] h) ?_
  refine Wl.e (e_call (F := (storeI s (build [] l)) :: F) (args := [Value.pointer (some ⟨r, 0, none⟩), vk]) Try.call11 rfl (rnew_okc W0 r (build [] l) hw (by omega) vk kn hk (by omega) (by omega) hall0)) (fun w _ => ?_)
  refine Wl.imp (L' := (refK w r (build [] l) (KL kn)) :: (refI r (build [] l)) :: (storeI s (build [] l)) :: F) (fun _ h => h) ?_
  refine Wl.q (v := Value.tuple #[Value.pointer (some ⟨w, 0, none⟩), Value.int .i64 0]) (q_move rfl) ?_
  refine Wl.q (v := Value.pointer (some ⟨w, 0, none⟩)) (q_extract (i := 0) rfl rfl) ?_
  refine Wl.q (v := Value.int .i64 0) (q_extract (i := 1) rfl rfl) ?_
  refine Wl.q (v := Value.pointer (some ⟨w, 0, none⟩)) (q_assign rfl) ?_
  refine Wl.q (v := Value.int .i64 0) (q_assign rfl) ?_
  refine Wl.done ?_
  refine Wx.go ?_
  refine Wc.seq ?_
  refine Wc.seq ?_
  refine Wc.region ?_
  refine Wl.q (v := Value.int .i64 0) (q_move rfl) ?_
  refine Wl.q (v := Value.bool false) (q_neq (r := true) rfl rfl (decide_eq_true (by decide))) ?_
  refine Wl.done ?_
  refine Wx.go ?_
  refine Wc.no rfl ?_
  refine Wc.skip ?_
  refine Wx.go ?_
  refine Wc.seq ?_
  refine Wc.seq ?_
  refine Wc.region ?_
  refine Wl.q (v := Value.int .i64 n) (q_move rfl) ?_
  refine Wl.q (v := Value.bool false) (q_lss (r := false) rfl rfl (decide_eq_false (by omega))) ?_
  refine Wl.q (v := Value.bool false) (q_move rfl) ?_
  refine Wl.q (v := Value.int .i64 n) (q_move rfl) ?_
  refine Wl.q (v := Value.pointer (some ⟨s, 0, none⟩)) (q_move rfl) ?_
  refine Wl.imp (L' := (storeI s (build [] l)) :: (refK w r (build [] l) (KL kn)) :: (refI r (build [] l)) :: F) (fun _ h => st_pull [2] h) ?_
  refine Wl.e (e_call (F := (refK w r (build [] l) (KL kn)) :: (refI r (build [] l)) :: F) (args := [Value.pointer (some ⟨s, 0, none⟩)]) Try.call13 rfl (len_c W0 s (build [] l))) (fun _ _ => ?_)
  refine Wl.imp (L' := (storeI s (build [] l)) :: (refK w r (build [] l) (KL kn)) :: (refI r (build [] l)) :: F) (fun _ h => h) ?_
  refine Wl.q (v := Value.bool false) (q_gtr (r := false) rfl rfl (decide_eq_false (by omega))) ?_
  refine Wl.q (v := Value.bool false) (q_pick (t := false) rfl rfl) ?_
  refine Wl.done ?_
  refine Wx.go ?_
  refine Wc.no rfl ?_
  refine Wc.skip ?_
  refine Wx.go ?_
  refine Wc.seq ?_
  refine Wc.region ?_
  refine Wl.q (v := Value.int .i64 0) (q_move rfl) ?_
  refine Wl.q (v := Value.bool true) (q_eql (r := true) rfl rfl (decide_eq_true (by decide))) ?_
  refine Wl.q (v := Value.bool true) (q_move rfl) ?_
  refine Wl.q (v := Value.bool (derB (build [] l) (KL kn) n)) (q_move rfl) ?_
  refine Wl.q (v := Value.pointer (some ⟨w, 0, none⟩)) (q_move rfl) ?_
  refine Wl.q (v := Value.int .i64 n) (q_move rfl) ?_
  refine Wl.imp (L' := (refK w r (build [] l) (KL kn)) :: (refI r (build [] l)) :: (storeI s (build [] l)) :: F) (fun _ h => st_pull [1, 1] h) ?_
  refine Wl.e (e_call (F := (storeI s (build [] l)) :: F) (args := [Value.pointer (some ⟨w, 0, none⟩), Value.int .i64 n]) Try.call14 rfl (rhas4_c W0 w r (build [] l) (KL kn) n hw (by omega))) (fun _ _ => ?_)
  refine Wl.imp (L' := (refI r (build [] l)) :: (refK w r (build [] l) (KL kn)) :: (storeI s (build [] l)) :: F) (fun _ h => h) ?_
  refine Wl.q (v := Value.bool true) (q_eql_bool (r := true) rfl rfl Try.underlying4 (beq_iff_eq.2 (rfl))) ?_
  refine Wl.q (v := Value.bool true) (q_pick (t := true) rfl rfl) ?_
  refine Wl.q (v := Value.bool true) (q_move rfl) ?_
  refine Wl.e (e_call (F := (refI r (build [] l)) :: (refK w r (build [] l) (KL kn)) :: (storeI s (build [] l)) :: F) (args := []) Try.call12 rfl (lives_c W0)) (fun _ _ => ?_)
  refine Wl.imp (L' := (refI r (build [] l)) :: (refK w r (build [] l) (KL kn)) :: (storeI s (build [] l)) :: F) (fun _ h => h) ?_
  refine Wl.q (v := Value.bool true) (q_pick (t := true) rfl rfl) ?_
  refine Wl.q (v := Value.bool true) (q_assign rfl) ?_
  refine Wl.done ?_
  refine Wx.go ?_
  refine Wc.ret ?_
  refine Wx.fin1 rfl (.inl rfl) (fun w hs => ?_)
  exact ⟨(), trivial, rfl, (st_drop (st_drop (st_drop (st_pull [0, 0, 0] hs))))⟩

theorem asks_law (W0 : World) (vl : Value) (l : List TermR) (hl : Rd W0 vl l.length (l.flatMap termCells)) (hlm : l.length ≤ 9223372036854775807) (hlo : ∀ x ∈ l, okT x) (vk : Value) (kn : List Int) (hk : Rd W0 vk kn.length (kn.flatMap int1)) (hkm : kn.length ≤ 9223372036854775807) (n : Int)  : Con Try.prog W0 3 #[vl, vk, Value.int .i64 n] [] (X := Unit) (fun _ => True) (fun _ => .bool true) (fun _ => []) := by
  by_cases hbig : 600 < l.length ∨ 1000 < kn.length
  · exact asks_big W0 vl l hl hlm hlo vk kn hk hkm n hbig
  rcases all_or_bad kn ((build [] l).length : Int) with hall | hbad
  · by_cases hn : (1 ≤ n ∧ n ≤ ((build [] l).length : Int))
    · exact asks_ok W0 vl l hl hlm hlo vk kn hk hkm n (by omega) (by omega) hall hn
    · exact asks_arg W0 vl l hl hlm hlo vk kn hk hkm n (by omega) (by omega) hall hn
  · exact asks_bad W0 vl l hl hlm hlo vk kn hk hkm n (by omega) (by omega) hbad

end Go.Proofs.Ytmghnmfhniohkaa
