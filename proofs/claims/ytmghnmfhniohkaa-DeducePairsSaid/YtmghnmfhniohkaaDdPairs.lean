/- What follows: contracts of the calls. -/
import Derived.Test.YtmghnmfhniohkaaDdN
import Derived.Test.YtmghnmfhniohkaaDdP
namespace Go.Proofs.Ytmghnmfhniohkaa
open Go Go.SL Go.Dd Go.RowKit
set_option linter.unusedVariables false

theorem list_bad_o (W0 : World) (s : Nat) (v : Value) (mb : Nat) (ts : List TermR) (hw : Wf ts) (vi : Value) (li : List Int) (hli : Rd W0 vi li.length (li.flatMap int1)) (him : li.length ≤ 9223372036854775807) (hts : ts.length + li.length < 1048576) (hbad : ∃ x ∈ li, ¬ (1 ≤ x ∧ x ≤ (ts.length : Int))) :
    Con Try.prog W0 16 #[Value.pointer (some ⟨s, 0, none⟩), vi] [pt s 65 [v, Value.map (some mb)], sl 46 4 v ts.length (ts.flatMap termCells), mp mb (ents ts)] (X := Unit) (fun _ => True) (fun _ => .tuple #[.int .i64 0, .int .i64 1]) (fun _ => [storeI s ts]) := by
  refine Con.of (args := [Value.pointer (some ⟨s, 0, none⟩), vi]) Try.func16 rfl Try.ntmps16 rfl (fun F => ?_)
  show Wc _ W0 _ _ _ _ _ ((pt s 65 [v, Value.map (some mb)]) :: (sl 46 4 v ts.length (ts.flatMap termCells)) :: (mp mb (ents ts)) :: F)
  refine Wc.seq ?_
  refine Wc.region ?_
  refine Wl.q (v := Value.int .i64 0) (q_assign rfl) ?_
  refine Wl.q (v := Value.int .i64 0) (q_assign rfl) ?_
  refine Wl.done ?_
  refine Wx.go ?_
  refine Wc.seq ?_
  refine Wc.seq ?_
  refine Wc.region ?_
  refine Wl.q (v := Value.pointer (some ⟨s, 0, none⟩)) (q_move rfl) ?_
  refine Wl.e (e_call (F := (sl 46 4 v ts.length (ts.flatMap termCells)) :: (mp mb (ents ts)) :: F) (args := [Value.pointer (some ⟨s, 0, none⟩)]) Try.call28 rfl (made_c W0 s (v) mb)) (fun _ _ => ?_)
  refine Wl.imp (L' := (pt s 65 [v, Value.map (some mb)]) :: (sl 46 4 v ts.length (ts.flatMap termCells)) :: (mp mb (ents ts)) :: F) (fun _ h => h) ?_
  refine Wl.q (v := Value.bool false) (q_not rfl rfl) ?_
  refine Wl.done ?_
  refine Wx.go ?_
  refine Wc.no rfl ?_
  refine Wc.skip ?_
  refine Wx.go ?_
  refine Wc.seq ?_
  refine Wc.seq ?_
  refine Wc.region ?_
  refine Wl.q (v := vi) (q_move rfl) ?_
  refine Wl.q (v := Value.int .i64 ((li.length : Nat) : Int)) (q_len_is Try.underlying23 rfl hli.shape) ?_
  refine Wl.q (v := Value.int .i64 0) (q_move rfl) ?_
  refine Wl.done ?_
  refine Wx.go ?_
  refine Wc.block ?_
  refine Wc.loop (X := Nat) (fun i E => E 17 = Value.int .i64 ((i : Nat) : Int) ∧ E 0 = Value.pointer (some ⟨s, 0, none⟩) ∧ E 1 = vi ∧ E 15 = vi ∧ E 16 = Value.int .i64 ((li.length : Nat) : Int) ∧ i ≤ li.length ∧ (∀ x ∈ li.take i, 1 ≤ x ∧ x ≤ (ts.length : Int))) (fun i => (pt s 65 [v, Value.map (some mb)]) :: (sl 46 4 v ts.length (ts.flatMap termCells)) :: (mp mb (ents ts)) :: F) (fun i => li.length - i) 0 ?_ ?_ ?_
  · exact ⟨rfl, rfl, rfl, rfl, rfl, (by omega), (fun x hx => by simp at hx)⟩
  · exact fun w hs => hs
  · rintro i E2 ⟨hE17_0, hE0_0, hE1_0, hE15_0, hE16_0, hi, hall⟩
    refine Wc.seq ?_
    refine Wc.region ?_
    by_cases hlt : ((i : Nat) : Int) < ((li.length : Nat) : Int)
    ·
      obtain ⟨o, hget⟩ : ∃ o, li[i]? = some o := ⟨li[i]'(by omega), List.getElem?_eq_getElem (by omega)⟩
      have hmem := List.mem_of_getElem? hget
      refine Wl.q (v := Value.bool true) (q_lss (r := true) hE17_0 hE16_0 (decide_eq_true hlt)) ?_
      refine Wl.done ?_
      refine Wx.go ?_
      refine Wc.seq ?_
      refine Wc.yes rfl ?_
      refine Wc.skip ?_
      refine Wx.go ?_
      refine Wc.seq ?_
      refine Wc.block ?_
      refine Wc.seq ?_
      refine Wc.region ?_
      refine Wl.q (v := Value.pointer (some ⟨(rb vi), ro vi + i, none⟩)) (q_idx_is (m := ro vi + i) se_23 hE15_0 (hli.some_ (by omega)) hE17_0 (by omega) (by omega) (by simp)) ?_
      refine Wl.q (v := Value.int .i64 o) (q_load sc_3 rfl (.old (rd1 hli hget))) ?_
      refine Wl.q (v := Value.int .i64 o) (q_assign rfl) ?_
      refine Wl.done ?_
      refine Wx.go ?_
      refine Wc.seq ?_
      refine Wc.region ?_
      by_cases hr : 1 ≤ o ∧ o ≤ (ts.length : Int)
      ·
        refine Wl.q (v := Value.pointer (some ⟨s, 0, none⟩)) (q_move hE0_0) ?_
        refine Wl.q (v := Value.int .i64 o) (q_move rfl) ?_
        refine Wl.e (e_call (F := (mp mb (ents ts)) :: F) (args := [Value.pointer (some ⟨s, 0, none⟩), Value.int .i64 o]) Try.call34 rfl (there_yes W0 s (v) mb ts.length (ts.flatMap termCells) o hr)) (fun _ _ => ?_)
        refine Wl.imp (L' := (pt s 65 [v, Value.map (some mb)]) :: (sl 46 4 v ts.length (ts.flatMap termCells)) :: (mp mb (ents ts)) :: F) (fun _ h => h) ?_
        refine Wl.q (v := Value.bool false) (q_not rfl rfl) ?_
        refine Wl.done ?_
        refine Wx.go ?_
        refine Wc.no rfl ?_
        refine Wc.skip ?_
        refine Wx.blockEnd ?_
        refine Wx.go ?_
        refine Wc.region ?_
        refine Wl.q (v := Value.int .i64 ((i + 1 : Nat) : Int)) (q_add (c := ((i + 1 : Nat) : Int)) hE17_0 rfl (by rw [wrap_i64] <;> omega)) ?_
        refine Wl.q (v := Value.int .i64 ((i + 1 : Nat) : Int)) (q_move rfl) ?_
        refine Wl.done ?_
        refine Wx.at (i + 1) ⟨(by omega), rfl, hE0_0, hE1_0, hE15_0, hE16_0, (by omega), (take_all hget hall hr)⟩ (fun w hs => hs)
      ·
        refine Wl.q (v := Value.pointer (some ⟨s, 0, none⟩)) (q_move hE0_0) ?_
        refine Wl.q (v := Value.int .i64 o) (q_move rfl) ?_
        refine Wl.e (e_call (F := (mp mb (ents ts)) :: F) (args := [Value.pointer (some ⟨s, 0, none⟩), Value.int .i64 o]) Try.call34 rfl (there_no W0 s (v) mb ts.length (ts.flatMap termCells) o hr)) (fun _ _ => ?_)
        refine Wl.imp (L' := (pt s 65 [v, Value.map (some mb)]) :: (sl 46 4 v ts.length (ts.flatMap termCells)) :: (mp mb (ents ts)) :: F) (fun _ h => h) ?_
        refine Wl.q (v := Value.bool true) (q_not rfl rfl) ?_
        refine Wl.done ?_
        refine Wx.go ?_
        refine Wc.yes rfl ?_
        refine Wc.seq ?_
        refine Wc.region ?_
        refine Wl.q (v := Value.int .i64 0) (q_assign rfl) ?_
        refine Wl.q (v := Value.int .i64 1) (q_assign rfl) ?_
        refine Wl.done ?_
        refine Wx.go ?_
        refine Wc.ret ?_
        refine Wx.blockRet ?_
        refine Wx.thenRet ?_
        refine Wx.thenRet ?_
        refine Wx.blockRet ?_
        refine Wx.thenRet ?_
        refine Wx.fin2 rfl (.inl rfl) (fun w hs => ?_)
        exact ⟨(), trivial, rfl, storeI_mk hs⟩
    ·
      exfalso
      obtain ⟨z, hz, hzn⟩ := hbad
      rw [show i = li.length by omega, List.take_length] at hall
      exact hzn (hall z hz)

theorem list_nil_o (W0 : World) (s : Nat) (v : Value) (mb : Nat) (ts : List TermR) (hw : Wf ts) (vi : Value) (li : List Int) (hli : Rd W0 vi li.length (li.flatMap int1)) (him : li.length ≤ 9223372036854775807) (hts : ts.length + li.length < 1048576) (hnil : li.length = 0) :
    Con Try.prog W0 16 #[Value.pointer (some ⟨s, 0, none⟩), vi] [pt s 65 [v, Value.map (some mb)], sl 46 4 v ts.length (ts.flatMap termCells), mp mb (ents ts)] (X := Unit) (fun _ => True) (fun _ => .tuple #[.int .i64 0, .int .i64 0]) (fun _ => [storeI s ts]) := by
  refine Con.of (args := [Value.pointer (some ⟨s, 0, none⟩), vi]) Try.func16 rfl Try.ntmps16 rfl (fun F => ?_)
  show Wc _ W0 _ _ _ _ _ ((pt s 65 [v, Value.map (some mb)]) :: (sl 46 4 v ts.length (ts.flatMap termCells)) :: (mp mb (ents ts)) :: F)
  refine Wc.seq ?_
  refine Wc.region ?_
  refine Wl.q (v := Value.int .i64 0) (q_assign rfl) ?_
  refine Wl.q (v := Value.int .i64 0) (q_assign rfl) ?_
  refine Wl.done ?_
  refine Wx.go ?_
  refine Wc.seq ?_
  refine Wc.seq ?_
  refine Wc.region ?_
  refine Wl.q (v := Value.pointer (some ⟨s, 0, none⟩)) (q_move rfl) ?_
  refine Wl.e (e_call (F := (sl 46 4 v ts.length (ts.flatMap termCells)) :: (mp mb (ents ts)) :: F) (args := [Value.pointer (some ⟨s, 0, none⟩)]) Try.call28 rfl (made_c W0 s (v) mb)) (fun _ _ => ?_)
  refine Wl.imp (L' := (pt s 65 [v, Value.map (some mb)]) :: (sl 46 4 v ts.length (ts.flatMap termCells)) :: (mp mb (ents ts)) :: F) (fun _ h => h) ?_
  refine Wl.q (v := Value.bool false) (q_not rfl rfl) ?_
  refine Wl.done ?_
  refine Wx.go ?_
  refine Wc.no rfl ?_
  refine Wc.skip ?_
  refine Wx.go ?_
  refine Wc.seq ?_
  refine Wc.seq ?_
  refine Wc.region ?_
  refine Wl.q (v := vi) (q_move rfl) ?_
  refine Wl.q (v := Value.int .i64 ((li.length : Nat) : Int)) (q_len_is Try.underlying23 rfl hli.shape) ?_
  refine Wl.q (v := Value.int .i64 0) (q_move rfl) ?_
  refine Wl.done ?_
  refine Wx.go ?_
  refine Wc.block ?_
  refine Wc.loop (X := Nat) (fun i E => E 17 = Value.int .i64 ((i : Nat) : Int) ∧ E 0 = Value.pointer (some ⟨s, 0, none⟩) ∧ E 1 = vi ∧ E 15 = vi ∧ E 16 = Value.int .i64 ((li.length : Nat) : Int) ∧ i ≤ li.length ∧ (∀ x ∈ li.take i, 1 ≤ x ∧ x ≤ (ts.length : Int))) (fun i => (pt s 65 [v, Value.map (some mb)]) :: (sl 46 4 v ts.length (ts.flatMap termCells)) :: (mp mb (ents ts)) :: F) (fun i => li.length - i) 0 ?_ ?_ ?_
  · exact ⟨rfl, rfl, rfl, rfl, rfl, (by omega), (fun x hx => by simp at hx)⟩
  · exact fun w hs => hs
  · rintro i E2 ⟨hE17_0, hE0_0, hE1_0, hE15_0, hE16_0, hi, hall⟩
    refine Wc.seq ?_
    refine Wc.region ?_
    refine Wl.q (v := Value.bool false) (q_lss (r := false) hE17_0 hE16_0 (decide_eq_false (by omega))) ?_
    refine Wl.done ?_
    refine Wx.go ?_
    refine Wc.seq ?_
    refine Wc.no rfl ?_
    refine Wc.exit ?_
    refine Wx.thenExit ?_
    refine Wx.thenExit ?_
    refine Wx.out ?_
    refine Wx.go ?_
    refine Wc.seq ?_
    refine Wc.seq ?_
    refine Wc.region ?_
    refine Wl.q (v := vi) (q_move hE1_0) ?_
    refine Wl.q (v := Value.int .i64 ((li.length : Nat) : Int)) (q_len_is Try.underlying23 rfl hli.shape) ?_
    refine Wl.q (v := Value.bool true) (q_eql (r := true) rfl rfl (decide_eq_true (by omega))) ?_
    refine Wl.done ?_
    refine Wx.go ?_
    refine Wc.yes rfl ?_
    refine Wc.seq ?_
    refine Wc.region ?_
    refine Wl.q (v := Value.int .i64 0) (q_assign rfl) ?_
    refine Wl.q (v := Value.int .i64 0) (q_assign rfl) ?_
    refine Wl.done ?_
    refine Wx.go ?_
    refine Wc.ret ?_
    refine Wx.thenRet ?_
    refine Wx.fin2 rfl (.inl rfl) (fun w hs => ?_)
    exact ⟨(), trivial, rfl, storeI_mk hs⟩

theorem list_ok_o (W0 : World) (s : Nat) (v : Value) (mb : Nat) (ts : List TermR) (hw : Wf ts) (vi : Value) (li : List Int) (hli : Rd W0 vi li.length (li.flatMap int1)) (him : li.length ≤ 9223372036854775807) (hts : ts.length + li.length < 1048576) (hne : 0 < li.length) (hall0 : ∀ x ∈ li, 1 ≤ x ∧ x ≤ (ts.length : Int)) :
    Con Try.prog W0 16 #[Value.pointer (some ⟨s, 0, none⟩), vi] [pt s 65 [v, Value.map (some mb)], sl 46 4 v ts.length (ts.flatMap termCells), mp mb (ents ts)] (X := List TermR × Nat) (fun z => LsI ts z li (li.length - 1)) (fun z => .tuple #[.int .i64 ((z.2 : Nat) : Int), .int .i64 0]) (fun z => [storeI s z.1]) := by
  refine Con.of (args := [Value.pointer (some ⟨s, 0, none⟩), vi]) Try.func16 rfl Try.ntmps16 rfl (fun F => ?_)
  show Wc _ W0 _ _ _ _ _ ((pt s 65 [v, Value.map (some mb)]) :: (sl 46 4 v ts.length (ts.flatMap termCells)) :: (mp mb (ents ts)) :: F)
  refine Wc.seq ?_
  refine Wc.region ?_
  refine Wl.q (v := Value.int .i64 0) (q_assign rfl) ?_
  refine Wl.q (v := Value.int .i64 0) (q_assign rfl) ?_
  refine Wl.done ?_
  refine Wx.go ?_
  refine Wc.seq ?_
  refine Wc.seq ?_
  refine Wc.region ?_
  refine Wl.q (v := Value.pointer (some ⟨s, 0, none⟩)) (q_move rfl) ?_
  refine Wl.e (e_call (F := (sl 46 4 v ts.length (ts.flatMap termCells)) :: (mp mb (ents ts)) :: F) (args := [Value.pointer (some ⟨s, 0, none⟩)]) Try.call28 rfl (made_c W0 s (v) mb)) (fun _ _ => ?_)
  refine Wl.imp (L' := (pt s 65 [v, Value.map (some mb)]) :: (sl 46 4 v ts.length (ts.flatMap termCells)) :: (mp mb (ents ts)) :: F) (fun _ h => h) ?_
  refine Wl.q (v := Value.bool false) (q_not rfl rfl) ?_
  refine Wl.done ?_
  refine Wx.go ?_
  refine Wc.no rfl ?_
  refine Wc.skip ?_
  refine Wx.go ?_
  refine Wc.seq ?_
  refine Wc.seq ?_
  refine Wc.region ?_
  refine Wl.q (v := vi) (q_move rfl) ?_
  refine Wl.q (v := Value.int .i64 ((li.length : Nat) : Int)) (q_len_is Try.underlying23 rfl hli.shape) ?_
  refine Wl.q (v := Value.int .i64 0) (q_move rfl) ?_
  refine Wl.done ?_
  refine Wx.go ?_
  refine Wc.block ?_
  refine Wc.loop (X := Nat) (fun i E => E 17 = Value.int .i64 ((i : Nat) : Int) ∧ E 0 = Value.pointer (some ⟨s, 0, none⟩) ∧ E 1 = vi ∧ E 15 = vi ∧ E 16 = Value.int .i64 ((li.length : Nat) : Int) ∧ i ≤ li.length ∧ (∀ x ∈ li.take i, 1 ≤ x ∧ x ≤ (ts.length : Int))) (fun i => (pt s 65 [v, Value.map (some mb)]) :: (sl 46 4 v ts.length (ts.flatMap termCells)) :: (mp mb (ents ts)) :: F) (fun i => li.length - i) 0 ?_ ?_ ?_
  · exact ⟨rfl, rfl, rfl, rfl, rfl, (by omega), (fun x hx => by simp at hx)⟩
  · exact fun w hs => hs
  · rintro i E2 ⟨hE17_0, hE0_0, hE1_0, hE15_0, hE16_0, hi, hall⟩
    refine Wc.seq ?_
    refine Wc.region ?_
    by_cases hlt : ((i : Nat) : Int) < ((li.length : Nat) : Int)
    ·
      obtain ⟨o, hget⟩ : ∃ o, li[i]? = some o := ⟨li[i]'(by omega), List.getElem?_eq_getElem (by omega)⟩
      have hmem := List.mem_of_getElem? hget
      have hr := hall0 o hmem
      refine Wl.q (v := Value.bool true) (q_lss (r := true) hE17_0 hE16_0 (decide_eq_true hlt)) ?_
      refine Wl.done ?_
      refine Wx.go ?_
      refine Wc.seq ?_
      refine Wc.yes rfl ?_
      refine Wc.skip ?_
      refine Wx.go ?_
      refine Wc.seq ?_
      refine Wc.block ?_
      refine Wc.seq ?_
      refine Wc.region ?_
      refine Wl.q (v := Value.pointer (some ⟨(rb vi), ro vi + i, none⟩)) (q_idx_is (m := ro vi + i) se_23 hE15_0 (hli.some_ (by omega)) hE17_0 (by omega) (by omega) (by simp)) ?_
      refine Wl.q (v := Value.int .i64 o) (q_load sc_3 rfl (.old (rd1 hli hget))) ?_
      refine Wl.q (v := Value.int .i64 o) (q_assign rfl) ?_
      refine Wl.done ?_
      refine Wx.go ?_
      refine Wc.seq ?_
      refine Wc.region ?_
      refine Wl.q (v := Value.pointer (some ⟨s, 0, none⟩)) (q_move hE0_0) ?_
      refine Wl.q (v := Value.int .i64 o) (q_move rfl) ?_
      refine Wl.e (e_call (F := (mp mb (ents ts)) :: F) (args := [Value.pointer (some ⟨s, 0, none⟩), Value.int .i64 o]) Try.call34 rfl (there_yes W0 s (v) mb ts.length (ts.flatMap termCells) o hr)) (fun _ _ => ?_)
      refine Wl.imp (L' := (pt s 65 [v, Value.map (some mb)]) :: (sl 46 4 v ts.length (ts.flatMap termCells)) :: (mp mb (ents ts)) :: F) (fun _ h => h) ?_
      refine Wl.q (v := Value.bool false) (q_not rfl rfl) ?_
      refine Wl.done ?_
      refine Wx.go ?_
      refine Wc.no rfl ?_
      refine Wc.skip ?_
      refine Wx.blockEnd ?_
      refine Wx.go ?_
      refine Wc.region ?_
      refine Wl.q (v := Value.int .i64 ((i + 1 : Nat) : Int)) (q_add (c := ((i + 1 : Nat) : Int)) hE17_0 rfl (by rw [wrap_i64] <;> omega)) ?_
      refine Wl.q (v := Value.int .i64 ((i + 1 : Nat) : Int)) (q_move rfl) ?_
      refine Wl.done ?_
      refine Wx.at (i + 1) ⟨(by omega), rfl, hE0_0, hE1_0, hE15_0, hE16_0, (by omega), (take_all hget hall hr)⟩ (fun w hs => hs)
    ·
      refine Wl.q (v := Value.bool false) (q_lss (r := false) hE17_0 hE16_0 (decide_eq_false hlt)) ?_
      refine Wl.done ?_
      refine Wx.go ?_
      refine Wc.seq ?_
      refine Wc.no rfl ?_
      refine Wc.exit ?_
      refine Wx.thenExit ?_
      refine Wx.thenExit ?_
      refine Wx.out ?_
      refine Wx.go ?_
      refine Wc.seq ?_
      refine Wc.seq ?_
      refine Wc.region ?_
      refine Wl.q (v := vi) (q_move hE1_0) ?_
      refine Wl.q (v := Value.int .i64 ((li.length : Nat) : Int)) (q_len_is Try.underlying23 rfl hli.shape) ?_
      refine Wl.q (v := Value.bool false) (q_eql (r := false) rfl rfl (decide_eq_false (by omega))) ?_
      refine Wl.done ?_
      refine Wx.go ?_
      refine Wc.no rfl ?_
      refine Wc.skip ?_
      refine Wx.go ?_
      refine Wc.seq ?_
      refine Wc.region ?_
      obtain ⟨last, hlast⟩ : ∃ o, li[li.length - 1]? = some o := ⟨li[li.length - 1]'(by omega), List.getElem?_eq_getElem (by omega)⟩
      have hlr := hall0 last (List.mem_of_getElem? hlast)
      have hdrop : li.drop (li.length - 1) = [last] := by rw [List.drop_eq_getElem_cons (by omega), (List.getElem?_eq_some_iff.1 hlast).2, List.drop_eq_nil_of_le (by omega)]
      refine Wl.q (v := vi) (q_move hE1_0) ?_
      refine Wl.q (v := vi) (q_move hE1_0) ?_
      refine Wl.q (v := Value.int .i64 ((li.length : Nat) : Int)) (q_len_is Try.underlying23 rfl hli.shape) ?_
      refine Wl.q (v := Value.int .i64 (((li.length : Nat) : Int) - 1)) (q_sub (c := (((li.length : Nat) : Int) - 1)) rfl rfl (wrap_i64 (by omega) (by omega))) ?_
      refine Wl.q (v := Value.pointer (some ⟨(rb vi), ro vi + ((((li.length : Nat) : Int) - 1)).toNat, none⟩)) (q_idx_is (m := ro vi + ((((li.length : Nat) : Int) - 1)).toNat) se_23 rfl (hli.some_ (by omega)) rfl (by omega) (by omega) (by simp)) ?_
      refine Wl.q (v := Value.int .i64 last) (q_load sc_3 rfl (.old (by rw [show (((li.length : Nat) : Int) - 1).toNat = li.length - 1 by omega]; exact rd1 hli hlast))) ?_
      refine Wl.q (v := Value.int .i64 last) (q_assign rfl) ?_
      refine Wl.done ?_
      refine Wx.go ?_
      refine Wc.seq ?_
      refine Wc.seq ?_
      refine Wc.region ?_
      refine Wl.q (v := vi) (q_move hE1_0) ?_
      refine Wl.q (v := Value.int .i64 ((li.length : Nat) : Int)) (q_len_is Try.underlying23 rfl hli.shape) ?_
      refine Wl.q (v := Value.int .i64 (((li.length : Nat) : Int) - 2)) (q_sub (c := (((li.length : Nat) : Int) - 2)) rfl rfl (wrap_i64 (by omega) (by omega))) ?_
      refine Wl.q (v := Value.int .i64 (((li.length : Nat) : Int) - 2)) (q_assign rfl) ?_
      refine Wl.done ?_
      refine Wx.go ?_
      refine Wc.block ?_
      have hlz : ((last.toNat : Nat) : Int) = last := by omega
      have hkz : ((li.length : Nat) : Int) - 2 = (((li.length - 1 : Nat) : Int) - 1) := by omega
      refine Wc.loop (X := Nat × (List TermR × Nat)) (fun (k, z) E => E 9 = Value.int .i64 (((k : Nat) : Int) - 1) ∧ E 8 = Value.int .i64 ((z.2 : Nat) : Int) ∧ E 0 = Value.pointer (some ⟨s, 0, none⟩) ∧ E 1 = vi ∧ k ≤ li.length - 1 ∧ LsI ts z (li.drop k) (li.length - 1 - k)) (fun (k, z) => (storeI s z.1) :: F) (fun (k, z) => k) (li.length - 1, (ts, last.toNat)) ?_ ?_ ?_
      · exact ⟨(congrArg (Value.int .i64) hkz), (congrArg (Value.int .i64) hlz.symm), hE0_0, hE1_0, (by omega), (by rw [show li.length - 1 - (li.length - 1) = 0 by omega, hdrop]; exact LsI.start hw (hall0 last (List.mem_of_getElem? hlast)))⟩
      · exact fun w hs => storeI_mk hs
      · rintro ⟨k, z⟩ E4 ⟨hE9_2, hE8_2, hE0_2, hE1_2, hk, hZ⟩
        dsimp only at *
        have hZl := hZ.len
        have hZp := hZ.pos
        have hZe := hZ.le
        refine Wc.seq ?_
        refine Wc.seq ?_
        refine Wc.region ?_
        refine Wl.q (v := Value.int .i64 (((k : Nat) : Int) - 1)) (q_move hE9_2) ?_
        by_cases hkk : (((k : Nat) : Int) - 1) ≥ 0
        ·
          obtain ⟨k', hk'⟩ : ∃ k', k = k' + 1 := ⟨k - 1, by omega⟩
          obtain ⟨o, hget⟩ : ∃ o, li[k']? = some o := ⟨li[k']'(by omega), List.getElem?_eq_getElem (by omega)⟩
          have hr := hall0 o (List.mem_of_getElem? hget)
          have hst := hZ.step hr (by omega)
          have hdk : li.drop k' = o :: li.drop k := by rw [hk', List.drop_eq_getElem_cons (by omega), (List.getElem?_eq_some_iff.1 hget).2]
          refine Wl.q (v := Value.bool true) (q_geq (r := true) rfl rfl (decide_eq_true hkk)) ?_
          refine Wl.done ?_
          refine Wx.go ?_
          refine Wc.yes rfl ?_
          refine Wc.skip ?_
          refine Wx.go ?_
          refine Wc.seq ?_
          refine Wc.block ?_
          refine Wc.seq ?_
          refine Wc.region ?_
          refine Wl.q (v := Value.pointer (some ⟨s, 0, none⟩)) (q_move hE0_2) ?_
          refine Wl.q (v := vi) (q_move hE1_2) ?_
          refine Wl.q (v := Value.int .i64 (((k : Nat) : Int) - 1)) (q_move hE9_2) ?_
          refine Wl.q (v := Value.pointer (some ⟨(rb vi), ro vi + ((((k : Nat) : Int) - 1)).toNat, none⟩)) (q_idx_is (m := ro vi + ((((k : Nat) : Int) - 1)).toNat) se_23 rfl (hli.some_ (by omega)) rfl (by omega) (by omega) (by simp)) ?_
          refine Wl.q (v := Value.int .i64 o) (q_load sc_3 rfl (.old (by rw [show (((k : Nat) : Int) - 1).toNat = k' by omega]; exact rd1 hli hget))) ?_
          refine Wl.q (v := Value.int .i64 ((z.2 : Nat) : Int)) (q_move hE8_2) ?_
          refine Wl.q (v := Value.agg #[Value.int .u8 3, Value.int .i64 0, Value.int .i64 o, Value.int .i64 ((z.2 : Nat) : Int)]) (q_build (pl := [(0, 1), (1, 1), (2, 1), (3, 1)]) Try.underlying46 zo_46 (by kernel_rfl) (by kernel_rfl)) ?_
          refine Wl.e (e_call (F := F) (args := [Value.pointer (some ⟨s, 0, none⟩), Value.agg #[Value.int .u8 3, Value.int .i64 0, Value.int .i64 o, Value.int .i64 ((z.2 : Nat) : Int)]]) Try.call19 rfl (make_c W0 s z.1 (⟨3, 0, o, ((z.2 : Nat) : Int)⟩ : TermR) hZ.wf (by omega) (ok4 (by decide) (by decide) (by decide) (by omega) (by omega) (by omega) (by omega)))) (fun _ _ => ?_)
          refine Wl.imp (L' := (storeI s ((mk z.1 (⟨3, 0, o, ((z.2 : Nat) : Int)⟩ : TermR)).1)) :: F) (fun _ h => h) ?_
          refine Wl.q (v := Value.tuple #[Value.int .i64 (((mk z.1 (⟨3, 0, o, ((z.2 : Nat) : Int)⟩ : TermR)).2.1 : Nat) : Int), Value.int .i64 ((mk z.1 (⟨3, 0, o, ((z.2 : Nat) : Int)⟩ : TermR)).2.2)]) (q_move rfl) ?_
          refine Wl.q (v := Value.int .i64 (((mk z.1 (⟨3, 0, o, ((z.2 : Nat) : Int)⟩ : TermR)).2.1 : Nat) : Int)) (q_extract (i := 0) rfl rfl) ?_
          refine Wl.q (v := Value.int .i64 ((mk z.1 (⟨3, 0, o, ((z.2 : Nat) : Int)⟩ : TermR)).2.2)) (q_extract (i := 1) rfl rfl) ?_
          refine Wl.q (v := Value.int .i64 (((mk z.1 (⟨3, 0, o, ((z.2 : Nat) : Int)⟩ : TermR)).2.1 : Nat) : Int)) (q_assign rfl) ?_
          refine Wl.q (v := Value.int .i64 ((mk z.1 (⟨3, 0, o, ((z.2 : Nat) : Int)⟩ : TermR)).2.2)) (q_assign rfl) ?_
          refine Wl.done ?_
          refine Wx.go ?_
          refine Wc.seq ?_
          refine Wc.seq ?_
          refine Wc.region ?_
          refine Wl.q (v := Value.int .i64 ((mk z.1 (⟨3, 0, o, ((z.2 : Nat) : Int)⟩ : TermR)).2.2)) (q_move rfl) ?_
          refine Wl.q (v := Value.bool false) (q_neq (r := true) rfl rfl (decide_eq_true (hst.1))) ?_
          refine Wl.done ?_
          refine Wx.go ?_
          refine Wc.no rfl ?_
          refine Wc.skip ?_
          refine Wx.go ?_
          refine Wc.region ?_
          refine Wl.q (v := Value.int .i64 (((mk z.1 (⟨3, 0, o, ((z.2 : Nat) : Int)⟩ : TermR)).2.1 : Nat) : Int)) (q_move rfl) ?_
          refine Wl.q (v := Value.int .i64 (((mk z.1 (⟨3, 0, o, ((z.2 : Nat) : Int)⟩ : TermR)).2.1 : Nat) : Int)) (q_assign rfl) ?_
          refine Wl.done ?_
          refine Wx.blockEnd ?_
          refine Wx.go ?_
          refine Wc.region ?_
          refine Wl.q (v := Value.int .i64 (((k : Nat) : Int) - 1)) (q_move hE9_2) ?_
          refine Wl.q (v := Value.int .i64 (((k' : Nat) : Int) - 1)) (q_sub (c := (((k' : Nat) : Int) - 1)) rfl rfl (by rw [wrap_i64 (by omega) (by omega)]; omega)) ?_
          refine Wl.q (v := Value.int .i64 (((k' : Nat) : Int) - 1)) (q_assign rfl) ?_
          refine Wl.done ?_
          refine Wx.at (k', ((mk z.1 (⟨3, 0, o, ((z.2 : Nat) : Int)⟩ : TermR)).1, (mk z.1 (⟨3, 0, o, ((z.2 : Nat) : Int)⟩ : TermR)).2.1)) ⟨(by simp only; omega), rfl, rfl, hE0_2, hE1_2, (by simp only; omega), (by rw [hdk, show li.length - 1 - k' = li.length - 1 - k + 1 by omega]; exact hst.2)⟩ (fun w hs => hs)
        ·
          have hk0 : k = 0 := by omega
          refine Wl.q (v := Value.bool false) (q_geq (r := false) rfl rfl (decide_eq_false hkk)) ?_
          refine Wl.done ?_
          refine Wx.go ?_
          refine Wc.no rfl ?_
          refine Wc.exit ?_
          refine Wx.thenExit ?_
          refine Wx.thenExit ?_
          refine Wx.out ?_
          refine Wx.go ?_
          refine Wc.seq ?_
          refine Wc.region ?_
          refine Wl.q (v := Value.int .i64 ((z.2 : Nat) : Int)) (q_move hE8_2) ?_
          refine Wl.q (v := Value.int .i64 ((z.2 : Nat) : Int)) (q_assign rfl) ?_
          refine Wl.q (v := Value.int .i64 0) (q_assign rfl) ?_
          refine Wl.done ?_
          refine Wx.go ?_
          refine Wc.ret ?_
          refine Wx.fin2 rfl (.inl rfl) (fun w hs => ?_)
          exact ⟨z, (by rw [hk0] at hZ; exact hZ), rfl, hs⟩

theorem pairs_big (W0 : World) (vl : Value) (l : List TermR) (hl : Rd W0 vl l.length (l.flatMap termCells)) (hlm : l.length ≤ 9223372036854775807) (hlo : ∀ x ∈ l, okT x) (vk : Value) (kn : List Int) (hk : Rd W0 vk kn.length (kn.flatMap int1)) (hkm : kn.length ≤ 9223372036854775807) (vi : Value) (li : List Int) (hli : Rd W0 vi li.length (li.flatMap int1)) (hlim : li.length ≤ 9223372036854775807) (hbig : 500 < l.length ∨ 500 < kn.length ∨ 50 < li.length) :
    Con Try.prog W0 4 #[vl, vk, vi] [] (X := Unit) (fun _ => True) (fun _ => .bool true) (fun _ => []) := by
  refine Con.of (args := [vl, vk, vi]) Try.func4 rfl Try.ntmps4 rfl (fun F => ?_)
  show Wc _ W0 _ _ _ _ _ (F)
  refine Wc.seq ?_
  refine Wc.region ?_
  refine Wl.q (v := Value.bool false) (q_assign rfl) ?_
  refine Wl.done ?_
  refine Wx.go ?_
  refine Wc.seq ?_
  refine Wc.seq ?_
  refine Wc.region ?_
  refine Wl.q (v := vl) (q_move rfl) ?_
  refine Wl.q (v := Value.int .i64 ((l.length : Nat) : Int)) (q_len_is Try.underlying22 rfl hl.shape) ?_
  by_cases hb1 : ((l.length : Nat) : Int) > 500
  ·
    refine Wl.q (v := Value.bool true) (q_gtr (r := true) rfl rfl (decide_eq_true hb1)) ?_
    refine Wl.q (v := Value.bool true) (q_move rfl) ?_
    refine Wl.no ?_
    refine Wl.no ?_
    refine Wl.no ?_
    refine Wl.q (v := Value.bool true) (q_pick (t := true) rfl rfl) ?_
    refine Wl.q (v := Value.bool true) (q_move rfl) ?_
    refine Wl.no ?_
    refine Wl.no ?_
    refine Wl.no ?_
    refine Wl.q (v := Value.bool true) (q_pick (t := true) rfl rfl) ?_
    refine Wl.done ?_
    refine Wx.go ?_
    refine Wc.yes rfl ?_
    refine Wc.seq ?_
    refine Wc.region ?_
    refine Wl.q (v := Value.bool true) (q_assign rfl) ?_
    refine Wl.done ?_
    refine Wx.go ?_
    refine Wc.ret ?_
    refine Wx.thenRet ?_
    refine Wx.fin1 rfl (.inl rfl) (fun w hs => ?_)
    exact ⟨(), trivial, rfl, hs⟩
  ·
    refine Wl.q (v := Value.bool false) (q_gtr (r := false) rfl rfl (decide_eq_false hb1)) ?_
    refine Wl.q (v := Value.bool false) (q_move rfl) ?_
    refine Wl.q (v := vk) (q_move rfl) ?_
    refine Wl.q (v := Value.int .i64 ((kn.length : Nat) : Int)) (q_len_is Try.underlying23 rfl hk.shape) ?_
    by_cases hb2 : ((kn.length : Nat) : Int) > 500
    ·
      refine Wl.q (v := Value.bool true) (q_gtr (r := true) rfl rfl (decide_eq_true hb2)) ?_
      refine Wl.q (v := Value.bool true) (q_pick (t := false) rfl rfl) ?_
      refine Wl.q (v := Value.bool true) (q_move rfl) ?_
      refine Wl.no ?_
      refine Wl.no ?_
      refine Wl.no ?_
      refine Wl.q (v := Value.bool true) (q_pick (t := true) rfl rfl) ?_
      refine Wl.done ?_
      refine Wx.go ?_
      refine Wc.yes rfl ?_
      refine Wc.seq ?_
      refine Wc.region ?_
      refine Wl.q (v := Value.bool true) (q_assign rfl) ?_
      refine Wl.done ?_
      refine Wx.go ?_
      refine Wc.ret ?_
      refine Wx.thenRet ?_
      refine Wx.fin1 rfl (.inl rfl) (fun w hs => ?_)
      exact ⟨(), trivial, rfl, hs⟩
    ·
      refine Wl.q (v := Value.bool false) (q_gtr (r := false) rfl rfl (decide_eq_false hb2)) ?_
      refine Wl.q (v := Value.bool false) (q_pick (t := false) rfl rfl) ?_
      refine Wl.q (v := Value.bool false) (q_move rfl) ?_
      refine Wl.q (v := vi) (q_move rfl) ?_
      refine Wl.q (v := Value.int .i64 ((li.length : Nat) : Int)) (q_len_is Try.underlying23 rfl hli.shape) ?_
      by_cases hb3 : ((li.length : Nat) : Int) > 50
      ·
        refine Wl.q (v := Value.bool true) (q_gtr (r := true) rfl rfl (decide_eq_true hb3)) ?_
        refine Wl.q (v := Value.bool true) (q_pick (t := false) rfl rfl) ?_
        refine Wl.done ?_
        refine Wx.go ?_
        refine Wc.yes rfl ?_
        refine Wc.seq ?_
        refine Wc.region ?_
        refine Wl.q (v := Value.bool true) (q_assign rfl) ?_
        refine Wl.done ?_
        refine Wx.go ?_
        refine Wc.ret ?_
        refine Wx.thenRet ?_
        refine Wx.fin1 rfl (.inl rfl) (fun w hs => ?_)
        exact ⟨(), trivial, rfl, hs⟩
      ·
        exfalso; omega

theorem pairs_ok_ok (W0 : World) (vl : Value) (l : List TermR) (hl : Rd W0 vl l.length (l.flatMap termCells)) (hlm : l.length ≤ 9223372036854775807) (hlo : ∀ x ∈ l, okT x) (vk : Value) (kn : List Int) (hk : Rd W0 vk kn.length (kn.flatMap int1)) (hkm : kn.length ≤ 9223372036854775807) (vi : Value) (li : List Int) (hli : Rd W0 vi li.length (li.flatMap int1)) (hlim : li.length ≤ 9223372036854775807) (hs1 : l.length ≤ 500) (hs2 : kn.length ≤ 500) (hs3 : li.length ≤ 50) (hall0 : ∀ x ∈ kn, (1 ≤ x ∧ x ≤ ((build [] l).length : Int))) (hne : 0 < li.length) (hli0 : ∀ x ∈ li, (1 ≤ x ∧ x ≤ ((build [] l).length : Int))) :
    Con Try.prog W0 4 #[vl, vk, vi] [] (X := Unit) (fun _ => True) (fun _ => .bool true) (fun _ => []) := by
  refine Con.of (args := [vl, vk, vi]) Try.func4 rfl Try.ntmps4 rfl (fun F => ?_)
  show Wc _ W0 _ _ _ _ _ (F)
  refine Wc.seq ?_
  refine Wc.region ?_
  refine Wl.q (v := Value.bool false) (q_assign rfl) ?_
  refine Wl.done ?_
  refine Wx.go ?_
  refine Wc.seq ?_
  refine Wc.seq ?_
  refine Wc.region ?_
  refine Wl.q (v := vl) (q_move rfl) ?_
  refine Wl.q (v := Value.int .i64 ((l.length : Nat) : Int)) (q_len_is Try.underlying22 rfl hl.shape) ?_
  refine Wl.q (v := Value.bool false) (q_gtr (r := false) rfl rfl (decide_eq_false (by omega))) ?_
  refine Wl.q (v := Value.bool false) (q_move rfl) ?_
  refine Wl.q (v := vk) (q_move rfl) ?_
  refine Wl.q (v := Value.int .i64 ((kn.length : Nat) : Int)) (q_len_is Try.underlying23 rfl hk.shape) ?_
  refine Wl.q (v := Value.bool false) (q_gtr (r := false) rfl rfl (decide_eq_false (by omega))) ?_
  refine Wl.q (v := Value.bool false) (q_pick (t := false) rfl rfl) ?_
  refine Wl.q (v := Value.bool false) (q_move rfl) ?_
  refine Wl.q (v := vi) (q_move rfl) ?_
  refine Wl.q (v := Value.int .i64 ((li.length : Nat) : Int)) (q_len_is Try.underlying23 rfl hli.shape) ?_
  refine Wl.q (v := Value.bool false) (q_gtr (r := false) rfl rfl (decide_eq_false (by omega))) ?_
  refine Wl.q (v := Value.bool false) (q_pick (t := false) rfl rfl) ?_
  refine Wl.done ?_
  refine Wx.go ?_
  refine Wc.no rfl ?_
  refine Wc.skip ?_
  refine Wx.go ?_
  refine Wc.seq ?_
  refine Wc.region ?_
  refine Wl.q (v := vl) (q_move rfl) ?_
  refine Wl.e (e_call (F := F) (args := [vl]) Try.call9 rfl (build_c W0 vl l hl (by omega) hlo)) (fun ⟨s, r⟩ _ => ?_)
  refine Wl.imp (L' := (storeI s (build [] l)) :: (refI r (build [] l)) :: F) (fun _ h => h) ?_
  have hw := build_all hlo
  have hT := build_all_le l
  refine Wl.q (v := Value.tuple #[Value.pointer (some ⟨s, 0, none⟩), Value.pointer (some ⟨r, 0, none⟩), Value.bool true]) (q_move rfl) ?_
  refine Wl.q (v := Value.pointer (some ⟨s, 0, none⟩)) (q_extract (i := 0) rfl rfl) ?_
  refine Wl.q (v := Value.pointer (some ⟨r, 0, none⟩)) (q_extract (i := 1) rfl rfl) ?_
  refine Wl.q (v := Value.bool true) (q_extract (i := 2) rfl rfl) ?_
  refine Wl.q (v := Value.pointer (some ⟨s, 0, none⟩)) (q_assign rfl) ?_
  refine Wl.q (v := Value.pointer (some ⟨r, 0, none⟩)) (q_assign rfl) ?_
  refine Wl.q (v := Value.bool true) (q_assign rfl) ?_
  refine Wl.done ?_
  refine Wx.go ?_
  refine Wc.seq ?_
  refine Wc.seq ?_
  refine Wc.region ?_
  refine Wl.q (v := Value.bool true) (q_move rfl) ?_
  refine Wl.q (v := Value.bool false) (q_not rfl rfl) ?_
  refine Wl.done ?_
  refine Wx.go ?_
  refine Wc.no rfl ?_
  refine Wc.skip ?_
  refine Wx.go ?_
  refine Wc.seq ?_
  refine Wc.region ?_
  refine Wl.q (v := Value.pointer (some ⟨s, 0, none⟩)) (q_move rfl) ?_
  refine Wl.q (v := vk) (q_move rfl) ?_
  refine Wl.e (e_call (F := (refI r (build [] l)) :: F) (args := [Value.pointer (some ⟨s, 0, none⟩), vk]) Try.call15 rfl (new_ok_ro W0 s (build [] l) hw (by omega) (vk) kn hk (by omega) (by omega) hall0)) (fun k _ => ?_)
  refine Wl.imp (L' := (knowK k s (build [] l) (KL kn)) :: (storeI s (build [] l)) :: (refI r (build [] l)) :: F) (fun _ h => h) ?_
  refine Wl.q (v := Value.tuple #[Value.pointer (some ⟨k, 0, none⟩), Value.int .i64 0]) (q_move rfl) ?_
  refine Wl.q (v := Value.pointer (some ⟨k, 0, none⟩)) (q_extract (i := 0) rfl rfl) ?_
  refine Wl.q (v := Value.int .i64 0) (q_extract (i := 1) rfl rfl) ?_
  refine Wl.q (v := Value.pointer (some ⟨k, 0, none⟩)) (q_assign rfl) ?_
  refine Wl.q (v := Value.int .i64 0) (q_assign rfl) ?_
  refine Wl.done ?_
  refine Wx.go ?_
  refine Wc.seq ?_
  refine Wc.region ?_
  refine Wl.q (v := Value.pointer (some ⟨s, 0, none⟩)) (q_move rfl) ?_
  refine Wl.q (v := vi) (q_move rfl) ?_
  refine Wl.imp (L' := (storeI s (build [] l)) :: (knowK k s (build [] l) (KL kn)) :: (refI r (build [] l)) :: F) (fun _ h => st_pull [1] h) ?_
  refine Wl.e (e_call (F := (knowK k s (build [] l) (KL kn)) :: (refI r (build [] l)) :: F) (args := [Value.pointer (some ⟨s, 0, none⟩), vi]) Try.call16 rfl (Con.store fun v mb => list_ok_o W0 s v mb (build [] l) hw vi li hli (by omega) (by omega) hne hli0)) (fun z hz => ?_)
  refine Wl.imp (L' := (storeI s z.1) :: (knowK k s (build [] l) (KL kn)) :: (refI r (build [] l)) :: F) (fun _ h => h) ?_
  have hzl := hz.len
  have hzp := hz.pos
  have hze := hz.le
  obtain ⟨xs, hxs⟩ := hz.ext
  refine Wl.q (v := Value.tuple #[Value.int .i64 ((z.2 : Nat) : Int), Value.int .i64 0]) (q_move rfl) ?_
  refine Wl.q (v := Value.int .i64 ((z.2 : Nat) : Int)) (q_extract (i := 0) rfl rfl) ?_
  refine Wl.q (v := Value.int .i64 0) (q_extract (i := 1) rfl rfl) ?_
  refine Wl.q (v := Value.int .i64 ((z.2 : Nat) : Int)) (q_assign rfl) ?_
  refine Wl.q (v := Value.int .i64 0) (q_assign rfl) ?_
  refine Wl.done ?_
  refine Wx.go ?_
  refine Wc.seq ?_
  refine Wc.seq ?_
  refine Wc.region ?_
  refine Wl.q (v := Value.int .i64 0) (q_move rfl) ?_
  refine Wl.q (v := Value.bool false) (q_neq (r := true) rfl rfl (decide_eq_true (by decide))) ?_
  refine Wl.q (v := Value.bool false) (q_move rfl) ?_
  refine Wl.q (v := Value.int .i64 0) (q_move rfl) ?_
  refine Wl.q (v := Value.bool false) (q_neq (r := true) rfl rfl (decide_eq_true (by decide))) ?_
  refine Wl.q (v := Value.bool false) (q_pick (t := false) rfl rfl) ?_
  refine Wl.q (v := Value.bool false) (q_move rfl) ?_
  refine Wl.q (v := Value.int .i64 ((z.2 : Nat) : Int)) (q_move rfl) ?_
  by_cases h1 : ((z.2 : Nat) : Int) = 0
  ·
    refine Wl.q (v := Value.bool true) (q_eql (r := true) rfl rfl (decide_eq_true h1)) ?_
    refine Wl.q (v := Value.bool true) (q_pick (t := false) rfl rfl) ?_
    refine Wl.done ?_
    refine Wx.go ?_
    refine Wc.yes rfl ?_
    refine Wc.seq ?_
    refine Wc.region ?_
    refine Wl.e (e_call (F := (storeI s z.1) :: (knowK k s (build [] l) (KL kn)) :: (refI r (build [] l)) :: F) (args := []) Try.call12 rfl (lives_c W0)) (fun _ _ => ?_)
    refine Wl.imp (L' := (storeI s z.1) :: (knowK k s (build [] l) (KL kn)) :: (refI r (build [] l)) :: F) (fun _ h => h) ?_
    refine Wl.q (v := Value.bool true) (q_assign rfl) ?_
    refine Wl.done ?_
    refine Wx.go ?_
    refine Wc.ret ?_
    refine Wx.thenRet ?_
    refine Wx.fin1 rfl (.inl rfl) (fun w hs => ?_)
    exact ⟨(), trivial, rfl, (st_drop (st_drop (st_drop (st_pull [0, 0, 0] hs))))⟩
  ·
    refine Wl.q (v := Value.bool false) (q_eql (r := false) rfl rfl (decide_eq_false h1)) ?_
    refine Wl.q (v := Value.bool false) (q_pick (t := false) rfl rfl) ?_
    refine Wl.done ?_
    refine Wx.go ?_
    refine Wc.no rfl ?_
    refine Wc.skip ?_
    refine Wx.go ?_
    refine Wc.seq ?_
    refine Wc.region ?_
    refine Wl.imp (L' := (knowK k s z.1 (KL kn)) :: (storeI s z.1) :: F) (fun w hs => by have hs := (st_pull [1, 0] (st_drop (st_pull [2] hs))); have h2 := knowK_ext (xs := xs) (hxs ▸ hz.wf) hs; rw [← hxs] at h2; exact h2) ?_
    refine Wl.q (v := Value.bool true) (q_assign rfl) ?_
    refine Wl.done ?_
    refine Wx.go ?_
    refine Wc.seq ?_
    refine Wc.seq ?_
    refine Wc.region ?_
    refine Wl.q (v := Value.int .i64 0) (q_assign rfl) ?_
    refine Wl.done ?_
    refine Wx.go ?_
    refine Wc.block ?_
    refine Wc.loop (X := Nat) (fun i E => E 15 = Value.int .i64 ((i : Nat) : Int) ∧ E 14 = Value.bool ((li.take i).all (fun x => derB z.1 (KL kn) x)) ∧ E 2 = vi ∧ E 10 = Value.pointer (some ⟨k, 0, none⟩) ∧ E 12 = Value.int .i64 ((z.2 : Nat) : Int) ∧ i ≤ li.length) (fun i => (knowK k s z.1 (KL kn)) :: (storeI s z.1) :: F) (fun i => li.length - i) 0 ?_ ?_ ?_
    · exact ⟨rfl, rfl, rfl, rfl, rfl, (by omega)⟩
    · exact fun w hs => hs
    · rintro i E3 ⟨hE15_1, hE14_1, hE2_1, hE10_1, hE12_1, hi⟩
      refine Wc.seq ?_
      refine Wc.seq ?_
      refine Wc.region ?_
      refine Wl.q (v := Value.int .i64 ((i : Nat) : Int)) (q_move hE15_1) ?_
      refine Wl.q (v := vi) (q_move hE2_1) ?_
      refine Wl.q (v := Value.int .i64 ((li.length : Nat) : Int)) (q_len_is Try.underlying23 rfl hli.shape) ?_
      by_cases hlt : ((i : Nat) : Int) < ((li.length : Nat) : Int)
      ·
        obtain ⟨o, hget⟩ : ∃ o, li[i]? = some o := ⟨li[i]'(by omega), List.getElem?_eq_getElem (by omega)⟩
        refine Wl.q (v := Value.bool true) (q_lss (r := true) rfl rfl (decide_eq_true hlt)) ?_
        refine Wl.done ?_
        refine Wx.go ?_
        refine Wc.yes rfl ?_
        refine Wc.skip ?_
        refine Wx.go ?_
        refine Wc.seq ?_
        refine Wc.block ?_
        refine Wc.region ?_
        by_cases hal : ((li.take i).all (fun x => derB z.1 (KL kn) x)) = true
        ·
          refine Wl.q (v := Value.bool true) (q_move (hE14_1.trans (congrArg Value.bool hal))) ?_
          refine Wl.q (v := Value.bool true) (q_move rfl) ?_
          refine Wl.q (v := Value.pointer (some ⟨k, 0, none⟩)) (q_move hE10_1) ?_
          refine Wl.q (v := vi) (q_move hE2_1) ?_
          refine Wl.q (v := Value.int .i64 ((i : Nat) : Int)) (q_move hE15_1) ?_
          refine Wl.q (v := Value.pointer (some ⟨(rb vi), ro vi + i, none⟩)) (q_idx_is (m := ro vi + i) se_23 rfl (hli.some_ (by omega)) rfl (by omega) (by omega) (by simp)) ?_
          refine Wl.q (v := Value.int .i64 o) (q_load sc_3 rfl (.old (rd1 hli hget))) ?_
          refine Wl.e (e_call (F := F) (args := [Value.pointer (some ⟨k, 0, none⟩), Value.int .i64 o]) Try.call17 rfl (khas_c W0 k s z.1 (KL kn) o (by omega))) (fun _ _ => ?_)
          refine Wl.imp (L' := (knowK k s z.1 (KL kn)) :: (storeI s z.1) :: F) (fun _ h => h) ?_
          refine Wl.q (v := Value.bool (derB z.1 (KL kn) o)) (q_pick (t := true) rfl rfl) ?_
          refine Wl.q (v := Value.bool (derB z.1 (KL kn) o)) (q_assign rfl) ?_
          refine Wl.done ?_
          refine Wx.blockEnd ?_
          refine Wx.go ?_
          refine Wc.region ?_
          refine Wl.q (v := Value.int .i64 ((i : Nat) : Int)) (q_move hE15_1) ?_
          refine Wl.q (v := Value.int .i64 ((i + 1 : Nat) : Int)) (q_add (c := ((i + 1 : Nat) : Int)) rfl rfl (by rw [wrap_i64] <;> omega)) ?_
          refine Wl.q (v := Value.int .i64 ((i + 1 : Nat) : Int)) (q_assign rfl) ?_
          refine Wl.done ?_
          refine Wx.at (i + 1) ⟨(by omega), rfl, (congrArg Value.bool (by rw [all_snoc hget, hal, Bool.true_and])), hE2_1, hE10_1, hE12_1, (by omega)⟩ (fun w hs => hs)
        ·
          refine Wl.q (v := Value.bool false) (q_move (hE14_1.trans (congrArg Value.bool (Bool.eq_false_iff.2 hal)))) ?_
          refine Wl.q (v := Value.bool false) (q_move rfl) ?_
          refine Wl.no ?_
          refine Wl.no ?_
          refine Wl.no ?_
          refine Wl.no ?_
          refine Wl.no ?_
          refine Wl.no ?_
          refine Wl.q (v := Value.bool false) (q_pick (t := false) rfl rfl) ?_
          refine Wl.q (v := Value.bool false) (q_assign rfl) ?_
          refine Wl.done ?_
          refine Wx.blockEnd ?_
          refine Wx.go ?_
          refine Wc.region ?_
          refine Wl.q (v := Value.int .i64 ((i : Nat) : Int)) (q_move hE15_1) ?_
          refine Wl.q (v := Value.int .i64 ((i + 1 : Nat) : Int)) (q_add (c := ((i + 1 : Nat) : Int)) rfl rfl (by rw [wrap_i64] <;> omega)) ?_
          refine Wl.q (v := Value.int .i64 ((i + 1 : Nat) : Int)) (q_assign rfl) ?_
          refine Wl.done ?_
          refine Wx.at (i + 1) ⟨(by omega), rfl, (congrArg Value.bool (by rw [all_snoc hget, Bool.eq_false_iff.2 hal, Bool.false_and])), hE2_1, hE10_1, hE12_1, (by omega)⟩ (fun w hs => hs)
      ·
        have hie : i = li.length := by omega
        refine Wl.q (v := Value.bool false) (q_lss (r := false) rfl rfl (decide_eq_false hlt)) ?_
        refine Wl.done ?_
        refine Wx.go ?_
        refine Wc.no rfl ?_
        refine Wc.exit ?_
        refine Wx.thenExit ?_
        refine Wx.thenExit ?_
        refine Wx.out ?_
        refine Wx.go ?_
        refine Wc.seq ?_
        refine Wc.region ?_
        refine Wl.q (v := Value.pointer (some ⟨k, 0, none⟩)) (q_move hE10_1) ?_
        refine Wl.q (v := Value.int .i64 ((z.2 : Nat) : Int)) (q_move hE12_1) ?_
        refine Wl.e (e_call (F := F) (args := [Value.pointer (some ⟨k, 0, none⟩), Value.int .i64 ((z.2 : Nat) : Int)]) Try.call17 rfl (khas_c W0 k s z.1 (KL kn) ((z.2 : Nat) : Int) (by omega))) (fun _ _ => ?_)
        refine Wl.imp (L' := (knowK k s z.1 (KL kn)) :: (storeI s z.1) :: F) (fun _ h => h) ?_
        refine Wl.q (v := Value.bool ((li.take i).all (fun x => derB z.1 (KL kn) x))) (q_move hE14_1) ?_
        refine Wl.q (v := Value.bool true) (q_eql_bool (r := true) rfl rfl Try.underlying4 (beq_iff_eq.2 (by rw [hie, List.take_length]; exact list_all hz _ hli0))) ?_
        refine Wl.q (v := Value.bool true) (q_move rfl) ?_
        refine Wl.e (e_call (F := (knowK k s z.1 (KL kn)) :: (storeI s z.1) :: F) (args := []) Try.call12 rfl (lives_c W0)) (fun _ _ => ?_)
        refine Wl.imp (L' := (knowK k s z.1 (KL kn)) :: (storeI s z.1) :: F) (fun _ h => h) ?_
        refine Wl.q (v := Value.bool true) (q_pick (t := true) rfl rfl) ?_
        refine Wl.q (v := Value.bool true) (q_assign rfl) ?_
        refine Wl.done ?_
        refine Wx.go ?_
        refine Wc.ret ?_
        refine Wx.fin1 rfl (.inl rfl) (fun w hs => ?_)
        exact ⟨(), trivial, rfl, (st_drop (st_drop (st_pull [0, 0] hs)))⟩

theorem pairs_ok_nil (W0 : World) (vl : Value) (l : List TermR) (hl : Rd W0 vl l.length (l.flatMap termCells)) (hlm : l.length ≤ 9223372036854775807) (hlo : ∀ x ∈ l, okT x) (vk : Value) (kn : List Int) (hk : Rd W0 vk kn.length (kn.flatMap int1)) (hkm : kn.length ≤ 9223372036854775807) (vi : Value) (li : List Int) (hli : Rd W0 vi li.length (li.flatMap int1)) (hlim : li.length ≤ 9223372036854775807) (hs1 : l.length ≤ 500) (hs2 : kn.length ≤ 500) (hs3 : li.length ≤ 50) (hall0 : ∀ x ∈ kn, (1 ≤ x ∧ x ≤ ((build [] l).length : Int))) (hnil : li.length = 0) :
    Con Try.prog W0 4 #[vl, vk, vi] [] (X := Unit) (fun _ => True) (fun _ => .bool true) (fun _ => []) := by
  refine Con.of (args := [vl, vk, vi]) Try.func4 rfl Try.ntmps4 rfl (fun F => ?_)
  show Wc _ W0 _ _ _ _ _ (F)
  refine Wc.seq ?_
  refine Wc.region ?_
  refine Wl.q (v := Value.bool false) (q_assign rfl) ?_
  refine Wl.done ?_
  refine Wx.go ?_
  refine Wc.seq ?_
  refine Wc.seq ?_
  refine Wc.region ?_
  refine Wl.q (v := vl) (q_move rfl) ?_
  refine Wl.q (v := Value.int .i64 ((l.length : Nat) : Int)) (q_len_is Try.underlying22 rfl hl.shape) ?_
  refine Wl.q (v := Value.bool false) (q_gtr (r := false) rfl rfl (decide_eq_false (by omega))) ?_
  refine Wl.q (v := Value.bool false) (q_move rfl) ?_
  refine Wl.q (v := vk) (q_move rfl) ?_
  refine Wl.q (v := Value.int .i64 ((kn.length : Nat) : Int)) (q_len_is Try.underlying23 rfl hk.shape) ?_
  refine Wl.q (v := Value.bool false) (q_gtr (r := false) rfl rfl (decide_eq_false (by omega))) ?_
  refine Wl.q (v := Value.bool false) (q_pick (t := false) rfl rfl) ?_
  refine Wl.q (v := Value.bool false) (q_move rfl) ?_
  refine Wl.q (v := vi) (q_move rfl) ?_
  refine Wl.q (v := Value.int .i64 ((li.length : Nat) : Int)) (q_len_is Try.underlying23 rfl hli.shape) ?_
  refine Wl.q (v := Value.bool false) (q_gtr (r := false) rfl rfl (decide_eq_false (by omega))) ?_
  refine Wl.q (v := Value.bool false) (q_pick (t := false) rfl rfl) ?_
  refine Wl.done ?_
  refine Wx.go ?_
  refine Wc.no rfl ?_
  refine Wc.skip ?_
  refine Wx.go ?_
  refine Wc.seq ?_
  refine Wc.region ?_
  refine Wl.q (v := vl) (q_move rfl) ?_
  refine Wl.e (e_call (F := F) (args := [vl]) Try.call9 rfl (build_c W0 vl l hl (by omega) hlo)) (fun ⟨s, r⟩ _ => ?_)
  refine Wl.imp (L' := (storeI s (build [] l)) :: (refI r (build [] l)) :: F) (fun _ h => h) ?_
  have hw := build_all hlo
  have hT := build_all_le l
  refine Wl.q (v := Value.tuple #[Value.pointer (some ⟨s, 0, none⟩), Value.pointer (some ⟨r, 0, none⟩), Value.bool true]) (q_move rfl) ?_
  refine Wl.q (v := Value.pointer (some ⟨s, 0, none⟩)) (q_extract (i := 0) rfl rfl) ?_
  refine Wl.q (v := Value.pointer (some ⟨r, 0, none⟩)) (q_extract (i := 1) rfl rfl) ?_
  refine Wl.q (v := Value.bool true) (q_extract (i := 2) rfl rfl) ?_
  refine Wl.q (v := Value.pointer (some ⟨s, 0, none⟩)) (q_assign rfl) ?_
  refine Wl.q (v := Value.pointer (some ⟨r, 0, none⟩)) (q_assign rfl) ?_
  refine Wl.q (v := Value.bool true) (q_assign rfl) ?_
  refine Wl.done ?_
  refine Wx.go ?_
  refine Wc.seq ?_
  refine Wc.seq ?_
  refine Wc.region ?_
  refine Wl.q (v := Value.bool true) (q_move rfl) ?_
  refine Wl.q (v := Value.bool false) (q_not rfl rfl) ?_
  refine Wl.done ?_
  refine Wx.go ?_
  refine Wc.no rfl ?_
  refine Wc.skip ?_
  refine Wx.go ?_
  refine Wc.seq ?_
  refine Wc.region ?_
  refine Wl.q (v := Value.pointer (some ⟨s, 0, none⟩)) (q_move rfl) ?_
  refine Wl.q (v := vk) (q_move rfl) ?_
  refine Wl.e (e_call (F := (refI r (build [] l)) :: F) (args := [Value.pointer (some ⟨s, 0, none⟩), vk]) Try.call15 rfl (new_ok_ro W0 s (build [] l) hw (by omega) (vk) kn hk (by omega) (by omega) hall0)) (fun k _ => ?_)
  refine Wl.imp (L' := (knowK k s (build [] l) (KL kn)) :: (storeI s (build [] l)) :: (refI r (build [] l)) :: F) (fun _ h => h) ?_
  refine Wl.q (v := Value.tuple #[Value.pointer (some ⟨k, 0, none⟩), Value.int .i64 0]) (q_move rfl) ?_
  refine Wl.q (v := Value.pointer (some ⟨k, 0, none⟩)) (q_extract (i := 0) rfl rfl) ?_
  refine Wl.q (v := Value.int .i64 0) (q_extract (i := 1) rfl rfl) ?_
  refine Wl.q (v := Value.pointer (some ⟨k, 0, none⟩)) (q_assign rfl) ?_
  refine Wl.q (v := Value.int .i64 0) (q_assign rfl) ?_
  refine Wl.done ?_
  refine Wx.go ?_
  refine Wc.seq ?_
  refine Wc.region ?_
  refine Wl.q (v := Value.pointer (some ⟨s, 0, none⟩)) (q_move rfl) ?_
  refine Wl.q (v := vi) (q_move rfl) ?_
  refine Wl.imp (L' := (storeI s (build [] l)) :: (knowK k s (build [] l) (KL kn)) :: (refI r (build [] l)) :: F) (fun _ h => st_pull [1] h) ?_
  refine Wl.e (e_call (F := (knowK k s (build [] l) (KL kn)) :: (refI r (build [] l)) :: F) (args := [Value.pointer (some ⟨s, 0, none⟩), vi]) Try.call16 rfl (Con.store fun v mb => list_nil_o W0 s v mb (build [] l) hw vi li hli (by omega) (by omega) hnil)) (fun _ _ => ?_)
  refine Wl.imp (L' := (storeI s (build [] l)) :: (knowK k s (build [] l) (KL kn)) :: (refI r (build [] l)) :: F) (fun _ h => h) ?_
  refine Wl.q (v := Value.tuple #[Value.int .i64 0, Value.int .i64 0]) (q_move rfl) ?_
  refine Wl.q (v := Value.int .i64 0) (q_extract (i := 0) rfl rfl) ?_
  refine Wl.q (v := Value.int .i64 0) (q_extract (i := 1) rfl rfl) ?_
  refine Wl.q (v := Value.int .i64 0) (q_assign rfl) ?_
  refine Wl.q (v := Value.int .i64 0) (q_assign rfl) ?_
  refine Wl.done ?_
  refine Wx.go ?_
  refine Wc.seq ?_
  refine Wc.seq ?_
  refine Wc.region ?_
  refine Wl.q (v := Value.int .i64 0) (q_move rfl) ?_
  refine Wl.q (v := Value.bool false) (q_neq (r := true) rfl rfl (decide_eq_true (by decide))) ?_
  refine Wl.q (v := Value.bool false) (q_move rfl) ?_
  refine Wl.q (v := Value.int .i64 0) (q_move rfl) ?_
  refine Wl.q (v := Value.bool false) (q_neq (r := true) rfl rfl (decide_eq_true (by decide))) ?_
  refine Wl.q (v := Value.bool false) (q_pick (t := false) rfl rfl) ?_
  refine Wl.q (v := Value.bool false) (q_move rfl) ?_
  refine Wl.q (v := Value.int .i64 0) (q_move rfl) ?_
  refine Wl.q (v := Value.bool true) (q_eql (r := true) rfl rfl (decide_eq_true (by decide))) ?_
  refine Wl.q (v := Value.bool true) (q_pick (t := false) rfl rfl) ?_
  refine Wl.done ?_
  refine Wx.go ?_
  refine Wc.yes rfl ?_
  refine Wc.seq ?_
  refine Wc.region ?_
  refine Wl.e (e_call (F := (storeI s (build [] l)) :: (knowK k s (build [] l) (KL kn)) :: (refI r (build [] l)) :: F) (args := []) Try.call12 rfl (lives_c W0)) (fun _ _ => ?_)
  refine Wl.imp (L' := (storeI s (build [] l)) :: (knowK k s (build [] l) (KL kn)) :: (refI r (build [] l)) :: F) (fun _ h => h) ?_
  refine Wl.q (v := Value.bool true) (q_assign rfl) ?_
  refine Wl.done ?_
  refine Wx.go ?_
  refine Wc.ret ?_
  refine Wx.thenRet ?_
  refine Wx.fin1 rfl (.inl rfl) (fun w hs => ?_)
  exact ⟨(), trivial, rfl, (st_drop (st_drop (st_drop (st_pull [0, 0, 0] hs))))⟩

theorem pairs_ok_bad (W0 : World) (vl : Value) (l : List TermR) (hl : Rd W0 vl l.length (l.flatMap termCells)) (hlm : l.length ≤ 9223372036854775807) (hlo : ∀ x ∈ l, okT x) (vk : Value) (kn : List Int) (hk : Rd W0 vk kn.length (kn.flatMap int1)) (hkm : kn.length ≤ 9223372036854775807) (vi : Value) (li : List Int) (hli : Rd W0 vi li.length (li.flatMap int1)) (hlim : li.length ≤ 9223372036854775807) (hs1 : l.length ≤ 500) (hs2 : kn.length ≤ 500) (hs3 : li.length ≤ 50) (hall0 : ∀ x ∈ kn, (1 ≤ x ∧ x ≤ ((build [] l).length : Int))) (hbadl : ∃ x ∈ li, ¬ (1 ≤ x ∧ x ≤ ((build [] l).length : Int))) :
    Con Try.prog W0 4 #[vl, vk, vi] [] (X := Unit) (fun _ => True) (fun _ => .bool true) (fun _ => []) := by
  refine Con.of (args := [vl, vk, vi]) Try.func4 rfl Try.ntmps4 rfl (fun F => ?_)
  show Wc _ W0 _ _ _ _ _ (F)
  refine Wc.seq ?_
  refine Wc.region ?_
  refine Wl.q (v := Value.bool false) (q_assign rfl) ?_
  refine Wl.done ?_
  refine Wx.go ?_
  refine Wc.seq ?_
  refine Wc.seq ?_
  refine Wc.region ?_
  refine Wl.q (v := vl) (q_move rfl) ?_
  refine Wl.q (v := Value.int .i64 ((l.length : Nat) : Int)) (q_len_is Try.underlying22 rfl hl.shape) ?_
  refine Wl.q (v := Value.bool false) (q_gtr (r := false) rfl rfl (decide_eq_false (by omega))) ?_
  refine Wl.q (v := Value.bool false) (q_move rfl) ?_
  refine Wl.q (v := vk) (q_move rfl) ?_
  refine Wl.q (v := Value.int .i64 ((kn.length : Nat) : Int)) (q_len_is Try.underlying23 rfl hk.shape) ?_
  refine Wl.q (v := Value.bool false) (q_gtr (r := false) rfl rfl (decide_eq_false (by omega))) ?_
  refine Wl.q (v := Value.bool false) (q_pick (t := false) rfl rfl) ?_
  refine Wl.q (v := Value.bool false) (q_move rfl) ?_
  refine Wl.q (v := vi) (q_move rfl) ?_
  refine Wl.q (v := Value.int .i64 ((li.length : Nat) : Int)) (q_len_is Try.underlying23 rfl hli.shape) ?_
  refine Wl.q (v := Value.bool false) (q_gtr (r := false) rfl rfl (decide_eq_false (by omega))) ?_
  refine Wl.q (v := Value.bool false) (q_pick (t := false) rfl rfl) ?_
  refine Wl.done ?_
  refine Wx.go ?_
  refine Wc.no rfl ?_
  refine Wc.skip ?_
  refine Wx.go ?_
  refine Wc.seq ?_
  refine Wc.region ?_
  refine Wl.q (v := vl) (q_move rfl) ?_
  refine Wl.e (e_call (F := F) (args := [vl]) Try.call9 rfl (build_c W0 vl l hl (by omega) hlo)) (fun ⟨s, r⟩ _ => ?_)
  refine Wl.imp (L' := (storeI s (build [] l)) :: (refI r (build [] l)) :: F) (fun _ h => h) ?_
  have hw := build_all hlo
  have hT := build_all_le l
  refine Wl.q (v := Value.tuple #[Value.pointer (some ⟨s, 0, none⟩), Value.pointer (some ⟨r, 0, none⟩), Value.bool true]) (q_move rfl) ?_
  refine Wl.q (v := Value.pointer (some ⟨s, 0, none⟩)) (q_extract (i := 0) rfl rfl) ?_
  refine Wl.q (v := Value.pointer (some ⟨r, 0, none⟩)) (q_extract (i := 1) rfl rfl) ?_
  refine Wl.q (v := Value.bool true) (q_extract (i := 2) rfl rfl) ?_
  refine Wl.q (v := Value.pointer (some ⟨s, 0, none⟩)) (q_assign rfl) ?_
  refine Wl.q (v := Value.pointer (some ⟨r, 0, none⟩)) (q_assign rfl) ?_
  refine Wl.q (v := Value.bool true) (q_assign rfl) ?_
  refine Wl.done ?_
  refine Wx.go ?_
  refine Wc.seq ?_
  refine Wc.seq ?_
  refine Wc.region ?_
  refine Wl.q (v := Value.bool true) (q_move rfl) ?_
  refine Wl.q (v := Value.bool false) (q_not rfl rfl) ?_
  refine Wl.done ?_
  refine Wx.go ?_
  refine Wc.no rfl ?_
  refine Wc.skip ?_
  refine Wx.go ?_
  refine Wc.seq ?_
  refine Wc.region ?_
  refine Wl.q (v := Value.pointer (some ⟨s, 0, none⟩)) (q_move rfl) ?_
  refine Wl.q (v := vk) (q_move rfl) ?_
  refine Wl.e (e_call (F := (refI r (build [] l)) :: F) (args := [Value.pointer (some ⟨s, 0, none⟩), vk]) Try.call15 rfl (new_ok_ro W0 s (build [] l) hw (by omega) (vk) kn hk (by omega) (by omega) hall0)) (fun k _ => ?_)
  refine Wl.imp (L' := (knowK k s (build [] l) (KL kn)) :: (storeI s (build [] l)) :: (refI r (build [] l)) :: F) (fun _ h => h) ?_
  refine Wl.q (v := Value.tuple #[Value.pointer (some ⟨k, 0, none⟩), Value.int .i64 0]) (q_move rfl) ?_
  refine Wl.q (v := Value.pointer (some ⟨k, 0, none⟩)) (q_extract (i := 0) rfl rfl) ?_
  refine Wl.q (v := Value.int .i64 0) (q_extract (i := 1) rfl rfl) ?_
  refine Wl.q (v := Value.pointer (some ⟨k, 0, none⟩)) (q_assign rfl) ?_
  refine Wl.q (v := Value.int .i64 0) (q_assign rfl) ?_
  refine Wl.done ?_
  refine Wx.go ?_
  refine Wc.seq ?_
  refine Wc.region ?_
  refine Wl.q (v := Value.pointer (some ⟨s, 0, none⟩)) (q_move rfl) ?_
  refine Wl.q (v := vi) (q_move rfl) ?_
  refine Wl.imp (L' := (storeI s (build [] l)) :: (knowK k s (build [] l) (KL kn)) :: (refI r (build [] l)) :: F) (fun _ h => st_pull [1] h) ?_
  refine Wl.e (e_call (F := (knowK k s (build [] l) (KL kn)) :: (refI r (build [] l)) :: F) (args := [Value.pointer (some ⟨s, 0, none⟩), vi]) Try.call16 rfl (Con.store fun v mb => list_bad_o W0 s v mb (build [] l) hw vi li hli (by omega) (by omega) hbadl)) (fun _ _ => ?_)
  refine Wl.imp (L' := (storeI s (build [] l)) :: (knowK k s (build [] l) (KL kn)) :: (refI r (build [] l)) :: F) (fun _ h => h) ?_
  refine Wl.q (v := Value.tuple #[Value.int .i64 0, Value.int .i64 1]) (q_move rfl) ?_
  refine Wl.q (v := Value.int .i64 0) (q_extract (i := 0) rfl rfl) ?_
  refine Wl.q (v := Value.int .i64 1) (q_extract (i := 1) rfl rfl) ?_
  refine Wl.q (v := Value.int .i64 0) (q_assign rfl) ?_
  refine Wl.q (v := Value.int .i64 1) (q_assign rfl) ?_
  refine Wl.done ?_
  refine Wx.go ?_
  refine Wc.seq ?_
  refine Wc.seq ?_
  refine Wc.region ?_
  refine Wl.q (v := Value.int .i64 0) (q_move rfl) ?_
  refine Wl.q (v := Value.bool false) (q_neq (r := true) rfl rfl (decide_eq_true (by decide))) ?_
  refine Wl.q (v := Value.bool false) (q_move rfl) ?_
  refine Wl.q (v := Value.int .i64 1) (q_move rfl) ?_
  refine Wl.q (v := Value.bool true) (q_neq (r := false) rfl rfl (decide_eq_false (by decide))) ?_
  refine Wl.q (v := Value.bool true) (q_pick (t := false) rfl rfl) ?_
  refine Wl.q (v := Value.bool true) (q_move rfl) ?_
  refine Wl.no ?_
  refine Wl.no ?_
  refine Wl.q (v := Value.bool true) (q_pick (t := true) rfl rfl) ?_
  refine Wl.done ?_
  refine Wx.go ?_
  refine Wc.yes rfl ?_
  refine Wc.seq ?_
  refine Wc.region ?_
  refine Wl.e (e_call (F := (storeI s (build [] l)) :: (knowK k s (build [] l) (KL kn)) :: (refI r (build [] l)) :: F) (args := []) Try.call12 rfl (lives_c W0)) (fun _ _ => ?_)
  refine Wl.imp (L' := (storeI s (build [] l)) :: (knowK k s (build [] l) (KL kn)) :: (refI r (build [] l)) :: F) (fun _ h => h) ?_
  refine Wl.q (v := Value.bool true) (q_assign rfl) ?_
  refine Wl.done ?_
  refine Wx.go ?_
  refine Wc.ret ?_
  refine Wx.thenRet ?_
  refine Wx.fin1 rfl (.inl rfl) (fun w hs => ?_)
  exact ⟨(), trivial, rfl, (st_drop (st_drop (st_drop (st_pull [0, 0, 0] hs))))⟩

theorem pairs_bad_ok (W0 : World) (vl : Value) (l : List TermR) (hl : Rd W0 vl l.length (l.flatMap termCells)) (hlm : l.length ≤ 9223372036854775807) (hlo : ∀ x ∈ l, okT x) (vk : Value) (kn : List Int) (hk : Rd W0 vk kn.length (kn.flatMap int1)) (hkm : kn.length ≤ 9223372036854775807) (vi : Value) (li : List Int) (hli : Rd W0 vi li.length (li.flatMap int1)) (hlim : li.length ≤ 9223372036854775807) (hs1 : l.length ≤ 500) (hs2 : kn.length ≤ 500) (hs3 : li.length ≤ 50) (hbad : ∃ x ∈ kn, ¬ (1 ≤ x ∧ x ≤ ((build [] l).length : Int))) (hne : 0 < li.length) (hli0 : ∀ x ∈ li, (1 ≤ x ∧ x ≤ ((build [] l).length : Int))) :
    Con Try.prog W0 4 #[vl, vk, vi] [] (X := Unit) (fun _ => True) (fun _ => .bool true) (fun _ => []) := by
  refine Con.of (args := [vl, vk, vi]) Try.func4 rfl Try.ntmps4 rfl (fun F => ?_)
  show Wc _ W0 _ _ _ _ _ (F)
  refine Wc.seq ?_
  refine Wc.region ?_
  refine Wl.q (v := Value.bool false) (q_assign rfl) ?_
  refine Wl.done ?_
  refine Wx.go ?_
  refine Wc.seq ?_
  refine Wc.seq ?_
  refine Wc.region ?_
  refine Wl.q (v := vl) (q_move rfl) ?_
  refine Wl.q (v := Value.int .i64 ((l.length : Nat) : Int)) (q_len_is Try.underlying22 rfl hl.shape) ?_
  refine Wl.q (v := Value.bool false) (q_gtr (r := false) rfl rfl (decide_eq_false (by omega))) ?_
  refine Wl.q (v := Value.bool false) (q_move rfl) ?_
  refine Wl.q (v := vk) (q_move rfl) ?_
  refine Wl.q (v := Value.int .i64 ((kn.length : Nat) : Int)) (q_len_is Try.underlying23 rfl hk.shape) ?_
  refine Wl.q (v := Value.bool false) (q_gtr (r := false) rfl rfl (decide_eq_false (by omega))) ?_
  refine Wl.q (v := Value.bool false) (q_pick (t := false) rfl rfl) ?_
  refine Wl.q (v := Value.bool false) (q_move rfl) ?_
  refine Wl.q (v := vi) (q_move rfl) ?_
  refine Wl.q (v := Value.int .i64 ((li.length : Nat) : Int)) (q_len_is Try.underlying23 rfl hli.shape) ?_
  refine Wl.q (v := Value.bool false) (q_gtr (r := false) rfl rfl (decide_eq_false (by omega))) ?_
  refine Wl.q (v := Value.bool false) (q_pick (t := false) rfl rfl) ?_
  refine Wl.done ?_
  refine Wx.go ?_
  refine Wc.no rfl ?_
  refine Wc.skip ?_
  refine Wx.go ?_
  refine Wc.seq ?_
  refine Wc.region ?_
  refine Wl.q (v := vl) (q_move rfl) ?_
  refine Wl.e (e_call (F := F) (args := [vl]) Try.call9 rfl (build_c W0 vl l hl (by omega) hlo)) (fun ⟨s, r⟩ _ => ?_)
  refine Wl.imp (L' := (storeI s (build [] l)) :: (refI r (build [] l)) :: F) (fun _ h => h) ?_
  have hw := build_all hlo
  have hT := build_all_le l
  refine Wl.q (v := Value.tuple #[Value.pointer (some ⟨s, 0, none⟩), Value.pointer (some ⟨r, 0, none⟩), Value.bool true]) (q_move rfl) ?_
  refine Wl.q (v := Value.pointer (some ⟨s, 0, none⟩)) (q_extract (i := 0) rfl rfl) ?_
  refine Wl.q (v := Value.pointer (some ⟨r, 0, none⟩)) (q_extract (i := 1) rfl rfl) ?_
  refine Wl.q (v := Value.bool true) (q_extract (i := 2) rfl rfl) ?_
  refine Wl.q (v := Value.pointer (some ⟨s, 0, none⟩)) (q_assign rfl) ?_
  refine Wl.q (v := Value.pointer (some ⟨r, 0, none⟩)) (q_assign rfl) ?_
  refine Wl.q (v := Value.bool true) (q_assign rfl) ?_
  refine Wl.done ?_
  refine Wx.go ?_
  refine Wc.seq ?_
  refine Wc.seq ?_
  refine Wc.region ?_
  refine Wl.q (v := Value.bool true) (q_move rfl) ?_
  refine Wl.q (v := Value.bool false) (q_not rfl rfl) ?_
  refine Wl.done ?_
  refine Wx.go ?_
  refine Wc.no rfl ?_
  refine Wc.skip ?_
  refine Wx.go ?_
  refine Wc.seq ?_
  refine Wc.region ?_
  refine Wl.q (v := Value.pointer (some ⟨s, 0, none⟩)) (q_move rfl) ?_
  refine Wl.q (v := vk) (q_move rfl) ?_
  refine Wl.e (e_call (F := (refI r (build [] l)) :: F) (args := [Value.pointer (some ⟨s, 0, none⟩), vk]) Try.call15 rfl (new_bad_ro W0 s (build [] l) hw (by omega) (vk) kn hk (by omega) (by omega) hbad)) (fun _ _ => ?_)
  refine Wl.imp (L' := (storeI s (build [] l)) :: (refI r (build [] l)) :: F) (fun _ h => h) ?_
  refine Wl.q (v := Value.tuple #[Value.pointer none, Value.int .i64 1]) (q_move rfl) ?_
  refine Wl.q (v := Value.pointer none) (q_extract (i := 0) rfl rfl) ?_
  refine Wl.q (v := Value.int .i64 1) (q_extract (i := 1) rfl rfl) ?_
  refine Wl.q (v := Value.pointer none) (q_assign rfl) ?_
  refine Wl.q (v := Value.int .i64 1) (q_assign rfl) ?_
  refine Wl.done ?_
  refine Wx.go ?_
  refine Wc.seq ?_
  refine Wc.region ?_
  refine Wl.q (v := Value.pointer (some ⟨s, 0, none⟩)) (q_move rfl) ?_
  refine Wl.q (v := vi) (q_move rfl) ?_
  refine Wl.e (e_call (F := (refI r (build [] l)) :: F) (args := [Value.pointer (some ⟨s, 0, none⟩), vi]) Try.call16 rfl (Con.store fun v mb => list_ok_o W0 s v mb (build [] l) hw vi li hli (by omega) (by omega) hne hli0)) (fun z hz => ?_)
  refine Wl.imp (L' := (storeI s z.1) :: (refI r (build [] l)) :: F) (fun _ h => h) ?_
  have hzl := hz.len
  have hzp := hz.pos
  have hze := hz.le
  obtain ⟨xs, hxs⟩ := hz.ext
  refine Wl.q (v := Value.tuple #[Value.int .i64 ((z.2 : Nat) : Int), Value.int .i64 0]) (q_move rfl) ?_
  refine Wl.q (v := Value.int .i64 ((z.2 : Nat) : Int)) (q_extract (i := 0) rfl rfl) ?_
  refine Wl.q (v := Value.int .i64 0) (q_extract (i := 1) rfl rfl) ?_
  refine Wl.q (v := Value.int .i64 ((z.2 : Nat) : Int)) (q_assign rfl) ?_
  refine Wl.q (v := Value.int .i64 0) (q_assign rfl) ?_
  refine Wl.done ?_
  refine Wx.go ?_
  refine Wc.seq ?_
  refine Wc.seq ?_
  refine Wc.region ?_
  refine Wl.q (v := Value.int .i64 1) (q_move rfl) ?_
  refine Wl.q (v := Value.bool true) (q_neq (r := false) rfl rfl (decide_eq_false (by decide))) ?_
  refine Wl.q (v := Value.bool true) (q_move rfl) ?_
  refine Wl.no ?_
  refine Wl.no ?_
  refine Wl.q (v := Value.bool true) (q_pick (t := true) rfl rfl) ?_
  refine Wl.q (v := Value.bool true) (q_move rfl) ?_
  refine Wl.no ?_
  refine Wl.no ?_
  refine Wl.q (v := Value.bool true) (q_pick (t := true) rfl rfl) ?_
  refine Wl.done ?_
  refine Wx.go ?_
  refine Wc.yes rfl ?_
  refine Wc.seq ?_
  refine Wc.region ?_
  refine Wl.e (e_call (F := (storeI s z.1) :: (refI r (build [] l)) :: F) (args := []) Try.call12 rfl (lives_c W0)) (fun _ _ => ?_)
  refine Wl.imp (L' := (storeI s z.1) :: (refI r (build [] l)) :: F) (fun _ h => h) ?_
  refine Wl.q (v := Value.bool true) (q_assign rfl) ?_
  refine Wl.done ?_
  refine Wx.go ?_
  refine Wc.ret ?_
  refine Wx.thenRet ?_
  refine Wx.fin1 rfl (.inl rfl) (fun w hs => ?_)
  exact ⟨(), trivial, rfl, (st_drop (st_drop (st_pull [0, 0] hs)))⟩

theorem pairs_bad_nil (W0 : World) (vl : Value) (l : List TermR) (hl : Rd W0 vl l.length (l.flatMap termCells)) (hlm : l.length ≤ 9223372036854775807) (hlo : ∀ x ∈ l, okT x) (vk : Value) (kn : List Int) (hk : Rd W0 vk kn.length (kn.flatMap int1)) (hkm : kn.length ≤ 9223372036854775807) (vi : Value) (li : List Int) (hli : Rd W0 vi li.length (li.flatMap int1)) (hlim : li.length ≤ 9223372036854775807) (hs1 : l.length ≤ 500) (hs2 : kn.length ≤ 500) (hs3 : li.length ≤ 50) (hbad : ∃ x ∈ kn, ¬ (1 ≤ x ∧ x ≤ ((build [] l).length : Int))) (hnil : li.length = 0) :
    Con Try.prog W0 4 #[vl, vk, vi] [] (X := Unit) (fun _ => True) (fun _ => .bool true) (fun _ => []) := by
  refine Con.of (args := [vl, vk, vi]) Try.func4 rfl Try.ntmps4 rfl (fun F => ?_)
  show Wc _ W0 _ _ _ _ _ (F)
  refine Wc.seq ?_
  refine Wc.region ?_
  refine Wl.q (v := Value.bool false) (q_assign rfl) ?_
  refine Wl.done ?_
  refine Wx.go ?_
  refine Wc.seq ?_
  refine Wc.seq ?_
  refine Wc.region ?_
  refine Wl.q (v := vl) (q_move rfl) ?_
  refine Wl.q (v := Value.int .i64 ((l.length : Nat) : Int)) (q_len_is Try.underlying22 rfl hl.shape) ?_
  refine Wl.q (v := Value.bool false) (q_gtr (r := false) rfl rfl (decide_eq_false (by omega))) ?_
  refine Wl.q (v := Value.bool false) (q_move rfl) ?_
  refine Wl.q (v := vk) (q_move rfl) ?_
  refine Wl.q (v := Value.int .i64 ((kn.length : Nat) : Int)) (q_len_is Try.underlying23 rfl hk.shape) ?_
  refine Wl.q (v := Value.bool false) (q_gtr (r := false) rfl rfl (decide_eq_false (by omega))) ?_
  refine Wl.q (v := Value.bool false) (q_pick (t := false) rfl rfl) ?_
  refine Wl.q (v := Value.bool false) (q_move rfl) ?_
  refine Wl.q (v := vi) (q_move rfl) ?_
  refine Wl.q (v := Value.int .i64 ((li.length : Nat) : Int)) (q_len_is Try.underlying23 rfl hli.shape) ?_
  refine Wl.q (v := Value.bool false) (q_gtr (r := false) rfl rfl (decide_eq_false (by omega))) ?_
  refine Wl.q (v := Value.bool false) (q_pick (t := false) rfl rfl) ?_
  refine Wl.done ?_
  refine Wx.go ?_
  refine Wc.no rfl ?_
  refine Wc.skip ?_
  refine Wx.go ?_
  refine Wc.seq ?_
  refine Wc.region ?_
  refine Wl.q (v := vl) (q_move rfl) ?_
  refine Wl.e (e_call (F := F) (args := [vl]) Try.call9 rfl (build_c W0 vl l hl (by omega) hlo)) (fun ⟨s, r⟩ _ => ?_)
  refine Wl.imp (L' := (storeI s (build [] l)) :: (refI r (build [] l)) :: F) (fun _ h => h) ?_
  have hw := build_all hlo
  have hT := build_all_le l
  refine Wl.q (v := Value.tuple #[Value.pointer (some ⟨s, 0, none⟩), Value.pointer (some ⟨r, 0, none⟩), Value.bool true]) (q_move rfl) ?_
  refine Wl.q (v := Value.pointer (some ⟨s, 0, none⟩)) (q_extract (i := 0) rfl rfl) ?_
  refine Wl.q (v := Value.pointer (some ⟨r, 0, none⟩)) (q_extract (i := 1) rfl rfl) ?_
  refine Wl.q (v := Value.bool true) (q_extract (i := 2) rfl rfl) ?_
  refine Wl.q (v := Value.pointer (some ⟨s, 0, none⟩)) (q_assign rfl) ?_
  refine Wl.q (v := Value.pointer (some ⟨r, 0, none⟩)) (q_assign rfl) ?_
  refine Wl.q (v := Value.bool true) (q_assign rfl) ?_
  refine Wl.done ?_
  refine Wx.go ?_
  refine Wc.seq ?_
  refine Wc.seq ?_
  refine Wc.region ?_
  refine Wl.q (v := Value.bool true) (q_move rfl) ?_
  refine Wl.q (v := Value.bool false) (q_not rfl rfl) ?_
  refine Wl.done ?_
  refine Wx.go ?_
  refine Wc.no rfl ?_
  refine Wc.skip ?_
  refine Wx.go ?_
  refine Wc.seq ?_
  refine Wc.region ?_
  refine Wl.q (v := Value.pointer (some ⟨s, 0, none⟩)) (q_move rfl) ?_
  refine Wl.q (v := vk) (q_move rfl) ?_
  refine Wl.e (e_call (F := (refI r (build [] l)) :: F) (args := [Value.pointer (some ⟨s, 0, none⟩), vk]) Try.call15 rfl (new_bad_ro W0 s (build [] l) hw (by omega) (vk) kn hk (by omega) (by omega) hbad)) (fun _ _ => ?_)
  refine Wl.imp (L' := (storeI s (build [] l)) :: (refI r (build [] l)) :: F) (fun _ h => h) ?_
  refine Wl.q (v := Value.tuple #[Value.pointer none, Value.int .i64 1]) (q_move rfl) ?_
  refine Wl.q (v := Value.pointer none) (q_extract (i := 0) rfl rfl) ?_
  refine Wl.q (v := Value.int .i64 1) (q_extract (i := 1) rfl rfl) ?_
  refine Wl.q (v := Value.pointer none) (q_assign rfl) ?_
  refine Wl.q (v := Value.int .i64 1) (q_assign rfl) ?_
  refine Wl.done ?_
  refine Wx.go ?_
  refine Wc.seq ?_
  refine Wc.region ?_
  refine Wl.q (v := Value.pointer (some ⟨s, 0, none⟩)) (q_move rfl) ?_
  refine Wl.q (v := vi) (q_move rfl) ?_
  refine Wl.e (e_call (F := (refI r (build [] l)) :: F) (args := [Value.pointer (some ⟨s, 0, none⟩), vi]) Try.call16 rfl (Con.store fun v mb => list_nil_o W0 s v mb (build [] l) hw vi li hli (by omega) (by omega) hnil)) (fun _ _ => ?_)
  refine Wl.imp (L' := (storeI s (build [] l)) :: (refI r (build [] l)) :: F) (fun _ h => h) ?_
  refine Wl.q (v := Value.tuple #[Value.int .i64 0, Value.int .i64 0]) (q_move rfl) ?_
  refine Wl.q (v := Value.int .i64 0) (q_extract (i := 0) rfl rfl) ?_
  refine Wl.q (v := Value.int .i64 0) (q_extract (i := 1) rfl rfl) ?_
  refine Wl.q (v := Value.int .i64 0) (q_assign rfl) ?_
  refine Wl.q (v := Value.int .i64 0) (q_assign rfl) ?_
  refine Wl.done ?_
  refine Wx.go ?_
  refine Wc.seq ?_
  refine Wc.seq ?_
  refine Wc.region ?_
  refine Wl.q (v := Value.int .i64 1) (q_move rfl) ?_
  refine Wl.q (v := Value.bool true) (q_neq (r := false) rfl rfl (decide_eq_false (by decide))) ?_
  refine Wl.q (v := Value.bool true) (q_move rfl) ?_
  refine Wl.no ?_
  refine Wl.no ?_
  refine Wl.q (v := Value.bool true) (q_pick (t := true) rfl rfl) ?_
  refine Wl.q (v := Value.bool true) (q_move rfl) ?_
  refine Wl.no ?_
  refine Wl.no ?_
  refine Wl.q (v := Value.bool true) (q_pick (t := true) rfl rfl) ?_
  refine Wl.done ?_
  refine Wx.go ?_
  refine Wc.yes rfl ?_
  refine Wc.seq ?_
  refine Wc.region ?_
  refine Wl.e (e_call (F := (storeI s (build [] l)) :: (refI r (build [] l)) :: F) (args := []) Try.call12 rfl (lives_c W0)) (fun _ _ => ?_)
  refine Wl.imp (L' := (storeI s (build [] l)) :: (refI r (build [] l)) :: F) (fun _ h => h) ?_
  refine Wl.q (v := Value.bool true) (q_assign rfl) ?_
  refine Wl.done ?_
  refine Wx.go ?_
  refine Wc.ret ?_
  refine Wx.thenRet ?_
  refine Wx.fin1 rfl (.inl rfl) (fun w hs => ?_)
  exact ⟨(), trivial, rfl, (st_drop (st_drop (st_pull [0, 0] hs)))⟩

theorem pairs_bad_bad (W0 : World) (vl : Value) (l : List TermR) (hl : Rd W0 vl l.length (l.flatMap termCells)) (hlm : l.length ≤ 9223372036854775807) (hlo : ∀ x ∈ l, okT x) (vk : Value) (kn : List Int) (hk : Rd W0 vk kn.length (kn.flatMap int1)) (hkm : kn.length ≤ 9223372036854775807) (vi : Value) (li : List Int) (hli : Rd W0 vi li.length (li.flatMap int1)) (hlim : li.length ≤ 9223372036854775807) (hs1 : l.length ≤ 500) (hs2 : kn.length ≤ 500) (hs3 : li.length ≤ 50) (hbad : ∃ x ∈ kn, ¬ (1 ≤ x ∧ x ≤ ((build [] l).length : Int))) (hbadl : ∃ x ∈ li, ¬ (1 ≤ x ∧ x ≤ ((build [] l).length : Int))) :
    Con Try.prog W0 4 #[vl, vk, vi] [] (X := Unit) (fun _ => True) (fun _ => .bool true) (fun _ => []) := by
  refine Con.of (args := [vl, vk, vi]) Try.func4 rfl Try.ntmps4 rfl (fun F => ?_)
  show Wc _ W0 _ _ _ _ _ (F)
  refine Wc.seq ?_
  refine Wc.region ?_
  refine Wl.q (v := Value.bool false) (q_assign rfl) ?_
  refine Wl.done ?_
  refine Wx.go ?_
  refine Wc.seq ?_
  refine Wc.seq ?_
  refine Wc.region ?_
  refine Wl.q (v := vl) (q_move rfl) ?_
  refine Wl.q (v := Value.int .i64 ((l.length : Nat) : Int)) (q_len_is Try.underlying22 rfl hl.shape) ?_
  refine Wl.q (v := Value.bool false) (q_gtr (r := false) rfl rfl (decide_eq_false (by omega))) ?_
  refine Wl.q (v := Value.bool false) (q_move rfl) ?_
  refine Wl.q (v := vk) (q_move rfl) ?_
  refine Wl.q (v := Value.int .i64 ((kn.length : Nat) : Int)) (q_len_is Try.underlying23 rfl hk.shape) ?_
  refine Wl.q (v := Value.bool false) (q_gtr (r := false) rfl rfl (decide_eq_false (by omega))) ?_
  refine Wl.q (v := Value.bool false) (q_pick (t := false) rfl rfl) ?_
  refine Wl.q (v := Value.bool false) (q_move rfl) ?_
  refine Wl.q (v := vi) (q_move rfl) ?_
  refine Wl.q (v := Value.int .i64 ((li.length : Nat) : Int)) (q_len_is Try.underlying23 rfl hli.shape) ?_
  refine Wl.q (v := Value.bool false) (q_gtr (r := false) rfl rfl (decide_eq_false (by omega))) ?_
  refine Wl.q (v := Value.bool false) (q_pick (t := false) rfl rfl) ?_
  refine Wl.done ?_
  refine Wx.go ?_
  refine Wc.no rfl ?_
  refine Wc.skip ?_
  refine Wx.go ?_
  refine Wc.seq ?_
  refine Wc.region ?_
  refine Wl.q (v := vl) (q_move rfl) ?_
  refine Wl.e (e_call (F := F) (args := [vl]) Try.call9 rfl (build_c W0 vl l hl (by omega) hlo)) (fun ⟨s, r⟩ _ => ?_)
  refine Wl.imp (L' := (storeI s (build [] l)) :: (refI r (build [] l)) :: F) (fun _ h => h) ?_
  have hw := build_all hlo
  have hT := build_all_le l
  refine Wl.q (v := Value.tuple #[Value.pointer (some ⟨s, 0, none⟩), Value.pointer (some ⟨r, 0, none⟩), Value.bool true]) (q_move rfl) ?_
  refine Wl.q (v := Value.pointer (some ⟨s, 0, none⟩)) (q_extract (i := 0) rfl rfl) ?_
  refine Wl.q (v := Value.pointer (some ⟨r, 0, none⟩)) (q_extract (i := 1) rfl rfl) ?_
  refine Wl.q (v := Value.bool true) (q_extract (i := 2) rfl rfl) ?_
  refine Wl.q (v := Value.pointer (some ⟨s, 0, none⟩)) (q_assign rfl) ?_
  refine Wl.q (v := Value.pointer (some ⟨r, 0, none⟩)) (q_assign rfl) ?_
  refine Wl.q (v := Value.bool true) (q_assign rfl) ?_
  refine Wl.done ?_
  refine Wx.go ?_
  refine Wc.seq ?_
  refine Wc.seq ?_
  refine Wc.region ?_
  refine Wl.q (v := Value.bool true) (q_move rfl) ?_
  refine Wl.q (v := Value.bool false) (q_not rfl rfl) ?_
  refine Wl.done ?_
  refine Wx.go ?_
  refine Wc.no rfl ?_
  refine Wc.skip ?_
  refine Wx.go ?_
  refine Wc.seq ?_
  refine Wc.region ?_
  refine Wl.q (v := Value.pointer (some ⟨s, 0, none⟩)) (q_move rfl) ?_
  refine Wl.q (v := vk) (q_move rfl) ?_
  refine Wl.e (e_call (F := (refI r (build [] l)) :: F) (args := [Value.pointer (some ⟨s, 0, none⟩), vk]) Try.call15 rfl (new_bad_ro W0 s (build [] l) hw (by omega) (vk) kn hk (by omega) (by omega) hbad)) (fun _ _ => ?_)
  refine Wl.imp (L' := (storeI s (build [] l)) :: (refI r (build [] l)) :: F) (fun _ h => h) ?_
  refine Wl.q (v := Value.tuple #[Value.pointer none, Value.int .i64 1]) (q_move rfl) ?_
  refine Wl.q (v := Value.pointer none) (q_extract (i := 0) rfl rfl) ?_
  refine Wl.q (v := Value.int .i64 1) (q_extract (i := 1) rfl rfl) ?_
  refine Wl.q (v := Value.pointer none) (q_assign rfl) ?_
  refine Wl.q (v := Value.int .i64 1) (q_assign rfl) ?_
  refine Wl.done ?_
  refine Wx.go ?_
  refine Wc.seq ?_
  refine Wc.region ?_
  refine Wl.q (v := Value.pointer (some ⟨s, 0, none⟩)) (q_move rfl) ?_
  refine Wl.q (v := vi) (q_move rfl) ?_
  refine Wl.e (e_call (F := (refI r (build [] l)) :: F) (args := [Value.pointer (some ⟨s, 0, none⟩), vi]) Try.call16 rfl (Con.store fun v mb => list_bad_o W0 s v mb (build [] l) hw vi li hli (by omega) (by omega) hbadl)) (fun _ _ => ?_)
  refine Wl.imp (L' := (storeI s (build [] l)) :: (refI r (build [] l)) :: F) (fun _ h => h) ?_
  refine Wl.q (v := Value.tuple #[Value.int .i64 0, Value.int .i64 1]) (q_move rfl) ?_
  refine Wl.q (v := Value.int .i64 0) (q_extract (i := 0) rfl rfl) ?_
  refine Wl.q (v := Value.int .i64 1) (q_extract (i := 1) rfl rfl) ?_
  refine Wl.q (v := Value.int .i64 0) (q_assign rfl) ?_
  refine Wl.q (v := Value.int .i64 1) (q_assign rfl) ?_
  refine Wl.done ?_
  refine Wx.go ?_
  refine Wc.seq ?_
  refine Wc.seq ?_
  refine Wc.region ?_
  refine Wl.q (v := Value.int .i64 1) (q_move rfl) ?_
  refine Wl.q (v := Value.bool true) (q_neq (r := false) rfl rfl (decide_eq_false (by decide))) ?_
  refine Wl.q (v := Value.bool true) (q_move rfl) ?_
  refine Wl.no ?_
  refine Wl.no ?_
  refine Wl.q (v := Value.bool true) (q_pick (t := true) rfl rfl) ?_
  refine Wl.q (v := Value.bool true) (q_move rfl) ?_
  refine Wl.no ?_
  refine Wl.no ?_
  refine Wl.q (v := Value.bool true) (q_pick (t := true) rfl rfl) ?_
  refine Wl.done ?_
  refine Wx.go ?_
  refine Wc.yes rfl ?_
  refine Wc.seq ?_
  refine Wc.region ?_
  refine Wl.e (e_call (F := (storeI s (build [] l)) :: (refI r (build [] l)) :: F) (args := []) Try.call12 rfl (lives_c W0)) (fun _ _ => ?_)
  refine Wl.imp (L' := (storeI s (build [] l)) :: (refI r (build [] l)) :: F) (fun _ h => h) ?_
  refine Wl.q (v := Value.bool true) (q_assign rfl) ?_
  refine Wl.done ?_
  refine Wx.go ?_
  refine Wc.ret ?_
  refine Wx.thenRet ?_
  refine Wx.fin1 rfl (.inl rfl) (fun w hs => ?_)
  exact ⟨(), trivial, rfl, (st_drop (st_drop (st_pull [0, 0] hs)))⟩

theorem pairs_law (W0 : World) (vl : Value) (l : List TermR) (hl : Rd W0 vl l.length (l.flatMap termCells)) (hlm : l.length ≤ 9223372036854775807) (hlo : ∀ x ∈ l, okT x) (vk : Value) (kn : List Int) (hk : Rd W0 vk kn.length (kn.flatMap int1)) (hkm : kn.length ≤ 9223372036854775807) (vi : Value) (li : List Int) (hli : Rd W0 vi li.length (li.flatMap int1)) (hlim : li.length ≤ 9223372036854775807)  : Con Try.prog W0 4 #[vl, vk, vi] [] (X := Unit) (fun _ => True) (fun _ => .bool true) (fun _ => []) := by
  by_cases hbig : 500 < l.length ∨ 500 < kn.length ∨ 50 < li.length
  · exact pairs_big W0 vl l hl hlm hlo vk kn hk hkm vi li hli hlim hbig
  rcases all_or_bad kn ((build [] l).length : Int) with hall | hbad <;> rcases all_or_bad li ((build [] l).length : Int) with halli | hbadl
  · by_cases hne : 0 < li.length
    · exact pairs_ok_ok W0 vl l hl hlm hlo vk kn hk hkm vi li hli hlim (by omega) (by omega) (by omega) hall hne halli
    · exact pairs_ok_nil W0 vl l hl hlm hlo vk kn hk hkm vi li hli hlim (by omega) (by omega) (by omega) hall (by omega)
  · exact pairs_ok_bad W0 vl l hl hlm hlo vk kn hk hkm vi li hli hlim (by omega) (by omega) (by omega) hall hbadl
  · by_cases hne : 0 < li.length
    · exact pairs_bad_ok W0 vl l hl hlm hlo vk kn hk hkm vi li hli hlim (by omega) (by omega) (by omega) hbad hne halli
    · exact pairs_bad_nil W0 vl l hl hlm hlo vk kn hk hkm vi li hli hlim (by omega) (by omega) (by omega) hbad (by omega)
  · exact pairs_bad_bad W0 vl l hl hlm hlo vk kn hk hkm vi li hli hlim (by omega) (by omega) (by omega) hbad hbadl

end Go.Proofs.Ytmghnmfhniohkaa
