/- What follows: contracts of the calls. -/
import Derived.Test.YtjjghmkjdgogiaaGreatDoorDdC
namespace Go.Proofs.YtjjghmkjdgogiaaGreatDoor
open Go Go.SL Go.Dd Go.RowKit
set_option linter.unusedVariables false
set_option maxRecDepth 8000
theorem zo_116 : zeroOf Tryz.prog 116 = some (Value.agg #[Value.slice none 0 0, Value.map none]) := by kernel_rfl
theorem fo_118_0 : fieldOff Tryz.prog 118 0 = some 0 := by kernel_rfl
theorem eg_89 : Tryz.prog.eqGuardType Tryz.prog.depth 89 = false := by kernel_rfl
theorem zo_118 : zeroOf Tryz.prog 118 = some (Value.agg #[Value.slice none 0 0]) := by kernel_rfl
theorem splice_map {α : Type} {f : α → Value} {l : List α} {a : Nat} {s : α} (h : a < l.length) : splice (l.map f) a [f s] = (l.set a s).map f := by
 rw [splice, List.map_set, List.set_eq_take_append_cons_drop, if_pos (by simpa using h)]
 simp
theorem map_at {α : Type} {f : α → Value} {l : List α} {i : Nat} {x : α} (h : l[i]? = some x) : (l.map f)[i]? = some (f x) := by rw [List.getElem?_map, h]; rfl
theorem idx_at {ts : List TermR} {t : TermR} {k : Nat} (h : ts[k]? = some t) (hn : ¬ t ∈ ts.take k) : t ∈ ts ∧ ts.idxOf t = k := by
 obtain ⟨hl, he⟩ := List.getElem?_eq_some_iff.1 h
 refine ⟨List.mem_of_getElem? h, ?_⟩
 have h1 : ts = ts.take k ++ ts[k] :: ts.drop (k + 1) := by rw [← List.drop_eq_getElem_cons hl, List.take_append_drop]
 rw [h1, he, List.idxOf_append, if_neg hn, List.idxOf_cons_self, List.length_take]
 omega
theorem notin_snoc {ts : List TermR} {t o : TermR} {k : Nat} (h : ts[k]? = some o) (hn : ¬ t ∈ ts.take k) (ho : ¬ o = t) : ¬ t ∈ ts.take (k + 1) := by
 obtain ⟨hl, he⟩ := List.getElem?_eq_some_iff.1 h
 rw [List.take_succ_eq_append_getElem hl, List.mem_append, List.mem_singleton, he]
 rintro (h' | h')
 · exact hn h'
 · exact ho h'.symm
theorem rdT {W0 : World} {v : Value} {l : List TermR} {k : Nat} {o : TermR} (h : Rd W0 v l.length (l.flatMap termCells)) (hg : l[k]? = some o) (j : Nat) {u : Value} (hj : (termCells o)[j]? = some u) : W0.cell? ⟨rb v, ro v + k * 4 + j, none⟩ = some u := by
 have := h.cell _ _ (flat4 hg j u hj); rwa [← Nat.add_assoc] at this

theorem get_c (W0 : World) (s : Nat) (ts : List TermR) (x : Int) (hl : ts.length ≤ 1048576) (t : TermR) (h1 : 1 ≤ x) (hx : ts[(x - 1).toNat]? = some t) : Con Tryz.prog W0 29 #[Value.pointer (some ⟨s, 0, none⟩), Value.int .i64 x] [storeI s ts] (X := Unit) (fun _ => True) (fun _ => .tuple #[Value.agg #[Value.int .u8 ((t.kind : Nat) : Int), Value.int .i64 t.n, Value.int .i64 t.a, Value.int .i64 t.b], .bool true]) (fun _ => [storeI s ts]) := Con.store fun v mb w F hs => by
 refine (get_o W0 s v mb ts x hl t h1 hx w (mp mb (ents ts) :: F) hs).mono fun e w' h => ?_
 cases e with
 | returned v' => obtain ⟨_, _, e, h⟩ := h; exact ⟨(), trivial, e, storeI_mk h⟩
 | panicked c => exact h
 | outgrown => exact h

theorem get_no (W0 : World) (s : Nat) (ts : List TermR) (x : Int) (hl : ts.length ≤ 1048576) (h : ¬ (1 ≤ x ∧ x ≤ (ts.length : Int))) : Con Tryz.prog W0 29 #[Value.pointer (some ⟨s, 0, none⟩), Value.int .i64 x] [storeI s ts] (X := Unit) (fun _ => True) (fun _ => .tuple #[Value.agg #[Value.int .u8 0, Value.int .i64 0, Value.int .i64 0, Value.int .i64 0], .bool false]) (fun _ => [storeI s ts]) := Con.store fun v mb w F hs => by
 refine (get_no_o W0 s v mb ts x hl h w (mp mb (ents ts) :: F) hs).mono fun e w' h => ?_
 cases e with
 | returned v' => obtain ⟨_, _, e, h⟩ := h; exact ⟨(), trivial, e, storeI_mk h⟩
 | panicked c => exact h
 | outgrown => exact h

theorem len_c (W0 : World) (s : Nat) (ts : List TermR)  : Con Tryz.prog W0 28 #[Value.pointer (some ⟨s, 0, none⟩)] [storeI s ts] (X := Unit) (fun _ => True) (fun _ => .int .i64 ((ts.length : Nat) : Int)) (fun _ => [storeI s ts]) := Con.store fun v mb w F hs => by
 refine (len_o W0 s v mb ts w (mp mb (ents ts) :: F) hs).mono fun e w' h => ?_
 cases e with
 | returned v' => obtain ⟨_, _, e, h⟩ := h; exact ⟨(), trivial, e, storeI_mk h⟩
 | panicked c => exact h
 | outgrown => exact h

theorem tnew_c (W0 : World)  :
  Con Tryz.prog W0 16 #[] [] (X := Nat) (fun _ => True) (fun s => .pointer (some ⟨s, 0, none⟩)) (fun s => [storeI s []]) := by
 refine Con.of (args := []) Tryz.func16 rfl Tryz.ntmps16 rfl (fun F => ?_)
 show Wc _ W0 _ _ _ _ _ (F)
 refine Wc.seq ?_
 refine Wc.region ?_
 refine Wl.q (v := Value.pointer none) (q_assign rfl) ?_
 refine Wl.done ?_
 refine Wx.go ?_
 refine Wc.seq ?_
 refine Wc.region ?_
 refine Wl.e (e_makeMap) (fun mb _ => ?_)
 refine Wl.imp (L' := (mp mb []) :: F) (fun _ h => h) ?_
 refine Wl.q (v := Value.agg #[Value.slice none 0 0, Value.map (some mb)]) (q_build (pl := [(0, 1), (1, 1)]) Tryz.underlying116 zo_116 (by kernel_rfl) (by kernel_rfl)) ?_
 refine Wl.e (e_box (x := .tmp 2) (vs := [Value.slice none 0 0, Value.map (some mb)]) rfl) (fun s _ => ?_)
 refine Wl.imp (L' := (pt s 116 [Value.slice none 0 0, Value.map (some mb)]) :: (mp mb []) :: F) (fun _ h => h) ?_
 refine Wl.q (v := Value.pointer (some ⟨s, 0, none⟩)) (q_assign rfl) ?_
 refine Wl.done ?_
 refine Wx.go ?_
 refine Wc.ret ?_
 refine Wx.fin1 rfl (.inl rfl) (fun w hs => ?_)
 exact ⟨s, trivial, rfl, storeI_mk (v := .slice none 0 0) (mb := mb) (st_swap (st_sl_nil hs))⟩

theorem list0_o (W0 : World) (s : Nat) (v : Value) (mb : Nat) (ts : List TermR) :
    Con Tryz.prog W0 135 #[Value.pointer (some ⟨s, 0, none⟩), Value.slice none 0 0] [pt s 116 [v, Value.map (some mb)], sl 89 4 v ts.length (ts.flatMap termCells)] (X := Unit) (fun _ => True) (fun _ => .tuple #[.int .i64 0, .int .i64 0]) (fun _ => [pt s 116 [v, Value.map (some mb)], sl 89 4 v ts.length (ts.flatMap termCells)]) := by
  refine Con.of (args := [Value.pointer (some ⟨s, 0, none⟩), Value.slice none 0 0]) Tryz.func135 rfl Tryz.ntmps135 rfl (fun F => ?_)
  show Wc _ W0 _ _ _ _ _ ((pt s 116 [v, Value.map (some mb)]) :: (sl 89 4 v ts.length (ts.flatMap termCells)) :: F)
  refine Wc.seq ?_
  refine Wc.region ?_
  refine Wl.q (v := Value.int .i64 0) (q_assign rfl) ?_
  refine Wl.q (v := Value.int .i64 0) (q_assign rfl) ?_
  refine Wl.done ?_
  refine Wx.go ?_
  refine Wc.seq ?_
  refine Wc.seq ?_
  refine Wc.region ?_
  refine Wl.q (v := Value.pointer (some ⟨s, 0, none⟩)) (q_move rfl) ?_
  refine Wl.e (e_call (F := (sl 89 4 v ts.length (ts.flatMap termCells)) :: F) (args := [Value.pointer (some ⟨s, 0, none⟩)]) Tryz.call132 rfl (made_c W0 s (v) mb)) (fun _ _ => ?_)
  refine Wl.imp (L' := (pt s 116 [v, Value.map (some mb)]) :: (sl 89 4 v ts.length (ts.flatMap termCells)) :: F) (fun _ h => h) ?_
  refine Wl.q (v := Value.bool false) (q_not rfl rfl) ?_
  refine Wl.done ?_
  refine Wx.go ?_
  refine Wc.no rfl ?_
  refine Wc.skip ?_
  refine Wx.go ?_
  refine Wc.seq ?_
  refine Wc.seq ?_
  refine Wc.region ?_
  refine Wl.q (v := Value.slice none 0 0) (q_move rfl) ?_
  refine Wl.q (v := Value.int .i64 0) (q_len_slice Tryz.underlying23 rfl) ?_
  refine Wl.q (v := Value.int .i64 0) (q_move rfl) ?_
  refine Wl.done ?_
  refine Wx.go ?_
  refine Wc.block ?_
  refine Wc.loop (X := Unit) (fun _ E => E 17 = Value.int .i64 0 ∧ E 0 = Value.pointer (some ⟨s, 0, none⟩) ∧ E 1 = Value.slice none 0 0 ∧ E 15 = Value.slice none 0 0 ∧ E 16 = Value.int .i64 0) (fun _ => (pt s 116 [v, Value.map (some mb)]) :: (sl 89 4 v ts.length (ts.flatMap termCells)) :: F) (fun _ => 0) () ?_ ?_ ?_
  · exact ⟨rfl, rfl, rfl, rfl, rfl⟩
  · exact fun w hs => hs
  · rintro _ E2 ⟨hE17_0, hE0_0, hE1_0, hE15_0, hE16_0⟩
    refine Wc.seq ?_
    refine Wc.region ?_
    refine Wl.q (v := Value.bool false) (q_lss (r := false) hE17_0 hE16_0 (decide_eq_false (by decide))) ?_
    refine Wl.done ?_
    refine Wx.go ?_
    refine Wc.seq ?_
    refine Wc.no rfl ?_
    refine Wc.exit ?_
    refine Wx.thenExit ?_
    refine Wx.thenExit ?_
    refine Wx.out ?_
    refine Wx.go ?_
    refine Wc.seq ?_
    refine Wc.seq ?_
    refine Wc.region ?_
    refine Wl.q (v := Value.slice none 0 0) (q_move hE1_0) ?_
    refine Wl.q (v := Value.int .i64 0) (q_len_slice Tryz.underlying23 rfl) ?_
    refine Wl.q (v := Value.bool true) (q_eql (r := true) rfl rfl (decide_eq_true (by decide))) ?_
    refine Wl.done ?_
    refine Wx.go ?_
    refine Wc.yes rfl ?_
    refine Wc.seq ?_
    refine Wc.region ?_
    refine Wl.q (v := Value.int .i64 0) (q_assign rfl) ?_
    refine Wl.q (v := Value.int .i64 0) (q_assign rfl) ?_
    refine Wl.done ?_
    refine Wx.go ?_
    refine Wc.ret ?_
    refine Wx.thenRet ?_
    refine Wx.fin2 rfl (.inl rfl) (fun w hs => ?_)
    exact ⟨(), trivial, rfl, hs⟩

theorem list0_c (W0 : World) (s : Nat) (ts : List TermR)  : Con Tryz.prog W0 135 #[Value.pointer (some ⟨s, 0, none⟩), Value.slice none 0 0] [storeI s ts] (X := Unit) (fun _ => True) (fun _ => .tuple #[.int .i64 0, .int .i64 0]) (fun _ => [storeI s ts]) := Con.store fun v mb w F hs => by
 refine (list0_o W0 s v mb ts w (mp mb (ents ts) :: F) hs).mono fun e w' h => ?_
 cases e with
 | returned v' => obtain ⟨_, _, e, h⟩ := h; exact ⟨(), trivial, e, storeI_mk h⟩
 | panicked c => exact h
 | outgrown => exact h


theorem rthere_yes (W0 : World) (r : Nat) (v : Value) (m : Nat) (xs : List Value) (x : Int) (h : 1 ≤ x ∧ x ≤ (m : Int)) :
  Con Tryz.prog W0 138 #[Value.pointer (some ⟨r, 0, none⟩), Value.int .i64 x] [pt r 118 [v], sl 89 4 v m xs] (X := Unit) (fun _ => True) (fun _ => .bool true) (fun _ => [pt r 118 [v], sl 89 4 v m xs]) := by
 refine Con.of (args := [Value.pointer (some ⟨r, 0, none⟩), Value.int .i64 x]) Tryz.func138 rfl Tryz.ntmps138 rfl (fun F => ?_)
 show Wc _ W0 _ _ _ _ _ ((pt r 118 [v]) :: (sl 89 4 v m xs) :: F)
 refine Wc.seq ?_
 refine Wc.region ?_
 refine Wl.q (v := Value.bool false) (q_assign rfl) ?_
 refine Wl.done ?_
 refine Wx.go ?_
 refine Wc.seq ?_
 refine Wc.region ?_
 refine Wl.q (v := Value.int .i64 x) (q_move rfl) ?_
 refine Wl.q (v := Value.bool true) (q_geq (r := true) rfl rfl (decide_eq_true (by omega))) ?_
 refine Wl.q (v := Value.bool true) (q_move rfl) ?_
 refine Wl.q (v := Value.int .i64 x) (q_move rfl) ?_
 refine Wl.q (v := Value.pointer (some ⟨r, 0, none⟩)) (q_move rfl) ?_
 refine Wl.q (v := Value.pointer (some ⟨r, 0, none⟩)) (q_nil_ptr rfl) ?_
 refine Wl.q (v := Value.pointer (some ⟨r, 0, none⟩)) (q_field (m := 0) fo_118_0 rfl rfl) ?_
 refine Wl.q (v := v) (q_load sc_22 rfl (.cel (i := 0) rfl rfl)) ?_
 refine Wl.q (v := Value.int .i64 ((m : Nat) : Int)) (q_len_sl (i := 1) Tryz.underlying22 rfl rfl) ?_
 refine Wl.q (v := Value.bool true) (q_leq (r := true) rfl rfl (decide_eq_true (by omega))) ?_
 refine Wl.q (v := Value.bool true) (q_pick (t := true) rfl rfl) ?_
 refine Wl.q (v := Value.bool true) (q_assign rfl) ?_
 refine Wl.done ?_
 refine Wx.go ?_
 refine Wc.ret ?_
 refine Wx.fin1 rfl (.inl rfl) (fun w hs => ?_)
 exact ⟨(), trivial, rfl, hs⟩

theorem rthere_no0 (W0 : World) (r : Nat) (v : Value) (m : Nat) (xs : List Value) (x : Int) (h : ¬ 1 ≤ x) :
  Con Tryz.prog W0 138 #[Value.pointer (some ⟨r, 0, none⟩), Value.int .i64 x] [pt r 118 [v], sl 89 4 v m xs] (X := Unit) (fun _ => True) (fun _ => .bool false) (fun _ => [pt r 118 [v], sl 89 4 v m xs]) := by
 refine Con.of (args := [Value.pointer (some ⟨r, 0, none⟩), Value.int .i64 x]) Tryz.func138 rfl Tryz.ntmps138 rfl (fun F => ?_)
 show Wc _ W0 _ _ _ _ _ ((pt r 118 [v]) :: (sl 89 4 v m xs) :: F)
 refine Wc.seq ?_
 refine Wc.region ?_
 refine Wl.q (v := Value.bool false) (q_assign rfl) ?_
 refine Wl.done ?_
 refine Wx.go ?_
 refine Wc.seq ?_
 refine Wc.region ?_
 refine Wl.q (v := Value.int .i64 x) (q_move rfl) ?_
 refine Wl.q (v := Value.bool false) (q_geq (r := false) rfl rfl (decide_eq_false (by omega))) ?_
 refine Wl.q (v := Value.bool false) (q_move rfl) ?_
 refine Wl.no ?_
 refine Wl.no ?_
 refine Wl.no ?_
 refine Wl.no ?_
 refine Wl.no ?_
 refine Wl.no ?_
 refine Wl.no ?_
 refine Wl.q (v := Value.bool false) (q_pick (t := false) rfl rfl) ?_
 refine Wl.q (v := Value.bool false) (q_assign rfl) ?_
 refine Wl.done ?_
 refine Wx.go ?_
 refine Wc.ret ?_
 refine Wx.fin1 rfl (.inl rfl) (fun w hs => ?_)
 exact ⟨(), trivial, rfl, hs⟩

theorem rthere_no1 (W0 : World) (r : Nat) (v : Value) (m : Nat) (xs : List Value) (x : Int) (h1 : 1 ≤ x) (h : ¬ x ≤ (m : Int)) :
  Con Tryz.prog W0 138 #[Value.pointer (some ⟨r, 0, none⟩), Value.int .i64 x] [pt r 118 [v], sl 89 4 v m xs] (X := Unit) (fun _ => True) (fun _ => .bool false) (fun _ => [pt r 118 [v], sl 89 4 v m xs]) := by
 refine Con.of (args := [Value.pointer (some ⟨r, 0, none⟩), Value.int .i64 x]) Tryz.func138 rfl Tryz.ntmps138 rfl (fun F => ?_)
 show Wc _ W0 _ _ _ _ _ ((pt r 118 [v]) :: (sl 89 4 v m xs) :: F)
 refine Wc.seq ?_
 refine Wc.region ?_
 refine Wl.q (v := Value.bool false) (q_assign rfl) ?_
 refine Wl.done ?_
 refine Wx.go ?_
 refine Wc.seq ?_
 refine Wc.region ?_
 refine Wl.q (v := Value.int .i64 x) (q_move rfl) ?_
 refine Wl.q (v := Value.bool true) (q_geq (r := true) rfl rfl (decide_eq_true (by omega))) ?_
 refine Wl.q (v := Value.bool true) (q_move rfl) ?_
 refine Wl.q (v := Value.int .i64 x) (q_move rfl) ?_
 refine Wl.q (v := Value.pointer (some ⟨r, 0, none⟩)) (q_move rfl) ?_
 refine Wl.q (v := Value.pointer (some ⟨r, 0, none⟩)) (q_nil_ptr rfl) ?_
 refine Wl.q (v := Value.pointer (some ⟨r, 0, none⟩)) (q_field (m := 0) fo_118_0 rfl rfl) ?_
 refine Wl.q (v := v) (q_load sc_22 rfl (.cel (i := 0) rfl rfl)) ?_
 refine Wl.q (v := Value.int .i64 ((m : Nat) : Int)) (q_len_sl (i := 1) Tryz.underlying22 rfl rfl) ?_
 refine Wl.q (v := Value.bool false) (q_leq (r := false) rfl rfl (decide_eq_false (by omega))) ?_
 refine Wl.q (v := Value.bool false) (q_pick (t := true) rfl rfl) ?_
 refine Wl.q (v := Value.bool false) (q_assign rfl) ?_
 refine Wl.done ?_
 refine Wx.go ?_
 refine Wc.ret ?_
 refine Wx.fin1 rfl (.inl rfl) (fun w hs => ?_)
 exact ⟨(), trivial, rfl, hs⟩

theorem rthere_no (W0 : World) (r : Nat) (v : Value) (m : Nat) (xs : List Value) (x : Int) (h : ¬ (1 ≤ x ∧ x ≤ (m : Int))) : Con Tryz.prog W0 138 #[Value.pointer (some ⟨r, 0, none⟩), Value.int .i64 x] [pt r 118 [v], sl 89 4 v m xs] (X := Unit) (fun _ => True) (fun _ => .bool false) (fun _ => [pt r 118 [v], sl 89 4 v m xs]) := by
 by_cases h1 : 1 ≤ x
 · exact rthere_no1 W0 r v m xs x h1 (by omega)
 · exact rthere_no0 W0 r v m xs x h1

set_option maxRecDepth 4000 in
theorem rmay_11 (W0 : World) (r : Nat) (v : Value) (m : Nat) (xs : List Value) (t : TermR) (ha : (1 ≤ t.a ∧ t.a ≤ (m : Int))) (hb : (1 ≤ t.b ∧ t.b ≤ (m : Int))) :
  Con Tryz.prog W0 134 #[Value.pointer (some ⟨r, 0, none⟩), Value.agg #[Value.int .u8 ((t.kind : Nat) : Int), Value.int .i64 t.n, Value.int .i64 t.a, Value.int .i64 t.b]] [pt r 118 [v], sl 89 4 v m xs] (X := Unit) (fun _ => True) (fun _ => .bool (may m t)) (fun _ => [pt r 118 [v], sl 89 4 v m xs]) := by
 refine Con.of (args := [Value.pointer (some ⟨r, 0, none⟩), Value.agg #[Value.int .u8 ((t.kind : Nat) : Int), Value.int .i64 t.n, Value.int .i64 t.a, Value.int .i64 t.b]]) Tryz.func134 rfl Tryz.ntmps134 rfl (fun F => ?_)
 show Wc _ W0 _ _ _ _ _ ((pt r 118 [v]) :: (sl 89 4 v m xs) :: F)
 refine Wc.seq ?_
 refine Wc.region ?_
 refine Wl.e (e_box (x := .tmp 1) (vs := [Value.int .u8 ((t.kind : Nat) : Int), Value.int .i64 t.n, Value.int .i64 t.a, Value.int .i64 t.b]) rfl) (fun b1 _ => ?_)
 refine Wl.imp (L' := (pt b1 89 [Value.int .u8 ((t.kind : Nat) : Int), Value.int .i64 t.n, Value.int .i64 t.a, Value.int .i64 t.b]) :: (pt r 118 [v]) :: (sl 89 4 v m xs) :: F) (fun _ h => h) ?_
 refine Wl.q (v := Value.bool false) (q_assign rfl) ?_
 refine Wl.done ?_
 refine Wx.go ?_
 refine Wc.seq ?_
 refine Wc.seq ?_
 refine Wc.region ?_
 refine Wl.q (v := Value.pointer (some ⟨b1, 0, none⟩)) (q_field (m := 0) fo_89_0 rfl rfl) ?_
 refine Wl.q (v := Value.int .u8 ((t.kind : Nat) : Int)) (q_load sc_87 rfl (.cel (i := 0) rfl rfl)) ?_
 refine Wl.done ?_
 refine Wx.go ?_
 refine Wc.block ?_
 refine Wc.seq ?_
 refine Wc.region ?_
 by_cases h2 : ((t.kind : Nat) : Int) = 1
 ·
  refine Wl.q (v := Value.bool true) (q_eql (r := true) rfl rfl (decide_eq_true h2)) ?_
  refine Wl.q (v := Value.bool true) (q_assign rfl) ?_
  refine Wl.done ?_
  refine Wx.go ?_
  refine Wc.yes rfl ?_
  refine Wc.seq ?_
  refine Wc.region ?_
  refine Wl.q (v := Value.pointer (some ⟨b1, 1, none⟩)) (q_field (m := 1) fo_89_1 rfl rfl) ?_
  refine Wl.q (v := Value.int .i64 t.n) (q_load sc_2 rfl (.cel (i := 0) rfl rfl)) ?_
  by_cases h3 : t.n ≥ 0
  ·
   refine Wl.q (v := Value.bool true) (q_geq (r := true) rfl rfl (decide_eq_true h3)) ?_
   refine Wl.q (v := Value.bool true) (q_move rfl) ?_
   refine Wl.q (v := Value.pointer (some ⟨b1, 2, none⟩)) (q_field (m := 2) fo_89_2 rfl rfl) ?_
   refine Wl.q (v := Value.int .i64 t.a) (q_load sc_3 rfl (.cel (i := 0) rfl rfl)) ?_
   by_cases h4 : t.a = 0
   ·
    refine Wl.q (v := Value.bool true) (q_eql (r := true) rfl rfl (decide_eq_true h4)) ?_
    refine Wl.q (v := Value.bool true) (q_pick (t := true) rfl rfl) ?_
    refine Wl.q (v := Value.bool true) (q_move rfl) ?_
    refine Wl.q (v := Value.pointer (some ⟨b1, 3, none⟩)) (q_field (m := 3) fo_89_3 rfl rfl) ?_
    refine Wl.q (v := Value.int .i64 t.b) (q_load sc_3 rfl (.cel (i := 0) rfl rfl)) ?_
    by_cases h5 : t.b = 0
    ·
     refine Wl.q (v := Value.bool true) (q_eql (r := true) rfl rfl (decide_eq_true h5)) ?_
     refine Wl.q (v := Value.bool true) (q_pick (t := true) rfl rfl) ?_
     refine Wl.q (v := Value.bool true) (q_assign rfl) ?_
     refine Wl.done ?_
     refine Wx.go ?_
     refine Wc.ret ?_
     refine Wx.blockRet ?_
     refine Wx.thenRet ?_
     refine Wx.fin1 rfl (.inl rfl) (fun w hs => ?_)
     exact ⟨(), trivial, congrArg Value.bool (Eq.symm (decide_eq_true (by unfold MayP; omega))), (st_drop (st_pull [0] hs))⟩
    ·
     refine Wl.q (v := Value.bool false) (q_eql (r := false) rfl rfl (decide_eq_false h5)) ?_
     refine Wl.q (v := Value.bool false) (q_pick (t := true) rfl rfl) ?_
     refine Wl.q (v := Value.bool false) (q_assign rfl) ?_
     refine Wl.done ?_
     refine Wx.go ?_
     refine Wc.ret ?_
     refine Wx.blockRet ?_
     refine Wx.thenRet ?_
     refine Wx.fin1 rfl (.inl rfl) (fun w hs => ?_)
     exact ⟨(), trivial, congrArg Value.bool (Eq.symm (decide_eq_false (by unfold MayP; omega))), (st_drop (st_pull [0] hs))⟩
   ·
    refine Wl.q (v := Value.bool false) (q_eql (r := false) rfl rfl (decide_eq_false h4)) ?_
    refine Wl.q (v := Value.bool false) (q_pick (t := true) rfl rfl) ?_
    refine Wl.q (v := Value.bool false) (q_move rfl) ?_
    refine Wl.no ?_
    refine Wl.no ?_
    refine Wl.no ?_
    refine Wl.q (v := Value.bool false) (q_pick (t := false) rfl rfl) ?_
    refine Wl.q (v := Value.bool false) (q_assign rfl) ?_
    refine Wl.done ?_
    refine Wx.go ?_
    refine Wc.ret ?_
    refine Wx.blockRet ?_
    refine Wx.thenRet ?_
    refine Wx.fin1 rfl (.inl rfl) (fun w hs => ?_)
    exact ⟨(), trivial, congrArg Value.bool (Eq.symm (decide_eq_false (by unfold MayP; omega))), (st_drop (st_pull [0] hs))⟩
  ·
   refine Wl.q (v := Value.bool false) (q_geq (r := false) rfl rfl (decide_eq_false h3)) ?_
   refine Wl.q (v := Value.bool false) (q_move rfl) ?_
   refine Wl.no ?_
   refine Wl.no ?_
   refine Wl.no ?_
   refine Wl.q (v := Value.bool false) (q_pick (t := false) rfl rfl) ?_
   refine Wl.q (v := Value.bool false) (q_move rfl) ?_
   refine Wl.no ?_
   refine Wl.no ?_
   refine Wl.no ?_
   refine Wl.q (v := Value.bool false) (q_pick (t := false) rfl rfl) ?_
   refine Wl.q (v := Value.bool false) (q_assign rfl) ?_
   refine Wl.done ?_
   refine Wx.go ?_
   refine Wc.ret ?_
   refine Wx.blockRet ?_
   refine Wx.thenRet ?_
   refine Wx.fin1 rfl (.inl rfl) (fun w hs => ?_)
   exact ⟨(), trivial, congrArg Value.bool (Eq.symm (decide_eq_false (by unfold MayP; omega))), (st_drop (st_pull [0] hs))⟩
 ·
  refine Wl.q (v := Value.bool false) (q_eql (r := false) rfl rfl (decide_eq_false h2)) ?_
  refine Wl.q (v := Value.bool false) (q_assign rfl) ?_
  refine Wl.done ?_
  refine Wx.go ?_
  refine Wc.no rfl ?_
  refine Wc.seq ?_
  refine Wc.region ?_
  by_cases h6 : ((t.kind : Nat) : Int) = 2
  ·
   refine Wl.q (v := Value.bool true) (q_eql (r := true) rfl rfl (decide_eq_true h6)) ?_
   refine Wl.q (v := Value.bool true) (q_assign rfl) ?_
   refine Wl.done ?_
   refine Wx.go ?_
   refine Wc.yes rfl ?_
   refine Wc.seq ?_
   refine Wc.region ?_
   refine Wl.q (v := Value.pointer (some ⟨b1, 2, none⟩)) (q_field (m := 2) fo_89_2 rfl rfl) ?_
   refine Wl.q (v := Value.int .i64 t.a) (q_load sc_3 rfl (.cel (i := 0) rfl rfl)) ?_
   by_cases h7 : t.a = 0
   ·
    refine Wl.q (v := Value.bool true) (q_eql (r := true) rfl rfl (decide_eq_true h7)) ?_
    refine Wl.q (v := Value.bool true) (q_move rfl) ?_
    refine Wl.q (v := Value.pointer (some ⟨b1, 3, none⟩)) (q_field (m := 3) fo_89_3 rfl rfl) ?_
    refine Wl.q (v := Value.int .i64 t.b) (q_load sc_3 rfl (.cel (i := 0) rfl rfl)) ?_
    by_cases h8 : t.b = 0
    ·
     refine Wl.q (v := Value.bool true) (q_eql (r := true) rfl rfl (decide_eq_true h8)) ?_
     refine Wl.q (v := Value.bool true) (q_pick (t := true) rfl rfl) ?_
     refine Wl.q (v := Value.bool true) (q_assign rfl) ?_
     refine Wl.done ?_
     refine Wx.go ?_
     refine Wc.ret ?_
     refine Wx.blockRet ?_
     refine Wx.thenRet ?_
     refine Wx.fin1 rfl (.inl rfl) (fun w hs => ?_)
     exact ⟨(), trivial, congrArg Value.bool (Eq.symm (decide_eq_true (by unfold MayP; omega))), (st_drop (st_pull [0] hs))⟩
    ·
     refine Wl.q (v := Value.bool false) (q_eql (r := false) rfl rfl (decide_eq_false h8)) ?_
     refine Wl.q (v := Value.bool false) (q_pick (t := true) rfl rfl) ?_
     refine Wl.q (v := Value.bool false) (q_assign rfl) ?_
     refine Wl.done ?_
     refine Wx.go ?_
     refine Wc.ret ?_
     refine Wx.blockRet ?_
     refine Wx.thenRet ?_
     refine Wx.fin1 rfl (.inl rfl) (fun w hs => ?_)
     exact ⟨(), trivial, congrArg Value.bool (Eq.symm (decide_eq_false (by unfold MayP; omega))), (st_drop (st_pull [0] hs))⟩
   ·
    refine Wl.q (v := Value.bool false) (q_eql (r := false) rfl rfl (decide_eq_false h7)) ?_
    refine Wl.q (v := Value.bool false) (q_move rfl) ?_
    refine Wl.no ?_
    refine Wl.no ?_
    refine Wl.no ?_
    refine Wl.q (v := Value.bool false) (q_pick (t := false) rfl rfl) ?_
    refine Wl.q (v := Value.bool false) (q_assign rfl) ?_
    refine Wl.done ?_
    refine Wx.go ?_
    refine Wc.ret ?_
    refine Wx.blockRet ?_
    refine Wx.thenRet ?_
    refine Wx.fin1 rfl (.inl rfl) (fun w hs => ?_)
    exact ⟨(), trivial, congrArg Value.bool (Eq.symm (decide_eq_false (by unfold MayP; omega))), (st_drop (st_pull [0] hs))⟩
  ·
   refine Wl.q (v := Value.bool false) (q_eql (r := false) rfl rfl (decide_eq_false h6)) ?_
   refine Wl.q (v := Value.bool false) (q_assign rfl) ?_
   refine Wl.done ?_
   refine Wx.go ?_
   refine Wc.no rfl ?_
   refine Wc.seq ?_
   refine Wc.seq ?_
   refine Wc.region ?_
   by_cases h9 : ((t.kind : Nat) : Int) = 3
   ·
    refine Wl.q (v := Value.bool true) (q_eql (r := true) rfl rfl (decide_eq_true h9)) ?_
    refine Wl.q (v := Value.bool true) (q_assign rfl) ?_
    refine Wl.done ?_
    refine Wx.go ?_
    refine Wc.yes rfl ?_
    refine Wc.skip ?_
    refine Wx.go ?_
    refine Wc.yes rfl ?_
    refine Wc.seq ?_
    refine Wc.region ?_
    refine Wl.q (v := Value.pointer (some ⟨b1, 1, none⟩)) (q_field (m := 1) fo_89_1 rfl rfl) ?_
    refine Wl.q (v := Value.int .i64 t.n) (q_load sc_2 rfl (.cel (i := 0) rfl rfl)) ?_
    by_cases h10 : t.n = 0
    ·
     refine Wl.q (v := Value.bool true) (q_eql (r := true) rfl rfl (decide_eq_true h10)) ?_
     refine Wl.q (v := Value.bool true) (q_move rfl) ?_
     refine Wl.q (v := Value.pointer (some ⟨r, 0, none⟩)) (q_move rfl) ?_
     refine Wl.q (v := Value.pointer (some ⟨b1, 2, none⟩)) (q_field (m := 2) fo_89_2 rfl rfl) ?_
     refine Wl.q (v := Value.int .i64 t.a) (q_load sc_3 rfl (.cel (i := 0) rfl rfl)) ?_
     refine Wl.imp (L' := (pt r 118 [v]) :: (sl 89 4 v m xs) :: (pt b1 89 [Value.int .u8 ((t.kind : Nat) : Int), Value.int .i64 t.n, Value.int .i64 t.a, Value.int .i64 t.b]) :: F) (fun _ h => st_pull [1, 1] h) ?_
     refine Wl.e (e_call (F := (pt b1 89 [Value.int .u8 ((t.kind : Nat) : Int), Value.int .i64 t.n, Value.int .i64 t.a, Value.int .i64 t.b]) :: F) (args := [Value.pointer (some ⟨r, 0, none⟩), Value.int .i64 t.a]) Tryz.call138 rfl (rthere_yes W0 r (v) m xs t.a ha)) (fun _ _ => ?_)
     refine Wl.imp (L' := (pt r 118 [v]) :: (sl 89 4 v m xs) :: (pt b1 89 [Value.int .u8 ((t.kind : Nat) : Int), Value.int .i64 t.n, Value.int .i64 t.a, Value.int .i64 t.b]) :: F) (fun _ h => h) ?_
     refine Wl.q (v := Value.bool true) (q_pick (t := true) rfl rfl) ?_
     refine Wl.q (v := Value.bool true) (q_move rfl) ?_
     refine Wl.q (v := Value.pointer (some ⟨r, 0, none⟩)) (q_move rfl) ?_
     refine Wl.q (v := Value.pointer (some ⟨b1, 3, none⟩)) (q_field (m := 3) fo_89_3 rfl rfl) ?_
     refine Wl.q (v := Value.int .i64 t.b) (q_load sc_3 rfl (.cel (i := 2) rfl rfl)) ?_
     refine Wl.e (e_call (F := (pt b1 89 [Value.int .u8 ((t.kind : Nat) : Int), Value.int .i64 t.n, Value.int .i64 t.a, Value.int .i64 t.b]) :: F) (args := [Value.pointer (some ⟨r, 0, none⟩), Value.int .i64 t.b]) Tryz.call138 rfl (rthere_yes W0 r (v) m xs t.b hb)) (fun _ _ => ?_)
     refine Wl.imp (L' := (pt r 118 [v]) :: (sl 89 4 v m xs) :: (pt b1 89 [Value.int .u8 ((t.kind : Nat) : Int), Value.int .i64 t.n, Value.int .i64 t.a, Value.int .i64 t.b]) :: F) (fun _ h => h) ?_
     refine Wl.q (v := Value.bool true) (q_pick (t := true) rfl rfl) ?_
     refine Wl.q (v := Value.bool true) (q_assign rfl) ?_
     refine Wl.done ?_
     refine Wx.go ?_
     refine Wc.ret ?_
     refine Wx.blockRet ?_
     refine Wx.thenRet ?_
     refine Wx.fin1 rfl (.inl rfl) (fun w hs => ?_)
     exact ⟨(), trivial, congrArg Value.bool (Eq.symm (decide_eq_true (by unfold MayP; omega))), (st_drop (st_pull [2] hs))⟩
    ·
     refine Wl.q (v := Value.bool false) (q_eql (r := false) rfl rfl (decide_eq_false h10)) ?_
     refine Wl.q (v := Value.bool false) (q_move rfl) ?_
     refine Wl.no ?_
     refine Wl.no ?_
     refine Wl.no ?_
     refine Wl.no ?_
     refine Wl.q (v := Value.bool false) (q_pick (t := false) rfl rfl) ?_
     refine Wl.q (v := Value.bool false) (q_move rfl) ?_
     refine Wl.no ?_
     refine Wl.no ?_
     refine Wl.no ?_
     refine Wl.no ?_
     refine Wl.q (v := Value.bool false) (q_pick (t := false) rfl rfl) ?_
     refine Wl.q (v := Value.bool false) (q_assign rfl) ?_
     refine Wl.done ?_
     refine Wx.go ?_
     refine Wc.ret ?_
     refine Wx.blockRet ?_
     refine Wx.thenRet ?_
     refine Wx.fin1 rfl (.inl rfl) (fun w hs => ?_)
     exact ⟨(), trivial, congrArg Value.bool (Eq.symm (decide_eq_false (by unfold MayP; omega))), (st_drop (st_pull [0] hs))⟩
   ·
    refine Wl.q (v := Value.bool false) (q_eql (r := false) rfl rfl (decide_eq_false h9)) ?_
    refine Wl.q (v := Value.bool false) (q_assign rfl) ?_
    refine Wl.done ?_
    refine Wx.go ?_
    refine Wc.no rfl ?_
    refine Wc.region ?_
    by_cases h11 : ((t.kind : Nat) : Int) = 6
    ·
     refine Wl.q (v := Value.bool true) (q_eql (r := true) rfl rfl (decide_eq_true h11)) ?_
     refine Wl.q (v := Value.bool true) (q_assign rfl) ?_
     refine Wl.done ?_
     refine Wx.go ?_
     refine Wc.yes rfl ?_
     refine Wc.seq ?_
     refine Wc.region ?_
     refine Wl.q (v := Value.pointer (some ⟨b1, 1, none⟩)) (q_field (m := 1) fo_89_1 rfl rfl) ?_
     refine Wl.q (v := Value.int .i64 t.n) (q_load sc_2 rfl (.cel (i := 0) rfl rfl)) ?_
     by_cases h12 : t.n = 0
     ·
      refine Wl.q (v := Value.bool true) (q_eql (r := true) rfl rfl (decide_eq_true h12)) ?_
      refine Wl.q (v := Value.bool true) (q_move rfl) ?_
      refine Wl.q (v := Value.pointer (some ⟨r, 0, none⟩)) (q_move rfl) ?_
      refine Wl.q (v := Value.pointer (some ⟨b1, 2, none⟩)) (q_field (m := 2) fo_89_2 rfl rfl) ?_
      refine Wl.q (v := Value.int .i64 t.a) (q_load sc_3 rfl (.cel (i := 0) rfl rfl)) ?_
      refine Wl.imp (L' := (pt r 118 [v]) :: (sl 89 4 v m xs) :: (pt b1 89 [Value.int .u8 ((t.kind : Nat) : Int), Value.int .i64 t.n, Value.int .i64 t.a, Value.int .i64 t.b]) :: F) (fun _ h => st_pull [1, 1] h) ?_
      refine Wl.e (e_call (F := (pt b1 89 [Value.int .u8 ((t.kind : Nat) : Int), Value.int .i64 t.n, Value.int .i64 t.a, Value.int .i64 t.b]) :: F) (args := [Value.pointer (some ⟨r, 0, none⟩), Value.int .i64 t.a]) Tryz.call138 rfl (rthere_yes W0 r (v) m xs t.a ha)) (fun _ _ => ?_)
      refine Wl.imp (L' := (pt r 118 [v]) :: (sl 89 4 v m xs) :: (pt b1 89 [Value.int .u8 ((t.kind : Nat) : Int), Value.int .i64 t.n, Value.int .i64 t.a, Value.int .i64 t.b]) :: F) (fun _ h => h) ?_
      refine Wl.q (v := Value.bool true) (q_pick (t := true) rfl rfl) ?_
      refine Wl.q (v := Value.bool true) (q_move rfl) ?_
      refine Wl.q (v := Value.pointer (some ⟨r, 0, none⟩)) (q_move rfl) ?_
      refine Wl.q (v := Value.pointer (some ⟨b1, 3, none⟩)) (q_field (m := 3) fo_89_3 rfl rfl) ?_
      refine Wl.q (v := Value.int .i64 t.b) (q_load sc_3 rfl (.cel (i := 2) rfl rfl)) ?_
      refine Wl.e (e_call (F := (pt b1 89 [Value.int .u8 ((t.kind : Nat) : Int), Value.int .i64 t.n, Value.int .i64 t.a, Value.int .i64 t.b]) :: F) (args := [Value.pointer (some ⟨r, 0, none⟩), Value.int .i64 t.b]) Tryz.call138 rfl (rthere_yes W0 r (v) m xs t.b hb)) (fun _ _ => ?_)
      refine Wl.imp (L' := (pt r 118 [v]) :: (sl 89 4 v m xs) :: (pt b1 89 [Value.int .u8 ((t.kind : Nat) : Int), Value.int .i64 t.n, Value.int .i64 t.a, Value.int .i64 t.b]) :: F) (fun _ h => h) ?_
      refine Wl.q (v := Value.bool true) (q_pick (t := true) rfl rfl) ?_
      refine Wl.q (v := Value.bool true) (q_assign rfl) ?_
      refine Wl.done ?_
      refine Wx.go ?_
      refine Wc.ret ?_
      refine Wx.blockRet ?_
      refine Wx.thenRet ?_
      refine Wx.fin1 rfl (.inl rfl) (fun w hs => ?_)
      exact ⟨(), trivial, congrArg Value.bool (Eq.symm (decide_eq_true (by unfold MayP; omega))), (st_drop (st_pull [2] hs))⟩
     ·
      refine Wl.q (v := Value.bool false) (q_eql (r := false) rfl rfl (decide_eq_false h12)) ?_
      refine Wl.q (v := Value.bool false) (q_move rfl) ?_
      refine Wl.no ?_
      refine Wl.no ?_
      refine Wl.no ?_
      refine Wl.no ?_
      refine Wl.q (v := Value.bool false) (q_pick (t := false) rfl rfl) ?_
      refine Wl.q (v := Value.bool false) (q_move rfl) ?_
      refine Wl.no ?_
      refine Wl.no ?_
      refine Wl.no ?_
      refine Wl.no ?_
      refine Wl.q (v := Value.bool false) (q_pick (t := false) rfl rfl) ?_
      refine Wl.q (v := Value.bool false) (q_assign rfl) ?_
      refine Wl.done ?_
      refine Wx.go ?_
      refine Wc.ret ?_
      refine Wx.blockRet ?_
      refine Wx.thenRet ?_
      refine Wx.fin1 rfl (.inl rfl) (fun w hs => ?_)
      exact ⟨(), trivial, congrArg Value.bool (Eq.symm (decide_eq_false (by unfold MayP; omega))), (st_drop (st_pull [0] hs))⟩
    ·
     refine Wl.q (v := Value.bool false) (q_eql (r := false) rfl rfl (decide_eq_false h11)) ?_
     refine Wl.q (v := Value.bool false) (q_assign rfl) ?_
     refine Wl.done ?_
     refine Wx.go ?_
     refine Wc.no rfl ?_
     refine Wc.seq ?_
     refine Wc.region ?_
     by_cases h13 : ((t.kind : Nat) : Int) = 4
     ·
      refine Wl.q (v := Value.bool true) (q_eql (r := true) rfl rfl (decide_eq_true h13)) ?_
      refine Wl.q (v := Value.bool true) (q_assign rfl) ?_
      refine Wl.done ?_
      refine Wx.go ?_
      refine Wc.yes rfl ?_
      refine Wc.seq ?_
      refine Wc.region ?_
      refine Wl.q (v := Value.pointer (some ⟨b1, 1, none⟩)) (q_field (m := 1) fo_89_1 rfl rfl) ?_
      refine Wl.q (v := Value.int .i64 t.n) (q_load sc_2 rfl (.cel (i := 0) rfl rfl)) ?_
      by_cases h14 : t.n ≥ 0
      ·
       refine Wl.q (v := Value.bool true) (q_geq (r := true) rfl rfl (decide_eq_true h14)) ?_
       refine Wl.q (v := Value.bool true) (q_move rfl) ?_
       refine Wl.q (v := Value.pointer (some ⟨r, 0, none⟩)) (q_move rfl) ?_
       refine Wl.q (v := Value.pointer (some ⟨b1, 2, none⟩)) (q_field (m := 2) fo_89_2 rfl rfl) ?_
       refine Wl.q (v := Value.int .i64 t.a) (q_load sc_3 rfl (.cel (i := 0) rfl rfl)) ?_
       refine Wl.imp (L' := (pt r 118 [v]) :: (sl 89 4 v m xs) :: (pt b1 89 [Value.int .u8 ((t.kind : Nat) : Int), Value.int .i64 t.n, Value.int .i64 t.a, Value.int .i64 t.b]) :: F) (fun _ h => st_pull [1, 1] h) ?_
       refine Wl.e (e_call (F := (pt b1 89 [Value.int .u8 ((t.kind : Nat) : Int), Value.int .i64 t.n, Value.int .i64 t.a, Value.int .i64 t.b]) :: F) (args := [Value.pointer (some ⟨r, 0, none⟩), Value.int .i64 t.a]) Tryz.call138 rfl (rthere_yes W0 r (v) m xs t.a ha)) (fun _ _ => ?_)
       refine Wl.imp (L' := (pt r 118 [v]) :: (sl 89 4 v m xs) :: (pt b1 89 [Value.int .u8 ((t.kind : Nat) : Int), Value.int .i64 t.n, Value.int .i64 t.a, Value.int .i64 t.b]) :: F) (fun _ h => h) ?_
       refine Wl.q (v := Value.bool true) (q_pick (t := true) rfl rfl) ?_
       refine Wl.q (v := Value.bool true) (q_move rfl) ?_
       refine Wl.q (v := Value.pointer (some ⟨b1, 3, none⟩)) (q_field (m := 3) fo_89_3 rfl rfl) ?_
       refine Wl.q (v := Value.int .i64 t.b) (q_load sc_3 rfl (.cel (i := 2) rfl rfl)) ?_
       by_cases h15 : t.b = 0
       ·
        refine Wl.q (v := Value.bool true) (q_eql (r := true) rfl rfl (decide_eq_true h15)) ?_
        refine Wl.q (v := Value.bool true) (q_move rfl) ?_
        refine Wl.no ?_
        refine Wl.no ?_
        refine Wl.no ?_
        refine Wl.no ?_
        refine Wl.q (v := Value.bool true) (q_pick (t := true) rfl rfl) ?_
        refine Wl.q (v := Value.bool true) (q_pick (t := true) rfl rfl) ?_
        refine Wl.q (v := Value.bool true) (q_assign rfl) ?_
        refine Wl.done ?_
        refine Wx.go ?_
        refine Wc.ret ?_
        refine Wx.blockRet ?_
        refine Wx.thenRet ?_
        refine Wx.fin1 rfl (.inl rfl) (fun w hs => ?_)
        exact ⟨(), trivial, congrArg Value.bool (Eq.symm (decide_eq_true (by unfold MayP; omega))), (st_drop (st_pull [2] hs))⟩
       ·
        refine Wl.q (v := Value.bool false) (q_eql (r := false) rfl rfl (decide_eq_false h15)) ?_
        refine Wl.q (v := Value.bool false) (q_move rfl) ?_
        refine Wl.q (v := Value.pointer (some ⟨r, 0, none⟩)) (q_move rfl) ?_
        refine Wl.q (v := Value.pointer (some ⟨b1, 3, none⟩)) (q_field (m := 3) fo_89_3 rfl rfl) ?_
        refine Wl.q (v := Value.int .i64 t.b) (q_load sc_3 rfl (.cel (i := 2) rfl rfl)) ?_
        refine Wl.e (e_call (F := (pt b1 89 [Value.int .u8 ((t.kind : Nat) : Int), Value.int .i64 t.n, Value.int .i64 t.a, Value.int .i64 t.b]) :: F) (args := [Value.pointer (some ⟨r, 0, none⟩), Value.int .i64 t.b]) Tryz.call138 rfl (rthere_yes W0 r (v) m xs t.b hb)) (fun _ _ => ?_)
        refine Wl.imp (L' := (pt r 118 [v]) :: (sl 89 4 v m xs) :: (pt b1 89 [Value.int .u8 ((t.kind : Nat) : Int), Value.int .i64 t.n, Value.int .i64 t.a, Value.int .i64 t.b]) :: F) (fun _ h => h) ?_
        refine Wl.q (v := Value.bool true) (q_pick (t := false) rfl rfl) ?_
        refine Wl.q (v := Value.bool true) (q_pick (t := true) rfl rfl) ?_
        refine Wl.q (v := Value.bool true) (q_assign rfl) ?_
        refine Wl.done ?_
        refine Wx.go ?_
        refine Wc.ret ?_
        refine Wx.blockRet ?_
        refine Wx.thenRet ?_
        refine Wx.fin1 rfl (.inl rfl) (fun w hs => ?_)
        exact ⟨(), trivial, congrArg Value.bool (Eq.symm (decide_eq_true (by unfold MayP; omega))), (st_drop (st_pull [2] hs))⟩
      ·
       refine Wl.q (v := Value.bool false) (q_geq (r := false) rfl rfl (decide_eq_false h14)) ?_
       refine Wl.q (v := Value.bool false) (q_move rfl) ?_
       refine Wl.no ?_
       refine Wl.no ?_
       refine Wl.no ?_
       refine Wl.no ?_
       refine Wl.q (v := Value.bool false) (q_pick (t := false) rfl rfl) ?_
       refine Wl.q (v := Value.bool false) (q_move rfl) ?_
       refine Wl.no ?_
       refine Wl.no ?_
       refine Wl.no ?_
       refine Wl.no ?_
       refine Wl.no ?_
       refine Wl.no ?_
       refine Wl.no ?_
       refine Wl.no ?_
       refine Wl.no ?_
       refine Wl.q (v := Value.bool false) (q_pick (t := false) rfl rfl) ?_
       refine Wl.q (v := Value.bool false) (q_assign rfl) ?_
       refine Wl.done ?_
       refine Wx.go ?_
       refine Wc.ret ?_
       refine Wx.blockRet ?_
       refine Wx.thenRet ?_
       refine Wx.fin1 rfl (.inl rfl) (fun w hs => ?_)
       exact ⟨(), trivial, congrArg Value.bool (Eq.symm (decide_eq_false (by unfold MayP; omega))), (st_drop (st_pull [0] hs))⟩
     ·
      refine Wl.q (v := Value.bool false) (q_eql (r := false) rfl rfl (decide_eq_false h13)) ?_
      refine Wl.q (v := Value.bool false) (q_assign rfl) ?_
      refine Wl.done ?_
      refine Wx.go ?_
      refine Wc.no rfl ?_
      refine Wc.seq ?_
      refine Wc.seq ?_
      refine Wc.region ?_
      by_cases h16 : ((t.kind : Nat) : Int) = 5
      ·
       refine Wl.q (v := Value.bool true) (q_eql (r := true) rfl rfl (decide_eq_true h16)) ?_
       refine Wl.q (v := Value.bool true) (q_assign rfl) ?_
       refine Wl.done ?_
       refine Wx.go ?_
       refine Wc.yes rfl ?_
       refine Wc.skip ?_
       refine Wx.go ?_
       refine Wc.yes rfl ?_
       refine Wc.seq ?_
       refine Wc.region ?_
       refine Wl.q (v := Value.pointer (some ⟨b1, 1, none⟩)) (q_field (m := 1) fo_89_1 rfl rfl) ?_
       refine Wl.q (v := Value.int .i64 t.n) (q_load sc_2 rfl (.cel (i := 0) rfl rfl)) ?_
       by_cases h17 : t.n = 0
       ·
        refine Wl.q (v := Value.bool true) (q_eql (r := true) rfl rfl (decide_eq_true h17)) ?_
        refine Wl.q (v := Value.bool true) (q_move rfl) ?_
        refine Wl.q (v := Value.pointer (some ⟨r, 0, none⟩)) (q_move rfl) ?_
        refine Wl.q (v := Value.pointer (some ⟨b1, 2, none⟩)) (q_field (m := 2) fo_89_2 rfl rfl) ?_
        refine Wl.q (v := Value.int .i64 t.a) (q_load sc_3 rfl (.cel (i := 0) rfl rfl)) ?_
        refine Wl.imp (L' := (pt r 118 [v]) :: (sl 89 4 v m xs) :: (pt b1 89 [Value.int .u8 ((t.kind : Nat) : Int), Value.int .i64 t.n, Value.int .i64 t.a, Value.int .i64 t.b]) :: F) (fun _ h => st_pull [1, 1] h) ?_
        refine Wl.e (e_call (F := (pt b1 89 [Value.int .u8 ((t.kind : Nat) : Int), Value.int .i64 t.n, Value.int .i64 t.a, Value.int .i64 t.b]) :: F) (args := [Value.pointer (some ⟨r, 0, none⟩), Value.int .i64 t.a]) Tryz.call138 rfl (rthere_yes W0 r (v) m xs t.a ha)) (fun _ _ => ?_)
        refine Wl.imp (L' := (pt r 118 [v]) :: (sl 89 4 v m xs) :: (pt b1 89 [Value.int .u8 ((t.kind : Nat) : Int), Value.int .i64 t.n, Value.int .i64 t.a, Value.int .i64 t.b]) :: F) (fun _ h => h) ?_
        refine Wl.q (v := Value.bool true) (q_pick (t := true) rfl rfl) ?_
        refine Wl.q (v := Value.bool true) (q_move rfl) ?_
        refine Wl.q (v := Value.pointer (some ⟨b1, 3, none⟩)) (q_field (m := 3) fo_89_3 rfl rfl) ?_
        refine Wl.q (v := Value.int .i64 t.b) (q_load sc_3 rfl (.cel (i := 2) rfl rfl)) ?_
        by_cases h18 : t.b = 0
        ·
         refine Wl.q (v := Value.bool true) (q_eql (r := true) rfl rfl (decide_eq_true h18)) ?_
         refine Wl.q (v := Value.bool true) (q_pick (t := true) rfl rfl) ?_
         refine Wl.q (v := Value.bool true) (q_assign rfl) ?_
         refine Wl.done ?_
         refine Wx.go ?_
         refine Wc.ret ?_
         refine Wx.blockRet ?_
         refine Wx.thenRet ?_
         refine Wx.fin1 rfl (.inl rfl) (fun w hs => ?_)
         exact ⟨(), trivial, congrArg Value.bool (Eq.symm (decide_eq_true (by unfold MayP; omega))), (st_drop (st_pull [2] hs))⟩
        ·
         refine Wl.q (v := Value.bool false) (q_eql (r := false) rfl rfl (decide_eq_false h18)) ?_
         refine Wl.q (v := Value.bool false) (q_pick (t := true) rfl rfl) ?_
         refine Wl.q (v := Value.bool false) (q_assign rfl) ?_
         refine Wl.done ?_
         refine Wx.go ?_
         refine Wc.ret ?_
         refine Wx.blockRet ?_
         refine Wx.thenRet ?_
         refine Wx.fin1 rfl (.inl rfl) (fun w hs => ?_)
         exact ⟨(), trivial, congrArg Value.bool (Eq.symm (decide_eq_false (by unfold MayP; omega))), (st_drop (st_pull [2] hs))⟩
       ·
        refine Wl.q (v := Value.bool false) (q_eql (r := false) rfl rfl (decide_eq_false h17)) ?_
        refine Wl.q (v := Value.bool false) (q_move rfl) ?_
        refine Wl.no ?_
        refine Wl.no ?_
        refine Wl.no ?_
        refine Wl.no ?_
        refine Wl.q (v := Value.bool false) (q_pick (t := false) rfl rfl) ?_
        refine Wl.q (v := Value.bool false) (q_move rfl) ?_
        refine Wl.no ?_
        refine Wl.no ?_
        refine Wl.no ?_
        refine Wl.q (v := Value.bool false) (q_pick (t := false) rfl rfl) ?_
        refine Wl.q (v := Value.bool false) (q_assign rfl) ?_
        refine Wl.done ?_
        refine Wx.go ?_
        refine Wc.ret ?_
        refine Wx.blockRet ?_
        refine Wx.thenRet ?_
        refine Wx.fin1 rfl (.inl rfl) (fun w hs => ?_)
        exact ⟨(), trivial, congrArg Value.bool (Eq.symm (decide_eq_false (by unfold MayP; omega))), (st_drop (st_pull [0] hs))⟩
      ·
       refine Wl.q (v := Value.bool false) (q_eql (r := false) rfl rfl (decide_eq_false h16)) ?_
       refine Wl.q (v := Value.bool false) (q_assign rfl) ?_
       refine Wl.done ?_
       refine Wx.go ?_
       refine Wc.no rfl ?_
       refine Wc.region ?_
       by_cases h19 : ((t.kind : Nat) : Int) = 7
       ·
        refine Wl.q (v := Value.bool true) (q_eql (r := true) rfl rfl (decide_eq_true h19)) ?_
        refine Wl.q (v := Value.bool true) (q_assign rfl) ?_
        refine Wl.done ?_
        refine Wx.go ?_
        refine Wc.yes rfl ?_
        refine Wc.seq ?_
        refine Wc.region ?_
        refine Wl.q (v := Value.pointer (some ⟨b1, 1, none⟩)) (q_field (m := 1) fo_89_1 rfl rfl) ?_
        refine Wl.q (v := Value.int .i64 t.n) (q_load sc_2 rfl (.cel (i := 0) rfl rfl)) ?_
        by_cases h20 : t.n = 0
        ·
         refine Wl.q (v := Value.bool true) (q_eql (r := true) rfl rfl (decide_eq_true h20)) ?_
         refine Wl.q (v := Value.bool true) (q_move rfl) ?_
         refine Wl.q (v := Value.pointer (some ⟨r, 0, none⟩)) (q_move rfl) ?_
         refine Wl.q (v := Value.pointer (some ⟨b1, 2, none⟩)) (q_field (m := 2) fo_89_2 rfl rfl) ?_
         refine Wl.q (v := Value.int .i64 t.a) (q_load sc_3 rfl (.cel (i := 0) rfl rfl)) ?_
         refine Wl.imp (L' := (pt r 118 [v]) :: (sl 89 4 v m xs) :: (pt b1 89 [Value.int .u8 ((t.kind : Nat) : Int), Value.int .i64 t.n, Value.int .i64 t.a, Value.int .i64 t.b]) :: F) (fun _ h => st_pull [1, 1] h) ?_
         refine Wl.e (e_call (F := (pt b1 89 [Value.int .u8 ((t.kind : Nat) : Int), Value.int .i64 t.n, Value.int .i64 t.a, Value.int .i64 t.b]) :: F) (args := [Value.pointer (some ⟨r, 0, none⟩), Value.int .i64 t.a]) Tryz.call138 rfl (rthere_yes W0 r (v) m xs t.a ha)) (fun _ _ => ?_)
         refine Wl.imp (L' := (pt r 118 [v]) :: (sl 89 4 v m xs) :: (pt b1 89 [Value.int .u8 ((t.kind : Nat) : Int), Value.int .i64 t.n, Value.int .i64 t.a, Value.int .i64 t.b]) :: F) (fun _ h => h) ?_
         refine Wl.q (v := Value.bool true) (q_pick (t := true) rfl rfl) ?_
         refine Wl.q (v := Value.bool true) (q_move rfl) ?_
         refine Wl.q (v := Value.pointer (some ⟨b1, 3, none⟩)) (q_field (m := 3) fo_89_3 rfl rfl) ?_
         refine Wl.q (v := Value.int .i64 t.b) (q_load sc_3 rfl (.cel (i := 2) rfl rfl)) ?_
         by_cases h21 : t.b = 0
         ·
          refine Wl.q (v := Value.bool true) (q_eql (r := true) rfl rfl (decide_eq_true h21)) ?_
          refine Wl.q (v := Value.bool true) (q_pick (t := true) rfl rfl) ?_
          refine Wl.q (v := Value.bool true) (q_assign rfl) ?_
          refine Wl.done ?_
          refine Wx.go ?_
          refine Wc.ret ?_
          refine Wx.blockRet ?_
          refine Wx.thenRet ?_
          refine Wx.fin1 rfl (.inl rfl) (fun w hs => ?_)
          exact ⟨(), trivial, congrArg Value.bool (Eq.symm (decide_eq_true (by unfold MayP; omega))), (st_drop (st_pull [2] hs))⟩
         ·
          refine Wl.q (v := Value.bool false) (q_eql (r := false) rfl rfl (decide_eq_false h21)) ?_
          refine Wl.q (v := Value.bool false) (q_pick (t := true) rfl rfl) ?_
          refine Wl.q (v := Value.bool false) (q_assign rfl) ?_
          refine Wl.done ?_
          refine Wx.go ?_
          refine Wc.ret ?_
          refine Wx.blockRet ?_
          refine Wx.thenRet ?_
          refine Wx.fin1 rfl (.inl rfl) (fun w hs => ?_)
          exact ⟨(), trivial, congrArg Value.bool (Eq.symm (decide_eq_false (by unfold MayP; omega))), (st_drop (st_pull [2] hs))⟩
        ·
         refine Wl.q (v := Value.bool false) (q_eql (r := false) rfl rfl (decide_eq_false h20)) ?_
         refine Wl.q (v := Value.bool false) (q_move rfl) ?_
         refine Wl.no ?_
         refine Wl.no ?_
         refine Wl.no ?_
         refine Wl.no ?_
         refine Wl.q (v := Value.bool false) (q_pick (t := false) rfl rfl) ?_
         refine Wl.q (v := Value.bool false) (q_move rfl) ?_
         refine Wl.no ?_
         refine Wl.no ?_
         refine Wl.no ?_
         refine Wl.q (v := Value.bool false) (q_pick (t := false) rfl rfl) ?_
         refine Wl.q (v := Value.bool false) (q_assign rfl) ?_
         refine Wl.done ?_
         refine Wx.go ?_
         refine Wc.ret ?_
         refine Wx.blockRet ?_
         refine Wx.thenRet ?_
         refine Wx.fin1 rfl (.inl rfl) (fun w hs => ?_)
         exact ⟨(), trivial, congrArg Value.bool (Eq.symm (decide_eq_false (by unfold MayP; omega))), (st_drop (st_pull [0] hs))⟩
       ·
        refine Wl.q (v := Value.bool false) (q_eql (r := false) rfl rfl (decide_eq_false h19)) ?_
        refine Wl.q (v := Value.bool false) (q_assign rfl) ?_
        refine Wl.done ?_
        refine Wx.go ?_
        refine Wc.no rfl ?_
        refine Wc.skip ?_
        refine Wx.blockEnd ?_
        refine Wx.go ?_
        refine Wc.seq ?_
        refine Wc.region ?_
        refine Wl.q (v := Value.bool false) (q_assign rfl) ?_
        refine Wl.done ?_
        refine Wx.go ?_
        refine Wc.ret ?_
        refine Wx.fin1 rfl (.inl rfl) (fun w hs => ?_)
        exact ⟨(), trivial, congrArg Value.bool (Eq.symm (decide_eq_false (by unfold MayP; omega))), (st_drop (st_pull [0] hs))⟩

set_option maxRecDepth 4000 in
theorem rmay_10 (W0 : World) (r : Nat) (v : Value) (m : Nat) (xs : List Value) (t : TermR) (ha : (1 ≤ t.a ∧ t.a ≤ (m : Int))) (hb : ¬ (1 ≤ t.b ∧ t.b ≤ (m : Int))) :
  Con Tryz.prog W0 134 #[Value.pointer (some ⟨r, 0, none⟩), Value.agg #[Value.int .u8 ((t.kind : Nat) : Int), Value.int .i64 t.n, Value.int .i64 t.a, Value.int .i64 t.b]] [pt r 118 [v], sl 89 4 v m xs] (X := Unit) (fun _ => True) (fun _ => .bool (may m t)) (fun _ => [pt r 118 [v], sl 89 4 v m xs]) := by
 refine Con.of (args := [Value.pointer (some ⟨r, 0, none⟩), Value.agg #[Value.int .u8 ((t.kind : Nat) : Int), Value.int .i64 t.n, Value.int .i64 t.a, Value.int .i64 t.b]]) Tryz.func134 rfl Tryz.ntmps134 rfl (fun F => ?_)
 show Wc _ W0 _ _ _ _ _ ((pt r 118 [v]) :: (sl 89 4 v m xs) :: F)
 refine Wc.seq ?_
 refine Wc.region ?_
 refine Wl.e (e_box (x := .tmp 1) (vs := [Value.int .u8 ((t.kind : Nat) : Int), Value.int .i64 t.n, Value.int .i64 t.a, Value.int .i64 t.b]) rfl) (fun b1 _ => ?_)
 refine Wl.imp (L' := (pt b1 89 [Value.int .u8 ((t.kind : Nat) : Int), Value.int .i64 t.n, Value.int .i64 t.a, Value.int .i64 t.b]) :: (pt r 118 [v]) :: (sl 89 4 v m xs) :: F) (fun _ h => h) ?_
 refine Wl.q (v := Value.bool false) (q_assign rfl) ?_
 refine Wl.done ?_
 refine Wx.go ?_
 refine Wc.seq ?_
 refine Wc.seq ?_
 refine Wc.region ?_
 refine Wl.q (v := Value.pointer (some ⟨b1, 0, none⟩)) (q_field (m := 0) fo_89_0 rfl rfl) ?_
 refine Wl.q (v := Value.int .u8 ((t.kind : Nat) : Int)) (q_load sc_87 rfl (.cel (i := 0) rfl rfl)) ?_
 refine Wl.done ?_
 refine Wx.go ?_
 refine Wc.block ?_
 refine Wc.seq ?_
 refine Wc.region ?_
 by_cases h2 : ((t.kind : Nat) : Int) = 1
 ·
  refine Wl.q (v := Value.bool true) (q_eql (r := true) rfl rfl (decide_eq_true h2)) ?_
  refine Wl.q (v := Value.bool true) (q_assign rfl) ?_
  refine Wl.done ?_
  refine Wx.go ?_
  refine Wc.yes rfl ?_
  refine Wc.seq ?_
  refine Wc.region ?_
  refine Wl.q (v := Value.pointer (some ⟨b1, 1, none⟩)) (q_field (m := 1) fo_89_1 rfl rfl) ?_
  refine Wl.q (v := Value.int .i64 t.n) (q_load sc_2 rfl (.cel (i := 0) rfl rfl)) ?_
  by_cases h3 : t.n ≥ 0
  ·
   refine Wl.q (v := Value.bool true) (q_geq (r := true) rfl rfl (decide_eq_true h3)) ?_
   refine Wl.q (v := Value.bool true) (q_move rfl) ?_
   refine Wl.q (v := Value.pointer (some ⟨b1, 2, none⟩)) (q_field (m := 2) fo_89_2 rfl rfl) ?_
   refine Wl.q (v := Value.int .i64 t.a) (q_load sc_3 rfl (.cel (i := 0) rfl rfl)) ?_
   by_cases h4 : t.a = 0
   ·
    refine Wl.q (v := Value.bool true) (q_eql (r := true) rfl rfl (decide_eq_true h4)) ?_
    refine Wl.q (v := Value.bool true) (q_pick (t := true) rfl rfl) ?_
    refine Wl.q (v := Value.bool true) (q_move rfl) ?_
    refine Wl.q (v := Value.pointer (some ⟨b1, 3, none⟩)) (q_field (m := 3) fo_89_3 rfl rfl) ?_
    refine Wl.q (v := Value.int .i64 t.b) (q_load sc_3 rfl (.cel (i := 0) rfl rfl)) ?_
    by_cases h5 : t.b = 0
    ·
     refine Wl.q (v := Value.bool true) (q_eql (r := true) rfl rfl (decide_eq_true h5)) ?_
     refine Wl.q (v := Value.bool true) (q_pick (t := true) rfl rfl) ?_
     refine Wl.q (v := Value.bool true) (q_assign rfl) ?_
     refine Wl.done ?_
     refine Wx.go ?_
     refine Wc.ret ?_
     refine Wx.blockRet ?_
     refine Wx.thenRet ?_
     refine Wx.fin1 rfl (.inl rfl) (fun w hs => ?_)
     exact ⟨(), trivial, congrArg Value.bool (Eq.symm (decide_eq_true (by unfold MayP; omega))), (st_drop (st_pull [0] hs))⟩
    ·
     refine Wl.q (v := Value.bool false) (q_eql (r := false) rfl rfl (decide_eq_false h5)) ?_
     refine Wl.q (v := Value.bool false) (q_pick (t := true) rfl rfl) ?_
     refine Wl.q (v := Value.bool false) (q_assign rfl) ?_
     refine Wl.done ?_
     refine Wx.go ?_
     refine Wc.ret ?_
     refine Wx.blockRet ?_
     refine Wx.thenRet ?_
     refine Wx.fin1 rfl (.inl rfl) (fun w hs => ?_)
     exact ⟨(), trivial, congrArg Value.bool (Eq.symm (decide_eq_false (by unfold MayP; omega))), (st_drop (st_pull [0] hs))⟩
   ·
    refine Wl.q (v := Value.bool false) (q_eql (r := false) rfl rfl (decide_eq_false h4)) ?_
    refine Wl.q (v := Value.bool false) (q_pick (t := true) rfl rfl) ?_
    refine Wl.q (v := Value.bool false) (q_move rfl) ?_
    refine Wl.no ?_
    refine Wl.no ?_
    refine Wl.no ?_
    refine Wl.q (v := Value.bool false) (q_pick (t := false) rfl rfl) ?_
    refine Wl.q (v := Value.bool false) (q_assign rfl) ?_
    refine Wl.done ?_
    refine Wx.go ?_
    refine Wc.ret ?_
    refine Wx.blockRet ?_
    refine Wx.thenRet ?_
    refine Wx.fin1 rfl (.inl rfl) (fun w hs => ?_)
    exact ⟨(), trivial, congrArg Value.bool (Eq.symm (decide_eq_false (by unfold MayP; omega))), (st_drop (st_pull [0] hs))⟩
  ·
   refine Wl.q (v := Value.bool false) (q_geq (r := false) rfl rfl (decide_eq_false h3)) ?_
   refine Wl.q (v := Value.bool false) (q_move rfl) ?_
   refine Wl.no ?_
   refine Wl.no ?_
   refine Wl.no ?_
   refine Wl.q (v := Value.bool false) (q_pick (t := false) rfl rfl) ?_
   refine Wl.q (v := Value.bool false) (q_move rfl) ?_
   refine Wl.no ?_
   refine Wl.no ?_
   refine Wl.no ?_
   refine Wl.q (v := Value.bool false) (q_pick (t := false) rfl rfl) ?_
   refine Wl.q (v := Value.bool false) (q_assign rfl) ?_
   refine Wl.done ?_
   refine Wx.go ?_
   refine Wc.ret ?_
   refine Wx.blockRet ?_
   refine Wx.thenRet ?_
   refine Wx.fin1 rfl (.inl rfl) (fun w hs => ?_)
   exact ⟨(), trivial, congrArg Value.bool (Eq.symm (decide_eq_false (by unfold MayP; omega))), (st_drop (st_pull [0] hs))⟩
 ·
  refine Wl.q (v := Value.bool false) (q_eql (r := false) rfl rfl (decide_eq_false h2)) ?_
  refine Wl.q (v := Value.bool false) (q_assign rfl) ?_
  refine Wl.done ?_
  refine Wx.go ?_
  refine Wc.no rfl ?_
  refine Wc.seq ?_
  refine Wc.region ?_
  by_cases h6 : ((t.kind : Nat) : Int) = 2
  ·
   refine Wl.q (v := Value.bool true) (q_eql (r := true) rfl rfl (decide_eq_true h6)) ?_
   refine Wl.q (v := Value.bool true) (q_assign rfl) ?_
   refine Wl.done ?_
   refine Wx.go ?_
   refine Wc.yes rfl ?_
   refine Wc.seq ?_
   refine Wc.region ?_
   refine Wl.q (v := Value.pointer (some ⟨b1, 2, none⟩)) (q_field (m := 2) fo_89_2 rfl rfl) ?_
   refine Wl.q (v := Value.int .i64 t.a) (q_load sc_3 rfl (.cel (i := 0) rfl rfl)) ?_
   by_cases h7 : t.a = 0
   ·
    refine Wl.q (v := Value.bool true) (q_eql (r := true) rfl rfl (decide_eq_true h7)) ?_
    refine Wl.q (v := Value.bool true) (q_move rfl) ?_
    refine Wl.q (v := Value.pointer (some ⟨b1, 3, none⟩)) (q_field (m := 3) fo_89_3 rfl rfl) ?_
    refine Wl.q (v := Value.int .i64 t.b) (q_load sc_3 rfl (.cel (i := 0) rfl rfl)) ?_
    by_cases h8 : t.b = 0
    ·
     refine Wl.q (v := Value.bool true) (q_eql (r := true) rfl rfl (decide_eq_true h8)) ?_
     refine Wl.q (v := Value.bool true) (q_pick (t := true) rfl rfl) ?_
     refine Wl.q (v := Value.bool true) (q_assign rfl) ?_
     refine Wl.done ?_
     refine Wx.go ?_
     refine Wc.ret ?_
     refine Wx.blockRet ?_
     refine Wx.thenRet ?_
     refine Wx.fin1 rfl (.inl rfl) (fun w hs => ?_)
     exact ⟨(), trivial, congrArg Value.bool (Eq.symm (decide_eq_true (by unfold MayP; omega))), (st_drop (st_pull [0] hs))⟩
    ·
     refine Wl.q (v := Value.bool false) (q_eql (r := false) rfl rfl (decide_eq_false h8)) ?_
     refine Wl.q (v := Value.bool false) (q_pick (t := true) rfl rfl) ?_
     refine Wl.q (v := Value.bool false) (q_assign rfl) ?_
     refine Wl.done ?_
     refine Wx.go ?_
     refine Wc.ret ?_
     refine Wx.blockRet ?_
     refine Wx.thenRet ?_
     refine Wx.fin1 rfl (.inl rfl) (fun w hs => ?_)
     exact ⟨(), trivial, congrArg Value.bool (Eq.symm (decide_eq_false (by unfold MayP; omega))), (st_drop (st_pull [0] hs))⟩
   ·
    refine Wl.q (v := Value.bool false) (q_eql (r := false) rfl rfl (decide_eq_false h7)) ?_
    refine Wl.q (v := Value.bool false) (q_move rfl) ?_
    refine Wl.no ?_
    refine Wl.no ?_
    refine Wl.no ?_
    refine Wl.q (v := Value.bool false) (q_pick (t := false) rfl rfl) ?_
    refine Wl.q (v := Value.bool false) (q_assign rfl) ?_
    refine Wl.done ?_
    refine Wx.go ?_
    refine Wc.ret ?_
    refine Wx.blockRet ?_
    refine Wx.thenRet ?_
    refine Wx.fin1 rfl (.inl rfl) (fun w hs => ?_)
    exact ⟨(), trivial, congrArg Value.bool (Eq.symm (decide_eq_false (by unfold MayP; omega))), (st_drop (st_pull [0] hs))⟩
  ·
   refine Wl.q (v := Value.bool false) (q_eql (r := false) rfl rfl (decide_eq_false h6)) ?_
   refine Wl.q (v := Value.bool false) (q_assign rfl) ?_
   refine Wl.done ?_
   refine Wx.go ?_
   refine Wc.no rfl ?_
   refine Wc.seq ?_
   refine Wc.seq ?_
   refine Wc.region ?_
   by_cases h9 : ((t.kind : Nat) : Int) = 3
   ·
    refine Wl.q (v := Value.bool true) (q_eql (r := true) rfl rfl (decide_eq_true h9)) ?_
    refine Wl.q (v := Value.bool true) (q_assign rfl) ?_
    refine Wl.done ?_
    refine Wx.go ?_
    refine Wc.yes rfl ?_
    refine Wc.skip ?_
    refine Wx.go ?_
    refine Wc.yes rfl ?_
    refine Wc.seq ?_
    refine Wc.region ?_
    refine Wl.q (v := Value.pointer (some ⟨b1, 1, none⟩)) (q_field (m := 1) fo_89_1 rfl rfl) ?_
    refine Wl.q (v := Value.int .i64 t.n) (q_load sc_2 rfl (.cel (i := 0) rfl rfl)) ?_
    by_cases h10 : t.n = 0
    ·
     refine Wl.q (v := Value.bool true) (q_eql (r := true) rfl rfl (decide_eq_true h10)) ?_
     refine Wl.q (v := Value.bool true) (q_move rfl) ?_
     refine Wl.q (v := Value.pointer (some ⟨r, 0, none⟩)) (q_move rfl) ?_
     refine Wl.q (v := Value.pointer (some ⟨b1, 2, none⟩)) (q_field (m := 2) fo_89_2 rfl rfl) ?_
     refine Wl.q (v := Value.int .i64 t.a) (q_load sc_3 rfl (.cel (i := 0) rfl rfl)) ?_
     refine Wl.imp (L' := (pt r 118 [v]) :: (sl 89 4 v m xs) :: (pt b1 89 [Value.int .u8 ((t.kind : Nat) : Int), Value.int .i64 t.n, Value.int .i64 t.a, Value.int .i64 t.b]) :: F) (fun _ h => st_pull [1, 1] h) ?_
     refine Wl.e (e_call (F := (pt b1 89 [Value.int .u8 ((t.kind : Nat) : Int), Value.int .i64 t.n, Value.int .i64 t.a, Value.int .i64 t.b]) :: F) (args := [Value.pointer (some ⟨r, 0, none⟩), Value.int .i64 t.a]) Tryz.call138 rfl (rthere_yes W0 r (v) m xs t.a ha)) (fun _ _ => ?_)
     refine Wl.imp (L' := (pt r 118 [v]) :: (sl 89 4 v m xs) :: (pt b1 89 [Value.int .u8 ((t.kind : Nat) : Int), Value.int .i64 t.n, Value.int .i64 t.a, Value.int .i64 t.b]) :: F) (fun _ h => h) ?_
     refine Wl.q (v := Value.bool true) (q_pick (t := true) rfl rfl) ?_
     refine Wl.q (v := Value.bool true) (q_move rfl) ?_
     refine Wl.q (v := Value.pointer (some ⟨r, 0, none⟩)) (q_move rfl) ?_
     refine Wl.q (v := Value.pointer (some ⟨b1, 3, none⟩)) (q_field (m := 3) fo_89_3 rfl rfl) ?_
     refine Wl.q (v := Value.int .i64 t.b) (q_load sc_3 rfl (.cel (i := 2) rfl rfl)) ?_
     refine Wl.e (e_call (F := (pt b1 89 [Value.int .u8 ((t.kind : Nat) : Int), Value.int .i64 t.n, Value.int .i64 t.a, Value.int .i64 t.b]) :: F) (args := [Value.pointer (some ⟨r, 0, none⟩), Value.int .i64 t.b]) Tryz.call138 rfl (rthere_no W0 r (v) m xs t.b hb)) (fun _ _ => ?_)
     refine Wl.imp (L' := (pt r 118 [v]) :: (sl 89 4 v m xs) :: (pt b1 89 [Value.int .u8 ((t.kind : Nat) : Int), Value.int .i64 t.n, Value.int .i64 t.a, Value.int .i64 t.b]) :: F) (fun _ h => h) ?_
     refine Wl.q (v := Value.bool false) (q_pick (t := true) rfl rfl) ?_
     refine Wl.q (v := Value.bool false) (q_assign rfl) ?_
     refine Wl.done ?_
     refine Wx.go ?_
     refine Wc.ret ?_
     refine Wx.blockRet ?_
     refine Wx.thenRet ?_
     refine Wx.fin1 rfl (.inl rfl) (fun w hs => ?_)
     exact ⟨(), trivial, congrArg Value.bool (Eq.symm (decide_eq_false (by unfold MayP; omega))), (st_drop (st_pull [2] hs))⟩
    ·
     refine Wl.q (v := Value.bool false) (q_eql (r := false) rfl rfl (decide_eq_false h10)) ?_
     refine Wl.q (v := Value.bool false) (q_move rfl) ?_
     refine Wl.no ?_
     refine Wl.no ?_
     refine Wl.no ?_
     refine Wl.no ?_
     refine Wl.q (v := Value.bool false) (q_pick (t := false) rfl rfl) ?_
     refine Wl.q (v := Value.bool false) (q_move rfl) ?_
     refine Wl.no ?_
     refine Wl.no ?_
     refine Wl.no ?_
     refine Wl.no ?_
     refine Wl.q (v := Value.bool false) (q_pick (t := false) rfl rfl) ?_
     refine Wl.q (v := Value.bool false) (q_assign rfl) ?_
     refine Wl.done ?_
     refine Wx.go ?_
     refine Wc.ret ?_
     refine Wx.blockRet ?_
     refine Wx.thenRet ?_
     refine Wx.fin1 rfl (.inl rfl) (fun w hs => ?_)
     exact ⟨(), trivial, congrArg Value.bool (Eq.symm (decide_eq_false (by unfold MayP; omega))), (st_drop (st_pull [0] hs))⟩
   ·
    refine Wl.q (v := Value.bool false) (q_eql (r := false) rfl rfl (decide_eq_false h9)) ?_
    refine Wl.q (v := Value.bool false) (q_assign rfl) ?_
    refine Wl.done ?_
    refine Wx.go ?_
    refine Wc.no rfl ?_
    refine Wc.region ?_
    by_cases h11 : ((t.kind : Nat) : Int) = 6
    ·
     refine Wl.q (v := Value.bool true) (q_eql (r := true) rfl rfl (decide_eq_true h11)) ?_
     refine Wl.q (v := Value.bool true) (q_assign rfl) ?_
     refine Wl.done ?_
     refine Wx.go ?_
     refine Wc.yes rfl ?_
     refine Wc.seq ?_
     refine Wc.region ?_
     refine Wl.q (v := Value.pointer (some ⟨b1, 1, none⟩)) (q_field (m := 1) fo_89_1 rfl rfl) ?_
     refine Wl.q (v := Value.int .i64 t.n) (q_load sc_2 rfl (.cel (i := 0) rfl rfl)) ?_
     by_cases h12 : t.n = 0
     ·
      refine Wl.q (v := Value.bool true) (q_eql (r := true) rfl rfl (decide_eq_true h12)) ?_
      refine Wl.q (v := Value.bool true) (q_move rfl) ?_
      refine Wl.q (v := Value.pointer (some ⟨r, 0, none⟩)) (q_move rfl) ?_
      refine Wl.q (v := Value.pointer (some ⟨b1, 2, none⟩)) (q_field (m := 2) fo_89_2 rfl rfl) ?_
      refine Wl.q (v := Value.int .i64 t.a) (q_load sc_3 rfl (.cel (i := 0) rfl rfl)) ?_
      refine Wl.imp (L' := (pt r 118 [v]) :: (sl 89 4 v m xs) :: (pt b1 89 [Value.int .u8 ((t.kind : Nat) : Int), Value.int .i64 t.n, Value.int .i64 t.a, Value.int .i64 t.b]) :: F) (fun _ h => st_pull [1, 1] h) ?_
      refine Wl.e (e_call (F := (pt b1 89 [Value.int .u8 ((t.kind : Nat) : Int), Value.int .i64 t.n, Value.int .i64 t.a, Value.int .i64 t.b]) :: F) (args := [Value.pointer (some ⟨r, 0, none⟩), Value.int .i64 t.a]) Tryz.call138 rfl (rthere_yes W0 r (v) m xs t.a ha)) (fun _ _ => ?_)
      refine Wl.imp (L' := (pt r 118 [v]) :: (sl 89 4 v m xs) :: (pt b1 89 [Value.int .u8 ((t.kind : Nat) : Int), Value.int .i64 t.n, Value.int .i64 t.a, Value.int .i64 t.b]) :: F) (fun _ h => h) ?_
      refine Wl.q (v := Value.bool true) (q_pick (t := true) rfl rfl) ?_
      refine Wl.q (v := Value.bool true) (q_move rfl) ?_
      refine Wl.q (v := Value.pointer (some ⟨r, 0, none⟩)) (q_move rfl) ?_
      refine Wl.q (v := Value.pointer (some ⟨b1, 3, none⟩)) (q_field (m := 3) fo_89_3 rfl rfl) ?_
      refine Wl.q (v := Value.int .i64 t.b) (q_load sc_3 rfl (.cel (i := 2) rfl rfl)) ?_
      refine Wl.e (e_call (F := (pt b1 89 [Value.int .u8 ((t.kind : Nat) : Int), Value.int .i64 t.n, Value.int .i64 t.a, Value.int .i64 t.b]) :: F) (args := [Value.pointer (some ⟨r, 0, none⟩), Value.int .i64 t.b]) Tryz.call138 rfl (rthere_no W0 r (v) m xs t.b hb)) (fun _ _ => ?_)
      refine Wl.imp (L' := (pt r 118 [v]) :: (sl 89 4 v m xs) :: (pt b1 89 [Value.int .u8 ((t.kind : Nat) : Int), Value.int .i64 t.n, Value.int .i64 t.a, Value.int .i64 t.b]) :: F) (fun _ h => h) ?_
      refine Wl.q (v := Value.bool false) (q_pick (t := true) rfl rfl) ?_
      refine Wl.q (v := Value.bool false) (q_assign rfl) ?_
      refine Wl.done ?_
      refine Wx.go ?_
      refine Wc.ret ?_
      refine Wx.blockRet ?_
      refine Wx.thenRet ?_
      refine Wx.fin1 rfl (.inl rfl) (fun w hs => ?_)
      exact ⟨(), trivial, congrArg Value.bool (Eq.symm (decide_eq_false (by unfold MayP; omega))), (st_drop (st_pull [2] hs))⟩
     ·
      refine Wl.q (v := Value.bool false) (q_eql (r := false) rfl rfl (decide_eq_false h12)) ?_
      refine Wl.q (v := Value.bool false) (q_move rfl) ?_
      refine Wl.no ?_
      refine Wl.no ?_
      refine Wl.no ?_
      refine Wl.no ?_
      refine Wl.q (v := Value.bool false) (q_pick (t := false) rfl rfl) ?_
      refine Wl.q (v := Value.bool false) (q_move rfl) ?_
      refine Wl.no ?_
      refine Wl.no ?_
      refine Wl.no ?_
      refine Wl.no ?_
      refine Wl.q (v := Value.bool false) (q_pick (t := false) rfl rfl) ?_
      refine Wl.q (v := Value.bool false) (q_assign rfl) ?_
      refine Wl.done ?_
      refine Wx.go ?_
      refine Wc.ret ?_
      refine Wx.blockRet ?_
      refine Wx.thenRet ?_
      refine Wx.fin1 rfl (.inl rfl) (fun w hs => ?_)
      exact ⟨(), trivial, congrArg Value.bool (Eq.symm (decide_eq_false (by unfold MayP; omega))), (st_drop (st_pull [0] hs))⟩
    ·
     refine Wl.q (v := Value.bool false) (q_eql (r := false) rfl rfl (decide_eq_false h11)) ?_
     refine Wl.q (v := Value.bool false) (q_assign rfl) ?_
     refine Wl.done ?_
     refine Wx.go ?_
     refine Wc.no rfl ?_
     refine Wc.seq ?_
     refine Wc.region ?_
     by_cases h13 : ((t.kind : Nat) : Int) = 4
     ·
      refine Wl.q (v := Value.bool true) (q_eql (r := true) rfl rfl (decide_eq_true h13)) ?_
      refine Wl.q (v := Value.bool true) (q_assign rfl) ?_
      refine Wl.done ?_
      refine Wx.go ?_
      refine Wc.yes rfl ?_
      refine Wc.seq ?_
      refine Wc.region ?_
      refine Wl.q (v := Value.pointer (some ⟨b1, 1, none⟩)) (q_field (m := 1) fo_89_1 rfl rfl) ?_
      refine Wl.q (v := Value.int .i64 t.n) (q_load sc_2 rfl (.cel (i := 0) rfl rfl)) ?_
      by_cases h14 : t.n ≥ 0
      ·
       refine Wl.q (v := Value.bool true) (q_geq (r := true) rfl rfl (decide_eq_true h14)) ?_
       refine Wl.q (v := Value.bool true) (q_move rfl) ?_
       refine Wl.q (v := Value.pointer (some ⟨r, 0, none⟩)) (q_move rfl) ?_
       refine Wl.q (v := Value.pointer (some ⟨b1, 2, none⟩)) (q_field (m := 2) fo_89_2 rfl rfl) ?_
       refine Wl.q (v := Value.int .i64 t.a) (q_load sc_3 rfl (.cel (i := 0) rfl rfl)) ?_
       refine Wl.imp (L' := (pt r 118 [v]) :: (sl 89 4 v m xs) :: (pt b1 89 [Value.int .u8 ((t.kind : Nat) : Int), Value.int .i64 t.n, Value.int .i64 t.a, Value.int .i64 t.b]) :: F) (fun _ h => st_pull [1, 1] h) ?_
       refine Wl.e (e_call (F := (pt b1 89 [Value.int .u8 ((t.kind : Nat) : Int), Value.int .i64 t.n, Value.int .i64 t.a, Value.int .i64 t.b]) :: F) (args := [Value.pointer (some ⟨r, 0, none⟩), Value.int .i64 t.a]) Tryz.call138 rfl (rthere_yes W0 r (v) m xs t.a ha)) (fun _ _ => ?_)
       refine Wl.imp (L' := (pt r 118 [v]) :: (sl 89 4 v m xs) :: (pt b1 89 [Value.int .u8 ((t.kind : Nat) : Int), Value.int .i64 t.n, Value.int .i64 t.a, Value.int .i64 t.b]) :: F) (fun _ h => h) ?_
       refine Wl.q (v := Value.bool true) (q_pick (t := true) rfl rfl) ?_
       refine Wl.q (v := Value.bool true) (q_move rfl) ?_
       refine Wl.q (v := Value.pointer (some ⟨b1, 3, none⟩)) (q_field (m := 3) fo_89_3 rfl rfl) ?_
       refine Wl.q (v := Value.int .i64 t.b) (q_load sc_3 rfl (.cel (i := 2) rfl rfl)) ?_
       by_cases h15 : t.b = 0
       ·
        refine Wl.q (v := Value.bool true) (q_eql (r := true) rfl rfl (decide_eq_true h15)) ?_
        refine Wl.q (v := Value.bool true) (q_move rfl) ?_
        refine Wl.no ?_
        refine Wl.no ?_
        refine Wl.no ?_
        refine Wl.no ?_
        refine Wl.q (v := Value.bool true) (q_pick (t := true) rfl rfl) ?_
        refine Wl.q (v := Value.bool true) (q_pick (t := true) rfl rfl) ?_
        refine Wl.q (v := Value.bool true) (q_assign rfl) ?_
        refine Wl.done ?_
        refine Wx.go ?_
        refine Wc.ret ?_
        refine Wx.blockRet ?_
        refine Wx.thenRet ?_
        refine Wx.fin1 rfl (.inl rfl) (fun w hs => ?_)
        exact ⟨(), trivial, congrArg Value.bool (Eq.symm (decide_eq_true (by unfold MayP; omega))), (st_drop (st_pull [2] hs))⟩
       ·
        refine Wl.q (v := Value.bool false) (q_eql (r := false) rfl rfl (decide_eq_false h15)) ?_
        refine Wl.q (v := Value.bool false) (q_move rfl) ?_
        refine Wl.q (v := Value.pointer (some ⟨r, 0, none⟩)) (q_move rfl) ?_
        refine Wl.q (v := Value.pointer (some ⟨b1, 3, none⟩)) (q_field (m := 3) fo_89_3 rfl rfl) ?_
        refine Wl.q (v := Value.int .i64 t.b) (q_load sc_3 rfl (.cel (i := 2) rfl rfl)) ?_
        refine Wl.e (e_call (F := (pt b1 89 [Value.int .u8 ((t.kind : Nat) : Int), Value.int .i64 t.n, Value.int .i64 t.a, Value.int .i64 t.b]) :: F) (args := [Value.pointer (some ⟨r, 0, none⟩), Value.int .i64 t.b]) Tryz.call138 rfl (rthere_no W0 r (v) m xs t.b hb)) (fun _ _ => ?_)
        refine Wl.imp (L' := (pt r 118 [v]) :: (sl 89 4 v m xs) :: (pt b1 89 [Value.int .u8 ((t.kind : Nat) : Int), Value.int .i64 t.n, Value.int .i64 t.a, Value.int .i64 t.b]) :: F) (fun _ h => h) ?_
        refine Wl.q (v := Value.bool false) (q_pick (t := false) rfl rfl) ?_
        refine Wl.q (v := Value.bool false) (q_pick (t := true) rfl rfl) ?_
        refine Wl.q (v := Value.bool false) (q_assign rfl) ?_
        refine Wl.done ?_
        refine Wx.go ?_
        refine Wc.ret ?_
        refine Wx.blockRet ?_
        refine Wx.thenRet ?_
        refine Wx.fin1 rfl (.inl rfl) (fun w hs => ?_)
        exact ⟨(), trivial, congrArg Value.bool (Eq.symm (decide_eq_false (by unfold MayP; omega))), (st_drop (st_pull [2] hs))⟩
      ·
       refine Wl.q (v := Value.bool false) (q_geq (r := false) rfl rfl (decide_eq_false h14)) ?_
       refine Wl.q (v := Value.bool false) (q_move rfl) ?_
       refine Wl.no ?_
       refine Wl.no ?_
       refine Wl.no ?_
       refine Wl.no ?_
       refine Wl.q (v := Value.bool false) (q_pick (t := false) rfl rfl) ?_
       refine Wl.q (v := Value.bool false) (q_move rfl) ?_
       refine Wl.no ?_
       refine Wl.no ?_
       refine Wl.no ?_
       refine Wl.no ?_
       refine Wl.no ?_
       refine Wl.no ?_
       refine Wl.no ?_
       refine Wl.no ?_
       refine Wl.no ?_
       refine Wl.q (v := Value.bool false) (q_pick (t := false) rfl rfl) ?_
       refine Wl.q (v := Value.bool false) (q_assign rfl) ?_
       refine Wl.done ?_
       refine Wx.go ?_
       refine Wc.ret ?_
       refine Wx.blockRet ?_
       refine Wx.thenRet ?_
       refine Wx.fin1 rfl (.inl rfl) (fun w hs => ?_)
       exact ⟨(), trivial, congrArg Value.bool (Eq.symm (decide_eq_false (by unfold MayP; omega))), (st_drop (st_pull [0] hs))⟩
     ·
      refine Wl.q (v := Value.bool false) (q_eql (r := false) rfl rfl (decide_eq_false h13)) ?_
      refine Wl.q (v := Value.bool false) (q_assign rfl) ?_
      refine Wl.done ?_
      refine Wx.go ?_
      refine Wc.no rfl ?_
      refine Wc.seq ?_
      refine Wc.seq ?_
      refine Wc.region ?_
      by_cases h16 : ((t.kind : Nat) : Int) = 5
      ·
       refine Wl.q (v := Value.bool true) (q_eql (r := true) rfl rfl (decide_eq_true h16)) ?_
       refine Wl.q (v := Value.bool true) (q_assign rfl) ?_
       refine Wl.done ?_
       refine Wx.go ?_
       refine Wc.yes rfl ?_
       refine Wc.skip ?_
       refine Wx.go ?_
       refine Wc.yes rfl ?_
       refine Wc.seq ?_
       refine Wc.region ?_
       refine Wl.q (v := Value.pointer (some ⟨b1, 1, none⟩)) (q_field (m := 1) fo_89_1 rfl rfl) ?_
       refine Wl.q (v := Value.int .i64 t.n) (q_load sc_2 rfl (.cel (i := 0) rfl rfl)) ?_
       by_cases h17 : t.n = 0
       ·
        refine Wl.q (v := Value.bool true) (q_eql (r := true) rfl rfl (decide_eq_true h17)) ?_
        refine Wl.q (v := Value.bool true) (q_move rfl) ?_
        refine Wl.q (v := Value.pointer (some ⟨r, 0, none⟩)) (q_move rfl) ?_
        refine Wl.q (v := Value.pointer (some ⟨b1, 2, none⟩)) (q_field (m := 2) fo_89_2 rfl rfl) ?_
        refine Wl.q (v := Value.int .i64 t.a) (q_load sc_3 rfl (.cel (i := 0) rfl rfl)) ?_
        refine Wl.imp (L' := (pt r 118 [v]) :: (sl 89 4 v m xs) :: (pt b1 89 [Value.int .u8 ((t.kind : Nat) : Int), Value.int .i64 t.n, Value.int .i64 t.a, Value.int .i64 t.b]) :: F) (fun _ h => st_pull [1, 1] h) ?_
        refine Wl.e (e_call (F := (pt b1 89 [Value.int .u8 ((t.kind : Nat) : Int), Value.int .i64 t.n, Value.int .i64 t.a, Value.int .i64 t.b]) :: F) (args := [Value.pointer (some ⟨r, 0, none⟩), Value.int .i64 t.a]) Tryz.call138 rfl (rthere_yes W0 r (v) m xs t.a ha)) (fun _ _ => ?_)
        refine Wl.imp (L' := (pt r 118 [v]) :: (sl 89 4 v m xs) :: (pt b1 89 [Value.int .u8 ((t.kind : Nat) : Int), Value.int .i64 t.n, Value.int .i64 t.a, Value.int .i64 t.b]) :: F) (fun _ h => h) ?_
        refine Wl.q (v := Value.bool true) (q_pick (t := true) rfl rfl) ?_
        refine Wl.q (v := Value.bool true) (q_move rfl) ?_
        refine Wl.q (v := Value.pointer (some ⟨b1, 3, none⟩)) (q_field (m := 3) fo_89_3 rfl rfl) ?_
        refine Wl.q (v := Value.int .i64 t.b) (q_load sc_3 rfl (.cel (i := 2) rfl rfl)) ?_
        by_cases h18 : t.b = 0
        ·
         refine Wl.q (v := Value.bool true) (q_eql (r := true) rfl rfl (decide_eq_true h18)) ?_
         refine Wl.q (v := Value.bool true) (q_pick (t := true) rfl rfl) ?_
         refine Wl.q (v := Value.bool true) (q_assign rfl) ?_
         refine Wl.done ?_
         refine Wx.go ?_
         refine Wc.ret ?_
         refine Wx.blockRet ?_
         refine Wx.thenRet ?_
         refine Wx.fin1 rfl (.inl rfl) (fun w hs => ?_)
         exact ⟨(), trivial, congrArg Value.bool (Eq.symm (decide_eq_true (by unfold MayP; omega))), (st_drop (st_pull [2] hs))⟩
        ·
         refine Wl.q (v := Value.bool false) (q_eql (r := false) rfl rfl (decide_eq_false h18)) ?_
         refine Wl.q (v := Value.bool false) (q_pick (t := true) rfl rfl) ?_
         refine Wl.q (v := Value.bool false) (q_assign rfl) ?_
         refine Wl.done ?_
         refine Wx.go ?_
         refine Wc.ret ?_
         refine Wx.blockRet ?_
         refine Wx.thenRet ?_
         refine Wx.fin1 rfl (.inl rfl) (fun w hs => ?_)
         exact ⟨(), trivial, congrArg Value.bool (Eq.symm (decide_eq_false (by unfold MayP; omega))), (st_drop (st_pull [2] hs))⟩
       ·
        refine Wl.q (v := Value.bool false) (q_eql (r := false) rfl rfl (decide_eq_false h17)) ?_
        refine Wl.q (v := Value.bool false) (q_move rfl) ?_
        refine Wl.no ?_
        refine Wl.no ?_
        refine Wl.no ?_
        refine Wl.no ?_
        refine Wl.q (v := Value.bool false) (q_pick (t := false) rfl rfl) ?_
        refine Wl.q (v := Value.bool false) (q_move rfl) ?_
        refine Wl.no ?_
        refine Wl.no ?_
        refine Wl.no ?_
        refine Wl.q (v := Value.bool false) (q_pick (t := false) rfl rfl) ?_
        refine Wl.q (v := Value.bool false) (q_assign rfl) ?_
        refine Wl.done ?_
        refine Wx.go ?_
        refine Wc.ret ?_
        refine Wx.blockRet ?_
        refine Wx.thenRet ?_
        refine Wx.fin1 rfl (.inl rfl) (fun w hs => ?_)
        exact ⟨(), trivial, congrArg Value.bool (Eq.symm (decide_eq_false (by unfold MayP; omega))), (st_drop (st_pull [0] hs))⟩
      ·
       refine Wl.q (v := Value.bool false) (q_eql (r := false) rfl rfl (decide_eq_false h16)) ?_
       refine Wl.q (v := Value.bool false) (q_assign rfl) ?_
       refine Wl.done ?_
       refine Wx.go ?_
       refine Wc.no rfl ?_
       refine Wc.region ?_
       by_cases h19 : ((t.kind : Nat) : Int) = 7
       ·
        refine Wl.q (v := Value.bool true) (q_eql (r := true) rfl rfl (decide_eq_true h19)) ?_
        refine Wl.q (v := Value.bool true) (q_assign rfl) ?_
        refine Wl.done ?_
        refine Wx.go ?_
        refine Wc.yes rfl ?_
        refine Wc.seq ?_
        refine Wc.region ?_
        refine Wl.q (v := Value.pointer (some ⟨b1, 1, none⟩)) (q_field (m := 1) fo_89_1 rfl rfl) ?_
        refine Wl.q (v := Value.int .i64 t.n) (q_load sc_2 rfl (.cel (i := 0) rfl rfl)) ?_
        by_cases h20 : t.n = 0
        ·
         refine Wl.q (v := Value.bool true) (q_eql (r := true) rfl rfl (decide_eq_true h20)) ?_
         refine Wl.q (v := Value.bool true) (q_move rfl) ?_
         refine Wl.q (v := Value.pointer (some ⟨r, 0, none⟩)) (q_move rfl) ?_
         refine Wl.q (v := Value.pointer (some ⟨b1, 2, none⟩)) (q_field (m := 2) fo_89_2 rfl rfl) ?_
         refine Wl.q (v := Value.int .i64 t.a) (q_load sc_3 rfl (.cel (i := 0) rfl rfl)) ?_
         refine Wl.imp (L' := (pt r 118 [v]) :: (sl 89 4 v m xs) :: (pt b1 89 [Value.int .u8 ((t.kind : Nat) : Int), Value.int .i64 t.n, Value.int .i64 t.a, Value.int .i64 t.b]) :: F) (fun _ h => st_pull [1, 1] h) ?_
         refine Wl.e (e_call (F := (pt b1 89 [Value.int .u8 ((t.kind : Nat) : Int), Value.int .i64 t.n, Value.int .i64 t.a, Value.int .i64 t.b]) :: F) (args := [Value.pointer (some ⟨r, 0, none⟩), Value.int .i64 t.a]) Tryz.call138 rfl (rthere_yes W0 r (v) m xs t.a ha)) (fun _ _ => ?_)
         refine Wl.imp (L' := (pt r 118 [v]) :: (sl 89 4 v m xs) :: (pt b1 89 [Value.int .u8 ((t.kind : Nat) : Int), Value.int .i64 t.n, Value.int .i64 t.a, Value.int .i64 t.b]) :: F) (fun _ h => h) ?_
         refine Wl.q (v := Value.bool true) (q_pick (t := true) rfl rfl) ?_
         refine Wl.q (v := Value.bool true) (q_move rfl) ?_
         refine Wl.q (v := Value.pointer (some ⟨b1, 3, none⟩)) (q_field (m := 3) fo_89_3 rfl rfl) ?_
         refine Wl.q (v := Value.int .i64 t.b) (q_load sc_3 rfl (.cel (i := 2) rfl rfl)) ?_
         by_cases h21 : t.b = 0
         ·
          refine Wl.q (v := Value.bool true) (q_eql (r := true) rfl rfl (decide_eq_true h21)) ?_
          refine Wl.q (v := Value.bool true) (q_pick (t := true) rfl rfl) ?_
          refine Wl.q (v := Value.bool true) (q_assign rfl) ?_
          refine Wl.done ?_
          refine Wx.go ?_
          refine Wc.ret ?_
          refine Wx.blockRet ?_
          refine Wx.thenRet ?_
          refine Wx.fin1 rfl (.inl rfl) (fun w hs => ?_)
          exact ⟨(), trivial, congrArg Value.bool (Eq.symm (decide_eq_true (by unfold MayP; omega))), (st_drop (st_pull [2] hs))⟩
         ·
          refine Wl.q (v := Value.bool false) (q_eql (r := false) rfl rfl (decide_eq_false h21)) ?_
          refine Wl.q (v := Value.bool false) (q_pick (t := true) rfl rfl) ?_
          refine Wl.q (v := Value.bool false) (q_assign rfl) ?_
          refine Wl.done ?_
          refine Wx.go ?_
          refine Wc.ret ?_
          refine Wx.blockRet ?_
          refine Wx.thenRet ?_
          refine Wx.fin1 rfl (.inl rfl) (fun w hs => ?_)
          exact ⟨(), trivial, congrArg Value.bool (Eq.symm (decide_eq_false (by unfold MayP; omega))), (st_drop (st_pull [2] hs))⟩
        ·
         refine Wl.q (v := Value.bool false) (q_eql (r := false) rfl rfl (decide_eq_false h20)) ?_
         refine Wl.q (v := Value.bool false) (q_move rfl) ?_
         refine Wl.no ?_
         refine Wl.no ?_
         refine Wl.no ?_
         refine Wl.no ?_
         refine Wl.q (v := Value.bool false) (q_pick (t := false) rfl rfl) ?_
         refine Wl.q (v := Value.bool false) (q_move rfl) ?_
         refine Wl.no ?_
         refine Wl.no ?_
         refine Wl.no ?_
         refine Wl.q (v := Value.bool false) (q_pick (t := false) rfl rfl) ?_
         refine Wl.q (v := Value.bool false) (q_assign rfl) ?_
         refine Wl.done ?_
         refine Wx.go ?_
         refine Wc.ret ?_
         refine Wx.blockRet ?_
         refine Wx.thenRet ?_
         refine Wx.fin1 rfl (.inl rfl) (fun w hs => ?_)
         exact ⟨(), trivial, congrArg Value.bool (Eq.symm (decide_eq_false (by unfold MayP; omega))), (st_drop (st_pull [0] hs))⟩
       ·
        refine Wl.q (v := Value.bool false) (q_eql (r := false) rfl rfl (decide_eq_false h19)) ?_
        refine Wl.q (v := Value.bool false) (q_assign rfl) ?_
        refine Wl.done ?_
        refine Wx.go ?_
        refine Wc.no rfl ?_
        refine Wc.skip ?_
        refine Wx.blockEnd ?_
        refine Wx.go ?_
        refine Wc.seq ?_
        refine Wc.region ?_
        refine Wl.q (v := Value.bool false) (q_assign rfl) ?_
        refine Wl.done ?_
        refine Wx.go ?_
        refine Wc.ret ?_
        refine Wx.fin1 rfl (.inl rfl) (fun w hs => ?_)
        exact ⟨(), trivial, congrArg Value.bool (Eq.symm (decide_eq_false (by unfold MayP; omega))), (st_drop (st_pull [0] hs))⟩

set_option maxRecDepth 4000 in
theorem rmay_01 (W0 : World) (r : Nat) (v : Value) (m : Nat) (xs : List Value) (t : TermR) (ha : ¬ (1 ≤ t.a ∧ t.a ≤ (m : Int))) (hb : (1 ≤ t.b ∧ t.b ≤ (m : Int))) :
  Con Tryz.prog W0 134 #[Value.pointer (some ⟨r, 0, none⟩), Value.agg #[Value.int .u8 ((t.kind : Nat) : Int), Value.int .i64 t.n, Value.int .i64 t.a, Value.int .i64 t.b]] [pt r 118 [v], sl 89 4 v m xs] (X := Unit) (fun _ => True) (fun _ => .bool (may m t)) (fun _ => [pt r 118 [v], sl 89 4 v m xs]) := by
 refine Con.of (args := [Value.pointer (some ⟨r, 0, none⟩), Value.agg #[Value.int .u8 ((t.kind : Nat) : Int), Value.int .i64 t.n, Value.int .i64 t.a, Value.int .i64 t.b]]) Tryz.func134 rfl Tryz.ntmps134 rfl (fun F => ?_)
 show Wc _ W0 _ _ _ _ _ ((pt r 118 [v]) :: (sl 89 4 v m xs) :: F)
 refine Wc.seq ?_
 refine Wc.region ?_
 refine Wl.e (e_box (x := .tmp 1) (vs := [Value.int .u8 ((t.kind : Nat) : Int), Value.int .i64 t.n, Value.int .i64 t.a, Value.int .i64 t.b]) rfl) (fun b1 _ => ?_)
 refine Wl.imp (L' := (pt b1 89 [Value.int .u8 ((t.kind : Nat) : Int), Value.int .i64 t.n, Value.int .i64 t.a, Value.int .i64 t.b]) :: (pt r 118 [v]) :: (sl 89 4 v m xs) :: F) (fun _ h => h) ?_
 refine Wl.q (v := Value.bool false) (q_assign rfl) ?_
 refine Wl.done ?_
 refine Wx.go ?_
 refine Wc.seq ?_
 refine Wc.seq ?_
 refine Wc.region ?_
 refine Wl.q (v := Value.pointer (some ⟨b1, 0, none⟩)) (q_field (m := 0) fo_89_0 rfl rfl) ?_
 refine Wl.q (v := Value.int .u8 ((t.kind : Nat) : Int)) (q_load sc_87 rfl (.cel (i := 0) rfl rfl)) ?_
 refine Wl.done ?_
 refine Wx.go ?_
 refine Wc.block ?_
 refine Wc.seq ?_
 refine Wc.region ?_
 by_cases h2 : ((t.kind : Nat) : Int) = 1
 ·
  refine Wl.q (v := Value.bool true) (q_eql (r := true) rfl rfl (decide_eq_true h2)) ?_
  refine Wl.q (v := Value.bool true) (q_assign rfl) ?_
  refine Wl.done ?_
  refine Wx.go ?_
  refine Wc.yes rfl ?_
  refine Wc.seq ?_
  refine Wc.region ?_
  refine Wl.q (v := Value.pointer (some ⟨b1, 1, none⟩)) (q_field (m := 1) fo_89_1 rfl rfl) ?_
  refine Wl.q (v := Value.int .i64 t.n) (q_load sc_2 rfl (.cel (i := 0) rfl rfl)) ?_
  by_cases h3 : t.n ≥ 0
  ·
   refine Wl.q (v := Value.bool true) (q_geq (r := true) rfl rfl (decide_eq_true h3)) ?_
   refine Wl.q (v := Value.bool true) (q_move rfl) ?_
   refine Wl.q (v := Value.pointer (some ⟨b1, 2, none⟩)) (q_field (m := 2) fo_89_2 rfl rfl) ?_
   refine Wl.q (v := Value.int .i64 t.a) (q_load sc_3 rfl (.cel (i := 0) rfl rfl)) ?_
   by_cases h4 : t.a = 0
   ·
    refine Wl.q (v := Value.bool true) (q_eql (r := true) rfl rfl (decide_eq_true h4)) ?_
    refine Wl.q (v := Value.bool true) (q_pick (t := true) rfl rfl) ?_
    refine Wl.q (v := Value.bool true) (q_move rfl) ?_
    refine Wl.q (v := Value.pointer (some ⟨b1, 3, none⟩)) (q_field (m := 3) fo_89_3 rfl rfl) ?_
    refine Wl.q (v := Value.int .i64 t.b) (q_load sc_3 rfl (.cel (i := 0) rfl rfl)) ?_
    by_cases h5 : t.b = 0
    ·
     refine Wl.q (v := Value.bool true) (q_eql (r := true) rfl rfl (decide_eq_true h5)) ?_
     refine Wl.q (v := Value.bool true) (q_pick (t := true) rfl rfl) ?_
     refine Wl.q (v := Value.bool true) (q_assign rfl) ?_
     refine Wl.done ?_
     refine Wx.go ?_
     refine Wc.ret ?_
     refine Wx.blockRet ?_
     refine Wx.thenRet ?_
     refine Wx.fin1 rfl (.inl rfl) (fun w hs => ?_)
     exact ⟨(), trivial, congrArg Value.bool (Eq.symm (decide_eq_true (by unfold MayP; omega))), (st_drop (st_pull [0] hs))⟩
    ·
     refine Wl.q (v := Value.bool false) (q_eql (r := false) rfl rfl (decide_eq_false h5)) ?_
     refine Wl.q (v := Value.bool false) (q_pick (t := true) rfl rfl) ?_
     refine Wl.q (v := Value.bool false) (q_assign rfl) ?_
     refine Wl.done ?_
     refine Wx.go ?_
     refine Wc.ret ?_
     refine Wx.blockRet ?_
     refine Wx.thenRet ?_
     refine Wx.fin1 rfl (.inl rfl) (fun w hs => ?_)
     exact ⟨(), trivial, congrArg Value.bool (Eq.symm (decide_eq_false (by unfold MayP; omega))), (st_drop (st_pull [0] hs))⟩
   ·
    refine Wl.q (v := Value.bool false) (q_eql (r := false) rfl rfl (decide_eq_false h4)) ?_
    refine Wl.q (v := Value.bool false) (q_pick (t := true) rfl rfl) ?_
    refine Wl.q (v := Value.bool false) (q_move rfl) ?_
    refine Wl.no ?_
    refine Wl.no ?_
    refine Wl.no ?_
    refine Wl.q (v := Value.bool false) (q_pick (t := false) rfl rfl) ?_
    refine Wl.q (v := Value.bool false) (q_assign rfl) ?_
    refine Wl.done ?_
    refine Wx.go ?_
    refine Wc.ret ?_
    refine Wx.blockRet ?_
    refine Wx.thenRet ?_
    refine Wx.fin1 rfl (.inl rfl) (fun w hs => ?_)
    exact ⟨(), trivial, congrArg Value.bool (Eq.symm (decide_eq_false (by unfold MayP; omega))), (st_drop (st_pull [0] hs))⟩
  ·
   refine Wl.q (v := Value.bool false) (q_geq (r := false) rfl rfl (decide_eq_false h3)) ?_
   refine Wl.q (v := Value.bool false) (q_move rfl) ?_
   refine Wl.no ?_
   refine Wl.no ?_
   refine Wl.no ?_
   refine Wl.q (v := Value.bool false) (q_pick (t := false) rfl rfl) ?_
   refine Wl.q (v := Value.bool false) (q_move rfl) ?_
   refine Wl.no ?_
   refine Wl.no ?_
   refine Wl.no ?_
   refine Wl.q (v := Value.bool false) (q_pick (t := false) rfl rfl) ?_
   refine Wl.q (v := Value.bool false) (q_assign rfl) ?_
   refine Wl.done ?_
   refine Wx.go ?_
   refine Wc.ret ?_
   refine Wx.blockRet ?_
   refine Wx.thenRet ?_
   refine Wx.fin1 rfl (.inl rfl) (fun w hs => ?_)
   exact ⟨(), trivial, congrArg Value.bool (Eq.symm (decide_eq_false (by unfold MayP; omega))), (st_drop (st_pull [0] hs))⟩
 ·
  refine Wl.q (v := Value.bool false) (q_eql (r := false) rfl rfl (decide_eq_false h2)) ?_
  refine Wl.q (v := Value.bool false) (q_assign rfl) ?_
  refine Wl.done ?_
  refine Wx.go ?_
  refine Wc.no rfl ?_
  refine Wc.seq ?_
  refine Wc.region ?_
  by_cases h6 : ((t.kind : Nat) : Int) = 2
  ·
   refine Wl.q (v := Value.bool true) (q_eql (r := true) rfl rfl (decide_eq_true h6)) ?_
   refine Wl.q (v := Value.bool true) (q_assign rfl) ?_
   refine Wl.done ?_
   refine Wx.go ?_
   refine Wc.yes rfl ?_
   refine Wc.seq ?_
   refine Wc.region ?_
   refine Wl.q (v := Value.pointer (some ⟨b1, 2, none⟩)) (q_field (m := 2) fo_89_2 rfl rfl) ?_
   refine Wl.q (v := Value.int .i64 t.a) (q_load sc_3 rfl (.cel (i := 0) rfl rfl)) ?_
   by_cases h7 : t.a = 0
   ·
    refine Wl.q (v := Value.bool true) (q_eql (r := true) rfl rfl (decide_eq_true h7)) ?_
    refine Wl.q (v := Value.bool true) (q_move rfl) ?_
    refine Wl.q (v := Value.pointer (some ⟨b1, 3, none⟩)) (q_field (m := 3) fo_89_3 rfl rfl) ?_
    refine Wl.q (v := Value.int .i64 t.b) (q_load sc_3 rfl (.cel (i := 0) rfl rfl)) ?_
    by_cases h8 : t.b = 0
    ·
     refine Wl.q (v := Value.bool true) (q_eql (r := true) rfl rfl (decide_eq_true h8)) ?_
     refine Wl.q (v := Value.bool true) (q_pick (t := true) rfl rfl) ?_
     refine Wl.q (v := Value.bool true) (q_assign rfl) ?_
     refine Wl.done ?_
     refine Wx.go ?_
     refine Wc.ret ?_
     refine Wx.blockRet ?_
     refine Wx.thenRet ?_
     refine Wx.fin1 rfl (.inl rfl) (fun w hs => ?_)
     exact ⟨(), trivial, congrArg Value.bool (Eq.symm (decide_eq_true (by unfold MayP; omega))), (st_drop (st_pull [0] hs))⟩
    ·
     refine Wl.q (v := Value.bool false) (q_eql (r := false) rfl rfl (decide_eq_false h8)) ?_
     refine Wl.q (v := Value.bool false) (q_pick (t := true) rfl rfl) ?_
     refine Wl.q (v := Value.bool false) (q_assign rfl) ?_
     refine Wl.done ?_
     refine Wx.go ?_
     refine Wc.ret ?_
     refine Wx.blockRet ?_
     refine Wx.thenRet ?_
     refine Wx.fin1 rfl (.inl rfl) (fun w hs => ?_)
     exact ⟨(), trivial, congrArg Value.bool (Eq.symm (decide_eq_false (by unfold MayP; omega))), (st_drop (st_pull [0] hs))⟩
   ·
    refine Wl.q (v := Value.bool false) (q_eql (r := false) rfl rfl (decide_eq_false h7)) ?_
    refine Wl.q (v := Value.bool false) (q_move rfl) ?_
    refine Wl.no ?_
    refine Wl.no ?_
    refine Wl.no ?_
    refine Wl.q (v := Value.bool false) (q_pick (t := false) rfl rfl) ?_
    refine Wl.q (v := Value.bool false) (q_assign rfl) ?_
    refine Wl.done ?_
    refine Wx.go ?_
    refine Wc.ret ?_
    refine Wx.blockRet ?_
    refine Wx.thenRet ?_
    refine Wx.fin1 rfl (.inl rfl) (fun w hs => ?_)
    exact ⟨(), trivial, congrArg Value.bool (Eq.symm (decide_eq_false (by unfold MayP; omega))), (st_drop (st_pull [0] hs))⟩
  ·
   refine Wl.q (v := Value.bool false) (q_eql (r := false) rfl rfl (decide_eq_false h6)) ?_
   refine Wl.q (v := Value.bool false) (q_assign rfl) ?_
   refine Wl.done ?_
   refine Wx.go ?_
   refine Wc.no rfl ?_
   refine Wc.seq ?_
   refine Wc.seq ?_
   refine Wc.region ?_
   by_cases h9 : ((t.kind : Nat) : Int) = 3
   ·
    refine Wl.q (v := Value.bool true) (q_eql (r := true) rfl rfl (decide_eq_true h9)) ?_
    refine Wl.q (v := Value.bool true) (q_assign rfl) ?_
    refine Wl.done ?_
    refine Wx.go ?_
    refine Wc.yes rfl ?_
    refine Wc.skip ?_
    refine Wx.go ?_
    refine Wc.yes rfl ?_
    refine Wc.seq ?_
    refine Wc.region ?_
    refine Wl.q (v := Value.pointer (some ⟨b1, 1, none⟩)) (q_field (m := 1) fo_89_1 rfl rfl) ?_
    refine Wl.q (v := Value.int .i64 t.n) (q_load sc_2 rfl (.cel (i := 0) rfl rfl)) ?_
    by_cases h10 : t.n = 0
    ·
     refine Wl.q (v := Value.bool true) (q_eql (r := true) rfl rfl (decide_eq_true h10)) ?_
     refine Wl.q (v := Value.bool true) (q_move rfl) ?_
     refine Wl.q (v := Value.pointer (some ⟨r, 0, none⟩)) (q_move rfl) ?_
     refine Wl.q (v := Value.pointer (some ⟨b1, 2, none⟩)) (q_field (m := 2) fo_89_2 rfl rfl) ?_
     refine Wl.q (v := Value.int .i64 t.a) (q_load sc_3 rfl (.cel (i := 0) rfl rfl)) ?_
     refine Wl.imp (L' := (pt r 118 [v]) :: (sl 89 4 v m xs) :: (pt b1 89 [Value.int .u8 ((t.kind : Nat) : Int), Value.int .i64 t.n, Value.int .i64 t.a, Value.int .i64 t.b]) :: F) (fun _ h => st_pull [1, 1] h) ?_
     refine Wl.e (e_call (F := (pt b1 89 [Value.int .u8 ((t.kind : Nat) : Int), Value.int .i64 t.n, Value.int .i64 t.a, Value.int .i64 t.b]) :: F) (args := [Value.pointer (some ⟨r, 0, none⟩), Value.int .i64 t.a]) Tryz.call138 rfl (rthere_no W0 r (v) m xs t.a ha)) (fun _ _ => ?_)
     refine Wl.imp (L' := (pt r 118 [v]) :: (sl 89 4 v m xs) :: (pt b1 89 [Value.int .u8 ((t.kind : Nat) : Int), Value.int .i64 t.n, Value.int .i64 t.a, Value.int .i64 t.b]) :: F) (fun _ h => h) ?_
     refine Wl.q (v := Value.bool false) (q_pick (t := true) rfl rfl) ?_
     refine Wl.q (v := Value.bool false) (q_move rfl) ?_
     refine Wl.no ?_
     refine Wl.no ?_
     refine Wl.no ?_
     refine Wl.no ?_
     refine Wl.q (v := Value.bool false) (q_pick (t := false) rfl rfl) ?_
     refine Wl.q (v := Value.bool false) (q_assign rfl) ?_
     refine Wl.done ?_
     refine Wx.go ?_
     refine Wc.ret ?_
     refine Wx.blockRet ?_
     refine Wx.thenRet ?_
     refine Wx.fin1 rfl (.inl rfl) (fun w hs => ?_)
     exact ⟨(), trivial, congrArg Value.bool (Eq.symm (decide_eq_false (by unfold MayP; omega))), (st_drop (st_pull [2] hs))⟩
    ·
     refine Wl.q (v := Value.bool false) (q_eql (r := false) rfl rfl (decide_eq_false h10)) ?_
     refine Wl.q (v := Value.bool false) (q_move rfl) ?_
     refine Wl.no ?_
     refine Wl.no ?_
     refine Wl.no ?_
     refine Wl.no ?_
     refine Wl.q (v := Value.bool false) (q_pick (t := false) rfl rfl) ?_
     refine Wl.q (v := Value.bool false) (q_move rfl) ?_
     refine Wl.no ?_
     refine Wl.no ?_
     refine Wl.no ?_
     refine Wl.no ?_
     refine Wl.q (v := Value.bool false) (q_pick (t := false) rfl rfl) ?_
     refine Wl.q (v := Value.bool false) (q_assign rfl) ?_
     refine Wl.done ?_
     refine Wx.go ?_
     refine Wc.ret ?_
     refine Wx.blockRet ?_
     refine Wx.thenRet ?_
     refine Wx.fin1 rfl (.inl rfl) (fun w hs => ?_)
     exact ⟨(), trivial, congrArg Value.bool (Eq.symm (decide_eq_false (by unfold MayP; omega))), (st_drop (st_pull [0] hs))⟩
   ·
    refine Wl.q (v := Value.bool false) (q_eql (r := false) rfl rfl (decide_eq_false h9)) ?_
    refine Wl.q (v := Value.bool false) (q_assign rfl) ?_
    refine Wl.done ?_
    refine Wx.go ?_
    refine Wc.no rfl ?_
    refine Wc.region ?_
    by_cases h11 : ((t.kind : Nat) : Int) = 6
    ·
     refine Wl.q (v := Value.bool true) (q_eql (r := true) rfl rfl (decide_eq_true h11)) ?_
     refine Wl.q (v := Value.bool true) (q_assign rfl) ?_
     refine Wl.done ?_
     refine Wx.go ?_
     refine Wc.yes rfl ?_
     refine Wc.seq ?_
     refine Wc.region ?_
     refine Wl.q (v := Value.pointer (some ⟨b1, 1, none⟩)) (q_field (m := 1) fo_89_1 rfl rfl) ?_
     refine Wl.q (v := Value.int .i64 t.n) (q_load sc_2 rfl (.cel (i := 0) rfl rfl)) ?_
     by_cases h12 : t.n = 0
     ·
      refine Wl.q (v := Value.bool true) (q_eql (r := true) rfl rfl (decide_eq_true h12)) ?_
      refine Wl.q (v := Value.bool true) (q_move rfl) ?_
      refine Wl.q (v := Value.pointer (some ⟨r, 0, none⟩)) (q_move rfl) ?_
      refine Wl.q (v := Value.pointer (some ⟨b1, 2, none⟩)) (q_field (m := 2) fo_89_2 rfl rfl) ?_
      refine Wl.q (v := Value.int .i64 t.a) (q_load sc_3 rfl (.cel (i := 0) rfl rfl)) ?_
      refine Wl.imp (L' := (pt r 118 [v]) :: (sl 89 4 v m xs) :: (pt b1 89 [Value.int .u8 ((t.kind : Nat) : Int), Value.int .i64 t.n, Value.int .i64 t.a, Value.int .i64 t.b]) :: F) (fun _ h => st_pull [1, 1] h) ?_
      refine Wl.e (e_call (F := (pt b1 89 [Value.int .u8 ((t.kind : Nat) : Int), Value.int .i64 t.n, Value.int .i64 t.a, Value.int .i64 t.b]) :: F) (args := [Value.pointer (some ⟨r, 0, none⟩), Value.int .i64 t.a]) Tryz.call138 rfl (rthere_no W0 r (v) m xs t.a ha)) (fun _ _ => ?_)
      refine Wl.imp (L' := (pt r 118 [v]) :: (sl 89 4 v m xs) :: (pt b1 89 [Value.int .u8 ((t.kind : Nat) : Int), Value.int .i64 t.n, Value.int .i64 t.a, Value.int .i64 t.b]) :: F) (fun _ h => h) ?_
      refine Wl.q (v := Value.bool false) (q_pick (t := true) rfl rfl) ?_
      refine Wl.q (v := Value.bool false) (q_move rfl) ?_
      refine Wl.no ?_
      refine Wl.no ?_
      refine Wl.no ?_
      refine Wl.no ?_
      refine Wl.q (v := Value.bool false) (q_pick (t := false) rfl rfl) ?_
      refine Wl.q (v := Value.bool false) (q_assign rfl) ?_
      refine Wl.done ?_
      refine Wx.go ?_
      refine Wc.ret ?_
      refine Wx.blockRet ?_
      refine Wx.thenRet ?_
      refine Wx.fin1 rfl (.inl rfl) (fun w hs => ?_)
      exact ⟨(), trivial, congrArg Value.bool (Eq.symm (decide_eq_false (by unfold MayP; omega))), (st_drop (st_pull [2] hs))⟩
     ·
      refine Wl.q (v := Value.bool false) (q_eql (r := false) rfl rfl (decide_eq_false h12)) ?_
      refine Wl.q (v := Value.bool false) (q_move rfl) ?_
      refine Wl.no ?_
      refine Wl.no ?_
      refine Wl.no ?_
      refine Wl.no ?_
      refine Wl.q (v := Value.bool false) (q_pick (t := false) rfl rfl) ?_
      refine Wl.q (v := Value.bool false) (q_move rfl) ?_
      refine Wl.no ?_
      refine Wl.no ?_
      refine Wl.no ?_
      refine Wl.no ?_
      refine Wl.q (v := Value.bool false) (q_pick (t := false) rfl rfl) ?_
      refine Wl.q (v := Value.bool false) (q_assign rfl) ?_
      refine Wl.done ?_
      refine Wx.go ?_
      refine Wc.ret ?_
      refine Wx.blockRet ?_
      refine Wx.thenRet ?_
      refine Wx.fin1 rfl (.inl rfl) (fun w hs => ?_)
      exact ⟨(), trivial, congrArg Value.bool (Eq.symm (decide_eq_false (by unfold MayP; omega))), (st_drop (st_pull [0] hs))⟩
    ·
     refine Wl.q (v := Value.bool false) (q_eql (r := false) rfl rfl (decide_eq_false h11)) ?_
     refine Wl.q (v := Value.bool false) (q_assign rfl) ?_
     refine Wl.done ?_
     refine Wx.go ?_
     refine Wc.no rfl ?_
     refine Wc.seq ?_
     refine Wc.region ?_
     by_cases h13 : ((t.kind : Nat) : Int) = 4
     ·
      refine Wl.q (v := Value.bool true) (q_eql (r := true) rfl rfl (decide_eq_true h13)) ?_
      refine Wl.q (v := Value.bool true) (q_assign rfl) ?_
      refine Wl.done ?_
      refine Wx.go ?_
      refine Wc.yes rfl ?_
      refine Wc.seq ?_
      refine Wc.region ?_
      refine Wl.q (v := Value.pointer (some ⟨b1, 1, none⟩)) (q_field (m := 1) fo_89_1 rfl rfl) ?_
      refine Wl.q (v := Value.int .i64 t.n) (q_load sc_2 rfl (.cel (i := 0) rfl rfl)) ?_
      by_cases h14 : t.n ≥ 0
      ·
       refine Wl.q (v := Value.bool true) (q_geq (r := true) rfl rfl (decide_eq_true h14)) ?_
       refine Wl.q (v := Value.bool true) (q_move rfl) ?_
       refine Wl.q (v := Value.pointer (some ⟨r, 0, none⟩)) (q_move rfl) ?_
       refine Wl.q (v := Value.pointer (some ⟨b1, 2, none⟩)) (q_field (m := 2) fo_89_2 rfl rfl) ?_
       refine Wl.q (v := Value.int .i64 t.a) (q_load sc_3 rfl (.cel (i := 0) rfl rfl)) ?_
       refine Wl.imp (L' := (pt r 118 [v]) :: (sl 89 4 v m xs) :: (pt b1 89 [Value.int .u8 ((t.kind : Nat) : Int), Value.int .i64 t.n, Value.int .i64 t.a, Value.int .i64 t.b]) :: F) (fun _ h => st_pull [1, 1] h) ?_
       refine Wl.e (e_call (F := (pt b1 89 [Value.int .u8 ((t.kind : Nat) : Int), Value.int .i64 t.n, Value.int .i64 t.a, Value.int .i64 t.b]) :: F) (args := [Value.pointer (some ⟨r, 0, none⟩), Value.int .i64 t.a]) Tryz.call138 rfl (rthere_no W0 r (v) m xs t.a ha)) (fun _ _ => ?_)
       refine Wl.imp (L' := (pt r 118 [v]) :: (sl 89 4 v m xs) :: (pt b1 89 [Value.int .u8 ((t.kind : Nat) : Int), Value.int .i64 t.n, Value.int .i64 t.a, Value.int .i64 t.b]) :: F) (fun _ h => h) ?_
       refine Wl.q (v := Value.bool false) (q_pick (t := true) rfl rfl) ?_
       refine Wl.q (v := Value.bool false) (q_move rfl) ?_
       refine Wl.no ?_
       refine Wl.no ?_
       refine Wl.no ?_
       refine Wl.no ?_
       refine Wl.no ?_
       refine Wl.no ?_
       refine Wl.no ?_
       refine Wl.no ?_
       refine Wl.no ?_
       refine Wl.q (v := Value.bool false) (q_pick (t := false) rfl rfl) ?_
       refine Wl.q (v := Value.bool false) (q_assign rfl) ?_
       refine Wl.done ?_
       refine Wx.go ?_
       refine Wc.ret ?_
       refine Wx.blockRet ?_
       refine Wx.thenRet ?_
       refine Wx.fin1 rfl (.inl rfl) (fun w hs => ?_)
       exact ⟨(), trivial, congrArg Value.bool (Eq.symm (decide_eq_false (by unfold MayP; omega))), (st_drop (st_pull [2] hs))⟩
      ·
       refine Wl.q (v := Value.bool false) (q_geq (r := false) rfl rfl (decide_eq_false h14)) ?_
       refine Wl.q (v := Value.bool false) (q_move rfl) ?_
       refine Wl.no ?_
       refine Wl.no ?_
       refine Wl.no ?_
       refine Wl.no ?_
       refine Wl.q (v := Value.bool false) (q_pick (t := false) rfl rfl) ?_
       refine Wl.q (v := Value.bool false) (q_move rfl) ?_
       refine Wl.no ?_
       refine Wl.no ?_
       refine Wl.no ?_
       refine Wl.no ?_
       refine Wl.no ?_
       refine Wl.no ?_
       refine Wl.no ?_
       refine Wl.no ?_
       refine Wl.no ?_
       refine Wl.q (v := Value.bool false) (q_pick (t := false) rfl rfl) ?_
       refine Wl.q (v := Value.bool false) (q_assign rfl) ?_
       refine Wl.done ?_
       refine Wx.go ?_
       refine Wc.ret ?_
       refine Wx.blockRet ?_
       refine Wx.thenRet ?_
       refine Wx.fin1 rfl (.inl rfl) (fun w hs => ?_)
       exact ⟨(), trivial, congrArg Value.bool (Eq.symm (decide_eq_false (by unfold MayP; omega))), (st_drop (st_pull [0] hs))⟩
     ·
      refine Wl.q (v := Value.bool false) (q_eql (r := false) rfl rfl (decide_eq_false h13)) ?_
      refine Wl.q (v := Value.bool false) (q_assign rfl) ?_
      refine Wl.done ?_
      refine Wx.go ?_
      refine Wc.no rfl ?_
      refine Wc.seq ?_
      refine Wc.seq ?_
      refine Wc.region ?_
      by_cases h15 : ((t.kind : Nat) : Int) = 5
      ·
       refine Wl.q (v := Value.bool true) (q_eql (r := true) rfl rfl (decide_eq_true h15)) ?_
       refine Wl.q (v := Value.bool true) (q_assign rfl) ?_
       refine Wl.done ?_
       refine Wx.go ?_
       refine Wc.yes rfl ?_
       refine Wc.skip ?_
       refine Wx.go ?_
       refine Wc.yes rfl ?_
       refine Wc.seq ?_
       refine Wc.region ?_
       refine Wl.q (v := Value.pointer (some ⟨b1, 1, none⟩)) (q_field (m := 1) fo_89_1 rfl rfl) ?_
       refine Wl.q (v := Value.int .i64 t.n) (q_load sc_2 rfl (.cel (i := 0) rfl rfl)) ?_
       by_cases h16 : t.n = 0
       ·
        refine Wl.q (v := Value.bool true) (q_eql (r := true) rfl rfl (decide_eq_true h16)) ?_
        refine Wl.q (v := Value.bool true) (q_move rfl) ?_
        refine Wl.q (v := Value.pointer (some ⟨r, 0, none⟩)) (q_move rfl) ?_
        refine Wl.q (v := Value.pointer (some ⟨b1, 2, none⟩)) (q_field (m := 2) fo_89_2 rfl rfl) ?_
        refine Wl.q (v := Value.int .i64 t.a) (q_load sc_3 rfl (.cel (i := 0) rfl rfl)) ?_
        refine Wl.imp (L' := (pt r 118 [v]) :: (sl 89 4 v m xs) :: (pt b1 89 [Value.int .u8 ((t.kind : Nat) : Int), Value.int .i64 t.n, Value.int .i64 t.a, Value.int .i64 t.b]) :: F) (fun _ h => st_pull [1, 1] h) ?_
        refine Wl.e (e_call (F := (pt b1 89 [Value.int .u8 ((t.kind : Nat) : Int), Value.int .i64 t.n, Value.int .i64 t.a, Value.int .i64 t.b]) :: F) (args := [Value.pointer (some ⟨r, 0, none⟩), Value.int .i64 t.a]) Tryz.call138 rfl (rthere_no W0 r (v) m xs t.a ha)) (fun _ _ => ?_)
        refine Wl.imp (L' := (pt r 118 [v]) :: (sl 89 4 v m xs) :: (pt b1 89 [Value.int .u8 ((t.kind : Nat) : Int), Value.int .i64 t.n, Value.int .i64 t.a, Value.int .i64 t.b]) :: F) (fun _ h => h) ?_
        refine Wl.q (v := Value.bool false) (q_pick (t := true) rfl rfl) ?_
        refine Wl.q (v := Value.bool false) (q_move rfl) ?_
        refine Wl.no ?_
        refine Wl.no ?_
        refine Wl.no ?_
        refine Wl.q (v := Value.bool false) (q_pick (t := false) rfl rfl) ?_
        refine Wl.q (v := Value.bool false) (q_assign rfl) ?_
        refine Wl.done ?_
        refine Wx.go ?_
        refine Wc.ret ?_
        refine Wx.blockRet ?_
        refine Wx.thenRet ?_
        refine Wx.fin1 rfl (.inl rfl) (fun w hs => ?_)
        exact ⟨(), trivial, congrArg Value.bool (Eq.symm (decide_eq_false (by unfold MayP; omega))), (st_drop (st_pull [2] hs))⟩
       ·
        refine Wl.q (v := Value.bool false) (q_eql (r := false) rfl rfl (decide_eq_false h16)) ?_
        refine Wl.q (v := Value.bool false) (q_move rfl) ?_
        refine Wl.no ?_
        refine Wl.no ?_
        refine Wl.no ?_
        refine Wl.no ?_
        refine Wl.q (v := Value.bool false) (q_pick (t := false) rfl rfl) ?_
        refine Wl.q (v := Value.bool false) (q_move rfl) ?_
        refine Wl.no ?_
        refine Wl.no ?_
        refine Wl.no ?_
        refine Wl.q (v := Value.bool false) (q_pick (t := false) rfl rfl) ?_
        refine Wl.q (v := Value.bool false) (q_assign rfl) ?_
        refine Wl.done ?_
        refine Wx.go ?_
        refine Wc.ret ?_
        refine Wx.blockRet ?_
        refine Wx.thenRet ?_
        refine Wx.fin1 rfl (.inl rfl) (fun w hs => ?_)
        exact ⟨(), trivial, congrArg Value.bool (Eq.symm (decide_eq_false (by unfold MayP; omega))), (st_drop (st_pull [0] hs))⟩
      ·
       refine Wl.q (v := Value.bool false) (q_eql (r := false) rfl rfl (decide_eq_false h15)) ?_
       refine Wl.q (v := Value.bool false) (q_assign rfl) ?_
       refine Wl.done ?_
       refine Wx.go ?_
       refine Wc.no rfl ?_
       refine Wc.region ?_
       by_cases h17 : ((t.kind : Nat) : Int) = 7
       ·
        refine Wl.q (v := Value.bool true) (q_eql (r := true) rfl rfl (decide_eq_true h17)) ?_
        refine Wl.q (v := Value.bool true) (q_assign rfl) ?_
        refine Wl.done ?_
        refine Wx.go ?_
        refine Wc.yes rfl ?_
        refine Wc.seq ?_
        refine Wc.region ?_
        refine Wl.q (v := Value.pointer (some ⟨b1, 1, none⟩)) (q_field (m := 1) fo_89_1 rfl rfl) ?_
        refine Wl.q (v := Value.int .i64 t.n) (q_load sc_2 rfl (.cel (i := 0) rfl rfl)) ?_
        by_cases h18 : t.n = 0
        ·
         refine Wl.q (v := Value.bool true) (q_eql (r := true) rfl rfl (decide_eq_true h18)) ?_
         refine Wl.q (v := Value.bool true) (q_move rfl) ?_
         refine Wl.q (v := Value.pointer (some ⟨r, 0, none⟩)) (q_move rfl) ?_
         refine Wl.q (v := Value.pointer (some ⟨b1, 2, none⟩)) (q_field (m := 2) fo_89_2 rfl rfl) ?_
         refine Wl.q (v := Value.int .i64 t.a) (q_load sc_3 rfl (.cel (i := 0) rfl rfl)) ?_
         refine Wl.imp (L' := (pt r 118 [v]) :: (sl 89 4 v m xs) :: (pt b1 89 [Value.int .u8 ((t.kind : Nat) : Int), Value.int .i64 t.n, Value.int .i64 t.a, Value.int .i64 t.b]) :: F) (fun _ h => st_pull [1, 1] h) ?_
         refine Wl.e (e_call (F := (pt b1 89 [Value.int .u8 ((t.kind : Nat) : Int), Value.int .i64 t.n, Value.int .i64 t.a, Value.int .i64 t.b]) :: F) (args := [Value.pointer (some ⟨r, 0, none⟩), Value.int .i64 t.a]) Tryz.call138 rfl (rthere_no W0 r (v) m xs t.a ha)) (fun _ _ => ?_)
         refine Wl.imp (L' := (pt r 118 [v]) :: (sl 89 4 v m xs) :: (pt b1 89 [Value.int .u8 ((t.kind : Nat) : Int), Value.int .i64 t.n, Value.int .i64 t.a, Value.int .i64 t.b]) :: F) (fun _ h => h) ?_
         refine Wl.q (v := Value.bool false) (q_pick (t := true) rfl rfl) ?_
         refine Wl.q (v := Value.bool false) (q_move rfl) ?_
         refine Wl.no ?_
         refine Wl.no ?_
         refine Wl.no ?_
         refine Wl.q (v := Value.bool false) (q_pick (t := false) rfl rfl) ?_
         refine Wl.q (v := Value.bool false) (q_assign rfl) ?_
         refine Wl.done ?_
         refine Wx.go ?_
         refine Wc.ret ?_
         refine Wx.blockRet ?_
         refine Wx.thenRet ?_
         refine Wx.fin1 rfl (.inl rfl) (fun w hs => ?_)
         exact ⟨(), trivial, congrArg Value.bool (Eq.symm (decide_eq_false (by unfold MayP; omega))), (st_drop (st_pull [2] hs))⟩
        ·
         refine Wl.q (v := Value.bool false) (q_eql (r := false) rfl rfl (decide_eq_false h18)) ?_
         refine Wl.q (v := Value.bool false) (q_move rfl) ?_
         refine Wl.no ?_
         refine Wl.no ?_
         refine Wl.no ?_
         refine Wl.no ?_
         refine Wl.q (v := Value.bool false) (q_pick (t := false) rfl rfl) ?_
         refine Wl.q (v := Value.bool false) (q_move rfl) ?_
         refine Wl.no ?_
         refine Wl.no ?_
         refine Wl.no ?_
         refine Wl.q (v := Value.bool false) (q_pick (t := false) rfl rfl) ?_
         refine Wl.q (v := Value.bool false) (q_assign rfl) ?_
         refine Wl.done ?_
         refine Wx.go ?_
         refine Wc.ret ?_
         refine Wx.blockRet ?_
         refine Wx.thenRet ?_
         refine Wx.fin1 rfl (.inl rfl) (fun w hs => ?_)
         exact ⟨(), trivial, congrArg Value.bool (Eq.symm (decide_eq_false (by unfold MayP; omega))), (st_drop (st_pull [0] hs))⟩
       ·
        refine Wl.q (v := Value.bool false) (q_eql (r := false) rfl rfl (decide_eq_false h17)) ?_
        refine Wl.q (v := Value.bool false) (q_assign rfl) ?_
        refine Wl.done ?_
        refine Wx.go ?_
        refine Wc.no rfl ?_
        refine Wc.skip ?_
        refine Wx.blockEnd ?_
        refine Wx.go ?_
        refine Wc.seq ?_
        refine Wc.region ?_
        refine Wl.q (v := Value.bool false) (q_assign rfl) ?_
        refine Wl.done ?_
        refine Wx.go ?_
        refine Wc.ret ?_
        refine Wx.fin1 rfl (.inl rfl) (fun w hs => ?_)
        exact ⟨(), trivial, congrArg Value.bool (Eq.symm (decide_eq_false (by unfold MayP; omega))), (st_drop (st_pull [0] hs))⟩

set_option maxRecDepth 4000 in
theorem rmay_00 (W0 : World) (r : Nat) (v : Value) (m : Nat) (xs : List Value) (t : TermR) (ha : ¬ (1 ≤ t.a ∧ t.a ≤ (m : Int))) (hb : ¬ (1 ≤ t.b ∧ t.b ≤ (m : Int))) :
  Con Tryz.prog W0 134 #[Value.pointer (some ⟨r, 0, none⟩), Value.agg #[Value.int .u8 ((t.kind : Nat) : Int), Value.int .i64 t.n, Value.int .i64 t.a, Value.int .i64 t.b]] [pt r 118 [v], sl 89 4 v m xs] (X := Unit) (fun _ => True) (fun _ => .bool (may m t)) (fun _ => [pt r 118 [v], sl 89 4 v m xs]) := by
 refine Con.of (args := [Value.pointer (some ⟨r, 0, none⟩), Value.agg #[Value.int .u8 ((t.kind : Nat) : Int), Value.int .i64 t.n, Value.int .i64 t.a, Value.int .i64 t.b]]) Tryz.func134 rfl Tryz.ntmps134 rfl (fun F => ?_)
 show Wc _ W0 _ _ _ _ _ ((pt r 118 [v]) :: (sl 89 4 v m xs) :: F)
 refine Wc.seq ?_
 refine Wc.region ?_
 refine Wl.e (e_box (x := .tmp 1) (vs := [Value.int .u8 ((t.kind : Nat) : Int), Value.int .i64 t.n, Value.int .i64 t.a, Value.int .i64 t.b]) rfl) (fun b1 _ => ?_)
 refine Wl.imp (L' := (pt b1 89 [Value.int .u8 ((t.kind : Nat) : Int), Value.int .i64 t.n, Value.int .i64 t.a, Value.int .i64 t.b]) :: (pt r 118 [v]) :: (sl 89 4 v m xs) :: F) (fun _ h => h) ?_
 refine Wl.q (v := Value.bool false) (q_assign rfl) ?_
 refine Wl.done ?_
 refine Wx.go ?_
 refine Wc.seq ?_
 refine Wc.seq ?_
 refine Wc.region ?_
 refine Wl.q (v := Value.pointer (some ⟨b1, 0, none⟩)) (q_field (m := 0) fo_89_0 rfl rfl) ?_
 refine Wl.q (v := Value.int .u8 ((t.kind : Nat) : Int)) (q_load sc_87 rfl (.cel (i := 0) rfl rfl)) ?_
 refine Wl.done ?_
 refine Wx.go ?_
 refine Wc.block ?_
 refine Wc.seq ?_
 refine Wc.region ?_
 by_cases h2 : ((t.kind : Nat) : Int) = 1
 ·
  refine Wl.q (v := Value.bool true) (q_eql (r := true) rfl rfl (decide_eq_true h2)) ?_
  refine Wl.q (v := Value.bool true) (q_assign rfl) ?_
  refine Wl.done ?_
  refine Wx.go ?_
  refine Wc.yes rfl ?_
  refine Wc.seq ?_
  refine Wc.region ?_
  refine Wl.q (v := Value.pointer (some ⟨b1, 1, none⟩)) (q_field (m := 1) fo_89_1 rfl rfl) ?_
  refine Wl.q (v := Value.int .i64 t.n) (q_load sc_2 rfl (.cel (i := 0) rfl rfl)) ?_
  by_cases h3 : t.n ≥ 0
  ·
   refine Wl.q (v := Value.bool true) (q_geq (r := true) rfl rfl (decide_eq_true h3)) ?_
   refine Wl.q (v := Value.bool true) (q_move rfl) ?_
   refine Wl.q (v := Value.pointer (some ⟨b1, 2, none⟩)) (q_field (m := 2) fo_89_2 rfl rfl) ?_
   refine Wl.q (v := Value.int .i64 t.a) (q_load sc_3 rfl (.cel (i := 0) rfl rfl)) ?_
   by_cases h4 : t.a = 0
   ·
    refine Wl.q (v := Value.bool true) (q_eql (r := true) rfl rfl (decide_eq_true h4)) ?_
    refine Wl.q (v := Value.bool true) (q_pick (t := true) rfl rfl) ?_
    refine Wl.q (v := Value.bool true) (q_move rfl) ?_
    refine Wl.q (v := Value.pointer (some ⟨b1, 3, none⟩)) (q_field (m := 3) fo_89_3 rfl rfl) ?_
    refine Wl.q (v := Value.int .i64 t.b) (q_load sc_3 rfl (.cel (i := 0) rfl rfl)) ?_
    by_cases h5 : t.b = 0
    ·
     refine Wl.q (v := Value.bool true) (q_eql (r := true) rfl rfl (decide_eq_true h5)) ?_
     refine Wl.q (v := Value.bool true) (q_pick (t := true) rfl rfl) ?_
     refine Wl.q (v := Value.bool true) (q_assign rfl) ?_
     refine Wl.done ?_
     refine Wx.go ?_
     refine Wc.ret ?_
     refine Wx.blockRet ?_
     refine Wx.thenRet ?_
     refine Wx.fin1 rfl (.inl rfl) (fun w hs => ?_)
     exact ⟨(), trivial, congrArg Value.bool (Eq.symm (decide_eq_true (by unfold MayP; omega))), (st_drop (st_pull [0] hs))⟩
    ·
     refine Wl.q (v := Value.bool false) (q_eql (r := false) rfl rfl (decide_eq_false h5)) ?_
     refine Wl.q (v := Value.bool false) (q_pick (t := true) rfl rfl) ?_
     refine Wl.q (v := Value.bool false) (q_assign rfl) ?_
     refine Wl.done ?_
     refine Wx.go ?_
     refine Wc.ret ?_
     refine Wx.blockRet ?_
     refine Wx.thenRet ?_
     refine Wx.fin1 rfl (.inl rfl) (fun w hs => ?_)
     exact ⟨(), trivial, congrArg Value.bool (Eq.symm (decide_eq_false (by unfold MayP; omega))), (st_drop (st_pull [0] hs))⟩
   ·
    refine Wl.q (v := Value.bool false) (q_eql (r := false) rfl rfl (decide_eq_false h4)) ?_
    refine Wl.q (v := Value.bool false) (q_pick (t := true) rfl rfl) ?_
    refine Wl.q (v := Value.bool false) (q_move rfl) ?_
    refine Wl.no ?_
    refine Wl.no ?_
    refine Wl.no ?_
    refine Wl.q (v := Value.bool false) (q_pick (t := false) rfl rfl) ?_
    refine Wl.q (v := Value.bool false) (q_assign rfl) ?_
    refine Wl.done ?_
    refine Wx.go ?_
    refine Wc.ret ?_
    refine Wx.blockRet ?_
    refine Wx.thenRet ?_
    refine Wx.fin1 rfl (.inl rfl) (fun w hs => ?_)
    exact ⟨(), trivial, congrArg Value.bool (Eq.symm (decide_eq_false (by unfold MayP; omega))), (st_drop (st_pull [0] hs))⟩
  ·
   refine Wl.q (v := Value.bool false) (q_geq (r := false) rfl rfl (decide_eq_false h3)) ?_
   refine Wl.q (v := Value.bool false) (q_move rfl) ?_
   refine Wl.no ?_
   refine Wl.no ?_
   refine Wl.no ?_
   refine Wl.q (v := Value.bool false) (q_pick (t := false) rfl rfl) ?_
   refine Wl.q (v := Value.bool false) (q_move rfl) ?_
   refine Wl.no ?_
   refine Wl.no ?_
   refine Wl.no ?_
   refine Wl.q (v := Value.bool false) (q_pick (t := false) rfl rfl) ?_
   refine Wl.q (v := Value.bool false) (q_assign rfl) ?_
   refine Wl.done ?_
   refine Wx.go ?_
   refine Wc.ret ?_
   refine Wx.blockRet ?_
   refine Wx.thenRet ?_
   refine Wx.fin1 rfl (.inl rfl) (fun w hs => ?_)
   exact ⟨(), trivial, congrArg Value.bool (Eq.symm (decide_eq_false (by unfold MayP; omega))), (st_drop (st_pull [0] hs))⟩
 ·
  refine Wl.q (v := Value.bool false) (q_eql (r := false) rfl rfl (decide_eq_false h2)) ?_
  refine Wl.q (v := Value.bool false) (q_assign rfl) ?_
  refine Wl.done ?_
  refine Wx.go ?_
  refine Wc.no rfl ?_
  refine Wc.seq ?_
  refine Wc.region ?_
  by_cases h6 : ((t.kind : Nat) : Int) = 2
  ·
   refine Wl.q (v := Value.bool true) (q_eql (r := true) rfl rfl (decide_eq_true h6)) ?_
   refine Wl.q (v := Value.bool true) (q_assign rfl) ?_
   refine Wl.done ?_
   refine Wx.go ?_
   refine Wc.yes rfl ?_
   refine Wc.seq ?_
   refine Wc.region ?_
   refine Wl.q (v := Value.pointer (some ⟨b1, 2, none⟩)) (q_field (m := 2) fo_89_2 rfl rfl) ?_
   refine Wl.q (v := Value.int .i64 t.a) (q_load sc_3 rfl (.cel (i := 0) rfl rfl)) ?_
   by_cases h7 : t.a = 0
   ·
    refine Wl.q (v := Value.bool true) (q_eql (r := true) rfl rfl (decide_eq_true h7)) ?_
    refine Wl.q (v := Value.bool true) (q_move rfl) ?_
    refine Wl.q (v := Value.pointer (some ⟨b1, 3, none⟩)) (q_field (m := 3) fo_89_3 rfl rfl) ?_
    refine Wl.q (v := Value.int .i64 t.b) (q_load sc_3 rfl (.cel (i := 0) rfl rfl)) ?_
    by_cases h8 : t.b = 0
    ·
     refine Wl.q (v := Value.bool true) (q_eql (r := true) rfl rfl (decide_eq_true h8)) ?_
     refine Wl.q (v := Value.bool true) (q_pick (t := true) rfl rfl) ?_
     refine Wl.q (v := Value.bool true) (q_assign rfl) ?_
     refine Wl.done ?_
     refine Wx.go ?_
     refine Wc.ret ?_
     refine Wx.blockRet ?_
     refine Wx.thenRet ?_
     refine Wx.fin1 rfl (.inl rfl) (fun w hs => ?_)
     exact ⟨(), trivial, congrArg Value.bool (Eq.symm (decide_eq_true (by unfold MayP; omega))), (st_drop (st_pull [0] hs))⟩
    ·
     refine Wl.q (v := Value.bool false) (q_eql (r := false) rfl rfl (decide_eq_false h8)) ?_
     refine Wl.q (v := Value.bool false) (q_pick (t := true) rfl rfl) ?_
     refine Wl.q (v := Value.bool false) (q_assign rfl) ?_
     refine Wl.done ?_
     refine Wx.go ?_
     refine Wc.ret ?_
     refine Wx.blockRet ?_
     refine Wx.thenRet ?_
     refine Wx.fin1 rfl (.inl rfl) (fun w hs => ?_)
     exact ⟨(), trivial, congrArg Value.bool (Eq.symm (decide_eq_false (by unfold MayP; omega))), (st_drop (st_pull [0] hs))⟩
   ·
    refine Wl.q (v := Value.bool false) (q_eql (r := false) rfl rfl (decide_eq_false h7)) ?_
    refine Wl.q (v := Value.bool false) (q_move rfl) ?_
    refine Wl.no ?_
    refine Wl.no ?_
    refine Wl.no ?_
    refine Wl.q (v := Value.bool false) (q_pick (t := false) rfl rfl) ?_
    refine Wl.q (v := Value.bool false) (q_assign rfl) ?_
    refine Wl.done ?_
    refine Wx.go ?_
    refine Wc.ret ?_
    refine Wx.blockRet ?_
    refine Wx.thenRet ?_
    refine Wx.fin1 rfl (.inl rfl) (fun w hs => ?_)
    exact ⟨(), trivial, congrArg Value.bool (Eq.symm (decide_eq_false (by unfold MayP; omega))), (st_drop (st_pull [0] hs))⟩
  ·
   refine Wl.q (v := Value.bool false) (q_eql (r := false) rfl rfl (decide_eq_false h6)) ?_
   refine Wl.q (v := Value.bool false) (q_assign rfl) ?_
   refine Wl.done ?_
   refine Wx.go ?_
   refine Wc.no rfl ?_
   refine Wc.seq ?_
   refine Wc.seq ?_
   refine Wc.region ?_
   by_cases h9 : ((t.kind : Nat) : Int) = 3
   ·
    refine Wl.q (v := Value.bool true) (q_eql (r := true) rfl rfl (decide_eq_true h9)) ?_
    refine Wl.q (v := Value.bool true) (q_assign rfl) ?_
    refine Wl.done ?_
    refine Wx.go ?_
    refine Wc.yes rfl ?_
    refine Wc.skip ?_
    refine Wx.go ?_
    refine Wc.yes rfl ?_
    refine Wc.seq ?_
    refine Wc.region ?_
    refine Wl.q (v := Value.pointer (some ⟨b1, 1, none⟩)) (q_field (m := 1) fo_89_1 rfl rfl) ?_
    refine Wl.q (v := Value.int .i64 t.n) (q_load sc_2 rfl (.cel (i := 0) rfl rfl)) ?_
    by_cases h10 : t.n = 0
    ·
     refine Wl.q (v := Value.bool true) (q_eql (r := true) rfl rfl (decide_eq_true h10)) ?_
     refine Wl.q (v := Value.bool true) (q_move rfl) ?_
     refine Wl.q (v := Value.pointer (some ⟨r, 0, none⟩)) (q_move rfl) ?_
     refine Wl.q (v := Value.pointer (some ⟨b1, 2, none⟩)) (q_field (m := 2) fo_89_2 rfl rfl) ?_
     refine Wl.q (v := Value.int .i64 t.a) (q_load sc_3 rfl (.cel (i := 0) rfl rfl)) ?_
     refine Wl.imp (L' := (pt r 118 [v]) :: (sl 89 4 v m xs) :: (pt b1 89 [Value.int .u8 ((t.kind : Nat) : Int), Value.int .i64 t.n, Value.int .i64 t.a, Value.int .i64 t.b]) :: F) (fun _ h => st_pull [1, 1] h) ?_
     refine Wl.e (e_call (F := (pt b1 89 [Value.int .u8 ((t.kind : Nat) : Int), Value.int .i64 t.n, Value.int .i64 t.a, Value.int .i64 t.b]) :: F) (args := [Value.pointer (some ⟨r, 0, none⟩), Value.int .i64 t.a]) Tryz.call138 rfl (rthere_no W0 r (v) m xs t.a ha)) (fun _ _ => ?_)
     refine Wl.imp (L' := (pt r 118 [v]) :: (sl 89 4 v m xs) :: (pt b1 89 [Value.int .u8 ((t.kind : Nat) : Int), Value.int .i64 t.n, Value.int .i64 t.a, Value.int .i64 t.b]) :: F) (fun _ h => h) ?_
     refine Wl.q (v := Value.bool false) (q_pick (t := true) rfl rfl) ?_
     refine Wl.q (v := Value.bool false) (q_move rfl) ?_
     refine Wl.no ?_
     refine Wl.no ?_
     refine Wl.no ?_
     refine Wl.no ?_
     refine Wl.q (v := Value.bool false) (q_pick (t := false) rfl rfl) ?_
     refine Wl.q (v := Value.bool false) (q_assign rfl) ?_
     refine Wl.done ?_
     refine Wx.go ?_
     refine Wc.ret ?_
     refine Wx.blockRet ?_
     refine Wx.thenRet ?_
     refine Wx.fin1 rfl (.inl rfl) (fun w hs => ?_)
     exact ⟨(), trivial, congrArg Value.bool (Eq.symm (decide_eq_false (by unfold MayP; omega))), (st_drop (st_pull [2] hs))⟩
    ·
     refine Wl.q (v := Value.bool false) (q_eql (r := false) rfl rfl (decide_eq_false h10)) ?_
     refine Wl.q (v := Value.bool false) (q_move rfl) ?_
     refine Wl.no ?_
     refine Wl.no ?_
     refine Wl.no ?_
     refine Wl.no ?_
     refine Wl.q (v := Value.bool false) (q_pick (t := false) rfl rfl) ?_
     refine Wl.q (v := Value.bool false) (q_move rfl) ?_
     refine Wl.no ?_
     refine Wl.no ?_
     refine Wl.no ?_
     refine Wl.no ?_
     refine Wl.q (v := Value.bool false) (q_pick (t := false) rfl rfl) ?_
     refine Wl.q (v := Value.bool false) (q_assign rfl) ?_
     refine Wl.done ?_
     refine Wx.go ?_
     refine Wc.ret ?_
     refine Wx.blockRet ?_
     refine Wx.thenRet ?_
     refine Wx.fin1 rfl (.inl rfl) (fun w hs => ?_)
     exact ⟨(), trivial, congrArg Value.bool (Eq.symm (decide_eq_false (by unfold MayP; omega))), (st_drop (st_pull [0] hs))⟩
   ·
    refine Wl.q (v := Value.bool false) (q_eql (r := false) rfl rfl (decide_eq_false h9)) ?_
    refine Wl.q (v := Value.bool false) (q_assign rfl) ?_
    refine Wl.done ?_
    refine Wx.go ?_
    refine Wc.no rfl ?_
    refine Wc.region ?_
    by_cases h11 : ((t.kind : Nat) : Int) = 6
    ·
     refine Wl.q (v := Value.bool true) (q_eql (r := true) rfl rfl (decide_eq_true h11)) ?_
     refine Wl.q (v := Value.bool true) (q_assign rfl) ?_
     refine Wl.done ?_
     refine Wx.go ?_
     refine Wc.yes rfl ?_
     refine Wc.seq ?_
     refine Wc.region ?_
     refine Wl.q (v := Value.pointer (some ⟨b1, 1, none⟩)) (q_field (m := 1) fo_89_1 rfl rfl) ?_
     refine Wl.q (v := Value.int .i64 t.n) (q_load sc_2 rfl (.cel (i := 0) rfl rfl)) ?_
     by_cases h12 : t.n = 0
     ·
      refine Wl.q (v := Value.bool true) (q_eql (r := true) rfl rfl (decide_eq_true h12)) ?_
      refine Wl.q (v := Value.bool true) (q_move rfl) ?_
      refine Wl.q (v := Value.pointer (some ⟨r, 0, none⟩)) (q_move rfl) ?_
      refine Wl.q (v := Value.pointer (some ⟨b1, 2, none⟩)) (q_field (m := 2) fo_89_2 rfl rfl) ?_
      refine Wl.q (v := Value.int .i64 t.a) (q_load sc_3 rfl (.cel (i := 0) rfl rfl)) ?_
      refine Wl.imp (L' := (pt r 118 [v]) :: (sl 89 4 v m xs) :: (pt b1 89 [Value.int .u8 ((t.kind : Nat) : Int), Value.int .i64 t.n, Value.int .i64 t.a, Value.int .i64 t.b]) :: F) (fun _ h => st_pull [1, 1] h) ?_
      refine Wl.e (e_call (F := (pt b1 89 [Value.int .u8 ((t.kind : Nat) : Int), Value.int .i64 t.n, Value.int .i64 t.a, Value.int .i64 t.b]) :: F) (args := [Value.pointer (some ⟨r, 0, none⟩), Value.int .i64 t.a]) Tryz.call138 rfl (rthere_no W0 r (v) m xs t.a ha)) (fun _ _ => ?_)
      refine Wl.imp (L' := (pt r 118 [v]) :: (sl 89 4 v m xs) :: (pt b1 89 [Value.int .u8 ((t.kind : Nat) : Int), Value.int .i64 t.n, Value.int .i64 t.a, Value.int .i64 t.b]) :: F) (fun _ h => h) ?_
      refine Wl.q (v := Value.bool false) (q_pick (t := true) rfl rfl) ?_
      refine Wl.q (v := Value.bool false) (q_move rfl) ?_
      refine Wl.no ?_
      refine Wl.no ?_
      refine Wl.no ?_
      refine Wl.no ?_
      refine Wl.q (v := Value.bool false) (q_pick (t := false) rfl rfl) ?_
      refine Wl.q (v := Value.bool false) (q_assign rfl) ?_
      refine Wl.done ?_
      refine Wx.go ?_
      refine Wc.ret ?_
      refine Wx.blockRet ?_
      refine Wx.thenRet ?_
      refine Wx.fin1 rfl (.inl rfl) (fun w hs => ?_)
      exact ⟨(), trivial, congrArg Value.bool (Eq.symm (decide_eq_false (by unfold MayP; omega))), (st_drop (st_pull [2] hs))⟩
     ·
      refine Wl.q (v := Value.bool false) (q_eql (r := false) rfl rfl (decide_eq_false h12)) ?_
      refine Wl.q (v := Value.bool false) (q_move rfl) ?_
      refine Wl.no ?_
      refine Wl.no ?_
      refine Wl.no ?_
      refine Wl.no ?_
      refine Wl.q (v := Value.bool false) (q_pick (t := false) rfl rfl) ?_
      refine Wl.q (v := Value.bool false) (q_move rfl) ?_
      refine Wl.no ?_
      refine Wl.no ?_
      refine Wl.no ?_
      refine Wl.no ?_
      refine Wl.q (v := Value.bool false) (q_pick (t := false) rfl rfl) ?_
      refine Wl.q (v := Value.bool false) (q_assign rfl) ?_
      refine Wl.done ?_
      refine Wx.go ?_
      refine Wc.ret ?_
      refine Wx.blockRet ?_
      refine Wx.thenRet ?_
      refine Wx.fin1 rfl (.inl rfl) (fun w hs => ?_)
      exact ⟨(), trivial, congrArg Value.bool (Eq.symm (decide_eq_false (by unfold MayP; omega))), (st_drop (st_pull [0] hs))⟩
    ·
     refine Wl.q (v := Value.bool false) (q_eql (r := false) rfl rfl (decide_eq_false h11)) ?_
     refine Wl.q (v := Value.bool false) (q_assign rfl) ?_
     refine Wl.done ?_
     refine Wx.go ?_
     refine Wc.no rfl ?_
     refine Wc.seq ?_
     refine Wc.region ?_
     by_cases h13 : ((t.kind : Nat) : Int) = 4
     ·
      refine Wl.q (v := Value.bool true) (q_eql (r := true) rfl rfl (decide_eq_true h13)) ?_
      refine Wl.q (v := Value.bool true) (q_assign rfl) ?_
      refine Wl.done ?_
      refine Wx.go ?_
      refine Wc.yes rfl ?_
      refine Wc.seq ?_
      refine Wc.region ?_
      refine Wl.q (v := Value.pointer (some ⟨b1, 1, none⟩)) (q_field (m := 1) fo_89_1 rfl rfl) ?_
      refine Wl.q (v := Value.int .i64 t.n) (q_load sc_2 rfl (.cel (i := 0) rfl rfl)) ?_
      by_cases h14 : t.n ≥ 0
      ·
       refine Wl.q (v := Value.bool true) (q_geq (r := true) rfl rfl (decide_eq_true h14)) ?_
       refine Wl.q (v := Value.bool true) (q_move rfl) ?_
       refine Wl.q (v := Value.pointer (some ⟨r, 0, none⟩)) (q_move rfl) ?_
       refine Wl.q (v := Value.pointer (some ⟨b1, 2, none⟩)) (q_field (m := 2) fo_89_2 rfl rfl) ?_
       refine Wl.q (v := Value.int .i64 t.a) (q_load sc_3 rfl (.cel (i := 0) rfl rfl)) ?_
       refine Wl.imp (L' := (pt r 118 [v]) :: (sl 89 4 v m xs) :: (pt b1 89 [Value.int .u8 ((t.kind : Nat) : Int), Value.int .i64 t.n, Value.int .i64 t.a, Value.int .i64 t.b]) :: F) (fun _ h => st_pull [1, 1] h) ?_
       refine Wl.e (e_call (F := (pt b1 89 [Value.int .u8 ((t.kind : Nat) : Int), Value.int .i64 t.n, Value.int .i64 t.a, Value.int .i64 t.b]) :: F) (args := [Value.pointer (some ⟨r, 0, none⟩), Value.int .i64 t.a]) Tryz.call138 rfl (rthere_no W0 r (v) m xs t.a ha)) (fun _ _ => ?_)
       refine Wl.imp (L' := (pt r 118 [v]) :: (sl 89 4 v m xs) :: (pt b1 89 [Value.int .u8 ((t.kind : Nat) : Int), Value.int .i64 t.n, Value.int .i64 t.a, Value.int .i64 t.b]) :: F) (fun _ h => h) ?_
       refine Wl.q (v := Value.bool false) (q_pick (t := true) rfl rfl) ?_
       refine Wl.q (v := Value.bool false) (q_move rfl) ?_
       refine Wl.no ?_
       refine Wl.no ?_
       refine Wl.no ?_
       refine Wl.no ?_
       refine Wl.no ?_
       refine Wl.no ?_
       refine Wl.no ?_
       refine Wl.no ?_
       refine Wl.no ?_
       refine Wl.q (v := Value.bool false) (q_pick (t := false) rfl rfl) ?_
       refine Wl.q (v := Value.bool false) (q_assign rfl) ?_
       refine Wl.done ?_
       refine Wx.go ?_
       refine Wc.ret ?_
       refine Wx.blockRet ?_
       refine Wx.thenRet ?_
       refine Wx.fin1 rfl (.inl rfl) (fun w hs => ?_)
       exact ⟨(), trivial, congrArg Value.bool (Eq.symm (decide_eq_false (by unfold MayP; omega))), (st_drop (st_pull [2] hs))⟩
      ·
       refine Wl.q (v := Value.bool false) (q_geq (r := false) rfl rfl (decide_eq_false h14)) ?_
       refine Wl.q (v := Value.bool false) (q_move rfl) ?_
       refine Wl.no ?_
       refine Wl.no ?_
       refine Wl.no ?_
       refine Wl.no ?_
       refine Wl.q (v := Value.bool false) (q_pick (t := false) rfl rfl) ?_
       refine Wl.q (v := Value.bool false) (q_move rfl) ?_
       refine Wl.no ?_
       refine Wl.no ?_
       refine Wl.no ?_
       refine Wl.no ?_
       refine Wl.no ?_
       refine Wl.no ?_
       refine Wl.no ?_
       refine Wl.no ?_
       refine Wl.no ?_
       refine Wl.q (v := Value.bool false) (q_pick (t := false) rfl rfl) ?_
       refine Wl.q (v := Value.bool false) (q_assign rfl) ?_
       refine Wl.done ?_
       refine Wx.go ?_
       refine Wc.ret ?_
       refine Wx.blockRet ?_
       refine Wx.thenRet ?_
       refine Wx.fin1 rfl (.inl rfl) (fun w hs => ?_)
       exact ⟨(), trivial, congrArg Value.bool (Eq.symm (decide_eq_false (by unfold MayP; omega))), (st_drop (st_pull [0] hs))⟩
     ·
      refine Wl.q (v := Value.bool false) (q_eql (r := false) rfl rfl (decide_eq_false h13)) ?_
      refine Wl.q (v := Value.bool false) (q_assign rfl) ?_
      refine Wl.done ?_
      refine Wx.go ?_
      refine Wc.no rfl ?_
      refine Wc.seq ?_
      refine Wc.seq ?_
      refine Wc.region ?_
      by_cases h15 : ((t.kind : Nat) : Int) = 5
      ·
       refine Wl.q (v := Value.bool true) (q_eql (r := true) rfl rfl (decide_eq_true h15)) ?_
       refine Wl.q (v := Value.bool true) (q_assign rfl) ?_
       refine Wl.done ?_
       refine Wx.go ?_
       refine Wc.yes rfl ?_
       refine Wc.skip ?_
       refine Wx.go ?_
       refine Wc.yes rfl ?_
       refine Wc.seq ?_
       refine Wc.region ?_
       refine Wl.q (v := Value.pointer (some ⟨b1, 1, none⟩)) (q_field (m := 1) fo_89_1 rfl rfl) ?_
       refine Wl.q (v := Value.int .i64 t.n) (q_load sc_2 rfl (.cel (i := 0) rfl rfl)) ?_
       by_cases h16 : t.n = 0
       ·
        refine Wl.q (v := Value.bool true) (q_eql (r := true) rfl rfl (decide_eq_true h16)) ?_
        refine Wl.q (v := Value.bool true) (q_move rfl) ?_
        refine Wl.q (v := Value.pointer (some ⟨r, 0, none⟩)) (q_move rfl) ?_
        refine Wl.q (v := Value.pointer (some ⟨b1, 2, none⟩)) (q_field (m := 2) fo_89_2 rfl rfl) ?_
        refine Wl.q (v := Value.int .i64 t.a) (q_load sc_3 rfl (.cel (i := 0) rfl rfl)) ?_
        refine Wl.imp (L' := (pt r 118 [v]) :: (sl 89 4 v m xs) :: (pt b1 89 [Value.int .u8 ((t.kind : Nat) : Int), Value.int .i64 t.n, Value.int .i64 t.a, Value.int .i64 t.b]) :: F) (fun _ h => st_pull [1, 1] h) ?_
        refine Wl.e (e_call (F := (pt b1 89 [Value.int .u8 ((t.kind : Nat) : Int), Value.int .i64 t.n, Value.int .i64 t.a, Value.int .i64 t.b]) :: F) (args := [Value.pointer (some ⟨r, 0, none⟩), Value.int .i64 t.a]) Tryz.call138 rfl (rthere_no W0 r (v) m xs t.a ha)) (fun _ _ => ?_)
        refine Wl.imp (L' := (pt r 118 [v]) :: (sl 89 4 v m xs) :: (pt b1 89 [Value.int .u8 ((t.kind : Nat) : Int), Value.int .i64 t.n, Value.int .i64 t.a, Value.int .i64 t.b]) :: F) (fun _ h => h) ?_
        refine Wl.q (v := Value.bool false) (q_pick (t := true) rfl rfl) ?_
        refine Wl.q (v := Value.bool false) (q_move rfl) ?_
        refine Wl.no ?_
        refine Wl.no ?_
        refine Wl.no ?_
        refine Wl.q (v := Value.bool false) (q_pick (t := false) rfl rfl) ?_
        refine Wl.q (v := Value.bool false) (q_assign rfl) ?_
        refine Wl.done ?_
        refine Wx.go ?_
        refine Wc.ret ?_
        refine Wx.blockRet ?_
        refine Wx.thenRet ?_
        refine Wx.fin1 rfl (.inl rfl) (fun w hs => ?_)
        exact ⟨(), trivial, congrArg Value.bool (Eq.symm (decide_eq_false (by unfold MayP; omega))), (st_drop (st_pull [2] hs))⟩
       ·
        refine Wl.q (v := Value.bool false) (q_eql (r := false) rfl rfl (decide_eq_false h16)) ?_
        refine Wl.q (v := Value.bool false) (q_move rfl) ?_
        refine Wl.no ?_
        refine Wl.no ?_
        refine Wl.no ?_
        refine Wl.no ?_
        refine Wl.q (v := Value.bool false) (q_pick (t := false) rfl rfl) ?_
        refine Wl.q (v := Value.bool false) (q_move rfl) ?_
        refine Wl.no ?_
        refine Wl.no ?_
        refine Wl.no ?_
        refine Wl.q (v := Value.bool false) (q_pick (t := false) rfl rfl) ?_
        refine Wl.q (v := Value.bool false) (q_assign rfl) ?_
        refine Wl.done ?_
        refine Wx.go ?_
        refine Wc.ret ?_
        refine Wx.blockRet ?_
        refine Wx.thenRet ?_
        refine Wx.fin1 rfl (.inl rfl) (fun w hs => ?_)
        exact ⟨(), trivial, congrArg Value.bool (Eq.symm (decide_eq_false (by unfold MayP; omega))), (st_drop (st_pull [0] hs))⟩
      ·
       refine Wl.q (v := Value.bool false) (q_eql (r := false) rfl rfl (decide_eq_false h15)) ?_
       refine Wl.q (v := Value.bool false) (q_assign rfl) ?_
       refine Wl.done ?_
       refine Wx.go ?_
       refine Wc.no rfl ?_
       refine Wc.region ?_
       by_cases h17 : ((t.kind : Nat) : Int) = 7
       ·
        refine Wl.q (v := Value.bool true) (q_eql (r := true) rfl rfl (decide_eq_true h17)) ?_
        refine Wl.q (v := Value.bool true) (q_assign rfl) ?_
        refine Wl.done ?_
        refine Wx.go ?_
        refine Wc.yes rfl ?_
        refine Wc.seq ?_
        refine Wc.region ?_
        refine Wl.q (v := Value.pointer (some ⟨b1, 1, none⟩)) (q_field (m := 1) fo_89_1 rfl rfl) ?_
        refine Wl.q (v := Value.int .i64 t.n) (q_load sc_2 rfl (.cel (i := 0) rfl rfl)) ?_
        by_cases h18 : t.n = 0
        ·
         refine Wl.q (v := Value.bool true) (q_eql (r := true) rfl rfl (decide_eq_true h18)) ?_
         refine Wl.q (v := Value.bool true) (q_move rfl) ?_
         refine Wl.q (v := Value.pointer (some ⟨r, 0, none⟩)) (q_move rfl) ?_
         refine Wl.q (v := Value.pointer (some ⟨b1, 2, none⟩)) (q_field (m := 2) fo_89_2 rfl rfl) ?_
         refine Wl.q (v := Value.int .i64 t.a) (q_load sc_3 rfl (.cel (i := 0) rfl rfl)) ?_
         refine Wl.imp (L' := (pt r 118 [v]) :: (sl 89 4 v m xs) :: (pt b1 89 [Value.int .u8 ((t.kind : Nat) : Int), Value.int .i64 t.n, Value.int .i64 t.a, Value.int .i64 t.b]) :: F) (fun _ h => st_pull [1, 1] h) ?_
         refine Wl.e (e_call (F := (pt b1 89 [Value.int .u8 ((t.kind : Nat) : Int), Value.int .i64 t.n, Value.int .i64 t.a, Value.int .i64 t.b]) :: F) (args := [Value.pointer (some ⟨r, 0, none⟩), Value.int .i64 t.a]) Tryz.call138 rfl (rthere_no W0 r (v) m xs t.a ha)) (fun _ _ => ?_)
         refine Wl.imp (L' := (pt r 118 [v]) :: (sl 89 4 v m xs) :: (pt b1 89 [Value.int .u8 ((t.kind : Nat) : Int), Value.int .i64 t.n, Value.int .i64 t.a, Value.int .i64 t.b]) :: F) (fun _ h => h) ?_
         refine Wl.q (v := Value.bool false) (q_pick (t := true) rfl rfl) ?_
         refine Wl.q (v := Value.bool false) (q_move rfl) ?_
         refine Wl.no ?_
         refine Wl.no ?_
         refine Wl.no ?_
         refine Wl.q (v := Value.bool false) (q_pick (t := false) rfl rfl) ?_
         refine Wl.q (v := Value.bool false) (q_assign rfl) ?_
         refine Wl.done ?_
         refine Wx.go ?_
         refine Wc.ret ?_
         refine Wx.blockRet ?_
         refine Wx.thenRet ?_
         refine Wx.fin1 rfl (.inl rfl) (fun w hs => ?_)
         exact ⟨(), trivial, congrArg Value.bool (Eq.symm (decide_eq_false (by unfold MayP; omega))), (st_drop (st_pull [2] hs))⟩
        ·
         refine Wl.q (v := Value.bool false) (q_eql (r := false) rfl rfl (decide_eq_false h18)) ?_
         refine Wl.q (v := Value.bool false) (q_move rfl) ?_
         refine Wl.no ?_
         refine Wl.no ?_
         refine Wl.no ?_
         refine Wl.no ?_
         refine Wl.q (v := Value.bool false) (q_pick (t := false) rfl rfl) ?_
         refine Wl.q (v := Value.bool false) (q_move rfl) ?_
         refine Wl.no ?_
         refine Wl.no ?_
         refine Wl.no ?_
         refine Wl.q (v := Value.bool false) (q_pick (t := false) rfl rfl) ?_
         refine Wl.q (v := Value.bool false) (q_assign rfl) ?_
         refine Wl.done ?_
         refine Wx.go ?_
         refine Wc.ret ?_
         refine Wx.blockRet ?_
         refine Wx.thenRet ?_
         refine Wx.fin1 rfl (.inl rfl) (fun w hs => ?_)
         exact ⟨(), trivial, congrArg Value.bool (Eq.symm (decide_eq_false (by unfold MayP; omega))), (st_drop (st_pull [0] hs))⟩
       ·
        refine Wl.q (v := Value.bool false) (q_eql (r := false) rfl rfl (decide_eq_false h17)) ?_
        refine Wl.q (v := Value.bool false) (q_assign rfl) ?_
        refine Wl.done ?_
        refine Wx.go ?_
        refine Wc.no rfl ?_
        refine Wc.skip ?_
        refine Wx.blockEnd ?_
        refine Wx.go ?_
        refine Wc.seq ?_
        refine Wc.region ?_
        refine Wl.q (v := Value.bool false) (q_assign rfl) ?_
        refine Wl.done ?_
        refine Wx.go ?_
        refine Wc.ret ?_
        refine Wx.fin1 rfl (.inl rfl) (fun w hs => ?_)
        exact ⟨(), trivial, congrArg Value.bool (Eq.symm (decide_eq_false (by unfold MayP; omega))), (st_drop (st_pull [0] hs))⟩

theorem rmay_c (W0 : World) (r : Nat) (v : Value) (m : Nat) (xs : List Value) (t : TermR) {b : Bool} (h : may m t = b) : Con Tryz.prog W0 134 #[Value.pointer (some ⟨r, 0, none⟩), Value.agg #[Value.int .u8 ((t.kind : Nat) : Int), Value.int .i64 t.n, Value.int .i64 t.a, Value.int .i64 t.b]] [pt r 118 [v], sl 89 4 v m xs] (X := Unit) (fun _ => True) (fun _ => .bool b) (fun _ => [pt r 118 [v], sl 89 4 v m xs]) := by
 subst h
 by_cases ha : 1 ≤ t.a ∧ t.a ≤ (m : Int) <;> by_cases hb : 1 ≤ t.b ∧ t.b ≤ (m : Int)
 · exact rmay_11 W0 r v m xs t ha hb
 · exact rmay_10 W0 r v m xs t ha hb
 · exact rmay_01 W0 r v m xs t ha hb
 · exact rmay_00 W0 r v m xs t ha hb

theorem rmake_no (W0 : World) (r : Nat) (v : Value) (ts : List TermR) (t : TermR) (hw : Wf ts) (hl : ts.length ≤ 1048576) (ht : okT t) (hm : may ts.length t = false) :
  Con Tryz.prog W0 19 #[Value.pointer (some ⟨r, 0, none⟩), Value.agg #[Value.int .u8 ((t.kind : Nat) : Int), Value.int .i64 t.n, Value.int .i64 t.a, Value.int .i64 t.b]] [pt r 118 [v], sl 89 4 v ts.length (ts.flatMap termCells)] (X := Unit) (fun _ => True) (fun _ => .tuple #[.int .i64 0, .int .i64 1]) (fun _ => [pt r 118 [v], sl 89 4 v ts.length (ts.flatMap termCells)]) := by
 refine Con.of (args := [Value.pointer (some ⟨r, 0, none⟩), Value.agg #[Value.int .u8 ((t.kind : Nat) : Int), Value.int .i64 t.n, Value.int .i64 t.a, Value.int .i64 t.b]]) Tryz.func19 rfl Tryz.ntmps19 rfl (fun F => ?_)
 show Wc _ W0 _ _ _ _ _ ((pt r 118 [v]) :: (sl 89 4 v ts.length (ts.flatMap termCells)) :: F)
 refine Wc.seq ?_
 refine Wc.region ?_
 refine Wl.e (e_box (x := .tmp 1) (vs := [Value.int .u8 ((t.kind : Nat) : Int), Value.int .i64 t.n, Value.int .i64 t.a, Value.int .i64 t.b]) rfl) (fun b1 _ => ?_)
 refine Wl.imp (L' := (pt b1 89 [Value.int .u8 ((t.kind : Nat) : Int), Value.int .i64 t.n, Value.int .i64 t.a, Value.int .i64 t.b]) :: (pt r 118 [v]) :: (sl 89 4 v ts.length (ts.flatMap termCells)) :: F) (fun _ h => h) ?_
 refine Wl.q (v := Value.int .i64 0) (q_assign rfl) ?_
 refine Wl.q (v := Value.int .i64 0) (q_assign rfl) ?_
 refine Wl.done ?_
 refine Wx.go ?_
 refine Wc.seq ?_
 refine Wc.seq ?_
 refine Wc.region ?_
 refine Wl.q (v := Value.pointer (some ⟨r, 0, none⟩)) (q_move rfl) ?_
 refine Wl.q (v := Value.agg #[Value.int .u8 ((t.kind : Nat) : Int), Value.int .i64 t.n, Value.int .i64 t.a, Value.int .i64 t.b]) (q_loadAgg (vs := [Value.int .u8 ((t.kind : Nat) : Int), Value.int .i64 t.n, Value.int .i64 t.a, Value.int .i64 t.b]) ag_89 rfl (Has.of_pt (i := 0) rfl rfl)) ?_
 refine Wl.imp (L' := (pt r 118 [v]) :: (sl 89 4 v ts.length (ts.flatMap termCells)) :: (pt b1 89 [Value.int .u8 ((t.kind : Nat) : Int), Value.int .i64 t.n, Value.int .i64 t.a, Value.int .i64 t.b]) :: F) (fun _ h => st_pull [1, 1] h) ?_
 refine Wl.e (e_call (F := (pt b1 89 [Value.int .u8 ((t.kind : Nat) : Int), Value.int .i64 t.n, Value.int .i64 t.a, Value.int .i64 t.b]) :: F) (args := [Value.pointer (some ⟨r, 0, none⟩), Value.agg #[Value.int .u8 ((t.kind : Nat) : Int), Value.int .i64 t.n, Value.int .i64 t.a, Value.int .i64 t.b]]) Tryz.call134 rfl (rmay_c W0 r (v) ts.length (ts.flatMap termCells) t hm)) (fun _ _ => ?_)
 refine Wl.imp (L' := (pt r 118 [v]) :: (sl 89 4 v ts.length (ts.flatMap termCells)) :: (pt b1 89 [Value.int .u8 ((t.kind : Nat) : Int), Value.int .i64 t.n, Value.int .i64 t.a, Value.int .i64 t.b]) :: F) (fun _ h => h) ?_
 refine Wl.q (v := Value.bool true) (q_not rfl rfl) ?_
 refine Wl.done ?_
 refine Wx.go ?_
 refine Wc.yes rfl ?_
 refine Wc.seq ?_
 refine Wc.region ?_
 refine Wl.q (v := Value.int .i64 0) (q_assign rfl) ?_
 refine Wl.q (v := Value.int .i64 1) (q_assign rfl) ?_
 refine Wl.done ?_
 refine Wx.go ?_
 refine Wc.ret ?_
 refine Wx.thenRet ?_
 refine Wx.fin2 rfl (.inl rfl) (fun w hs => ?_)
 exact ⟨(), trivial, rfl, (st_drop (st_pull [2] hs))⟩

theorem rmake_yes (W0 : World) (r : Nat) (v : Value) (ts : List TermR) (t : TermR) (hw : Wf ts) (hl : ts.length ≤ 1048576) (ht : okT t) (hm : may ts.length t = true) :
    Con Tryz.prog W0 19 #[Value.pointer (some ⟨r, 0, none⟩), Value.agg #[Value.int .u8 ((t.kind : Nat) : Int), Value.int .i64 t.n, Value.int .i64 t.a, Value.int .i64 t.b]] [pt r 118 [v], sl 89 4 v ts.length (ts.flatMap termCells)] (X := Unit) (fun _ => True) (fun _ => .tuple #[.int .i64 (((mk ts t).2.1 : Nat) : Int), .int .i64 (mk ts t).2.2]) (fun _ => [refI r ((mk ts t).1)]) := by
  refine Con.of (args := [Value.pointer (some ⟨r, 0, none⟩), Value.agg #[Value.int .u8 ((t.kind : Nat) : Int), Value.int .i64 t.n, Value.int .i64 t.a, Value.int .i64 t.b]]) Tryz.func19 rfl Tryz.ntmps19 rfl (fun F => ?_)
  show Wc _ W0 _ _ _ _ _ ((pt r 118 [v]) :: (sl 89 4 v ts.length (ts.flatMap termCells)) :: F)
  refine Wc.seq ?_
  refine Wc.region ?_
  refine Wl.e (e_box (x := .tmp 1) (vs := [Value.int .u8 ((t.kind : Nat) : Int), Value.int .i64 t.n, Value.int .i64 t.a, Value.int .i64 t.b]) rfl) (fun tb _ => ?_)
  refine Wl.imp (L' := (pt tb 89 [Value.int .u8 ((t.kind : Nat) : Int), Value.int .i64 t.n, Value.int .i64 t.a, Value.int .i64 t.b]) :: (pt r 118 [v]) :: (sl 89 4 v ts.length (ts.flatMap termCells)) :: F) (fun _ h => h) ?_
  refine Wl.q (v := Value.int .i64 0) (q_assign rfl) ?_
  refine Wl.q (v := Value.int .i64 0) (q_assign rfl) ?_
  refine Wl.done ?_
  refine Wx.go ?_
  refine Wc.seq ?_
  refine Wc.seq ?_
  refine Wc.region ?_
  refine Wl.q (v := Value.pointer (some ⟨r, 0, none⟩)) (q_move rfl) ?_
  refine Wl.q (v := Value.agg #[Value.int .u8 ((t.kind : Nat) : Int), Value.int .i64 t.n, Value.int .i64 t.a, Value.int .i64 t.b]) (q_loadAgg (vs := [Value.int .u8 ((t.kind : Nat) : Int), Value.int .i64 t.n, Value.int .i64 t.a, Value.int .i64 t.b]) ag_89 rfl (Has.of_pt (i := 0) rfl rfl)) ?_
  refine Wl.imp (L' := (pt r 118 [v]) :: (sl 89 4 v ts.length (ts.flatMap termCells)) :: (pt tb 89 [Value.int .u8 ((t.kind : Nat) : Int), Value.int .i64 t.n, Value.int .i64 t.a, Value.int .i64 t.b]) :: F) (fun _ h => st_pull [1, 1] h) ?_
  refine Wl.e (e_call (F := (pt tb 89 [Value.int .u8 ((t.kind : Nat) : Int), Value.int .i64 t.n, Value.int .i64 t.a, Value.int .i64 t.b]) :: F) (args := [Value.pointer (some ⟨r, 0, none⟩), Value.agg #[Value.int .u8 ((t.kind : Nat) : Int), Value.int .i64 t.n, Value.int .i64 t.a, Value.int .i64 t.b]]) Tryz.call134 rfl (rmay_c W0 r (v) ts.length (ts.flatMap termCells) t hm)) (fun _ _ => ?_)
  refine Wl.imp (L' := (pt r 118 [v]) :: (sl 89 4 v ts.length (ts.flatMap termCells)) :: (pt tb 89 [Value.int .u8 ((t.kind : Nat) : Int), Value.int .i64 t.n, Value.int .i64 t.a, Value.int .i64 t.b]) :: F) (fun _ h => h) ?_
  refine Wl.q (v := Value.bool false) (q_not rfl rfl) ?_
  refine Wl.done ?_
  refine Wx.go ?_
  refine Wc.no rfl ?_
  refine Wc.skip ?_
  refine Wx.go ?_
  refine Wc.seq ?_
  refine Wc.seq ?_
  refine Wc.region ?_
  refine Wl.q (v := Value.int .i64 0) (q_assign rfl) ?_
  refine Wl.done ?_
  refine Wx.go ?_
  refine Wc.block ?_
  refine Wc.loop (X := Nat) (fun i E => E 6 = Value.int .i64 ((i : Nat) : Int) ∧ E 0 = Value.pointer (some ⟨r, 0, none⟩) ∧ E 3 = Value.pointer (some ⟨tb, 0, none⟩) ∧ i ≤ ts.length ∧ ¬ t ∈ ts.take i) (fun i => (pt r 118 [v]) :: (sl 89 4 v ts.length (ts.flatMap termCells)) :: (pt tb 89 [Value.int .u8 ((t.kind : Nat) : Int), Value.int .i64 t.n, Value.int .i64 t.a, Value.int .i64 t.b]) :: F) (fun i => ts.length - i) 0 ?_ ?_ ?_
  · exact ⟨rfl, rfl, rfl, (by omega), (by simp)⟩
  · exact fun w hs => hs
  · rintro i E2 ⟨hE6_0, hE0_0, hE3_0, hi, hni⟩
    refine Wc.seq ?_
    refine Wc.seq ?_
    refine Wc.region ?_
    refine Wl.q (v := Value.int .i64 ((i : Nat) : Int)) (q_move hE6_0) ?_
    refine Wl.q (v := Value.pointer (some ⟨r, 0, none⟩)) (q_move hE0_0) ?_
    refine Wl.q (v := Value.pointer (some ⟨r, 0, none⟩)) (q_nil_ptr rfl) ?_
    refine Wl.q (v := Value.pointer (some ⟨r, 0, none⟩)) (q_field (m := 0) fo_118_0 rfl rfl) ?_
    refine Wl.q (v := v) (q_load sc_22 rfl (.cel (i := 0) rfl rfl)) ?_
    refine Wl.q (v := Value.int .i64 ((ts.length : Nat) : Int)) (q_len_sl (i := 1) Tryz.underlying22 rfl rfl) ?_
    by_cases hlt : ((i : Nat) : Int) < ((ts.length : Nat) : Int)
    ·
      obtain ⟨o, hget⟩ : ∃ o, ts[i]? = some o := ⟨ts[i]'(by omega), List.getElem?_eq_getElem (by omega)⟩
      refine Wl.sl (i := 1) (m := ts.length) rfl (by omega) (fun bw cw hv hcw => ?_)
      subst hv
      refine Wl.q (v := Value.bool true) (q_lss (r := true) rfl rfl (decide_eq_true hlt)) ?_
      refine Wl.done ?_
      refine Wx.go ?_
      refine Wc.yes rfl ?_
      refine Wc.skip ?_
      refine Wx.go ?_
      refine Wc.seq ?_
      refine Wc.block ?_
      refine Wc.seq ?_
      refine Wc.drawsS [] ((pt r 118 [Value.slice (some ⟨bw, 0, none⟩) ts.length cw]) :: (slp 89 4 bw cw (ts.flatMap termCells)) :: (pt tb 89 [Value.int .u8 ((t.kind : Nat) : Int), Value.int .i64 t.n, Value.int .i64 t.a, Value.int .i64 t.b]) :: []) (by kernel_rfl) ?_
      refine Wr.pure (v := Value.pointer (some ⟨r, 0, none⟩)) 0 rfl (by kernel_rfl) (.inr (fun _ h => st_take [0, 0, 0] h)) (.inl ⟨rfl, fun _ => q_move hE0_0⟩) ?_
      refine Wr.pure (v := Value.pointer (some ⟨r, 0, none⟩)) 1 rfl (by kernel_rfl) (.inr (fun _ h => st_take [0, 0, 0] h)) (.inl ⟨rfl, fun _ => q_nil_ptr rfl⟩) ?_
      refine Wr.pure (v := Value.pointer (some ⟨r, 0, none⟩)) 2 rfl (by kernel_rfl) (.inr (fun _ h => st_take [0, 0, 0] h)) (.inl ⟨rfl, fun _ => q_field (m := 0) fo_118_0 rfl rfl⟩) ?_
      refine Wr.take (v := Value.slice (some ⟨bw, 0, none⟩) ts.length cw) 3 rfl (by kernel_rfl) (fun _ h => st_take [0, 0, 0] h) (.inl ⟨rfl, q_load sc_22 rfl (.cel (i := 0) rfl rfl)⟩) ?_
      refine Wr.pure (v := Value.int .i64 ((i : Nat) : Int)) 4 rfl (by kernel_rfl) (.inr (fun _ h => st_take [0, 0, 0] h)) (.inl ⟨rfl, fun _ => q_move hE6_0⟩) ?_
      refine Wr.pure (v := Value.pointer (some ⟨bw, i * 4, none⟩)) 5 rfl (by kernel_rfl) (.inr (fun _ h => st_take [0, 0, 0] h)) (.inl ⟨rfl, fun _ => q_idx (m := i * 4) se_22 rfl rfl (by omega) (by omega) (by simp)⟩) ?_
      refine Wr.take (v := Value.agg #[Value.int .u8 ((o.kind : Nat) : Int), Value.int .i64 o.n, Value.int .i64 o.a, Value.int .i64 o.b]) 6 rfl (by kernel_rfl) (fun _ h => st_take [0, 0, 0] h) (.inl ⟨rfl, q_loadAgg (vs := [Value.int .u8 ((o.kind : Nat) : Int), Value.int .i64 o.n, Value.int .i64 o.a, Value.int .i64 o.b]) ag_89 rfl (fun j u hj => .row (i := 1) rfl (flat4 hget j u hj))⟩) ?_
      refine Wr.take (v := Value.agg #[Value.int .u8 ((t.kind : Nat) : Int), Value.int .i64 t.n, Value.int .i64 t.a, Value.int .i64 t.b]) 7 rfl (by kernel_rfl) (fun _ h => st_take [0, 0, 0] h) (.inl ⟨rfl, q_loadAgg (vs := [Value.int .u8 ((t.kind : Nat) : Int), Value.int .i64 t.n, Value.int .i64 t.a, Value.int .i64 t.b]) ag_89 hE3_0 (Has.of_pt (i := 2) rfl rfl)⟩) ?_
      by_cases hot : o = t
      ·
        refine Wr.pure (v := Value.bool true) 8 rfl (by kernel_rfl) (.inr (fun _ h => st_take [0, 0, 0] h)) (.inl ⟨rfl, fun _ => q_eql_agg (r := true) rfl rfl eg_89 (fun w => eqT_true (wfOk hw hl hget) ht hot w)⟩) ?_
        refine Wr.done (by kernel_rfl) ?_
        refine Wx.go ?_
        refine Wc.yes rfl ?_
        refine Wc.seq ?_
        refine Wc.region ?_
        refine Wl.q (v := Value.int .i64 ((i : Nat) : Int)) (q_move hE6_0) ?_
        refine Wl.q (v := Value.int .i64 ((i + 1 : Nat) : Int)) (q_add (c := ((i + 1 : Nat) : Int)) rfl rfl (by rw [wrap_i64] <;> omega)) ?_
        refine Wl.q (v := Value.int .i64 ((i + 1 : Nat) : Int)) (q_assign rfl) ?_
        refine Wl.q (v := Value.int .i64 0) (q_assign rfl) ?_
        refine Wl.done ?_
        refine Wx.go ?_
        refine Wc.ret ?_
        refine Wx.blockRet ?_
        refine Wx.thenRet ?_
        refine Wx.thenRet ?_
        refine Wx.blockRet ?_
        refine Wx.thenRet ?_
        refine Wx.fin2 rfl (.inl rfl) (fun w hs => ?_)
        subst hot
        have hid := idx_at hget hni
        have e : mk ts o = (ts, i + 1, 0) := by unfold mk; rw [if_neg (by simp [hm]), if_pos hid.1, hid.2]
        exact ⟨(), trivial, by rw [e]; rfl, by rw [e]; exact refI_mk ((fun hs => st_swap (st_sl_mk flat_len4 hcw hs)) (st_pull [1, 0] (st_drop (st_pull [2] hs))))⟩
      ·
        refine Wr.pure (v := Value.bool false) 8 rfl (by kernel_rfl) (.inr (fun _ h => st_take [0, 0, 0] h)) (.inl ⟨rfl, fun _ => q_eql_agg (r := false) rfl rfl eg_89 (fun w => eqT_false (wfOk hw hl hget) ht hot w)⟩) ?_
        refine Wr.done (by kernel_rfl) ?_
        refine Wx.go ?_
        refine Wc.no rfl ?_
        refine Wc.skip ?_
        refine Wx.blockEnd ?_
        refine Wx.go ?_
        refine Wc.region ?_
        refine Wl.q (v := Value.int .i64 ((i : Nat) : Int)) (q_move hE6_0) ?_
        refine Wl.q (v := Value.int .i64 ((i + 1 : Nat) : Int)) (q_add (c := ((i + 1 : Nat) : Int)) rfl rfl (by rw [wrap_i64] <;> omega)) ?_
        refine Wl.q (v := Value.int .i64 ((i + 1 : Nat) : Int)) (q_assign rfl) ?_
        refine Wl.done ?_
        refine Wx.at (i + 1) ⟨(by omega), rfl, hE0_0, hE3_0, (by omega), (notin_snoc hget hni hot)⟩ (fun w hs => (fun hs => st_swap (st_sl_mk flat_len4 hcw hs)) (st_pull [1, 0, 0] (hs)))
    ·
      have hie : i = ts.length := by omega
      rw [hie, List.take_length] at hni
      refine Wl.q (v := Value.bool false) (q_lss (r := false) rfl rfl (decide_eq_false hlt)) ?_
      refine Wl.done ?_
      refine Wx.go ?_
      refine Wc.no rfl ?_
      refine Wc.exit ?_
      refine Wx.thenExit ?_
      refine Wx.thenExit ?_
      refine Wx.out ?_
      refine Wx.go ?_
      refine Wc.seq ?_
      refine Wc.seq ?_
      refine Wc.region ?_
      refine Wl.q (v := Value.pointer (some ⟨r, 0, none⟩)) (q_move hE0_0) ?_
      refine Wl.q (v := Value.pointer (some ⟨r, 0, none⟩)) (q_nil_ptr rfl) ?_
      refine Wl.q (v := Value.pointer (some ⟨r, 0, none⟩)) (q_field (m := 0) fo_118_0 rfl rfl) ?_
      refine Wl.q (v := v) (q_load sc_22 rfl (.cel (i := 0) rfl rfl)) ?_
      refine Wl.q (v := Value.int .i64 ((ts.length : Nat) : Int)) (q_len_sl (i := 1) Tryz.underlying22 rfl rfl) ?_
      by_cases hf : ((ts.length : Nat) : Int) ≥ 1048576
      ·
        refine Wl.q (v := Value.bool true) (q_geq (r := true) rfl rfl (decide_eq_true hf)) ?_
        refine Wl.done ?_
        refine Wx.go ?_
        refine Wc.yes rfl ?_
        refine Wc.seq ?_
        refine Wc.region ?_
        refine Wl.q (v := Value.int .i64 0) (q_assign rfl) ?_
        refine Wl.q (v := Value.int .i64 3) (q_assign rfl) ?_
        refine Wl.done ?_
        refine Wx.go ?_
        refine Wc.ret ?_
        refine Wx.thenRet ?_
        refine Wx.fin2 rfl (.inl rfl) (fun w hs => ?_)
        have e : mk ts t = (ts, 0, 3) := by unfold mk; rw [if_neg (by simp [hm]), if_neg hni, if_pos (by omega)]
        exact ⟨(), trivial, by rw [e]; rfl, by rw [e]; exact refI_mk (st_drop (st_pull [2] hs))⟩
      ·
        refine Wl.q (v := Value.bool false) (q_geq (r := false) rfl rfl (decide_eq_false hf)) ?_
        refine Wl.done ?_
        refine Wx.go ?_
        refine Wc.no rfl ?_
        refine Wc.skip ?_
        refine Wx.go ?_
        refine Wc.seq ?_
        refine Wc.drawsS [10] ((pt r 118 [v]) :: (pt tb 89 [Value.int .u8 ((t.kind : Nat) : Int), Value.int .i64 t.n, Value.int .i64 t.a, Value.int .i64 t.b]) :: []) (by kernel_rfl) ?_
        refine Wr.pure (v := Value.pointer (some ⟨r, 0, none⟩)) 0 rfl (by kernel_rfl) (.inr (fun _ h => st_take [0, 1] h)) (.inl ⟨rfl, fun _ => q_move hE0_0⟩) ?_
        refine Wr.pure (v := Value.pointer (some ⟨r, 0, none⟩)) 1 rfl (by kernel_rfl) (.inr (fun _ h => st_take [0, 1] h)) (.inl ⟨rfl, fun _ => q_move hE0_0⟩) ?_
        refine Wr.pure (v := Value.pointer (some ⟨r, 0, none⟩)) 2 rfl (by kernel_rfl) (.inr (fun _ h => st_take [0, 1] h)) (.inl ⟨rfl, fun _ => q_nil_ptr rfl⟩) ?_
        refine Wr.pure (v := Value.pointer (some ⟨r, 0, none⟩)) 3 rfl (by kernel_rfl) (.inr (fun _ h => st_take [0, 1] h)) (.inl ⟨rfl, fun _ => q_field (m := 0) fo_118_0 rfl rfl⟩) ?_
        refine Wr.take (v := v) 4 rfl (by kernel_rfl) (fun _ h => st_take [0, 1] h) (.inl ⟨rfl, q_load sc_22 rfl (.cel (i := 0) rfl rfl)⟩) ?_
        refine Wr.take (v := Value.agg #[Value.int .u8 ((t.kind : Nat) : Int), Value.int .i64 t.n, Value.int .i64 t.a, Value.int .i64 t.b]) 5 rfl (by kernel_rfl) (fun _ h => st_take [0, 1] h) (.inl ⟨rfl, q_loadAgg (vs := [Value.int .u8 ((t.kind : Nat) : Int), Value.int .i64 t.n, Value.int .i64 t.a, Value.int .i64 t.b]) ag_89 hE3_0 (Has.of_pt (i := 1) rfl rfl)⟩) ?_
        refine Wr.e 6 (by kernel_rfl) rfl (e_buildSlice (cs := [Value.int .u8 ((t.kind : Nat) : Int), Value.int .i64 t.n, Value.int .i64 t.a, Value.int .i64 t.b]) se_22 zo_89 (by decide) (by decide) (by kernel_rfl)) (.inr fun _ _ _ h => st_take [1, 2] h) (fun b3 _ => ?_)
        refine Wr.imp (L' := (pt b3 89 [Value.int .u8 ((t.kind : Nat) : Int), Value.int .i64 t.n, Value.int .i64 t.a, Value.int .i64 t.b]) :: (pt r 118 [v]) :: (sl 89 4 v ts.length (ts.flatMap termCells)) :: (pt tb 89 [Value.int .u8 ((t.kind : Nat) : Int), Value.int .i64 t.n, Value.int .i64 t.a, Value.int .i64 t.b]) :: F) (fun _ h => h) ?_
        refine Wr.more (S' := (pt b3 89 [Value.int .u8 ((t.kind : Nat) : Int), Value.int .i64 t.n, Value.int .i64 t.a, Value.int .i64 t.b]) :: (pt r 118 [v]) :: (pt tb 89 [Value.int .u8 ((t.kind : Nat) : Int), Value.int .i64 t.n, Value.int .i64 t.a, Value.int .i64 t.b]) :: []) (fun _ h => st_drop h) ?_
        refine Wr.e 7 (by kernel_rfl) rfl (e_append (i := 2) (k := 4) (m := 1) (off := 0) (news := [Value.int .u8 ((t.kind : Nat) : Int), Value.int .i64 t.n, Value.int .i64 t.a, Value.int .i64 t.b]) Tryz.underlying22 sz_89 by_89 zo_89 rfl rfl rfl rfl rfl (Has.of_pt (i := 0) rfl rfl) rfl (by decide) (by simp only [maxLen]; omega) (by omega)) (.inr fun _ _ _ h => st_take [0, 0, 1] h) (fun v2 _ => ?_)
        refine Wr.imp (L' := (pt b3 89 [Value.int .u8 ((t.kind : Nat) : Int), Value.int .i64 t.n, Value.int .i64 t.a, Value.int .i64 t.b]) :: (pt r 118 [v]) :: (sl 89 4 v2 (ts.length + 1) ((ts.flatMap termCells) ++ [Value.int .u8 ((t.kind : Nat) : Int), Value.int .i64 t.n, Value.int .i64 t.a, Value.int .i64 t.b])) :: (pt tb 89 [Value.int .u8 ((t.kind : Nat) : Int), Value.int .i64 t.n, Value.int .i64 t.a, Value.int .i64 t.b]) :: F) (fun _ h => h) ?_
        refine Wr.pure (v := Value.pointer (some ⟨r, 0, none⟩)) 8 rfl (by kernel_rfl) (.inr (fun _ h => st_take [0, 0, 1] h)) (.inl ⟨rfl, fun _ => q_nil_ptr rfl⟩) ?_
        refine Wr.pure (v := Value.pointer (some ⟨r, 0, none⟩)) 9 rfl (by kernel_rfl) (.inr (fun _ h => st_take [0, 0, 1] h)) (.inl ⟨rfl, fun _ => q_field (m := 0) fo_118_0 rfl rfl⟩) ?_
        refine Wr.e 10 (by kernel_rfl) rfl (e_store (i := 1) (v := v2) sz_22 rfl rfl (fun _ h => sl_one (i := 2) h rfl) rfl (by simp)) (.inl (by kernel_rfl)) (fun _ _ => ?_)
        refine Wr.imp (L' := (pt b3 89 [Value.int .u8 ((t.kind : Nat) : Int), Value.int .i64 t.n, Value.int .i64 t.a, Value.int .i64 t.b]) :: (pt r 118 [v2]) :: (sl 89 4 v2 (ts.length + 1) ((ts.flatMap termCells) ++ [Value.int .u8 ((t.kind : Nat) : Int), Value.int .i64 t.n, Value.int .i64 t.a, Value.int .i64 t.b])) :: (pt tb 89 [Value.int .u8 ((t.kind : Nat) : Int), Value.int .i64 t.n, Value.int .i64 t.a, Value.int .i64 t.b]) :: F) (fun _ h => h) ?_
        refine Wr.rebaseS [] ((pt b3 89 [Value.int .u8 ((t.kind : Nat) : Int), Value.int .i64 t.n, Value.int .i64 t.a, Value.int .i64 t.b]) :: (pt r 118 [v2]) :: (sl 89 4 v2 (ts.length + 1) ((ts.flatMap termCells) ++ [Value.int .u8 ((t.kind : Nat) : Int), Value.int .i64 t.n, Value.int .i64 t.a, Value.int .i64 t.b])) :: (pt tb 89 [Value.int .u8 ((t.kind : Nat) : Int), Value.int .i64 t.n, Value.int .i64 t.a, Value.int .i64 t.b]) :: []) (by kernel_rfl) ?_
        refine Wr.done (by kernel_rfl) ?_
        refine Wx.go ?_
        refine Wc.seq ?_
        refine Wc.region ?_
        refine Wl.q (v := Value.pointer (some ⟨r, 0, none⟩)) (q_move hE0_0) ?_
        refine Wl.q (v := Value.pointer (some ⟨r, 0, none⟩)) (q_nil_ptr rfl) ?_
        refine Wl.q (v := Value.pointer (some ⟨r, 0, none⟩)) (q_field (m := 0) fo_118_0 rfl rfl) ?_
        refine Wl.q (v := v2) (q_load sc_22 rfl (.cel (i := 1) rfl rfl)) ?_
        refine Wl.q (v := Value.int .i64 (((ts.length + 1) : Nat) : Int)) (q_len_sl (i := 2) Tryz.underlying22 rfl rfl) ?_
        refine Wl.q (v := Value.int .i64 (((ts.length + 1) : Nat) : Int)) (q_assign rfl) ?_
        refine Wl.q (v := Value.int .i64 0) (q_assign rfl) ?_
        refine Wl.done ?_
        refine Wx.go ?_
        refine Wc.ret ?_
        refine Wx.fin2 rfl (.inl rfl) (fun w hs => ?_)
        have e : mk ts t = (ts ++ [t], ts.length + 1, 0) := by unfold mk; rw [if_neg (by simp [hm]), if_neg hni, if_neg (by omega)]
        exact ⟨(), trivial, by rw [e]; rfl, by rw [e]; exact refI_mk (by rw [List.length_append, List.flatMap_append]; exact (st_drop (st_drop (st_pull [0, 2] hs))))⟩

theorem rmake_c (W0 : World) (r : Nat) (ts : List TermR) (t : TermR) (hw : Wf ts) (hl : ts.length ≤ 1048576) (ht : okT t) : Con Tryz.prog W0 19 #[Value.pointer (some ⟨r, 0, none⟩), Value.agg #[Value.int .u8 ((t.kind : Nat) : Int), Value.int .i64 t.n, Value.int .i64 t.a, Value.int .i64 t.b]] [refI r ts] (X := Unit) (fun _ => True) (fun _ => .tuple #[.int .i64 (((mk ts t).2.1 : Nat) : Int), .int .i64 (mk ts t).2.2]) (fun _ => [refI r (mk ts t).1]) := Con.ref fun v => by
  by_cases hm : may ts.length t = true
  · exact rmake_yes W0 r v ts t hw hl ht hm
  · have hm : may ts.length t = false := by simpa using hm
    have e : mk ts t = (ts, 0, 1) := by unfold mk; rw [if_pos hm]
    rw [e]
    exact (rmake_no W0 r v ts t hw hl ht hm).mono fun _ _ => ⟨(), trivial, rfl, fun _ _ h => refI_mk h⟩

theorem rget_o (W0 : World) (r : Nat) (v : Value) (ts : List TermR) (x : Int) (hl : ts.length ≤ 1048576) (t : TermR) (h1 : 1 ≤ x) (hx : ts[(x - 1).toNat]? = some t) :
  Con Tryz.prog W0 21 #[Value.pointer (some ⟨r, 0, none⟩), Value.int .i64 x] [pt r 118 [v], sl 89 4 v ts.length (ts.flatMap termCells)] (X := Unit) (fun _ => True) (fun _ => .tuple #[Value.agg #[Value.int .u8 ((t.kind : Nat) : Int), Value.int .i64 t.n, Value.int .i64 t.a, Value.int .i64 t.b], .bool true]) (fun _ => [pt r 118 [v], sl 89 4 v ts.length (ts.flatMap termCells)]) := by
 refine Con.of (args := [Value.pointer (some ⟨r, 0, none⟩), Value.int .i64 x]) Tryz.func21 rfl Tryz.ntmps21 rfl (fun F => ?_)
 have hlt := (List.getElem?_eq_some_iff.1 hx).1
 show Wc _ W0 _ _ _ _ _ ((pt r 118 [v]) :: (sl 89 4 v ts.length (ts.flatMap termCells)) :: F)
 refine Wc.seq ?_
 refine Wc.region ?_
 refine Wl.e (e_alloc (vs := [Value.int .u8 0, Value.int .i64 0, Value.int .i64 0, Value.int .i64 0]) zo_89 rfl) (fun b1 _ => ?_)
 refine Wl.imp (L' := (pt b1 89 [Value.int .u8 0, Value.int .i64 0, Value.int .i64 0, Value.int .i64 0]) :: (pt r 118 [v]) :: (sl 89 4 v ts.length (ts.flatMap termCells)) :: F) (fun _ h => h) ?_
 refine Wl.q (v := Value.bool false) (q_assign rfl) ?_
 refine Wl.done ?_
 refine Wx.go ?_
 refine Wc.seq ?_
 refine Wc.seq ?_
 refine Wc.region ?_
 refine Wl.q (v := Value.pointer (some ⟨r, 0, none⟩)) (q_move rfl) ?_
 refine Wl.q (v := Value.int .i64 x) (q_move rfl) ?_
 refine Wl.imp (L' := (pt r 118 [v]) :: (sl 89 4 v ts.length (ts.flatMap termCells)) :: (pt b1 89 [Value.int .u8 0, Value.int .i64 0, Value.int .i64 0, Value.int .i64 0]) :: F) (fun _ h => st_pull [1, 1] h) ?_
 refine Wl.e (e_call (F := (pt b1 89 [Value.int .u8 0, Value.int .i64 0, Value.int .i64 0, Value.int .i64 0]) :: F) (args := [Value.pointer (some ⟨r, 0, none⟩), Value.int .i64 x]) Tryz.call138 rfl (rthere_yes W0 r (v) ts.length (ts.flatMap termCells) x (by omega))) (fun _ _ => ?_)
 refine Wl.imp (L' := (pt r 118 [v]) :: (sl 89 4 v ts.length (ts.flatMap termCells)) :: (pt b1 89 [Value.int .u8 0, Value.int .i64 0, Value.int .i64 0, Value.int .i64 0]) :: F) (fun _ h => h) ?_
 refine Wl.q (v := Value.bool false) (q_not rfl rfl) ?_
 refine Wl.done ?_
 refine Wx.go ?_
 refine Wc.no rfl ?_
 refine Wc.skip ?_
 refine Wx.go ?_
 refine Wc.seq ?_
 refine Wc.region ?_
 refine Wl.q (v := Value.pointer (some ⟨r, 0, none⟩)) (q_move rfl) ?_
 refine Wl.q (v := Value.pointer (some ⟨r, 0, none⟩)) (q_nil_ptr rfl) ?_
 refine Wl.q (v := Value.pointer (some ⟨r, 0, none⟩)) (q_field (m := 0) fo_118_0 rfl rfl) ?_
 refine Wl.sl (i := 1) (m := ts.length) rfl (by omega) (fun bw cw hv hcw => ?_)
 subst hv
 refine Wl.q (v := Value.slice (some ⟨bw, 0, none⟩) ts.length cw) (q_load sc_22 rfl (.cel (i := 0) rfl rfl)) ?_
 refine Wl.q (v := Value.int .i64 x) (q_move rfl) ?_
 refine Wl.q (v := Value.int .i64 (x - 1)) (q_sub (c := (x - 1)) rfl rfl (wrap_i64 (by omega) (by omega))) ?_
 refine Wl.q (v := Value.pointer (some ⟨bw, (((x - 1)).toNat) * 4, none⟩)) (q_idx (m := (((x - 1)).toNat) * 4) se_22 rfl rfl (by omega) (by omega) (by simp)) ?_
 refine Wl.q (v := Value.agg #[Value.int .u8 ((t.kind : Nat) : Int), Value.int .i64 t.n, Value.int .i64 t.a, Value.int .i64 t.b]) (q_loadAgg (vs := [Value.int .u8 ((t.kind : Nat) : Int), Value.int .i64 t.n, Value.int .i64 t.a, Value.int .i64 t.b]) ag_89 rfl (fun j u hj => .row (i := 1) rfl (flat4 hx j u hj))) ?_
 refine Wl.e (e_storeAgg (i := 2) (vs := [Value.int .u8 ((t.kind : Nat) : Int), Value.int .i64 t.n, Value.int .i64 t.a, Value.int .i64 t.b]) (c' := [Value.int .u8 ((t.kind : Nat) : Int), Value.int .i64 t.n, Value.int .i64 t.a, Value.int .i64 t.b]) sz_89 rfl rfl rfl rfl (by simp) rfl) (fun _ _ => ?_)
 refine Wl.imp (L' := (pt r 118 [Value.slice (some ⟨bw, 0, none⟩) ts.length cw]) :: (slp 89 4 bw cw (ts.flatMap termCells)) :: (pt b1 89 [Value.int .u8 ((t.kind : Nat) : Int), Value.int .i64 t.n, Value.int .i64 t.a, Value.int .i64 t.b]) :: F) (fun _ h => h) ?_
 refine Wl.q (v := Value.bool true) (q_assign rfl) ?_
 refine Wl.done ?_
 refine Wx.go ?_
 refine Wc.ret ?_
 refine Wx.finA2 (vs := [Value.int .u8 ((t.kind : Nat) : Int), Value.int .i64 t.n, Value.int .i64 t.a, Value.int .i64 t.b]) rfl (.inl rfl) ag_89 rfl (Has.of_pt (i := 2) rfl rfl) (fun w hs => ?_)
 exact ⟨(), trivial, rfl, (fun hs => st_swap (st_sl_mk flat_len4 hcw hs)) (st_pull [1, 0] (st_drop (st_pull [2] hs)))⟩

theorem rget_c (W0 : World) (r : Nat) (ts : List TermR) (x : Int) (hl : ts.length ≤ 1048576) (t : TermR) (h1 : 1 ≤ x) (hx : ts[(x - 1).toNat]? = some t) : Con Tryz.prog W0 21 #[Value.pointer (some ⟨r, 0, none⟩), Value.int .i64 x] [refI r ts] (X := Unit) (fun _ => True) (fun _ => .tuple #[Value.agg #[Value.int .u8 ((t.kind : Nat) : Int), Value.int .i64 t.n, Value.int .i64 t.a, Value.int .i64 t.b], .bool true]) (fun _ => [refI r ts]) := Con.ref fun v =>
 (rget_o W0 r v ts x hl t h1 hx).mono fun _ _ => ⟨(), trivial, rfl, fun _ _ h => refI_mk h⟩

theorem rtnew_c (W0 : World)  :
  Con Tryz.prog W0 17 #[] [] (X := Nat) (fun _ => True) (fun r => .pointer (some ⟨r, 0, none⟩)) (fun r => [refI r []]) := by
 refine Con.of (args := []) Tryz.func17 rfl Tryz.ntmps17 rfl (fun F => ?_)
 show Wc _ W0 _ _ _ _ _ (F)
 refine Wc.seq ?_
 refine Wc.region ?_
 refine Wl.q (v := Value.pointer none) (q_assign rfl) ?_
 refine Wl.done ?_
 refine Wx.go ?_
 refine Wc.seq ?_
 refine Wc.region ?_
 refine Wl.q (v := Value.agg #[Value.slice none 0 0]) (q_build (pl := [(0, 1)]) Tryz.underlying118 zo_118 (by kernel_rfl) (by kernel_rfl)) ?_
 refine Wl.e (e_box (x := .tmp 1) (vs := [Value.slice none 0 0]) rfl) (fun r _ => ?_)
 refine Wl.imp (L' := (pt r 118 [Value.slice none 0 0]) :: F) (fun _ h => h) ?_
 refine Wl.q (v := Value.pointer (some ⟨r, 0, none⟩)) (q_assign rfl) ?_
 refine Wl.done ?_
 refine Wx.go ?_
 refine Wc.ret ?_
 refine Wx.fin1 rfl (.inl rfl) (fun w hs => ?_)
 exact ⟨r, trivial, rfl, refI_mk (v := .slice none 0 0) (st_swap (st_sl_nil hs))⟩

theorem build_take {l : List TermR} {k : Nat} {o : TermR} (h : l[k]? = some o) : build [] (l.take (k + 1)) = (mk (build [] (l.take k)) o).1 := by
 obtain ⟨hl, he⟩ := List.getElem?_eq_some_iff.1 h
 rw [List.take_succ_eq_append_getElem hl, he, build_snoc]
theorem build_wf {l : List TermR} (h : ∀ x ∈ l, okT x) (k : Nat) : Wf (build [] (l.take k)) := Wf.build (fun t ht => by have := h t (List.mem_of_mem_take ht); exact ⟨this.1, this.2.1⟩) Wf.nil
theorem build_le {l : List TermR} (k : Nat) : (build [] (l.take k)).length ≤ l.length := by
 have := (build_len (l.take k) []).2
 simp only [List.length_nil, List.length_take] at this
 omega

theorem build_c (W0 : World) (vl : Value) (l : List TermR) (hl : Rd W0 vl l.length (l.flatMap termCells)) (hlm : l.length ≤ 1000000) (hlo : ∀ x ∈ l, okT x) :
    Con Tryz.prog W0 4 #[vl] [] (X := Nat × Nat) (fun _ => True) (fun y => .tuple #[.pointer (some ⟨y.1, 0, none⟩), .pointer (some ⟨y.2, 0, none⟩), .bool true]) (fun y => [storeI y.1 (build [] l), refI y.2 (build [] l)]) := by
  refine Con.of (args := [vl]) Tryz.func4 rfl Tryz.ntmps4 rfl (fun F => ?_)
  show Wc _ W0 _ _ _ _ _ (F)
  refine Wc.seq ?_
  refine Wc.region ?_
  refine Wl.q (v := Value.pointer none) (q_assign rfl) ?_
  refine Wl.q (v := Value.pointer none) (q_assign rfl) ?_
  refine Wl.q (v := Value.bool false) (q_assign rfl) ?_
  refine Wl.done ?_
  refine Wx.go ?_
  refine Wc.seq ?_
  refine Wc.region ?_
  refine Wl.e (e_call (F := F) (args := []) Tryz.call16 rfl (tnew_c W0)) (fun s _ => ?_)
  refine Wl.imp (L' := (storeI s []) :: F) (fun _ h => h) ?_
  refine Wl.q (v := Value.pointer (some ⟨s, 0, none⟩)) (q_assign rfl) ?_
  refine Wl.done ?_
  refine Wx.go ?_
  refine Wc.seq ?_
  refine Wc.region ?_
  refine Wl.e (e_call (F := (storeI s []) :: F) (args := []) Tryz.call17 rfl (rtnew_c W0)) (fun r _ => ?_)
  refine Wl.imp (L' := (refI r []) :: (storeI s []) :: F) (fun _ h => h) ?_
  refine Wl.q (v := Value.pointer (some ⟨r, 0, none⟩)) (q_assign rfl) ?_
  refine Wl.done ?_
  refine Wx.go ?_
  refine Wc.seq ?_
  refine Wc.seq ?_
  refine Wc.region ?_
  refine Wl.q (v := Value.int .i64 0) (q_assign rfl) ?_
  refine Wl.done ?_
  refine Wx.go ?_
  refine Wc.block ?_
  refine Wc.loop (X := Nat) (fun k E => E 7 = Value.int .i64 ((k : Nat) : Int) ∧ E 0 = vl ∧ E 5 = Value.pointer (some ⟨s, 0, none⟩) ∧ E 6 = Value.pointer (some ⟨r, 0, none⟩) ∧ k ≤ l.length) (fun k => (storeI s (build [] (l.take k))) :: (refI r (build [] (l.take k))) :: F) (fun k => l.length - k) 0 ?_ ?_ ?_
  · exact ⟨rfl, rfl, rfl, rfl, (by omega)⟩
  · exact fun w hs => (st_pull [1, 0] (hs))
  · rintro k E2 ⟨hE7_0, hE0_0, hE5_0, hE6_0, hk⟩
    refine Wc.seq ?_
    refine Wc.seq ?_
    refine Wc.region ?_
    refine Wl.q (v := Value.int .i64 ((k : Nat) : Int)) (q_move hE7_0) ?_
    refine Wl.q (v := vl) (q_move hE0_0) ?_
    refine Wl.q (v := Value.int .i64 ((l.length : Nat) : Int)) (q_len_is Tryz.underlying22 rfl hl.shape) ?_
    by_cases hlt : ((k : Nat) : Int) < ((l.length : Nat) : Int)
    ·
      obtain ⟨o, hget⟩ : ∃ o, l[k]? = some o := ⟨l[k]'(by omega), List.getElem?_eq_getElem (by omega)⟩
      have hok := hlo o (List.mem_of_getElem? hget)
      refine Wl.q (v := Value.bool true) (q_lss (r := true) rfl rfl (decide_eq_true hlt)) ?_
      refine Wl.done ?_
      refine Wx.go ?_
      refine Wc.yes rfl ?_
      refine Wc.skip ?_
      refine Wx.go ?_
      refine Wc.seq ?_
      refine Wc.block ?_
      refine Wc.seq ?_
      refine Wc.region ?_
      refine Wl.q (v := Value.pointer (some ⟨s, 0, none⟩)) (q_move hE5_0) ?_
      refine Wl.q (v := vl) (q_move hE0_0) ?_
      refine Wl.q (v := Value.int .i64 ((k : Nat) : Int)) (q_move hE7_0) ?_
      refine Wl.q (v := Value.pointer (some ⟨(rb vl), ro vl + k * 4, none⟩)) (q_idx_is (m := ro vl + k * 4) se_22 rfl (hl.some_ (by omega)) rfl (by omega) (by omega) rfl) ?_
      refine Wl.q (v := Value.agg #[Value.int .u8 ((o.kind : Nat) : Int), Value.int .i64 o.n, Value.int .i64 o.a, Value.int .i64 o.b]) (q_loadAgg (vs := [Value.int .u8 ((o.kind : Nat) : Int), Value.int .i64 o.n, Value.int .i64 o.a, Value.int .i64 o.b]) ag_89 rfl (fun j u hj => .old (rdT hl hget j hj))) ?_
      refine Wl.e (e_call (F := (refI r (build [] (l.take k))) :: F) (args := [Value.pointer (some ⟨s, 0, none⟩), Value.agg #[Value.int .u8 ((o.kind : Nat) : Int), Value.int .i64 o.n, Value.int .i64 o.a, Value.int .i64 o.b]]) Tryz.call18 rfl (make_c W0 s (build [] (l.take k)) o (build_wf hlo k) (by have := build_le (l := l) k; omega) hok)) (fun _ _ => ?_)
      refine Wl.imp (L' := (storeI s ((mk (build [] (l.take k)) o).1)) :: (refI r (build [] (l.take k))) :: F) (fun _ h => h) ?_
      refine Wl.q (v := Value.tuple #[Value.int .i64 (((mk (build [] (l.take k)) o).2.1 : Nat) : Int), Value.int .i64 ((mk (build [] (l.take k)) o).2.2)]) (q_move rfl) ?_
      refine Wl.q (v := Value.int .i64 (((mk (build [] (l.take k)) o).2.1 : Nat) : Int)) (q_extract (i := 0) rfl rfl) ?_
      refine Wl.q (v := Value.int .i64 ((mk (build [] (l.take k)) o).2.2)) (q_extract (i := 1) rfl rfl) ?_
      refine Wl.q (v := Value.int .i64 (((mk (build [] (l.take k)) o).2.1 : Nat) : Int)) (q_assign rfl) ?_
      refine Wl.q (v := Value.int .i64 ((mk (build [] (l.take k)) o).2.2)) (q_assign rfl) ?_
      refine Wl.done ?_
      refine Wx.go ?_
      refine Wc.seq ?_
      refine Wc.region ?_
      refine Wl.q (v := Value.pointer (some ⟨r, 0, none⟩)) (q_move hE6_0) ?_
      refine Wl.q (v := vl) (q_move hE0_0) ?_
      refine Wl.q (v := Value.int .i64 ((k : Nat) : Int)) (q_move hE7_0) ?_
      refine Wl.q (v := Value.pointer (some ⟨(rb vl), ro vl + k * 4, none⟩)) (q_idx_is (m := ro vl + k * 4) se_22 rfl (hl.some_ (by omega)) rfl (by omega) (by omega) rfl) ?_
      refine Wl.q (v := Value.agg #[Value.int .u8 ((o.kind : Nat) : Int), Value.int .i64 o.n, Value.int .i64 o.a, Value.int .i64 o.b]) (q_loadAgg (vs := [Value.int .u8 ((o.kind : Nat) : Int), Value.int .i64 o.n, Value.int .i64 o.a, Value.int .i64 o.b]) ag_89 rfl (fun j u hj => .old (rdT hl hget j hj))) ?_
      refine Wl.imp (L' := (refI r (build [] (l.take k))) :: (storeI s ((mk (build [] (l.take k)) o).1)) :: F) (fun _ h => st_pull [1] h) ?_
      refine Wl.e (e_call (F := (storeI s ((mk (build [] (l.take k)) o).1)) :: F) (args := [Value.pointer (some ⟨r, 0, none⟩), Value.agg #[Value.int .u8 ((o.kind : Nat) : Int), Value.int .i64 o.n, Value.int .i64 o.a, Value.int .i64 o.b]]) Tryz.call19 rfl (rmake_c W0 r (build [] (l.take k)) o (build_wf hlo k) (by have := build_le (l := l) k; omega) hok)) (fun _ _ => ?_)
      refine Wl.imp (L' := (refI r ((mk (build [] (l.take k)) o).1)) :: (storeI s ((mk (build [] (l.take k)) o).1)) :: F) (fun _ h => h) ?_
      refine Wl.q (v := Value.tuple #[Value.int .i64 (((mk (build [] (l.take k)) o).2.1 : Nat) : Int), Value.int .i64 ((mk (build [] (l.take k)) o).2.2)]) (q_move rfl) ?_
      refine Wl.q (v := Value.int .i64 (((mk (build [] (l.take k)) o).2.1 : Nat) : Int)) (q_extract (i := 0) rfl rfl) ?_
      refine Wl.q (v := Value.int .i64 ((mk (build [] (l.take k)) o).2.2)) (q_extract (i := 1) rfl rfl) ?_
      refine Wl.q (v := Value.int .i64 (((mk (build [] (l.take k)) o).2.1 : Nat) : Int)) (q_assign rfl) ?_
      refine Wl.q (v := Value.int .i64 ((mk (build [] (l.take k)) o).2.2)) (q_assign rfl) ?_
      refine Wl.done ?_
      refine Wx.go ?_
      refine Wc.seq ?_
      refine Wc.region ?_
      refine Wl.q (v := Value.int .i64 (((mk (build [] (l.take k)) o).2.1 : Nat) : Int)) (q_move rfl) ?_
      refine Wl.q (v := Value.int .i64 (((mk (build [] (l.take k)) o).2.1 : Nat) : Int)) (q_move rfl) ?_
      refine Wl.q (v := Value.bool false) (q_neq (r := true) rfl rfl (decide_eq_true (rfl))) ?_
      refine Wl.q (v := Value.bool false) (q_move rfl) ?_
      refine Wl.q (v := Value.int .i64 ((mk (build [] (l.take k)) o).2.2)) (q_move rfl) ?_
      refine Wl.q (v := Value.int .i64 ((mk (build [] (l.take k)) o).2.2)) (q_move rfl) ?_
      refine Wl.q (v := Value.bool false) (q_neq (r := true) rfl rfl (decide_eq_true (rfl))) ?_
      refine Wl.q (v := Value.bool false) (q_pick (t := false) rfl rfl) ?_
      refine Wl.done ?_
      refine Wx.go ?_
      refine Wc.no rfl ?_
      refine Wc.skip ?_
      refine Wx.blockEnd ?_
      refine Wx.go ?_
      refine Wc.region ?_
      refine Wl.q (v := Value.int .i64 ((k : Nat) : Int)) (q_move hE7_0) ?_
      refine Wl.q (v := Value.int .i64 ((k + 1 : Nat) : Int)) (q_add (c := ((k + 1 : Nat) : Int)) rfl rfl (by rw [wrap_i64] <;> omega)) ?_
      refine Wl.q (v := Value.int .i64 ((k + 1 : Nat) : Int)) (q_assign rfl) ?_
      refine Wl.done ?_
      refine Wx.at (k + 1) ⟨(by omega), rfl, hE0_0, hE5_0, hE6_0, (by omega)⟩ (fun w hs => by rw [build_take hget]; exact (st_pull [1, 0] (hs)))
    ·
      have hke : k = l.length := by omega
      refine Wl.q (v := Value.bool false) (q_lss (r := false) rfl rfl (decide_eq_false hlt)) ?_
      refine Wl.done ?_
      refine Wx.go ?_
      refine Wc.no rfl ?_
      refine Wc.exit ?_
      refine Wx.thenExit ?_
      refine Wx.thenExit ?_
      refine Wx.out ?_
      refine Wx.go ?_
      refine Wc.seq ?_
      refine Wc.region ?_
      refine Wl.q (v := Value.pointer (some ⟨s, 0, none⟩)) (q_move hE5_0) ?_
      refine Wl.q (v := Value.pointer (some ⟨r, 0, none⟩)) (q_move hE6_0) ?_
      refine Wl.q (v := Value.pointer (some ⟨s, 0, none⟩)) (q_move hE5_0) ?_
      refine Wl.q (v := Value.bool true) (q_neq_nil (r := false) rfl rfl Tryz.underlying24 rfl) ?_
      refine Wl.q (v := Value.pointer (some ⟨s, 0, none⟩)) (q_assign rfl) ?_
      refine Wl.q (v := Value.pointer (some ⟨r, 0, none⟩)) (q_assign rfl) ?_
      refine Wl.q (v := Value.bool true) (q_assign rfl) ?_
      refine Wl.done ?_
      refine Wx.go ?_
      refine Wc.ret ?_
      refine Wx.fin3 rfl (.inl rfl) (fun w hs => ?_)
      rw [hke, List.take_length] at hs
      exact ⟨(s, r), trivial, rfl, hs⟩

end Go.Proofs.YtjjghmkjdgogiaaGreatDoor
