/- What follows: contracts of the calls. -/
import Derived.Test.YtjjghmkjdgogiaaGreatDoorDdBk
namespace Go.Proofs.YtjjghmkjdgogiaaGreatDoor
open Go Go.SL Go.Dd Go.RowKit
set_option linter.unusedVariables false
set_option maxRecDepth 8000
theorem se_23 : sliceElem Tryz.prog 23 = some (3, 1) := by kernel_rfl
theorem sz_3 : sizeIs Tryz.prog 3 = some 1 := by kernel_rfl
theorem by_3 : (Tryz.prog.info? 3).map (·.bytes) = some 8 := by kernel_rfl
theorem sc_23 : scalar Tryz.prog 23 = true := by kernel_rfl
theorem sz_23 : sizeIs Tryz.prog 23 = some 1 := by kernel_rfl
theorem fo_81_2 : fieldOff Tryz.prog 81 2 = some 2 := by kernel_rfl
theorem sc_47 : scalar Tryz.prog 47 = true := by kernel_rfl
theorem fo_81_0 : fieldOff Tryz.prog 81 0 = some 0 := by kernel_rfl
theorem zo_126 : zeroOf Tryz.prog 126 = some (Value.agg #[Value.slice none 0 0, Value.int .i64 0]) := by kernel_rfl
theorem se_47 : sliceElem Tryz.prog 47 = some (126, 2) := by kernel_rfl
theorem sz_126 : sizeIs Tryz.prog 126 = some 2 := by kernel_rfl
theorem by_126 : (Tryz.prog.info? 126).map (·.bytes) = some 32 := by kernel_rfl
theorem sz_47 : sizeIs Tryz.prog 47 = some 1 := by kernel_rfl
theorem fo_126_0 : fieldOff Tryz.prog 126 0 = some 0 := by kernel_rfl
theorem fo_126_1 : fieldOff Tryz.prog 126 1 = some 1 := by kernel_rfl
theorem ag_126 : aggSize Tryz.prog 126 = some 2 := by kernel_rfl
theorem mark_0 (W0 : World)  :
  Con Tryz.prog W0 144 #[Value.int .i64 0] [] (X := Unit) (fun _ => True) (fun _ => .int .i64 (-1000)) (fun _ => []) := by
 refine Con.of (args := [Value.int .i64 0]) Tryz.func144 rfl Tryz.ntmps144 rfl (fun F => ?_)
 show Wc _ W0 _ _ _ _ _ (F)
 refine Wc.seq ?_
 refine Wc.region ?_
 refine Wl.q (v := Value.int .i64 0) (q_assign rfl) ?_
 refine Wl.done ?_
 refine Wx.go ?_
 refine Wc.seq ?_
 refine Wc.region ?_
 refine Wl.q (v := Value.int .i64 0) (q_move rfl) ?_
 refine Wl.q (v := Value.int .i64 (-1000)) (q_sub (c := (-1000)) rfl rfl (by decide)) ?_
 refine Wl.q (v := Value.int .i64 (-1000)) (q_assign rfl) ?_
 refine Wl.done ?_
 refine Wx.go ?_
 refine Wc.ret ?_
 refine Wx.fin1 rfl (.inl rfl) (fun w hs => ?_)
 exact ⟨(), trivial, rfl, hs⟩

theorem mark_1 (W0 : World)  :
  Con Tryz.prog W0 144 #[Value.int .i64 1] [] (X := Unit) (fun _ => True) (fun _ => .int .i64 (-1001)) (fun _ => []) := by
 refine Con.of (args := [Value.int .i64 1]) Tryz.func144 rfl Tryz.ntmps144 rfl (fun F => ?_)
 show Wc _ W0 _ _ _ _ _ (F)
 refine Wc.seq ?_
 refine Wc.region ?_
 refine Wl.q (v := Value.int .i64 0) (q_assign rfl) ?_
 refine Wl.done ?_
 refine Wx.go ?_
 refine Wc.seq ?_
 refine Wc.region ?_
 refine Wl.q (v := Value.int .i64 1) (q_move rfl) ?_
 refine Wl.q (v := Value.int .i64 (-1001)) (q_sub (c := (-1001)) rfl rfl (by decide)) ?_
 refine Wl.q (v := Value.int .i64 (-1001)) (q_assign rfl) ?_
 refine Wl.done ?_
 refine Wx.go ?_
 refine Wc.ret ?_
 refine Wx.fin1 rfl (.inl rfl) (fun w hs => ?_)
 exact ⟨(), trivial, rfl, hs⟩

theorem isn_0 (W0 : World)  :
  Con Tryz.prog W0 177 #[Value.int .i64 (-1000), Value.int .i64 0] [] (X := Unit) (fun _ => True) (fun _ => .bool true) (fun _ => []) := by
 refine Con.of (args := [Value.int .i64 (-1000), Value.int .i64 0]) Tryz.func177 rfl Tryz.ntmps177 rfl (fun F => ?_)
 show Wc _ W0 _ _ _ _ _ (F)
 refine Wc.seq ?_
 refine Wc.region ?_
 refine Wl.q (v := Value.bool false) (q_assign rfl) ?_
 refine Wl.done ?_
 refine Wx.go ?_
 refine Wc.seq ?_
 refine Wc.region ?_
 refine Wl.q (v := Value.int .i64 (-1000)) (q_move rfl) ?_
 refine Wl.q (v := Value.int .i64 0) (q_move rfl) ?_
 refine Wl.e (e_call (F := F) (args := [Value.int .i64 0]) Tryz.call144 rfl (mark_0 W0)) (fun _ _ => ?_)
 refine Wl.imp (L' := F) (fun _ h => h) ?_
 refine Wl.q (v := Value.bool true) (q_eql (r := true) rfl rfl (decide_eq_true (by decide))) ?_
 refine Wl.q (v := Value.bool true) (q_assign rfl) ?_
 refine Wl.done ?_
 refine Wx.go ?_
 refine Wc.ret ?_
 refine Wx.fin1 rfl (.inl rfl) (fun w hs => ?_)
 exact ⟨(), trivial, rfl, hs⟩

theorem isn_1 (W0 : World)  :
  Con Tryz.prog W0 177 #[Value.int .i64 (-1001), Value.int .i64 1] [] (X := Unit) (fun _ => True) (fun _ => .bool true) (fun _ => []) := by
 refine Con.of (args := [Value.int .i64 (-1001), Value.int .i64 1]) Tryz.func177 rfl Tryz.ntmps177 rfl (fun F => ?_)
 show Wc _ W0 _ _ _ _ _ (F)
 refine Wc.seq ?_
 refine Wc.region ?_
 refine Wl.q (v := Value.bool false) (q_assign rfl) ?_
 refine Wl.done ?_
 refine Wx.go ?_
 refine Wc.seq ?_
 refine Wc.region ?_
 refine Wl.q (v := Value.int .i64 (-1001)) (q_move rfl) ?_
 refine Wl.q (v := Value.int .i64 1) (q_move rfl) ?_
 refine Wl.e (e_call (F := F) (args := [Value.int .i64 1]) Tryz.call144 rfl (mark_1 W0)) (fun _ _ => ?_)
 refine Wl.imp (L' := F) (fun _ h => h) ?_
 refine Wl.q (v := Value.bool true) (q_eql (r := true) rfl rfl (decide_eq_true (by decide))) ?_
 refine Wl.q (v := Value.bool true) (q_assign rfl) ?_
 refine Wl.done ?_
 refine Wx.go ?_
 refine Wc.ret ?_
 refine Wx.fin1 rfl (.inl rfl) (fun w hs => ?_)
 exact ⟨(), trivial, rfl, hs⟩

theorem keep_w (W0 : World) (b n : Nat) (v : Value) (m : Nat) (xs : List Value) (qb qn qc : Nat) (hn : n ≤ 100) (hm : m ≤ 100) :
  Con Tryz.prog W0 31 #[Value.pointer (some ⟨b, 0, none⟩), Value.slice (some ⟨qb, 0, none⟩) qn qc] [pt b 81 (bkC n v), sl 126 2 v m xs] (X := Value) (fun _ => True) (fun _ => .tuple #[]) (fun y => [pt b 81 (bkC (n + 1) y), sl 126 2 y (m + 1) (xs ++ [.slice (some ⟨qb, 0, none⟩) qn qc, .int .i64 ((n : Nat) : Int)])]) := by
 refine Con.of (args := [Value.pointer (some ⟨b, 0, none⟩), Value.slice (some ⟨qb, 0, none⟩) qn qc]) Tryz.func31 rfl Tryz.ntmps31 rfl (fun F => ?_)
 show Wc _ W0 _ _ _ _ _ ((pt b 81 (bkC n v)) :: (sl 126 2 v m xs) :: F)
 refine Wc.seq ?_
 refine Wc.drawsS [15] ((pt b 81 (bkC n v)) :: []) (by kernel_rfl) ?_
 refine Wr.pure (v := Value.pointer (some ⟨b, 0, none⟩)) 0 rfl (by kernel_rfl) (.inr (fun _ h => st_take [0] h)) (.inl ⟨rfl, fun _ => q_move rfl⟩) ?_
 refine Wr.pure (v := Value.pointer (some ⟨b, 0, none⟩)) 1 rfl (by kernel_rfl) (.inr (fun _ h => st_take [0] h)) (.inl ⟨rfl, fun _ => q_move rfl⟩) ?_
 refine Wr.pure (v := Value.pointer (some ⟨b, 0, none⟩)) 2 rfl (by kernel_rfl) (.inr (fun _ h => st_take [0] h)) (.inl ⟨rfl, fun _ => q_nil_ptr rfl⟩) ?_
 refine Wr.pure (v := Value.pointer (some ⟨b, 2, none⟩)) 3 rfl (by kernel_rfl) (.inr (fun _ h => st_take [0] h)) (.inl ⟨rfl, fun _ => q_field (m := 2) fo_81_2 rfl rfl⟩) ?_
 refine Wr.take (v := v) 4 rfl (by kernel_rfl) (fun _ h => st_take [0] h) (.inl ⟨rfl, q_load sc_47 rfl (.cel (i := 0) rfl rfl)⟩) ?_
 refine Wr.pure (v := Value.slice (some ⟨qb, 0, none⟩) qn qc) 5 rfl (by kernel_rfl) (.inr (fun _ h => st_take [0] h)) (.inl ⟨rfl, fun _ => q_move rfl⟩) ?_
 refine Wr.pure (v := Value.pointer (some ⟨b, 0, none⟩)) 6 rfl (by kernel_rfl) (.inr (fun _ h => st_take [0] h)) (.inl ⟨rfl, fun _ => q_move rfl⟩) ?_
 refine Wr.pure (v := Value.pointer (some ⟨b, 0, none⟩)) 7 rfl (by kernel_rfl) (.inr (fun _ h => st_take [0] h)) (.inl ⟨rfl, fun _ => q_nil_ptr rfl⟩) ?_
 refine Wr.pure (v := Value.pointer (some ⟨b, 0, none⟩)) 8 rfl (by kernel_rfl) (.inr (fun _ h => st_take [0] h)) (.inl ⟨rfl, fun _ => q_field (m := 0) fo_81_0 rfl rfl⟩) ?_
 refine Wr.take (v := Value.int .i64 ((n : Nat) : Int)) 9 rfl (by kernel_rfl) (fun _ h => st_take [0] h) (.inl ⟨rfl, q_load sc_3 rfl (.cel (i := 0) rfl rfl)⟩) ?_
 refine Wr.pure (v := Value.agg #[Value.slice (some ⟨qb, 0, none⟩) qn qc, Value.int .i64 ((n : Nat) : Int)]) 10 rfl (by kernel_rfl) (.inr (fun _ h => st_take [0] h)) (.inl ⟨rfl, fun _ => q_build (pl := [(0, 1), (1, 1)]) Tryz.underlying126 zo_126 (by kernel_rfl) (by kernel_rfl)⟩) ?_
 refine Wr.e 11 (by kernel_rfl) rfl (e_buildSlice (cs := [Value.slice (some ⟨qb, 0, none⟩) qn qc, Value.int .i64 ((n : Nat) : Int)]) se_47 zo_126 (by decide) (by decide) (by kernel_rfl)) (.inr fun _ _ _ h => st_take [1] h) (fun b1 _ => ?_)
 refine Wr.imp (L' := (pt b1 126 [Value.slice (some ⟨qb, 0, none⟩) qn qc, Value.int .i64 ((n : Nat) : Int)]) :: (pt b 81 (bkC n v)) :: (sl 126 2 v m xs) :: F) (fun _ h => h) ?_
 refine Wr.more (S' := (pt b1 126 [Value.slice (some ⟨qb, 0, none⟩) qn qc, Value.int .i64 ((n : Nat) : Int)]) :: (pt b 81 (bkC n v)) :: []) (fun _ h => st_drop h) ?_
 refine Wr.e 12 (by kernel_rfl) rfl (e_append (i := 2) (k := 2) (m := 1) (off := 0) (news := [Value.slice (some ⟨qb, 0, none⟩) qn qc, Value.int .i64 ((n : Nat) : Int)]) Tryz.underlying47 sz_126 by_126 zo_126 rfl rfl rfl rfl rfl (Has.of_pt (i := 0) rfl rfl) rfl (by decide) (by simp only [maxLen]; omega) (by omega)) (.inr fun _ _ _ h => st_take [0, 0] h) (fun v2 _ => ?_)
 refine Wr.imp (L' := (pt b1 126 [Value.slice (some ⟨qb, 0, none⟩) qn qc, Value.int .i64 ((n : Nat) : Int)]) :: (pt b 81 (bkC n v)) :: (sl 126 2 v2 (m + 1) (xs ++ [Value.slice (some ⟨qb, 0, none⟩) qn qc, Value.int .i64 ((n : Nat) : Int)])) :: F) (fun _ h => h) ?_
 refine Wr.pure (v := Value.pointer (some ⟨b, 0, none⟩)) 13 rfl (by kernel_rfl) (.inr (fun _ h => st_take [0, 0] h)) (.inl ⟨rfl, fun _ => q_nil_ptr rfl⟩) ?_
 refine Wr.pure (v := Value.pointer (some ⟨b, 2, none⟩)) 14 rfl (by kernel_rfl) (.inr (fun _ h => st_take [0, 0] h)) (.inl ⟨rfl, fun _ => q_field (m := 2) fo_81_2 rfl rfl⟩) ?_
 refine Wr.e 15 (by kernel_rfl) rfl (e_store (i := 1) (v := v2) sz_47 rfl rfl (fun _ h => sl_one (i := 2) h rfl) rfl (by simp [bkC])) (.inl (by kernel_rfl)) (fun _ _ => ?_)
 refine Wr.imp (L' := (pt b1 126 [Value.slice (some ⟨qb, 0, none⟩) qn qc, Value.int .i64 ((n : Nat) : Int)]) :: (pt b 81 (bkC n v2)) :: (sl 126 2 v2 (m + 1) (xs ++ [Value.slice (some ⟨qb, 0, none⟩) qn qc, Value.int .i64 ((n : Nat) : Int)])) :: F) (fun _ h => h) ?_
 refine Wr.rebaseS [] ((pt b1 126 [Value.slice (some ⟨qb, 0, none⟩) qn qc, Value.int .i64 ((n : Nat) : Int)]) :: (pt b 81 (bkC n v2)) :: (sl 126 2 v2 (m + 1) (xs ++ [Value.slice (some ⟨qb, 0, none⟩) qn qc, Value.int .i64 ((n : Nat) : Int)])) :: []) (by kernel_rfl) ?_
 refine Wr.done (by kernel_rfl) ?_
 refine Wx.go ?_
 refine Wc.region ?_
 refine Wl.q (v := Value.pointer (some ⟨b, 0, none⟩)) (q_move rfl) ?_
 refine Wl.q (v := Value.pointer (some ⟨b, 0, none⟩)) (q_nil_ptr rfl) ?_
 refine Wl.q (v := Value.pointer (some ⟨b, 0, none⟩)) (q_field (m := 0) fo_81_0 rfl rfl) ?_
 refine Wl.q (v := Value.int .i64 ((n : Nat) : Int)) (q_load sc_3 rfl (.cel (i := 1) rfl rfl)) ?_
 refine Wl.q (v := Value.int .i64 ((n + 1 : Nat) : Int)) (q_add (c := ((n + 1 : Nat) : Int)) rfl rfl (by rw [wrap_i64] <;> omega)) ?_
 refine Wl.q (v := Value.pointer (some ⟨b, 0, none⟩)) (q_nil_ptr rfl) ?_
 refine Wl.q (v := Value.pointer (some ⟨b, 0, none⟩)) (q_field (m := 0) fo_81_0 rfl rfl) ?_
 refine Wl.e (e_store (i := 1) (v := Value.int .i64 ((n + 1 : Nat) : Int)) sz_3 rfl rfl (fun _ _ => rfl) rfl (by simp [bkC])) (fun _ _ => ?_)
 refine Wl.imp (L' := (pt b1 126 [Value.slice (some ⟨qb, 0, none⟩) qn qc, Value.int .i64 ((n : Nat) : Int)]) :: (pt b 81 (bkC (n + 1) v2)) :: (sl 126 2 v2 (m + 1) (xs ++ [Value.slice (some ⟨qb, 0, none⟩) qn qc, Value.int .i64 ((n : Nat) : Int)])) :: F) (fun _ h => h) ?_
 refine Wl.done ?_
 refine Wx.fin0 rfl (.inr rfl) (fun w hs => ?_)
 exact ⟨v2, trivial, rfl, (st_drop (st_pull [0] hs))⟩

theorem bnum_w (W0 : World) (b n : Nat) (v : Value) (m : Nat) (xs : List Value) (qb qn qc : Nat) (hn : n ≤ 100) (hm : m ≤ 100) :
  Con Tryz.prog W0 14 #[Value.pointer (some ⟨b, 0, none⟩), Value.slice (some ⟨qb, 0, none⟩) qn qc] [pt b 81 (bkC n v), sl 126 2 v m xs] (X := Value) (fun _ => True) (fun _ => .tuple #[]) (fun y => [pt b 81 (bkC (n + 1) y), sl 126 2 y (m + 1) (xs ++ [.slice (some ⟨qb, 0, none⟩) qn qc, .int .i64 ((n : Nat) : Int)])]) := by
 refine Con.of (args := [Value.pointer (some ⟨b, 0, none⟩), Value.slice (some ⟨qb, 0, none⟩) qn qc]) Tryz.func14 rfl Tryz.ntmps14 rfl (fun F => ?_)
 show Wc _ W0 _ _ _ _ _ ((pt b 81 (bkC n v)) :: (sl 126 2 v m xs) :: F)
 refine Wc.region ?_
 refine Wl.q (v := Value.pointer (some ⟨b, 0, none⟩)) (q_move rfl) ?_
 refine Wl.q (v := Value.slice (some ⟨qb, 0, none⟩) qn qc) (q_move rfl) ?_
 refine Wl.e (e_call (F := F) (args := [Value.pointer (some ⟨b, 0, none⟩), Value.slice (some ⟨qb, 0, none⟩) qn qc]) Tryz.call31 rfl (keep_w W0 b n v m xs qb qn qc (by omega) (by omega))) (fun bv _ => ?_)
 refine Wl.imp (L' := (pt b 81 (bkC (n + 1) bv)) :: (sl 126 2 bv (m + 1) (xs ++ [Value.slice (some ⟨qb, 0, none⟩) qn qc, .int .i64 ((n : Nat) : Int)])) :: F) (fun _ h => h) ?_
 refine Wl.done ?_
 refine Wx.fin0 rfl (.inr rfl) (fun w hs => ?_)
 exact ⟨bv, trivial, rfl, hs⟩

theorem fill_done {ys : List Int} {n : Nat} {m : Int} (hl : ys.length = n) (h : ∀ j, j < n → ys[j]? = some m) : ys = List.replicate n m := by
 subst hl
 refine List.ext_getElem? fun j => ?_
 by_cases hj : j < ys.length
 · rw [h j hj, List.getElem?_replicate, if_pos hj]
 · rw [List.getElem?_eq_none (by omega), List.getElem?_eq_none (by rw [List.length_replicate]; omega)]
theorem fill_next {ys : List Int} {n k : Nat} {m : Int} (hl : ys.length = n) (hk : k < n) (h : ∀ j, j < k → ys[j]? = some m) : ∀ j, j < k + 1 → (ys.set k m)[j]? = some m := fun j hj => by
 by_cases e : k = j
 · subst e; rw [List.getElem?_set_self (by omega)]
 · rw [List.getElem?_set_ne e]; exact h j (by omega)

theorem fill_n (W0 : World) (b nb nc : Nat) (rest : List Value) (pv qv : Value) (z1 z2 : List Int) (hz1 : z1.length ≤ 1000) (hz2 : z2.length ≤ 1000) :
    Con Tryz.prog W0 32 #[Value.pointer (some ⟨b, 0, none⟩)] [pt b 81 (bkC 2 (Value.slice (some ⟨nb, 0, none⟩) 2 nc)), pt nb 126 ([pv, Value.int .i64 0, qv, Value.int .i64 1] ++ rest), sl 3 1 pv z1.length ((z1 : List Int).map intV), sl 3 1 qv z2.length ((z2 : List Int).map intV)] (X := Unit) (fun _ => True) (fun _ => .tuple #[]) (fun _ => [pt b 81 (bkC 2 (Value.slice (some ⟨nb, 0, none⟩) 2 nc)), pt nb 126 ([pv, Value.int .i64 0, qv, Value.int .i64 1] ++ rest), sl 3 1 pv z1.length (((List.replicate z1.length ((-1000) : Int)) : List Int).map intV), sl 3 1 qv z2.length (((List.replicate z2.length ((-1001) : Int)) : List Int).map intV)]) := by
  refine Con.of (args := [Value.pointer (some ⟨b, 0, none⟩)]) Tryz.func32 rfl Tryz.ntmps32 rfl (fun F => ?_)
  show Wc _ W0 _ _ _ _ _ ((pt b 81 (bkC 2 (Value.slice (some ⟨nb, 0, none⟩) 2 nc))) :: (pt nb 126 ([pv, Value.int .i64 0, qv, Value.int .i64 1] ++ rest)) :: (sl 3 1 pv z1.length ((z1 : List Int).map intV)) :: (sl 3 1 qv z2.length ((z2 : List Int).map intV)) :: F)
  refine Wc.seq ?_
  refine Wc.region ?_
  refine Wl.q (v := Value.pointer (some ⟨b, 0, none⟩)) (q_move rfl) ?_
  refine Wl.q (v := Value.pointer (some ⟨b, 0, none⟩)) (q_nil_ptr rfl) ?_
  refine Wl.q (v := Value.pointer (some ⟨b, 2, none⟩)) (q_field (m := 2) fo_81_2 rfl rfl) ?_
  refine Wl.q (v := Value.slice (some ⟨nb, 0, none⟩) 2 nc) (q_load sc_47 rfl (.cel (i := 0) rfl rfl)) ?_
  refine Wl.q (v := Value.int .i64 2) (q_len_slice Tryz.underlying47 rfl) ?_
  refine Wl.q (v := Value.int .i64 0) (q_move rfl) ?_
  refine Wl.done ?_
  refine Wx.go ?_
  refine Wc.block ?_
  refine Wc.rounds 3 ?_
  refine Wn.round ?_
  refine Wc.seq ?_
  refine Wc.region ?_
  refine Wl.q (v := Value.bool true) (q_lss (r := true) rfl rfl (decide_eq_true (by decide))) ?_
  refine Wl.done ?_
  refine Wx.go ?_
  refine Wc.seq ?_
  refine Wc.yes rfl ?_
  refine Wc.skip ?_
  refine Wx.go ?_
  refine Wc.seq ?_
  refine Wc.block ?_
  refine Wc.seq ?_
  refine Wc.region ?_
  refine Wl.q (v := Value.int .i64 0) (q_move rfl) ?_
  refine Wl.q (v := Value.int .i64 0) (q_assign rfl) ?_
  refine Wl.done ?_
  refine Wx.go ?_
  refine Wc.seq ?_
  refine Wc.region ?_
  refine Wl.q (v := Value.pointer (some ⟨b, 0, none⟩)) (q_move rfl) ?_
  refine Wl.q (v := Value.pointer (some ⟨b, 0, none⟩)) (q_nil_ptr rfl) ?_
  refine Wl.q (v := Value.pointer (some ⟨b, 2, none⟩)) (q_field (m := 2) fo_81_2 rfl rfl) ?_
  refine Wl.q (v := Value.slice (some ⟨nb, 0, none⟩) 2 nc) (q_load sc_47 rfl (.cel (i := 0) rfl rfl)) ?_
  refine Wl.q (v := Value.int .i64 0) (q_move rfl) ?_
  refine Wl.q (v := Value.pointer (some ⟨nb, 0, none⟩)) (q_idx (m := 0) se_47 rfl rfl (by omega) (by omega) rfl) ?_
  refine Wl.q (v := Value.pointer (some ⟨nb, 0, none⟩)) (q_assign rfl) ?_
  refine Wl.done ?_
  refine Wx.go ?_
  refine Wc.seq ?_
  refine Wc.region ?_
  refine Wl.q (v := Value.pointer (some ⟨nb, 0, none⟩)) (q_move rfl) ?_
  refine Wl.q (v := Value.pointer (some ⟨nb, 0, none⟩)) (q_nil_ptr rfl) ?_
  refine Wl.q (v := Value.pointer (some ⟨nb, 0, none⟩)) (q_field (m := 0) fo_126_0 rfl rfl) ?_
  refine Wl.q (v := pv) (q_load sc_23 rfl (.cel (i := 1) rfl rfl)) ?_
  refine Wl.q (v := Value.int .i64 ((z1.length : Nat) : Int)) (q_len_sl (i := 2) Tryz.underlying23 rfl rfl) ?_
  refine Wl.q (v := Value.int .i64 0) (q_move rfl) ?_
  refine Wl.done ?_
  refine Wx.go ?_
  refine Wc.block ?_
  refine Wc.loop (X := Nat × List Int) (fun (k, ys) E => E 24 = Value.int .i64 ((k : Nat) : Int) ∧ E 0 = Value.pointer (some ⟨b, 0, none⟩) ∧ E 3 = Value.pointer (some ⟨nb, 0, none⟩) ∧ E 9 = Value.int .i64 2 ∧ E 10 = Value.int .i64 0 ∧ E 23 = Value.int .i64 ((z1.length : Nat) : Int) ∧ k ≤ z1.length ∧ ys.length = z1.length ∧ (∀ j, j < k → ys[j]? = some ((-1000) : Int))) (fun (k, ys) => (pt b 81 (bkC 2 (Value.slice (some ⟨nb, 0, none⟩) 2 nc))) :: (pt nb 126 ([pv, Value.int .i64 0, qv, Value.int .i64 1] ++ rest)) :: (sl 3 1 pv z1.length ((ys : List Int).map intV)) :: (sl 3 1 qv z2.length ((z2 : List Int).map intV)) :: F) (fun (k, ys) => z1.length - k) (0, z1) ?_ ?_ ?_
  · exact ⟨rfl, rfl, rfl, rfl, rfl, rfl, (Nat.zero_le _), rfl, (fun j hj => absurd hj (Nat.not_lt_zero _))⟩
  · exact fun w hs => hs
  · rintro ⟨k, ys⟩ E2 ⟨hE24_0, hE0_0, hE3_0, hE9_0, hE10_0, hE23_0, hk, hys, hall⟩
    dsimp only at *
    refine Wc.seq ?_
    refine Wc.region ?_
    by_cases hlt : ((k : Nat) : Int) < ((z1.length : Nat) : Int)
    ·
      refine Wl.sl (i := 2) (m := z1.length) rfl (by omega) (fun vb vc hv hcl => ?_)
      subst hv
      refine Wl.q (v := Value.bool true) (q_lss (r := true) hE24_0 hE23_0 (decide_eq_true hlt)) ?_
      refine Wl.done ?_
      refine Wx.go ?_
      refine Wc.seq ?_
      refine Wc.yes rfl ?_
      refine Wc.skip ?_
      refine Wx.go ?_
      refine Wc.seq ?_
      refine Wc.block ?_
      refine Wc.seq ?_
      refine Wc.region ?_
      refine Wl.q (v := Value.int .i64 ((k : Nat) : Int)) (q_move hE24_0) ?_
      refine Wl.q (v := Value.int .i64 ((k : Nat) : Int)) (q_assign rfl) ?_
      refine Wl.done ?_
      refine Wx.go ?_
      refine Wc.drawsS [11] ((pt b 81 (bkC 2 (Value.slice (some ⟨nb, 0, none⟩) 2 nc))) :: (pt nb 126 ([Value.slice (some ⟨vb, 0, none⟩) z1.length vc, Value.int .i64 0, qv, Value.int .i64 1] ++ rest)) :: (slp 3 1 vb vc (ys.map intV)) :: (sl 3 1 qv z2.length ((z2 : List Int).map intV)) :: []) (by kernel_rfl) ?_
      refine Wr.pure (v := Value.pointer (some ⟨nb, 0, none⟩)) 0 rfl (by kernel_rfl) (.inr (fun _ h => st_take [0, 0, 0, 0] h)) (.inl ⟨rfl, fun _ => q_move hE3_0⟩) ?_
      refine Wr.pure (v := Value.pointer (some ⟨nb, 0, none⟩)) 1 rfl (by kernel_rfl) (.inr (fun _ h => st_take [0, 0, 0, 0] h)) (.inl ⟨rfl, fun _ => q_nil_ptr rfl⟩) ?_
      refine Wr.pure (v := Value.pointer (some ⟨nb, 0, none⟩)) 2 rfl (by kernel_rfl) (.inr (fun _ h => st_take [0, 0, 0, 0] h)) (.inl ⟨rfl, fun _ => q_field (m := 0) fo_126_0 rfl rfl⟩) ?_
      refine Wr.take (v := Value.slice (some ⟨vb, 0, none⟩) z1.length vc) 3 rfl (by kernel_rfl) (fun _ h => st_take [0, 0, 0, 0] h) (.inl ⟨rfl, q_load sc_23 rfl (.cel (i := 1) rfl rfl)⟩) ?_
      refine Wr.pure (v := Value.int .i64 ((k : Nat) : Int)) 4 rfl (by kernel_rfl) (.inr (fun _ h => st_take [0, 0, 0, 0] h)) (.inl ⟨rfl, fun _ => q_move rfl⟩) ?_
      refine Wr.pure (v := Value.pointer (some ⟨nb, 0, none⟩)) 5 rfl (by kernel_rfl) (.inr (fun _ h => st_take [0, 0, 0, 0] h)) (.inl ⟨rfl, fun _ => q_move hE3_0⟩) ?_
      refine Wr.pure (v := Value.pointer (some ⟨nb, 0, none⟩)) 6 rfl (by kernel_rfl) (.inr (fun _ h => st_take [0, 0, 0, 0] h)) (.inl ⟨rfl, fun _ => q_nil_ptr rfl⟩) ?_
      refine Wr.pure (v := Value.pointer (some ⟨nb, 1, none⟩)) 7 rfl (by kernel_rfl) (.inr (fun _ h => st_take [0, 0, 0, 0] h)) (.inl ⟨rfl, fun _ => q_field (m := 1) fo_126_1 rfl rfl⟩) ?_
      refine Wr.take (v := Value.int .i64 0) 8 rfl (by kernel_rfl) (fun _ h => st_take [0, 0, 0, 0] h) (.inl ⟨rfl, q_load sc_3 rfl (.cel (i := 1) rfl rfl)⟩) ?_
      refine Wr.e 9 (by kernel_rfl) rfl (e_call (F := (pt b 81 (bkC 2 (Value.slice (some ⟨nb, 0, none⟩) 2 nc))) :: (pt nb 126 ([Value.slice (some ⟨vb, 0, none⟩) z1.length vc, Value.int .i64 0, qv, Value.int .i64 1] ++ rest)) :: (slp 3 1 vb vc (ys.map intV)) :: (sl 3 1 qv z2.length ((z2 : List Int).map intV)) :: F) (args := [Value.int .i64 0]) Tryz.call144 rfl (mark_0 W0)) (.inr fun _ _ _ h => st_take [0, 0, 0, 0] h) (fun _ _ => ?_)
      refine Wr.imp (L' := (pt b 81 (bkC 2 (Value.slice (some ⟨nb, 0, none⟩) 2 nc))) :: (pt nb 126 ([Value.slice (some ⟨vb, 0, none⟩) z1.length vc, Value.int .i64 0, qv, Value.int .i64 1] ++ rest)) :: (slp 3 1 vb vc (ys.map intV)) :: (sl 3 1 qv z2.length ((z2 : List Int).map intV)) :: F) (fun _ h => h) ?_
      refine Wr.pure (v := Value.pointer (some ⟨vb, k, none⟩)) 10 rfl (by kernel_rfl) (.inr (fun _ h => st_take [0, 0, 0, 0] h)) (.inl ⟨rfl, fun _ => q_idx (m := k) se_23 rfl rfl (by omega) (by omega) (by simp)⟩) ?_
      refine Wr.e 11 (by kernel_rfl) rfl (e_store_slp (i := 2) (vs := [Value.int .i64 (-1000)]) (c' := (ys.set k (-1000)).map intV) sz_3 rfl (congrArg Value.cells (rfl)) rfl rfl (by simp; omega) (splice_map (f := intV) (by omega))) (.inl (by kernel_rfl)) (fun _ _ => ?_)
      refine Wr.imp (L' := (pt b 81 (bkC 2 (Value.slice (some ⟨nb, 0, none⟩) 2 nc))) :: (pt nb 126 ([Value.slice (some ⟨vb, 0, none⟩) z1.length vc, Value.int .i64 0, qv, Value.int .i64 1] ++ rest)) :: (slp 3 1 vb vc ((ys.set k (-1000)).map intV)) :: (sl 3 1 qv z2.length ((z2 : List Int).map intV)) :: F) (fun _ h => h) ?_
      refine Wr.rebaseS [] ((pt b 81 (bkC 2 (Value.slice (some ⟨nb, 0, none⟩) 2 nc))) :: (pt nb 126 ([Value.slice (some ⟨vb, 0, none⟩) z1.length vc, Value.int .i64 0, qv, Value.int .i64 1] ++ rest)) :: (slp 3 1 vb vc ((ys.set k (-1000)).map intV)) :: (sl 3 1 qv z2.length ((z2 : List Int).map intV)) :: []) (by kernel_rfl) ?_
      refine Wr.done (by kernel_rfl) ?_
      refine Wx.blockEnd ?_
      refine Wx.go ?_
      refine Wc.region ?_
      refine Wl.q (v := Value.int .i64 ((k + 1 : Nat) : Int)) (q_add (c := ((k + 1 : Nat) : Int)) hE24_0 rfl (by rw [wrap_i64] <;> omega)) ?_
      refine Wl.q (v := Value.int .i64 ((k + 1 : Nat) : Int)) (q_move rfl) ?_
      refine Wl.done ?_
      refine Wx.at (k + 1, ys.set k (-1000)) ⟨(by simp only; omega), rfl, hE0_0, hE3_0, hE9_0, hE10_0, hE23_0, (by simp only; omega), (by simp only [List.length_set]; exact hys), (fill_next hys (by omega) hall)⟩ (fun w hs => (fun hs => st_pull [1, 1, 0, 0] (st_sl_mk (e := 3) (by simp [hys]) hcl hs)) (st_pull [2, 0, 0, 0] (hs)))
    ·
      obtain rfl : ys = (List.replicate z1.length ((-1000) : Int)) := fill_done hys (fun j hj => hall j (by omega))
      refine Wl.q (v := Value.bool false) (q_lss (r := false) hE24_0 hE23_0 (decide_eq_false hlt)) ?_
      refine Wl.done ?_
      refine Wx.go ?_
      refine Wc.seq ?_
      refine Wc.no rfl ?_
      refine Wc.exit ?_
      refine Wx.thenExit ?_
      refine Wx.thenExit ?_
      refine Wx.out ?_
      refine Wx.blockEnd ?_
      refine Wx.go ?_
      refine Wc.region ?_
      refine Wl.q (v := Value.int .i64 1) (q_add (c := 1) hE10_0 rfl (by decide)) ?_
      refine Wl.q (v := Value.int .i64 1) (q_move rfl) ?_
      refine Wl.done ?_
      refine Wx.again ?_
      refine Wn.round ?_
      refine Wc.seq ?_
      refine Wc.region ?_
      refine Wl.q (v := Value.bool true) (q_lss (r := true) rfl hE9_0 (decide_eq_true (by decide))) ?_
      refine Wl.done ?_
      refine Wx.go ?_
      refine Wc.seq ?_
      refine Wc.yes rfl ?_
      refine Wc.skip ?_
      refine Wx.go ?_
      refine Wc.seq ?_
      refine Wc.block ?_
      refine Wc.seq ?_
      refine Wc.region ?_
      refine Wl.q (v := Value.int .i64 1) (q_move rfl) ?_
      refine Wl.q (v := Value.int .i64 1) (q_assign rfl) ?_
      refine Wl.done ?_
      refine Wx.go ?_
      refine Wc.seq ?_
      refine Wc.region ?_
      refine Wl.q (v := Value.pointer (some ⟨b, 0, none⟩)) (q_move hE0_0) ?_
      refine Wl.q (v := Value.pointer (some ⟨b, 0, none⟩)) (q_nil_ptr rfl) ?_
      refine Wl.q (v := Value.pointer (some ⟨b, 2, none⟩)) (q_field (m := 2) fo_81_2 rfl rfl) ?_
      refine Wl.q (v := Value.slice (some ⟨nb, 0, none⟩) 2 nc) (q_load sc_47 rfl (.cel (i := 0) rfl rfl)) ?_
      refine Wl.q (v := Value.int .i64 1) (q_move rfl) ?_
      refine Wl.q (v := Value.pointer (some ⟨nb, 2, none⟩)) (q_idx (m := 2) se_47 rfl rfl (by omega) (by omega) rfl) ?_
      refine Wl.q (v := Value.pointer (some ⟨nb, 2, none⟩)) (q_assign rfl) ?_
      refine Wl.done ?_
      refine Wx.go ?_
      refine Wc.seq ?_
      refine Wc.region ?_
      refine Wl.q (v := Value.pointer (some ⟨nb, 2, none⟩)) (q_move rfl) ?_
      refine Wl.q (v := Value.pointer (some ⟨nb, 2, none⟩)) (q_nil_ptr rfl) ?_
      refine Wl.q (v := Value.pointer (some ⟨nb, 2, none⟩)) (q_field (m := 2) fo_126_0 rfl rfl) ?_
      refine Wl.q (v := qv) (q_load sc_23 rfl (.cel (i := 1) rfl rfl)) ?_
      refine Wl.q (v := Value.int .i64 ((z2.length : Nat) : Int)) (q_len_sl (i := 3) Tryz.underlying23 rfl rfl) ?_
      refine Wl.q (v := Value.int .i64 0) (q_move rfl) ?_
      refine Wl.done ?_
      refine Wx.go ?_
      refine Wc.block ?_
      refine Wc.loop (X := Nat × List Int) (fun (k, ys) E => E 24 = Value.int .i64 ((k : Nat) : Int) ∧ E 0 = Value.pointer (some ⟨b, 0, none⟩) ∧ E 3 = Value.pointer (some ⟨nb, 2, none⟩) ∧ E 9 = Value.int .i64 2 ∧ E 10 = Value.int .i64 1 ∧ E 23 = Value.int .i64 ((z2.length : Nat) : Int) ∧ k ≤ z2.length ∧ ys.length = z2.length ∧ (∀ j, j < k → ys[j]? = some ((-1001) : Int))) (fun (k, ys) => (pt b 81 (bkC 2 (Value.slice (some ⟨nb, 0, none⟩) 2 nc))) :: (pt nb 126 ([pv, Value.int .i64 0, qv, Value.int .i64 1] ++ rest)) :: (sl 3 1 pv z1.length (((List.replicate z1.length ((-1000) : Int)) : List Int).map intV)) :: (sl 3 1 qv z2.length ((ys : List Int).map intV)) :: F) (fun (k, ys) => z2.length - k) (0, z2) ?_ ?_ ?_
      · exact ⟨rfl, hE0_0, rfl, hE9_0, rfl, rfl, (Nat.zero_le _), rfl, (fun j hj => absurd hj (Nat.not_lt_zero _))⟩
      · exact fun w hs => hs
      · rintro ⟨k, ys⟩ E4 ⟨hE24_2, hE0_2, hE3_2, hE9_2, hE10_2, hE23_2, hk, hys, hall⟩
        dsimp only at *
        refine Wc.seq ?_
        refine Wc.region ?_
        by_cases hlt : ((k : Nat) : Int) < ((z2.length : Nat) : Int)
        ·
          refine Wl.sl (i := 3) (m := z2.length) rfl (by omega) (fun vb vc hv hcl => ?_)
          subst hv
          refine Wl.q (v := Value.bool true) (q_lss (r := true) hE24_2 hE23_2 (decide_eq_true hlt)) ?_
          refine Wl.done ?_
          refine Wx.go ?_
          refine Wc.seq ?_
          refine Wc.yes rfl ?_
          refine Wc.skip ?_
          refine Wx.go ?_
          refine Wc.seq ?_
          refine Wc.block ?_
          refine Wc.seq ?_
          refine Wc.region ?_
          refine Wl.q (v := Value.int .i64 ((k : Nat) : Int)) (q_move hE24_2) ?_
          refine Wl.q (v := Value.int .i64 ((k : Nat) : Int)) (q_assign rfl) ?_
          refine Wl.done ?_
          refine Wx.go ?_
          refine Wc.drawsS [11] ((pt b 81 (bkC 2 (Value.slice (some ⟨nb, 0, none⟩) 2 nc))) :: (pt nb 126 ([pv, Value.int .i64 0, Value.slice (some ⟨vb, 0, none⟩) z2.length vc, Value.int .i64 1] ++ rest)) :: (sl 3 1 pv z1.length (((List.replicate z1.length ((-1000) : Int)) : List Int).map intV)) :: (slp 3 1 vb vc (ys.map intV)) :: []) (by kernel_rfl) ?_
          refine Wr.pure (v := Value.pointer (some ⟨nb, 2, none⟩)) 0 rfl (by kernel_rfl) (.inr (fun _ h => st_take [0, 0, 0, 0] h)) (.inl ⟨rfl, fun _ => q_move hE3_2⟩) ?_
          refine Wr.pure (v := Value.pointer (some ⟨nb, 2, none⟩)) 1 rfl (by kernel_rfl) (.inr (fun _ h => st_take [0, 0, 0, 0] h)) (.inl ⟨rfl, fun _ => q_nil_ptr rfl⟩) ?_
          refine Wr.pure (v := Value.pointer (some ⟨nb, 2, none⟩)) 2 rfl (by kernel_rfl) (.inr (fun _ h => st_take [0, 0, 0, 0] h)) (.inl ⟨rfl, fun _ => q_field (m := 2) fo_126_0 rfl rfl⟩) ?_
          refine Wr.take (v := Value.slice (some ⟨vb, 0, none⟩) z2.length vc) 3 rfl (by kernel_rfl) (fun _ h => st_take [0, 0, 0, 0] h) (.inl ⟨rfl, q_load sc_23 rfl (.cel (i := 1) rfl rfl)⟩) ?_
          refine Wr.pure (v := Value.int .i64 ((k : Nat) : Int)) 4 rfl (by kernel_rfl) (.inr (fun _ h => st_take [0, 0, 0, 0] h)) (.inl ⟨rfl, fun _ => q_move rfl⟩) ?_
          refine Wr.pure (v := Value.pointer (some ⟨nb, 2, none⟩)) 5 rfl (by kernel_rfl) (.inr (fun _ h => st_take [0, 0, 0, 0] h)) (.inl ⟨rfl, fun _ => q_move hE3_2⟩) ?_
          refine Wr.pure (v := Value.pointer (some ⟨nb, 2, none⟩)) 6 rfl (by kernel_rfl) (.inr (fun _ h => st_take [0, 0, 0, 0] h)) (.inl ⟨rfl, fun _ => q_nil_ptr rfl⟩) ?_
          refine Wr.pure (v := Value.pointer (some ⟨nb, 3, none⟩)) 7 rfl (by kernel_rfl) (.inr (fun _ h => st_take [0, 0, 0, 0] h)) (.inl ⟨rfl, fun _ => q_field (m := 3) fo_126_1 rfl rfl⟩) ?_
          refine Wr.take (v := Value.int .i64 1) 8 rfl (by kernel_rfl) (fun _ h => st_take [0, 0, 0, 0] h) (.inl ⟨rfl, q_load sc_3 rfl (.cel (i := 1) rfl rfl)⟩) ?_
          refine Wr.e 9 (by kernel_rfl) rfl (e_call (F := (pt b 81 (bkC 2 (Value.slice (some ⟨nb, 0, none⟩) 2 nc))) :: (pt nb 126 ([pv, Value.int .i64 0, Value.slice (some ⟨vb, 0, none⟩) z2.length vc, Value.int .i64 1] ++ rest)) :: (sl 3 1 pv z1.length (((List.replicate z1.length ((-1000) : Int)) : List Int).map intV)) :: (slp 3 1 vb vc (ys.map intV)) :: F) (args := [Value.int .i64 1]) Tryz.call144 rfl (mark_1 W0)) (.inr fun _ _ _ h => st_take [0, 0, 0, 0] h) (fun _ _ => ?_)
          refine Wr.imp (L' := (pt b 81 (bkC 2 (Value.slice (some ⟨nb, 0, none⟩) 2 nc))) :: (pt nb 126 ([pv, Value.int .i64 0, Value.slice (some ⟨vb, 0, none⟩) z2.length vc, Value.int .i64 1] ++ rest)) :: (sl 3 1 pv z1.length (((List.replicate z1.length ((-1000) : Int)) : List Int).map intV)) :: (slp 3 1 vb vc (ys.map intV)) :: F) (fun _ h => h) ?_
          refine Wr.pure (v := Value.pointer (some ⟨vb, k, none⟩)) 10 rfl (by kernel_rfl) (.inr (fun _ h => st_take [0, 0, 0, 0] h)) (.inl ⟨rfl, fun _ => q_idx (m := k) se_23 rfl rfl (by omega) (by omega) (by simp)⟩) ?_
          refine Wr.e 11 (by kernel_rfl) rfl (e_store_slp (i := 3) (vs := [Value.int .i64 (-1001)]) (c' := (ys.set k (-1001)).map intV) sz_3 rfl (congrArg Value.cells (rfl)) rfl rfl (by simp; omega) (splice_map (f := intV) (by omega))) (.inl (by kernel_rfl)) (fun _ _ => ?_)
          refine Wr.imp (L' := (pt b 81 (bkC 2 (Value.slice (some ⟨nb, 0, none⟩) 2 nc))) :: (pt nb 126 ([pv, Value.int .i64 0, Value.slice (some ⟨vb, 0, none⟩) z2.length vc, Value.int .i64 1] ++ rest)) :: (sl 3 1 pv z1.length (((List.replicate z1.length ((-1000) : Int)) : List Int).map intV)) :: (slp 3 1 vb vc ((ys.set k (-1001)).map intV)) :: F) (fun _ h => h) ?_
          refine Wr.rebaseS [] ((pt b 81 (bkC 2 (Value.slice (some ⟨nb, 0, none⟩) 2 nc))) :: (pt nb 126 ([pv, Value.int .i64 0, Value.slice (some ⟨vb, 0, none⟩) z2.length vc, Value.int .i64 1] ++ rest)) :: (sl 3 1 pv z1.length (((List.replicate z1.length ((-1000) : Int)) : List Int).map intV)) :: (slp 3 1 vb vc ((ys.set k (-1001)).map intV)) :: []) (by kernel_rfl) ?_
          refine Wr.done (by kernel_rfl) ?_
          refine Wx.blockEnd ?_
          refine Wx.go ?_
          refine Wc.region ?_
          refine Wl.q (v := Value.int .i64 ((k + 1 : Nat) : Int)) (q_add (c := ((k + 1 : Nat) : Int)) hE24_2 rfl (by rw [wrap_i64] <;> omega)) ?_
          refine Wl.q (v := Value.int .i64 ((k + 1 : Nat) : Int)) (q_move rfl) ?_
          refine Wl.done ?_
          refine Wx.at (k + 1, ys.set k (-1001)) ⟨(by simp only; omega), rfl, hE0_2, hE3_2, hE9_2, hE10_2, hE23_2, (by simp only; omega), (by simp only [List.length_set]; exact hys), (fill_next hys (by omega) hall)⟩ (fun w hs => (fun hs => st_pull [1, 1, 1, 0] (st_sl_mk (e := 3) (by simp [hys]) hcl hs)) (st_pull [3, 0, 0, 0] (hs)))
        ·
          obtain rfl : ys = (List.replicate z2.length ((-1001) : Int)) := fill_done hys (fun j hj => hall j (by omega))
          refine Wl.q (v := Value.bool false) (q_lss (r := false) hE24_2 hE23_2 (decide_eq_false hlt)) ?_
          refine Wl.done ?_
          refine Wx.go ?_
          refine Wc.seq ?_
          refine Wc.no rfl ?_
          refine Wc.exit ?_
          refine Wx.thenExit ?_
          refine Wx.thenExit ?_
          refine Wx.out ?_
          refine Wx.blockEnd ?_
          refine Wx.go ?_
          refine Wc.region ?_
          refine Wl.q (v := Value.int .i64 2) (q_add (c := 2) hE10_2 rfl (by decide)) ?_
          refine Wl.q (v := Value.int .i64 2) (q_move rfl) ?_
          refine Wl.done ?_
          refine Wx.again ?_
          refine Wn.round ?_
          refine Wc.seq ?_
          refine Wc.region ?_
          refine Wl.q (v := Value.bool false) (q_lss (r := false) rfl hE9_2 (decide_eq_false (by decide))) ?_
          refine Wl.done ?_
          refine Wx.go ?_
          refine Wc.seq ?_
          refine Wc.no rfl ?_
          refine Wc.exit ?_
          refine Wx.thenExit ?_
          refine Wx.thenExit ?_
          refine Wx.out ?_
          refine Wx.fin0 rfl (.inr rfl) (fun w hs => ?_)
          exact ⟨(), trivial, rfl, hs⟩

theorem grown_V (n : Nat) (m : Int) : (List.replicate n m).map intV ++ [.int .i64 m] ++ [.int .i64 m] ++ [.int .i64 m] = (List.replicate (n + 1 + 1 + 1) m).map intV := by
 rw [List.replicate_succ', List.replicate_succ', List.replicate_succ', List.map_append, List.map_append, List.map_append]; rfl

theorem grow_n (W0 : World) (b nb nc : Nat) (rest : List Value) (pv qv : Value) (n1 n2 : Nat) (h1 : n1 ≤ 1000) (h2 : n2 ≤ 1000) :
  Con Tryz.prog W0 65 #[Value.pointer (some ⟨b, 0, none⟩)] [pt b 81 (bkC 2 (Value.slice (some ⟨nb, 0, none⟩) 2 nc)), pt nb 126 ([pv, Value.int .i64 0, qv, Value.int .i64 1] ++ rest), sl 3 1 pv n1 ((List.replicate n1 ((-1000) : Int)).map intV), sl 3 1 qv n2 ((List.replicate n2 ((-1001) : Int)).map intV)] (X := Value × Value) (fun _ => True) (fun _ => .tuple #[]) (fun y => [pt b 81 (bkC 2 (Value.slice (some ⟨nb, 0, none⟩) 2 nc)), pt nb 126 ([y.1, .int .i64 0, y.2, .int .i64 1] ++ rest), sl 3 1 y.1 (n1 + 1 + 1 + 1) ((List.replicate (n1 + 1 + 1 + 1) ((-1000) : Int)).map intV), sl 3 1 y.2 (n2 + 1 + 1 + 1) ((List.replicate (n2 + 1 + 1 + 1) ((-1001) : Int)).map intV)]) := by
 refine Con.of (args := [Value.pointer (some ⟨b, 0, none⟩)]) Tryz.func65 rfl Tryz.ntmps65 rfl (fun F => ?_)
 show Wc _ W0 _ _ _ _ _ ((pt b 81 (bkC 2 (Value.slice (some ⟨nb, 0, none⟩) 2 nc))) :: (pt nb 126 ([pv, Value.int .i64 0, qv, Value.int .i64 1] ++ rest)) :: (sl 3 1 pv n1 ((List.replicate n1 ((-1000) : Int)).map intV)) :: (sl 3 1 qv n2 ((List.replicate n2 ((-1001) : Int)).map intV)) :: F)
 refine Wc.seq ?_
 refine Wc.region ?_
 refine Wl.q (v := Value.pointer (some ⟨b, 0, none⟩)) (q_move rfl) ?_
 refine Wl.q (v := Value.pointer (some ⟨b, 0, none⟩)) (q_nil_ptr rfl) ?_
 refine Wl.q (v := Value.pointer (some ⟨b, 2, none⟩)) (q_field (m := 2) fo_81_2 rfl rfl) ?_
 refine Wl.q (v := Value.slice (some ⟨nb, 0, none⟩) 2 nc) (q_load sc_47 rfl (.cel (i := 0) rfl rfl)) ?_
 refine Wl.q (v := Value.int .i64 2) (q_len_slice Tryz.underlying47 rfl) ?_
 refine Wl.q (v := Value.int .i64 0) (q_move rfl) ?_
 refine Wl.done ?_
 refine Wx.go ?_
 refine Wc.block ?_
 refine Wc.rounds 3 ?_
 refine Wn.round ?_
 refine Wc.seq ?_
 refine Wc.region ?_
 refine Wl.q (v := Value.bool true) (q_lss (r := true) rfl rfl (decide_eq_true (by decide))) ?_
 refine Wl.done ?_
 refine Wx.go ?_
 refine Wc.seq ?_
 refine Wc.yes rfl ?_
 refine Wc.skip ?_
 refine Wx.go ?_
 refine Wc.seq ?_
 refine Wc.block ?_
 refine Wc.seq ?_
 refine Wc.region ?_
 refine Wl.q (v := Value.int .i64 0) (q_move rfl) ?_
 refine Wl.q (v := Value.int .i64 0) (q_assign rfl) ?_
 refine Wl.done ?_
 refine Wx.go ?_
 refine Wc.seq ?_
 refine Wc.region ?_
 refine Wl.q (v := Value.pointer (some ⟨b, 0, none⟩)) (q_move rfl) ?_
 refine Wl.q (v := Value.pointer (some ⟨b, 0, none⟩)) (q_nil_ptr rfl) ?_
 refine Wl.q (v := Value.pointer (some ⟨b, 2, none⟩)) (q_field (m := 2) fo_81_2 rfl rfl) ?_
 refine Wl.q (v := Value.slice (some ⟨nb, 0, none⟩) 2 nc) (q_load sc_47 rfl (.cel (i := 0) rfl rfl)) ?_
 refine Wl.q (v := Value.int .i64 0) (q_move rfl) ?_
 refine Wl.q (v := Value.pointer (some ⟨nb, 0, none⟩)) (q_idx (m := 0) se_47 rfl rfl (by omega) (by omega) rfl) ?_
 refine Wl.q (v := Value.pointer (some ⟨nb, 0, none⟩)) (q_assign rfl) ?_
 refine Wl.done ?_
 refine Wx.go ?_
 refine Wc.seq ?_
 refine Wc.region ?_
 refine Wl.q (v := Value.int .i64 0) (q_assign rfl) ?_
 refine Wl.done ?_
 refine Wx.go ?_
 refine Wc.block ?_
 refine Wc.rounds 4 ?_
 refine Wn.round ?_
 refine Wc.seq ?_
 refine Wc.seq ?_
 refine Wc.region ?_
 refine Wl.q (v := Value.int .i64 0) (q_move rfl) ?_
 refine Wl.q (v := Value.bool true) (q_lss (r := true) rfl rfl (decide_eq_true (by decide))) ?_
 refine Wl.done ?_
 refine Wx.go ?_
 refine Wc.yes rfl ?_
 refine Wc.skip ?_
 refine Wx.go ?_
 refine Wc.seq ?_
 refine Wc.block ?_
 refine Wc.drawsS [14] ((pt b 81 (bkC 2 (Value.slice (some ⟨nb, 0, none⟩) 2 nc))) :: (pt nb 126 ([pv, Value.int .i64 0, qv, Value.int .i64 1] ++ rest)) :: []) (by kernel_rfl) ?_
 refine Wr.pure (v := Value.pointer (some ⟨nb, 0, none⟩)) 0 rfl (by kernel_rfl) (.inr (fun _ h => st_take [0, 0] h)) (.inl ⟨rfl, fun _ => q_move rfl⟩) ?_
 refine Wr.pure (v := Value.pointer (some ⟨nb, 0, none⟩)) 1 rfl (by kernel_rfl) (.inr (fun _ h => st_take [0, 0] h)) (.inl ⟨rfl, fun _ => q_move rfl⟩) ?_
 refine Wr.pure (v := Value.pointer (some ⟨nb, 0, none⟩)) 2 rfl (by kernel_rfl) (.inr (fun _ h => st_take [0, 0] h)) (.inl ⟨rfl, fun _ => q_nil_ptr rfl⟩) ?_
 refine Wr.pure (v := Value.pointer (some ⟨nb, 0, none⟩)) 3 rfl (by kernel_rfl) (.inr (fun _ h => st_take [0, 0] h)) (.inl ⟨rfl, fun _ => q_field (m := 0) fo_126_0 rfl rfl⟩) ?_
 refine Wr.take (v := pv) 4 rfl (by kernel_rfl) (fun _ h => st_take [0, 0] h) (.inl ⟨rfl, q_load sc_23 rfl (.cel (i := 1) rfl rfl)⟩) ?_
 refine Wr.pure (v := Value.pointer (some ⟨nb, 0, none⟩)) 5 rfl (by kernel_rfl) (.inr (fun _ h => st_take [0, 0] h)) (.inl ⟨rfl, fun _ => q_move rfl⟩) ?_
 refine Wr.pure (v := Value.pointer (some ⟨nb, 0, none⟩)) 6 rfl (by kernel_rfl) (.inr (fun _ h => st_take [0, 0] h)) (.inl ⟨rfl, fun _ => q_nil_ptr rfl⟩) ?_
 refine Wr.pure (v := Value.pointer (some ⟨nb, 1, none⟩)) 7 rfl (by kernel_rfl) (.inr (fun _ h => st_take [0, 0] h)) (.inl ⟨rfl, fun _ => q_field (m := 1) fo_126_1 rfl rfl⟩) ?_
 refine Wr.take (v := Value.int .i64 0) 8 rfl (by kernel_rfl) (fun _ h => st_take [0, 0] h) (.inl ⟨rfl, q_load sc_3 rfl (.cel (i := 1) rfl rfl)⟩) ?_
 refine Wr.e 9 (by kernel_rfl) rfl (e_call (F := (pt b 81 (bkC 2 (Value.slice (some ⟨nb, 0, none⟩) 2 nc))) :: (pt nb 126 ([pv, Value.int .i64 0, qv, Value.int .i64 1] ++ rest)) :: (sl 3 1 pv n1 ((List.replicate n1 ((-1000) : Int)).map intV)) :: (sl 3 1 qv n2 ((List.replicate n2 ((-1001) : Int)).map intV)) :: F) (args := [Value.int .i64 0]) Tryz.call144 rfl (mark_0 W0)) (.inr fun _ _ _ h => st_take [0, 0] h) (fun _ _ => ?_)
 refine Wr.imp (L' := (pt b 81 (bkC 2 (Value.slice (some ⟨nb, 0, none⟩) 2 nc))) :: (pt nb 126 ([pv, Value.int .i64 0, qv, Value.int .i64 1] ++ rest)) :: (sl 3 1 pv n1 ((List.replicate n1 ((-1000) : Int)).map intV)) :: (sl 3 1 qv n2 ((List.replicate n2 ((-1001) : Int)).map intV)) :: F) (fun _ h => h) ?_
 refine Wr.e 10 (by kernel_rfl) rfl (e_buildSlice (cs := [Value.int .i64 (-1000)]) se_23 zo_3 (by decide) (by decide) (by kernel_rfl)) (.inr fun _ _ _ h => st_take [1, 1] h) (fun b1 _ => ?_)
 refine Wr.imp (L' := (pt b1 3 [Value.int .i64 (-1000)]) :: (pt b 81 (bkC 2 (Value.slice (some ⟨nb, 0, none⟩) 2 nc))) :: (pt nb 126 ([pv, Value.int .i64 0, qv, Value.int .i64 1] ++ rest)) :: (sl 3 1 pv n1 ((List.replicate n1 ((-1000) : Int)).map intV)) :: (sl 3 1 qv n2 ((List.replicate n2 ((-1001) : Int)).map intV)) :: F) (fun _ h => h) ?_
 refine Wr.more (S' := (pt b1 3 [Value.int .i64 (-1000)]) :: (pt b 81 (bkC 2 (Value.slice (some ⟨nb, 0, none⟩) 2 nc))) :: (pt nb 126 ([pv, Value.int .i64 0, qv, Value.int .i64 1] ++ rest)) :: []) (fun _ h => st_drop h) ?_
 refine Wr.e 11 (by kernel_rfl) rfl (e_append (i := 3) (k := 1) (m := 1) (off := 0) (news := [Value.int .i64 (-1000)]) Tryz.underlying23 sz_3 by_3 zo_3 rfl rfl rfl rfl rfl (Has.of_pt (i := 0) rfl rfl) rfl (by decide) (by simp only [maxLen]; omega) (by omega)) (.inr fun _ _ _ h => st_take [0, 0, 0] h) (fun v2 _ => ?_)
 refine Wr.imp (L' := (pt b1 3 [Value.int .i64 (-1000)]) :: (pt b 81 (bkC 2 (Value.slice (some ⟨nb, 0, none⟩) 2 nc))) :: (pt nb 126 ([pv, Value.int .i64 0, qv, Value.int .i64 1] ++ rest)) :: (sl 3 1 v2 (n1 + 1) (((List.replicate n1 ((-1000) : Int)).map intV) ++ [Value.int .i64 (-1000)])) :: (sl 3 1 qv n2 ((List.replicate n2 ((-1001) : Int)).map intV)) :: F) (fun _ h => h) ?_
 refine Wr.pure (v := Value.pointer (some ⟨nb, 0, none⟩)) 12 rfl (by kernel_rfl) (.inr (fun _ h => st_take [0, 0, 0] h)) (.inl ⟨rfl, fun _ => q_nil_ptr rfl⟩) ?_
 refine Wr.pure (v := Value.pointer (some ⟨nb, 0, none⟩)) 13 rfl (by kernel_rfl) (.inr (fun _ h => st_take [0, 0, 0] h)) (.inl ⟨rfl, fun _ => q_field (m := 0) fo_126_0 rfl rfl⟩) ?_
 refine Wr.e 14 (by kernel_rfl) rfl (e_store (i := 2) (v := v2) sz_23 rfl rfl (fun _ h => sl_one (i := 3) h rfl) rfl (by simp)) (.inl (by kernel_rfl)) (fun _ _ => ?_)
 refine Wr.imp (L' := (pt b1 3 [Value.int .i64 (-1000)]) :: (pt b 81 (bkC 2 (Value.slice (some ⟨nb, 0, none⟩) 2 nc))) :: (pt nb 126 ([v2, Value.int .i64 0, qv, Value.int .i64 1] ++ rest)) :: (sl 3 1 v2 (n1 + 1) (((List.replicate n1 ((-1000) : Int)).map intV) ++ [Value.int .i64 (-1000)])) :: (sl 3 1 qv n2 ((List.replicate n2 ((-1001) : Int)).map intV)) :: F) (fun _ h => h) ?_
 refine Wr.rebaseS [] ((pt b1 3 [Value.int .i64 (-1000)]) :: (pt b 81 (bkC 2 (Value.slice (some ⟨nb, 0, none⟩) 2 nc))) :: (pt nb 126 ([v2, Value.int .i64 0, qv, Value.int .i64 1] ++ rest)) :: (sl 3 1 v2 (n1 + 1) (((List.replicate n1 ((-1000) : Int)).map intV) ++ [Value.int .i64 (-1000)])) :: (sl 3 1 qv n2 ((List.replicate n2 ((-1001) : Int)).map intV)) :: []) (by kernel_rfl) ?_
 refine Wr.done (by kernel_rfl) ?_
 refine Wx.blockEnd ?_
 refine Wx.go ?_
 refine Wc.region ?_
 refine Wl.q (v := Value.int .i64 0) (q_move rfl) ?_
 refine Wl.q (v := Value.int .i64 1) (q_add (c := 1) rfl rfl (by decide)) ?_
 refine Wl.q (v := Value.int .i64 1) (q_assign rfl) ?_
 refine Wl.done ?_
 refine Wx.again ?_
 refine Wn.round ?_
 refine Wc.seq ?_
 refine Wc.seq ?_
 refine Wc.region ?_
 refine Wl.q (v := Value.int .i64 1) (q_move rfl) ?_
 refine Wl.q (v := Value.bool true) (q_lss (r := true) rfl rfl (decide_eq_true (by decide))) ?_
 refine Wl.done ?_
 refine Wx.go ?_
 refine Wc.yes rfl ?_
 refine Wc.skip ?_
 refine Wx.go ?_
 refine Wc.seq ?_
 refine Wc.block ?_
 refine Wc.drawsS [14] ((pt b1 3 [Value.int .i64 (-1000)]) :: (pt b 81 (bkC 2 (Value.slice (some ⟨nb, 0, none⟩) 2 nc))) :: (pt nb 126 ([v2, Value.int .i64 0, qv, Value.int .i64 1] ++ rest)) :: []) (by kernel_rfl) ?_
 refine Wr.pure (v := Value.pointer (some ⟨nb, 0, none⟩)) 0 rfl (by kernel_rfl) (.inr (fun _ h => st_take [0, 0, 0] h)) (.inl ⟨rfl, fun _ => q_move rfl⟩) ?_
 refine Wr.pure (v := Value.pointer (some ⟨nb, 0, none⟩)) 1 rfl (by kernel_rfl) (.inr (fun _ h => st_take [0, 0, 0] h)) (.inl ⟨rfl, fun _ => q_move rfl⟩) ?_
 refine Wr.pure (v := Value.pointer (some ⟨nb, 0, none⟩)) 2 rfl (by kernel_rfl) (.inr (fun _ h => st_take [0, 0, 0] h)) (.inl ⟨rfl, fun _ => q_nil_ptr rfl⟩) ?_
 refine Wr.pure (v := Value.pointer (some ⟨nb, 0, none⟩)) 3 rfl (by kernel_rfl) (.inr (fun _ h => st_take [0, 0, 0] h)) (.inl ⟨rfl, fun _ => q_field (m := 0) fo_126_0 rfl rfl⟩) ?_
 refine Wr.take (v := v2) 4 rfl (by kernel_rfl) (fun _ h => st_take [0, 0, 0] h) (.inl ⟨rfl, q_load sc_23 rfl (.cel (i := 2) rfl rfl)⟩) ?_
 refine Wr.pure (v := Value.pointer (some ⟨nb, 0, none⟩)) 5 rfl (by kernel_rfl) (.inr (fun _ h => st_take [0, 0, 0] h)) (.inl ⟨rfl, fun _ => q_move rfl⟩) ?_
 refine Wr.pure (v := Value.pointer (some ⟨nb, 0, none⟩)) 6 rfl (by kernel_rfl) (.inr (fun _ h => st_take [0, 0, 0] h)) (.inl ⟨rfl, fun _ => q_nil_ptr rfl⟩) ?_
 refine Wr.pure (v := Value.pointer (some ⟨nb, 1, none⟩)) 7 rfl (by kernel_rfl) (.inr (fun _ h => st_take [0, 0, 0] h)) (.inl ⟨rfl, fun _ => q_field (m := 1) fo_126_1 rfl rfl⟩) ?_
 refine Wr.take (v := Value.int .i64 0) 8 rfl (by kernel_rfl) (fun _ h => st_take [0, 0, 0] h) (.inl ⟨rfl, q_load sc_3 rfl (.cel (i := 2) rfl rfl)⟩) ?_
 refine Wr.e 9 (by kernel_rfl) rfl (e_call (F := (pt b1 3 [Value.int .i64 (-1000)]) :: (pt b 81 (bkC 2 (Value.slice (some ⟨nb, 0, none⟩) 2 nc))) :: (pt nb 126 ([v2, Value.int .i64 0, qv, Value.int .i64 1] ++ rest)) :: (sl 3 1 v2 (n1 + 1) (((List.replicate n1 ((-1000) : Int)).map intV) ++ [Value.int .i64 (-1000)])) :: (sl 3 1 qv n2 ((List.replicate n2 ((-1001) : Int)).map intV)) :: F) (args := [Value.int .i64 0]) Tryz.call144 rfl (mark_0 W0)) (.inr fun _ _ _ h => st_take [0, 0, 0] h) (fun _ _ => ?_)
 refine Wr.imp (L' := (pt b1 3 [Value.int .i64 (-1000)]) :: (pt b 81 (bkC 2 (Value.slice (some ⟨nb, 0, none⟩) 2 nc))) :: (pt nb 126 ([v2, Value.int .i64 0, qv, Value.int .i64 1] ++ rest)) :: (sl 3 1 v2 (n1 + 1) (((List.replicate n1 ((-1000) : Int)).map intV) ++ [Value.int .i64 (-1000)])) :: (sl 3 1 qv n2 ((List.replicate n2 ((-1001) : Int)).map intV)) :: F) (fun _ h => h) ?_
 refine Wr.e 10 (by kernel_rfl) rfl (e_buildSlice (cs := [Value.int .i64 (-1000)]) se_23 zo_3 (by decide) (by decide) (by kernel_rfl)) (.inr fun _ _ _ h => st_take [1, 1, 1] h) (fun b3 _ => ?_)
 refine Wr.imp (L' := (pt b3 3 [Value.int .i64 (-1000)]) :: (pt b1 3 [Value.int .i64 (-1000)]) :: (pt b 81 (bkC 2 (Value.slice (some ⟨nb, 0, none⟩) 2 nc))) :: (pt nb 126 ([v2, Value.int .i64 0, qv, Value.int .i64 1] ++ rest)) :: (sl 3 1 v2 (n1 + 1) (((List.replicate n1 ((-1000) : Int)).map intV) ++ [Value.int .i64 (-1000)])) :: (sl 3 1 qv n2 ((List.replicate n2 ((-1001) : Int)).map intV)) :: F) (fun _ h => h) ?_
 refine Wr.more (S' := (pt b3 3 [Value.int .i64 (-1000)]) :: (pt b1 3 [Value.int .i64 (-1000)]) :: (pt b 81 (bkC 2 (Value.slice (some ⟨nb, 0, none⟩) 2 nc))) :: (pt nb 126 ([v2, Value.int .i64 0, qv, Value.int .i64 1] ++ rest)) :: []) (fun _ h => st_drop h) ?_
 refine Wr.e 11 (by kernel_rfl) rfl (e_append (i := 4) (k := 1) (m := 1) (off := 0) (news := [Value.int .i64 (-1000)]) Tryz.underlying23 sz_3 by_3 zo_3 rfl rfl rfl rfl rfl (Has.of_pt (i := 0) rfl rfl) rfl (by decide) (by simp only [maxLen]; omega) (by omega)) (.inr fun _ _ _ h => st_take [0, 0, 0, 0] h) (fun v4 _ => ?_)
 refine Wr.imp (L' := (pt b3 3 [Value.int .i64 (-1000)]) :: (pt b1 3 [Value.int .i64 (-1000)]) :: (pt b 81 (bkC 2 (Value.slice (some ⟨nb, 0, none⟩) 2 nc))) :: (pt nb 126 ([v2, Value.int .i64 0, qv, Value.int .i64 1] ++ rest)) :: (sl 3 1 v4 ((n1 + 1) + 1) ((((List.replicate n1 ((-1000) : Int)).map intV) ++ [Value.int .i64 (-1000)]) ++ [Value.int .i64 (-1000)])) :: (sl 3 1 qv n2 ((List.replicate n2 ((-1001) : Int)).map intV)) :: F) (fun _ h => h) ?_
 refine Wr.pure (v := Value.pointer (some ⟨nb, 0, none⟩)) 12 rfl (by kernel_rfl) (.inr (fun _ h => st_take [0, 0, 0, 0] h)) (.inl ⟨rfl, fun _ => q_nil_ptr rfl⟩) ?_
 refine Wr.pure (v := Value.pointer (some ⟨nb, 0, none⟩)) 13 rfl (by kernel_rfl) (.inr (fun _ h => st_take [0, 0, 0, 0] h)) (.inl ⟨rfl, fun _ => q_field (m := 0) fo_126_0 rfl rfl⟩) ?_
 refine Wr.e 14 (by kernel_rfl) rfl (e_store (i := 3) (v := v4) sz_23 rfl rfl (fun _ h => sl_one (i := 4) h rfl) rfl (by simp)) (.inl (by kernel_rfl)) (fun _ _ => ?_)
 refine Wr.imp (L' := (pt b3 3 [Value.int .i64 (-1000)]) :: (pt b1 3 [Value.int .i64 (-1000)]) :: (pt b 81 (bkC 2 (Value.slice (some ⟨nb, 0, none⟩) 2 nc))) :: (pt nb 126 ([v4, Value.int .i64 0, qv, Value.int .i64 1] ++ rest)) :: (sl 3 1 v4 ((n1 + 1) + 1) ((((List.replicate n1 ((-1000) : Int)).map intV) ++ [Value.int .i64 (-1000)]) ++ [Value.int .i64 (-1000)])) :: (sl 3 1 qv n2 ((List.replicate n2 ((-1001) : Int)).map intV)) :: F) (fun _ h => h) ?_
 refine Wr.rebaseS [] ((pt b3 3 [Value.int .i64 (-1000)]) :: (pt b1 3 [Value.int .i64 (-1000)]) :: (pt b 81 (bkC 2 (Value.slice (some ⟨nb, 0, none⟩) 2 nc))) :: (pt nb 126 ([v4, Value.int .i64 0, qv, Value.int .i64 1] ++ rest)) :: (sl 3 1 v4 ((n1 + 1) + 1) ((((List.replicate n1 ((-1000) : Int)).map intV) ++ [Value.int .i64 (-1000)]) ++ [Value.int .i64 (-1000)])) :: (sl 3 1 qv n2 ((List.replicate n2 ((-1001) : Int)).map intV)) :: []) (by kernel_rfl) ?_
 refine Wr.done (by kernel_rfl) ?_
 refine Wx.blockEnd ?_
 refine Wx.go ?_
 refine Wc.region ?_
 refine Wl.q (v := Value.int .i64 1) (q_move rfl) ?_
 refine Wl.q (v := Value.int .i64 2) (q_add (c := 2) rfl rfl (by decide)) ?_
 refine Wl.q (v := Value.int .i64 2) (q_assign rfl) ?_
 refine Wl.done ?_
 refine Wx.again ?_
 refine Wn.round ?_
 refine Wc.seq ?_
 refine Wc.seq ?_
 refine Wc.region ?_
 refine Wl.q (v := Value.int .i64 2) (q_move rfl) ?_
 refine Wl.q (v := Value.bool true) (q_lss (r := true) rfl rfl (decide_eq_true (by decide))) ?_
 refine Wl.done ?_
 refine Wx.go ?_
 refine Wc.yes rfl ?_
 refine Wc.skip ?_
 refine Wx.go ?_
 refine Wc.seq ?_
 refine Wc.block ?_
 refine Wc.drawsS [14] ((pt b3 3 [Value.int .i64 (-1000)]) :: (pt b1 3 [Value.int .i64 (-1000)]) :: (pt b 81 (bkC 2 (Value.slice (some ⟨nb, 0, none⟩) 2 nc))) :: (pt nb 126 ([v4, Value.int .i64 0, qv, Value.int .i64 1] ++ rest)) :: []) (by kernel_rfl) ?_
 refine Wr.pure (v := Value.pointer (some ⟨nb, 0, none⟩)) 0 rfl (by kernel_rfl) (.inr (fun _ h => st_take [0, 0, 0, 0] h)) (.inl ⟨rfl, fun _ => q_move rfl⟩) ?_
 refine Wr.pure (v := Value.pointer (some ⟨nb, 0, none⟩)) 1 rfl (by kernel_rfl) (.inr (fun _ h => st_take [0, 0, 0, 0] h)) (.inl ⟨rfl, fun _ => q_move rfl⟩) ?_
 refine Wr.pure (v := Value.pointer (some ⟨nb, 0, none⟩)) 2 rfl (by kernel_rfl) (.inr (fun _ h => st_take [0, 0, 0, 0] h)) (.inl ⟨rfl, fun _ => q_nil_ptr rfl⟩) ?_
 refine Wr.pure (v := Value.pointer (some ⟨nb, 0, none⟩)) 3 rfl (by kernel_rfl) (.inr (fun _ h => st_take [0, 0, 0, 0] h)) (.inl ⟨rfl, fun _ => q_field (m := 0) fo_126_0 rfl rfl⟩) ?_
 refine Wr.take (v := v4) 4 rfl (by kernel_rfl) (fun _ h => st_take [0, 0, 0, 0] h) (.inl ⟨rfl, q_load sc_23 rfl (.cel (i := 3) rfl rfl)⟩) ?_
 refine Wr.pure (v := Value.pointer (some ⟨nb, 0, none⟩)) 5 rfl (by kernel_rfl) (.inr (fun _ h => st_take [0, 0, 0, 0] h)) (.inl ⟨rfl, fun _ => q_move rfl⟩) ?_
 refine Wr.pure (v := Value.pointer (some ⟨nb, 0, none⟩)) 6 rfl (by kernel_rfl) (.inr (fun _ h => st_take [0, 0, 0, 0] h)) (.inl ⟨rfl, fun _ => q_nil_ptr rfl⟩) ?_
 refine Wr.pure (v := Value.pointer (some ⟨nb, 1, none⟩)) 7 rfl (by kernel_rfl) (.inr (fun _ h => st_take [0, 0, 0, 0] h)) (.inl ⟨rfl, fun _ => q_field (m := 1) fo_126_1 rfl rfl⟩) ?_
 refine Wr.take (v := Value.int .i64 0) 8 rfl (by kernel_rfl) (fun _ h => st_take [0, 0, 0, 0] h) (.inl ⟨rfl, q_load sc_3 rfl (.cel (i := 3) rfl rfl)⟩) ?_
 refine Wr.e 9 (by kernel_rfl) rfl (e_call (F := (pt b3 3 [Value.int .i64 (-1000)]) :: (pt b1 3 [Value.int .i64 (-1000)]) :: (pt b 81 (bkC 2 (Value.slice (some ⟨nb, 0, none⟩) 2 nc))) :: (pt nb 126 ([v4, Value.int .i64 0, qv, Value.int .i64 1] ++ rest)) :: (sl 3 1 v4 ((n1 + 1) + 1) ((((List.replicate n1 ((-1000) : Int)).map intV) ++ [Value.int .i64 (-1000)]) ++ [Value.int .i64 (-1000)])) :: (sl 3 1 qv n2 ((List.replicate n2 ((-1001) : Int)).map intV)) :: F) (args := [Value.int .i64 0]) Tryz.call144 rfl (mark_0 W0)) (.inr fun _ _ _ h => st_take [0, 0, 0, 0] h) (fun _ _ => ?_)
 refine Wr.imp (L' := (pt b3 3 [Value.int .i64 (-1000)]) :: (pt b1 3 [Value.int .i64 (-1000)]) :: (pt b 81 (bkC 2 (Value.slice (some ⟨nb, 0, none⟩) 2 nc))) :: (pt nb 126 ([v4, Value.int .i64 0, qv, Value.int .i64 1] ++ rest)) :: (sl 3 1 v4 ((n1 + 1) + 1) ((((List.replicate n1 ((-1000) : Int)).map intV) ++ [Value.int .i64 (-1000)]) ++ [Value.int .i64 (-1000)])) :: (sl 3 1 qv n2 ((List.replicate n2 ((-1001) : Int)).map intV)) :: F) (fun _ h => h) ?_
 refine Wr.e 10 (by kernel_rfl) rfl (e_buildSlice (cs := [Value.int .i64 (-1000)]) se_23 zo_3 (by decide) (by decide) (by kernel_rfl)) (.inr fun _ _ _ h => st_take [1, 1, 1, 1] h) (fun b5 _ => ?_)
 refine Wr.imp (L' := (pt b5 3 [Value.int .i64 (-1000)]) :: (pt b3 3 [Value.int .i64 (-1000)]) :: (pt b1 3 [Value.int .i64 (-1000)]) :: (pt b 81 (bkC 2 (Value.slice (some ⟨nb, 0, none⟩) 2 nc))) :: (pt nb 126 ([v4, Value.int .i64 0, qv, Value.int .i64 1] ++ rest)) :: (sl 3 1 v4 ((n1 + 1) + 1) ((((List.replicate n1 ((-1000) : Int)).map intV) ++ [Value.int .i64 (-1000)]) ++ [Value.int .i64 (-1000)])) :: (sl 3 1 qv n2 ((List.replicate n2 ((-1001) : Int)).map intV)) :: F) (fun _ h => h) ?_
 refine Wr.more (S' := (pt b5 3 [Value.int .i64 (-1000)]) :: (pt b3 3 [Value.int .i64 (-1000)]) :: (pt b1 3 [Value.int .i64 (-1000)]) :: (pt b 81 (bkC 2 (Value.slice (some ⟨nb, 0, none⟩) 2 nc))) :: (pt nb 126 ([v4, Value.int .i64 0, qv, Value.int .i64 1] ++ rest)) :: []) (fun _ h => st_drop h) ?_
 refine Wr.e 11 (by kernel_rfl) rfl (e_append (i := 5) (k := 1) (m := 1) (off := 0) (news := [Value.int .i64 (-1000)]) Tryz.underlying23 sz_3 by_3 zo_3 rfl rfl rfl rfl rfl (Has.of_pt (i := 0) rfl rfl) rfl (by decide) (by simp only [maxLen]; omega) (by omega)) (.inr fun _ _ _ h => st_take [0, 0, 0, 0, 0] h) (fun v6 _ => ?_)
 refine Wr.imp (L' := (pt b5 3 [Value.int .i64 (-1000)]) :: (pt b3 3 [Value.int .i64 (-1000)]) :: (pt b1 3 [Value.int .i64 (-1000)]) :: (pt b 81 (bkC 2 (Value.slice (some ⟨nb, 0, none⟩) 2 nc))) :: (pt nb 126 ([v4, Value.int .i64 0, qv, Value.int .i64 1] ++ rest)) :: (sl 3 1 v6 (((n1 + 1) + 1) + 1) (((((List.replicate n1 ((-1000) : Int)).map intV) ++ [Value.int .i64 (-1000)]) ++ [Value.int .i64 (-1000)]) ++ [Value.int .i64 (-1000)])) :: (sl 3 1 qv n2 ((List.replicate n2 ((-1001) : Int)).map intV)) :: F) (fun _ h => h) ?_
 refine Wr.pure (v := Value.pointer (some ⟨nb, 0, none⟩)) 12 rfl (by kernel_rfl) (.inr (fun _ h => st_take [0, 0, 0, 0, 0] h)) (.inl ⟨rfl, fun _ => q_nil_ptr rfl⟩) ?_
 refine Wr.pure (v := Value.pointer (some ⟨nb, 0, none⟩)) 13 rfl (by kernel_rfl) (.inr (fun _ h => st_take [0, 0, 0, 0, 0] h)) (.inl ⟨rfl, fun _ => q_field (m := 0) fo_126_0 rfl rfl⟩) ?_
 refine Wr.e 14 (by kernel_rfl) rfl (e_store (i := 4) (v := v6) sz_23 rfl rfl (fun _ h => sl_one (i := 5) h rfl) rfl (by simp)) (.inl (by kernel_rfl)) (fun _ _ => ?_)
 refine Wr.imp (L' := (pt b5 3 [Value.int .i64 (-1000)]) :: (pt b3 3 [Value.int .i64 (-1000)]) :: (pt b1 3 [Value.int .i64 (-1000)]) :: (pt b 81 (bkC 2 (Value.slice (some ⟨nb, 0, none⟩) 2 nc))) :: (pt nb 126 ([v6, Value.int .i64 0, qv, Value.int .i64 1] ++ rest)) :: (sl 3 1 v6 (((n1 + 1) + 1) + 1) (((((List.replicate n1 ((-1000) : Int)).map intV) ++ [Value.int .i64 (-1000)]) ++ [Value.int .i64 (-1000)]) ++ [Value.int .i64 (-1000)])) :: (sl 3 1 qv n2 ((List.replicate n2 ((-1001) : Int)).map intV)) :: F) (fun _ h => h) ?_
 refine Wr.rebaseS [] ((pt b5 3 [Value.int .i64 (-1000)]) :: (pt b3 3 [Value.int .i64 (-1000)]) :: (pt b1 3 [Value.int .i64 (-1000)]) :: (pt b 81 (bkC 2 (Value.slice (some ⟨nb, 0, none⟩) 2 nc))) :: (pt nb 126 ([v6, Value.int .i64 0, qv, Value.int .i64 1] ++ rest)) :: (sl 3 1 v6 (((n1 + 1) + 1) + 1) (((((List.replicate n1 ((-1000) : Int)).map intV) ++ [Value.int .i64 (-1000)]) ++ [Value.int .i64 (-1000)]) ++ [Value.int .i64 (-1000)])) :: (sl 3 1 qv n2 ((List.replicate n2 ((-1001) : Int)).map intV)) :: []) (by kernel_rfl) ?_
 refine Wr.done (by kernel_rfl) ?_
 refine Wx.blockEnd ?_
 refine Wx.go ?_
 refine Wc.region ?_
 refine Wl.q (v := Value.int .i64 2) (q_move rfl) ?_
 refine Wl.q (v := Value.int .i64 3) (q_add (c := 3) rfl rfl (by decide)) ?_
 refine Wl.q (v := Value.int .i64 3) (q_assign rfl) ?_
 refine Wl.done ?_
 refine Wx.again ?_
 refine Wn.round ?_
 refine Wc.seq ?_
 refine Wc.seq ?_
 refine Wc.region ?_
 refine Wl.q (v := Value.int .i64 3) (q_move rfl) ?_
 refine Wl.q (v := Value.bool false) (q_lss (r := false) rfl rfl (decide_eq_false (by decide))) ?_
 refine Wl.done ?_
 refine Wx.go ?_
 refine Wc.no rfl ?_
 refine Wc.exit ?_
 refine Wx.thenExit ?_
 refine Wx.thenExit ?_
 refine Wx.out ?_
 refine Wx.blockEnd ?_
 refine Wx.go ?_
 refine Wc.region ?_
 refine Wl.q (v := Value.int .i64 1) (q_add (c := 1) rfl rfl (by decide)) ?_
 refine Wl.q (v := Value.int .i64 1) (q_move rfl) ?_
 refine Wl.done ?_
 refine Wx.again ?_
 refine Wn.round ?_
 refine Wc.seq ?_
 refine Wc.region ?_
 refine Wl.q (v := Value.bool true) (q_lss (r := true) rfl rfl (decide_eq_true (by decide))) ?_
 refine Wl.done ?_
 refine Wx.go ?_
 refine Wc.seq ?_
 refine Wc.yes rfl ?_
 refine Wc.skip ?_
 refine Wx.go ?_
 refine Wc.seq ?_
 refine Wc.block ?_
 refine Wc.seq ?_
 refine Wc.region ?_
 refine Wl.q (v := Value.int .i64 1) (q_move rfl) ?_
 refine Wl.q (v := Value.int .i64 1) (q_assign rfl) ?_
 refine Wl.done ?_
 refine Wx.go ?_
 refine Wc.seq ?_
 refine Wc.region ?_
 refine Wl.q (v := Value.pointer (some ⟨b, 0, none⟩)) (q_move rfl) ?_
 refine Wl.q (v := Value.pointer (some ⟨b, 0, none⟩)) (q_nil_ptr rfl) ?_
 refine Wl.q (v := Value.pointer (some ⟨b, 2, none⟩)) (q_field (m := 2) fo_81_2 rfl rfl) ?_
 refine Wl.q (v := Value.slice (some ⟨nb, 0, none⟩) 2 nc) (q_load sc_47 rfl (.cel (i := 3) rfl rfl)) ?_
 refine Wl.q (v := Value.int .i64 1) (q_move rfl) ?_
 refine Wl.q (v := Value.pointer (some ⟨nb, 2, none⟩)) (q_idx (m := 2) se_47 rfl rfl (by omega) (by omega) rfl) ?_
 refine Wl.q (v := Value.pointer (some ⟨nb, 2, none⟩)) (q_assign rfl) ?_
 refine Wl.done ?_
 refine Wx.go ?_
 refine Wc.seq ?_
 refine Wc.region ?_
 refine Wl.q (v := Value.int .i64 0) (q_assign rfl) ?_
 refine Wl.done ?_
 refine Wx.go ?_
 refine Wc.block ?_
 refine Wc.rounds 4 ?_
 refine Wn.round ?_
 refine Wc.seq ?_
 refine Wc.seq ?_
 refine Wc.region ?_
 refine Wl.q (v := Value.int .i64 0) (q_move rfl) ?_
 refine Wl.q (v := Value.bool true) (q_lss (r := true) rfl rfl (decide_eq_true (by decide))) ?_
 refine Wl.done ?_
 refine Wx.go ?_
 refine Wc.yes rfl ?_
 refine Wc.skip ?_
 refine Wx.go ?_
 refine Wc.seq ?_
 refine Wc.block ?_
 refine Wc.drawsS [14] ((pt b5 3 [Value.int .i64 (-1000)]) :: (pt b3 3 [Value.int .i64 (-1000)]) :: (pt b1 3 [Value.int .i64 (-1000)]) :: (pt b 81 (bkC 2 (Value.slice (some ⟨nb, 0, none⟩) 2 nc))) :: (pt nb 126 ([v6, Value.int .i64 0, qv, Value.int .i64 1] ++ rest)) :: []) (by kernel_rfl) ?_
 refine Wr.pure (v := Value.pointer (some ⟨nb, 2, none⟩)) 0 rfl (by kernel_rfl) (.inr (fun _ h => st_take [0, 0, 0, 0, 0] h)) (.inl ⟨rfl, fun _ => q_move rfl⟩) ?_
 refine Wr.pure (v := Value.pointer (some ⟨nb, 2, none⟩)) 1 rfl (by kernel_rfl) (.inr (fun _ h => st_take [0, 0, 0, 0, 0] h)) (.inl ⟨rfl, fun _ => q_move rfl⟩) ?_
 refine Wr.pure (v := Value.pointer (some ⟨nb, 2, none⟩)) 2 rfl (by kernel_rfl) (.inr (fun _ h => st_take [0, 0, 0, 0, 0] h)) (.inl ⟨rfl, fun _ => q_nil_ptr rfl⟩) ?_
 refine Wr.pure (v := Value.pointer (some ⟨nb, 2, none⟩)) 3 rfl (by kernel_rfl) (.inr (fun _ h => st_take [0, 0, 0, 0, 0] h)) (.inl ⟨rfl, fun _ => q_field (m := 2) fo_126_0 rfl rfl⟩) ?_
 refine Wr.take (v := qv) 4 rfl (by kernel_rfl) (fun _ h => st_take [0, 0, 0, 0, 0] h) (.inl ⟨rfl, q_load sc_23 rfl (.cel (i := 4) rfl rfl)⟩) ?_
 refine Wr.pure (v := Value.pointer (some ⟨nb, 2, none⟩)) 5 rfl (by kernel_rfl) (.inr (fun _ h => st_take [0, 0, 0, 0, 0] h)) (.inl ⟨rfl, fun _ => q_move rfl⟩) ?_
 refine Wr.pure (v := Value.pointer (some ⟨nb, 2, none⟩)) 6 rfl (by kernel_rfl) (.inr (fun _ h => st_take [0, 0, 0, 0, 0] h)) (.inl ⟨rfl, fun _ => q_nil_ptr rfl⟩) ?_
 refine Wr.pure (v := Value.pointer (some ⟨nb, 3, none⟩)) 7 rfl (by kernel_rfl) (.inr (fun _ h => st_take [0, 0, 0, 0, 0] h)) (.inl ⟨rfl, fun _ => q_field (m := 3) fo_126_1 rfl rfl⟩) ?_
 refine Wr.take (v := Value.int .i64 1) 8 rfl (by kernel_rfl) (fun _ h => st_take [0, 0, 0, 0, 0] h) (.inl ⟨rfl, q_load sc_3 rfl (.cel (i := 4) rfl rfl)⟩) ?_
 refine Wr.e 9 (by kernel_rfl) rfl (e_call (F := (pt b5 3 [Value.int .i64 (-1000)]) :: (pt b3 3 [Value.int .i64 (-1000)]) :: (pt b1 3 [Value.int .i64 (-1000)]) :: (pt b 81 (bkC 2 (Value.slice (some ⟨nb, 0, none⟩) 2 nc))) :: (pt nb 126 ([v6, Value.int .i64 0, qv, Value.int .i64 1] ++ rest)) :: (sl 3 1 v6 (((n1 + 1) + 1) + 1) (((((List.replicate n1 ((-1000) : Int)).map intV) ++ [Value.int .i64 (-1000)]) ++ [Value.int .i64 (-1000)]) ++ [Value.int .i64 (-1000)])) :: (sl 3 1 qv n2 ((List.replicate n2 ((-1001) : Int)).map intV)) :: F) (args := [Value.int .i64 1]) Tryz.call144 rfl (mark_1 W0)) (.inr fun _ _ _ h => st_take [0, 0, 0, 0, 0] h) (fun _ _ => ?_)
 refine Wr.imp (L' := (pt b5 3 [Value.int .i64 (-1000)]) :: (pt b3 3 [Value.int .i64 (-1000)]) :: (pt b1 3 [Value.int .i64 (-1000)]) :: (pt b 81 (bkC 2 (Value.slice (some ⟨nb, 0, none⟩) 2 nc))) :: (pt nb 126 ([v6, Value.int .i64 0, qv, Value.int .i64 1] ++ rest)) :: (sl 3 1 v6 (((n1 + 1) + 1) + 1) (((((List.replicate n1 ((-1000) : Int)).map intV) ++ [Value.int .i64 (-1000)]) ++ [Value.int .i64 (-1000)]) ++ [Value.int .i64 (-1000)])) :: (sl 3 1 qv n2 ((List.replicate n2 ((-1001) : Int)).map intV)) :: F) (fun _ h => h) ?_
 refine Wr.e 10 (by kernel_rfl) rfl (e_buildSlice (cs := [Value.int .i64 (-1001)]) se_23 zo_3 (by decide) (by decide) (by kernel_rfl)) (.inr fun _ _ _ h => st_take [1, 1, 1, 1, 1] h) (fun b7 _ => ?_)
 refine Wr.imp (L' := (pt b7 3 [Value.int .i64 (-1001)]) :: (pt b5 3 [Value.int .i64 (-1000)]) :: (pt b3 3 [Value.int .i64 (-1000)]) :: (pt b1 3 [Value.int .i64 (-1000)]) :: (pt b 81 (bkC 2 (Value.slice (some ⟨nb, 0, none⟩) 2 nc))) :: (pt nb 126 ([v6, Value.int .i64 0, qv, Value.int .i64 1] ++ rest)) :: (sl 3 1 v6 (((n1 + 1) + 1) + 1) (((((List.replicate n1 ((-1000) : Int)).map intV) ++ [Value.int .i64 (-1000)]) ++ [Value.int .i64 (-1000)]) ++ [Value.int .i64 (-1000)])) :: (sl 3 1 qv n2 ((List.replicate n2 ((-1001) : Int)).map intV)) :: F) (fun _ h => h) ?_
 refine Wr.more (S' := (pt b7 3 [Value.int .i64 (-1001)]) :: (pt b5 3 [Value.int .i64 (-1000)]) :: (pt b3 3 [Value.int .i64 (-1000)]) :: (pt b1 3 [Value.int .i64 (-1000)]) :: (pt b 81 (bkC 2 (Value.slice (some ⟨nb, 0, none⟩) 2 nc))) :: (pt nb 126 ([v6, Value.int .i64 0, qv, Value.int .i64 1] ++ rest)) :: []) (fun _ h => st_drop h) ?_
 refine Wr.e 11 (by kernel_rfl) rfl (e_append (i := 7) (k := 1) (m := 1) (off := 0) (news := [Value.int .i64 (-1001)]) Tryz.underlying23 sz_3 by_3 zo_3 rfl rfl rfl rfl rfl (Has.of_pt (i := 0) rfl rfl) rfl (by decide) (by simp only [maxLen]; omega) (by omega)) (.inr fun _ _ _ h => st_take [0, 0, 0, 0, 0, 0] h) (fun v8 _ => ?_)
 refine Wr.imp (L' := (pt b7 3 [Value.int .i64 (-1001)]) :: (pt b5 3 [Value.int .i64 (-1000)]) :: (pt b3 3 [Value.int .i64 (-1000)]) :: (pt b1 3 [Value.int .i64 (-1000)]) :: (pt b 81 (bkC 2 (Value.slice (some ⟨nb, 0, none⟩) 2 nc))) :: (pt nb 126 ([v6, Value.int .i64 0, qv, Value.int .i64 1] ++ rest)) :: (sl 3 1 v6 (((n1 + 1) + 1) + 1) (((((List.replicate n1 ((-1000) : Int)).map intV) ++ [Value.int .i64 (-1000)]) ++ [Value.int .i64 (-1000)]) ++ [Value.int .i64 (-1000)])) :: (sl 3 1 v8 (n2 + 1) (((List.replicate n2 ((-1001) : Int)).map intV) ++ [Value.int .i64 (-1001)])) :: F) (fun _ h => h) ?_
 refine Wr.pure (v := Value.pointer (some ⟨nb, 2, none⟩)) 12 rfl (by kernel_rfl) (.inr (fun _ h => st_take [0, 0, 0, 0, 0, 0] h)) (.inl ⟨rfl, fun _ => q_nil_ptr rfl⟩) ?_
 refine Wr.pure (v := Value.pointer (some ⟨nb, 2, none⟩)) 13 rfl (by kernel_rfl) (.inr (fun _ h => st_take [0, 0, 0, 0, 0, 0] h)) (.inl ⟨rfl, fun _ => q_field (m := 2) fo_126_0 rfl rfl⟩) ?_
 refine Wr.e 14 (by kernel_rfl) rfl (e_store (i := 5) (v := v8) sz_23 rfl rfl (fun _ h => sl_one (i := 7) h rfl) rfl (by simp)) (.inl (by kernel_rfl)) (fun _ _ => ?_)
 refine Wr.imp (L' := (pt b7 3 [Value.int .i64 (-1001)]) :: (pt b5 3 [Value.int .i64 (-1000)]) :: (pt b3 3 [Value.int .i64 (-1000)]) :: (pt b1 3 [Value.int .i64 (-1000)]) :: (pt b 81 (bkC 2 (Value.slice (some ⟨nb, 0, none⟩) 2 nc))) :: (pt nb 126 ([v6, Value.int .i64 0, v8, Value.int .i64 1] ++ rest)) :: (sl 3 1 v6 (((n1 + 1) + 1) + 1) (((((List.replicate n1 ((-1000) : Int)).map intV) ++ [Value.int .i64 (-1000)]) ++ [Value.int .i64 (-1000)]) ++ [Value.int .i64 (-1000)])) :: (sl 3 1 v8 (n2 + 1) (((List.replicate n2 ((-1001) : Int)).map intV) ++ [Value.int .i64 (-1001)])) :: F) (fun _ h => h) ?_
 refine Wr.rebaseS [] ((pt b7 3 [Value.int .i64 (-1001)]) :: (pt b5 3 [Value.int .i64 (-1000)]) :: (pt b3 3 [Value.int .i64 (-1000)]) :: (pt b1 3 [Value.int .i64 (-1000)]) :: (pt b 81 (bkC 2 (Value.slice (some ⟨nb, 0, none⟩) 2 nc))) :: (pt nb 126 ([v6, Value.int .i64 0, v8, Value.int .i64 1] ++ rest)) :: (sl 3 1 v6 (((n1 + 1) + 1) + 1) (((((List.replicate n1 ((-1000) : Int)).map intV) ++ [Value.int .i64 (-1000)]) ++ [Value.int .i64 (-1000)]) ++ [Value.int .i64 (-1000)])) :: (sl 3 1 v8 (n2 + 1) (((List.replicate n2 ((-1001) : Int)).map intV) ++ [Value.int .i64 (-1001)])) :: []) (by kernel_rfl) ?_
 refine Wr.done (by kernel_rfl) ?_
 refine Wx.blockEnd ?_
 refine Wx.go ?_
 refine Wc.region ?_
 refine Wl.q (v := Value.int .i64 0) (q_move rfl) ?_
 refine Wl.q (v := Value.int .i64 1) (q_add (c := 1) rfl rfl (by decide)) ?_
 refine Wl.q (v := Value.int .i64 1) (q_assign rfl) ?_
 refine Wl.done ?_
 refine Wx.again ?_
 refine Wn.round ?_
 refine Wc.seq ?_
 refine Wc.seq ?_
 refine Wc.region ?_
 refine Wl.q (v := Value.int .i64 1) (q_move rfl) ?_
 refine Wl.q (v := Value.bool true) (q_lss (r := true) rfl rfl (decide_eq_true (by decide))) ?_
 refine Wl.done ?_
 refine Wx.go ?_
 refine Wc.yes rfl ?_
 refine Wc.skip ?_
 refine Wx.go ?_
 refine Wc.seq ?_
 refine Wc.block ?_
 refine Wc.drawsS [14] ((pt b7 3 [Value.int .i64 (-1001)]) :: (pt b5 3 [Value.int .i64 (-1000)]) :: (pt b3 3 [Value.int .i64 (-1000)]) :: (pt b1 3 [Value.int .i64 (-1000)]) :: (pt b 81 (bkC 2 (Value.slice (some ⟨nb, 0, none⟩) 2 nc))) :: (pt nb 126 ([v6, Value.int .i64 0, v8, Value.int .i64 1] ++ rest)) :: []) (by kernel_rfl) ?_
 refine Wr.pure (v := Value.pointer (some ⟨nb, 2, none⟩)) 0 rfl (by kernel_rfl) (.inr (fun _ h => st_take [0, 0, 0, 0, 0, 0] h)) (.inl ⟨rfl, fun _ => q_move rfl⟩) ?_
 refine Wr.pure (v := Value.pointer (some ⟨nb, 2, none⟩)) 1 rfl (by kernel_rfl) (.inr (fun _ h => st_take [0, 0, 0, 0, 0, 0] h)) (.inl ⟨rfl, fun _ => q_move rfl⟩) ?_
 refine Wr.pure (v := Value.pointer (some ⟨nb, 2, none⟩)) 2 rfl (by kernel_rfl) (.inr (fun _ h => st_take [0, 0, 0, 0, 0, 0] h)) (.inl ⟨rfl, fun _ => q_nil_ptr rfl⟩) ?_
 refine Wr.pure (v := Value.pointer (some ⟨nb, 2, none⟩)) 3 rfl (by kernel_rfl) (.inr (fun _ h => st_take [0, 0, 0, 0, 0, 0] h)) (.inl ⟨rfl, fun _ => q_field (m := 2) fo_126_0 rfl rfl⟩) ?_
 refine Wr.take (v := v8) 4 rfl (by kernel_rfl) (fun _ h => st_take [0, 0, 0, 0, 0, 0] h) (.inl ⟨rfl, q_load sc_23 rfl (.cel (i := 5) rfl rfl)⟩) ?_
 refine Wr.pure (v := Value.pointer (some ⟨nb, 2, none⟩)) 5 rfl (by kernel_rfl) (.inr (fun _ h => st_take [0, 0, 0, 0, 0, 0] h)) (.inl ⟨rfl, fun _ => q_move rfl⟩) ?_
 refine Wr.pure (v := Value.pointer (some ⟨nb, 2, none⟩)) 6 rfl (by kernel_rfl) (.inr (fun _ h => st_take [0, 0, 0, 0, 0, 0] h)) (.inl ⟨rfl, fun _ => q_nil_ptr rfl⟩) ?_
 refine Wr.pure (v := Value.pointer (some ⟨nb, 3, none⟩)) 7 rfl (by kernel_rfl) (.inr (fun _ h => st_take [0, 0, 0, 0, 0, 0] h)) (.inl ⟨rfl, fun _ => q_field (m := 3) fo_126_1 rfl rfl⟩) ?_
 refine Wr.take (v := Value.int .i64 1) 8 rfl (by kernel_rfl) (fun _ h => st_take [0, 0, 0, 0, 0, 0] h) (.inl ⟨rfl, q_load sc_3 rfl (.cel (i := 5) rfl rfl)⟩) ?_
 refine Wr.e 9 (by kernel_rfl) rfl (e_call (F := (pt b7 3 [Value.int .i64 (-1001)]) :: (pt b5 3 [Value.int .i64 (-1000)]) :: (pt b3 3 [Value.int .i64 (-1000)]) :: (pt b1 3 [Value.int .i64 (-1000)]) :: (pt b 81 (bkC 2 (Value.slice (some ⟨nb, 0, none⟩) 2 nc))) :: (pt nb 126 ([v6, Value.int .i64 0, v8, Value.int .i64 1] ++ rest)) :: (sl 3 1 v6 (((n1 + 1) + 1) + 1) (((((List.replicate n1 ((-1000) : Int)).map intV) ++ [Value.int .i64 (-1000)]) ++ [Value.int .i64 (-1000)]) ++ [Value.int .i64 (-1000)])) :: (sl 3 1 v8 (n2 + 1) (((List.replicate n2 ((-1001) : Int)).map intV) ++ [Value.int .i64 (-1001)])) :: F) (args := [Value.int .i64 1]) Tryz.call144 rfl (mark_1 W0)) (.inr fun _ _ _ h => st_take [0, 0, 0, 0, 0, 0] h) (fun _ _ => ?_)
 refine Wr.imp (L' := (pt b7 3 [Value.int .i64 (-1001)]) :: (pt b5 3 [Value.int .i64 (-1000)]) :: (pt b3 3 [Value.int .i64 (-1000)]) :: (pt b1 3 [Value.int .i64 (-1000)]) :: (pt b 81 (bkC 2 (Value.slice (some ⟨nb, 0, none⟩) 2 nc))) :: (pt nb 126 ([v6, Value.int .i64 0, v8, Value.int .i64 1] ++ rest)) :: (sl 3 1 v6 (((n1 + 1) + 1) + 1) (((((List.replicate n1 ((-1000) : Int)).map intV) ++ [Value.int .i64 (-1000)]) ++ [Value.int .i64 (-1000)]) ++ [Value.int .i64 (-1000)])) :: (sl 3 1 v8 (n2 + 1) (((List.replicate n2 ((-1001) : Int)).map intV) ++ [Value.int .i64 (-1001)])) :: F) (fun _ h => h) ?_
 refine Wr.e 10 (by kernel_rfl) rfl (e_buildSlice (cs := [Value.int .i64 (-1001)]) se_23 zo_3 (by decide) (by decide) (by kernel_rfl)) (.inr fun _ _ _ h => st_take [1, 1, 1, 1, 1, 1] h) (fun b9 _ => ?_)
 refine Wr.imp (L' := (pt b9 3 [Value.int .i64 (-1001)]) :: (pt b7 3 [Value.int .i64 (-1001)]) :: (pt b5 3 [Value.int .i64 (-1000)]) :: (pt b3 3 [Value.int .i64 (-1000)]) :: (pt b1 3 [Value.int .i64 (-1000)]) :: (pt b 81 (bkC 2 (Value.slice (some ⟨nb, 0, none⟩) 2 nc))) :: (pt nb 126 ([v6, Value.int .i64 0, v8, Value.int .i64 1] ++ rest)) :: (sl 3 1 v6 (((n1 + 1) + 1) + 1) (((((List.replicate n1 ((-1000) : Int)).map intV) ++ [Value.int .i64 (-1000)]) ++ [Value.int .i64 (-1000)]) ++ [Value.int .i64 (-1000)])) :: (sl 3 1 v8 (n2 + 1) (((List.replicate n2 ((-1001) : Int)).map intV) ++ [Value.int .i64 (-1001)])) :: F) (fun _ h => h) ?_
 refine Wr.more (S' := (pt b9 3 [Value.int .i64 (-1001)]) :: (pt b7 3 [Value.int .i64 (-1001)]) :: (pt b5 3 [Value.int .i64 (-1000)]) :: (pt b3 3 [Value.int .i64 (-1000)]) :: (pt b1 3 [Value.int .i64 (-1000)]) :: (pt b 81 (bkC 2 (Value.slice (some ⟨nb, 0, none⟩) 2 nc))) :: (pt nb 126 ([v6, Value.int .i64 0, v8, Value.int .i64 1] ++ rest)) :: []) (fun _ h => st_drop h) ?_
 refine Wr.e 11 (by kernel_rfl) rfl (e_append (i := 8) (k := 1) (m := 1) (off := 0) (news := [Value.int .i64 (-1001)]) Tryz.underlying23 sz_3 by_3 zo_3 rfl rfl rfl rfl rfl (Has.of_pt (i := 0) rfl rfl) rfl (by decide) (by simp only [maxLen]; omega) (by omega)) (.inr fun _ _ _ h => st_take [0, 0, 0, 0, 0, 0, 0] h) (fun v10 _ => ?_)
 refine Wr.imp (L' := (pt b9 3 [Value.int .i64 (-1001)]) :: (pt b7 3 [Value.int .i64 (-1001)]) :: (pt b5 3 [Value.int .i64 (-1000)]) :: (pt b3 3 [Value.int .i64 (-1000)]) :: (pt b1 3 [Value.int .i64 (-1000)]) :: (pt b 81 (bkC 2 (Value.slice (some ⟨nb, 0, none⟩) 2 nc))) :: (pt nb 126 ([v6, Value.int .i64 0, v8, Value.int .i64 1] ++ rest)) :: (sl 3 1 v6 (((n1 + 1) + 1) + 1) (((((List.replicate n1 ((-1000) : Int)).map intV) ++ [Value.int .i64 (-1000)]) ++ [Value.int .i64 (-1000)]) ++ [Value.int .i64 (-1000)])) :: (sl 3 1 v10 ((n2 + 1) + 1) ((((List.replicate n2 ((-1001) : Int)).map intV) ++ [Value.int .i64 (-1001)]) ++ [Value.int .i64 (-1001)])) :: F) (fun _ h => h) ?_
 refine Wr.pure (v := Value.pointer (some ⟨nb, 2, none⟩)) 12 rfl (by kernel_rfl) (.inr (fun _ h => st_take [0, 0, 0, 0, 0, 0, 0] h)) (.inl ⟨rfl, fun _ => q_nil_ptr rfl⟩) ?_
 refine Wr.pure (v := Value.pointer (some ⟨nb, 2, none⟩)) 13 rfl (by kernel_rfl) (.inr (fun _ h => st_take [0, 0, 0, 0, 0, 0, 0] h)) (.inl ⟨rfl, fun _ => q_field (m := 2) fo_126_0 rfl rfl⟩) ?_
 refine Wr.e 14 (by kernel_rfl) rfl (e_store (i := 6) (v := v10) sz_23 rfl rfl (fun _ h => sl_one (i := 8) h rfl) rfl (by simp)) (.inl (by kernel_rfl)) (fun _ _ => ?_)
 refine Wr.imp (L' := (pt b9 3 [Value.int .i64 (-1001)]) :: (pt b7 3 [Value.int .i64 (-1001)]) :: (pt b5 3 [Value.int .i64 (-1000)]) :: (pt b3 3 [Value.int .i64 (-1000)]) :: (pt b1 3 [Value.int .i64 (-1000)]) :: (pt b 81 (bkC 2 (Value.slice (some ⟨nb, 0, none⟩) 2 nc))) :: (pt nb 126 ([v6, Value.int .i64 0, v10, Value.int .i64 1] ++ rest)) :: (sl 3 1 v6 (((n1 + 1) + 1) + 1) (((((List.replicate n1 ((-1000) : Int)).map intV) ++ [Value.int .i64 (-1000)]) ++ [Value.int .i64 (-1000)]) ++ [Value.int .i64 (-1000)])) :: (sl 3 1 v10 ((n2 + 1) + 1) ((((List.replicate n2 ((-1001) : Int)).map intV) ++ [Value.int .i64 (-1001)]) ++ [Value.int .i64 (-1001)])) :: F) (fun _ h => h) ?_
 refine Wr.rebaseS [] ((pt b9 3 [Value.int .i64 (-1001)]) :: (pt b7 3 [Value.int .i64 (-1001)]) :: (pt b5 3 [Value.int .i64 (-1000)]) :: (pt b3 3 [Value.int .i64 (-1000)]) :: (pt b1 3 [Value.int .i64 (-1000)]) :: (pt b 81 (bkC 2 (Value.slice (some ⟨nb, 0, none⟩) 2 nc))) :: (pt nb 126 ([v6, Value.int .i64 0, v10, Value.int .i64 1] ++ rest)) :: (sl 3 1 v6 (((n1 + 1) + 1) + 1) (((((List.replicate n1 ((-1000) : Int)).map intV) ++ [Value.int .i64 (-1000)]) ++ [Value.int .i64 (-1000)]) ++ [Value.int .i64 (-1000)])) :: (sl 3 1 v10 ((n2 + 1) + 1) ((((List.replicate n2 ((-1001) : Int)).map intV) ++ [Value.int .i64 (-1001)]) ++ [Value.int .i64 (-1001)])) :: []) (by kernel_rfl) ?_
 refine Wr.done (by kernel_rfl) ?_
 refine Wx.blockEnd ?_
 refine Wx.go ?_
 refine Wc.region ?_
 refine Wl.q (v := Value.int .i64 1) (q_move rfl) ?_
 refine Wl.q (v := Value.int .i64 2) (q_add (c := 2) rfl rfl (by decide)) ?_
 refine Wl.q (v := Value.int .i64 2) (q_assign rfl) ?_
 refine Wl.done ?_
 refine Wx.again ?_
 refine Wn.round ?_
 refine Wc.seq ?_
 refine Wc.seq ?_
 refine Wc.region ?_
 refine Wl.q (v := Value.int .i64 2) (q_move rfl) ?_
 refine Wl.q (v := Value.bool true) (q_lss (r := true) rfl rfl (decide_eq_true (by decide))) ?_
 refine Wl.done ?_
 refine Wx.go ?_
 refine Wc.yes rfl ?_
 refine Wc.skip ?_
 refine Wx.go ?_
 refine Wc.seq ?_
 refine Wc.block ?_
 refine Wc.drawsS [14] ((pt b9 3 [Value.int .i64 (-1001)]) :: (pt b7 3 [Value.int .i64 (-1001)]) :: (pt b5 3 [Value.int .i64 (-1000)]) :: (pt b3 3 [Value.int .i64 (-1000)]) :: (pt b1 3 [Value.int .i64 (-1000)]) :: (pt b 81 (bkC 2 (Value.slice (some ⟨nb, 0, none⟩) 2 nc))) :: (pt nb 126 ([v6, Value.int .i64 0, v10, Value.int .i64 1] ++ rest)) :: []) (by kernel_rfl) ?_
 refine Wr.pure (v := Value.pointer (some ⟨nb, 2, none⟩)) 0 rfl (by kernel_rfl) (.inr (fun _ h => st_take [0, 0, 0, 0, 0, 0, 0] h)) (.inl ⟨rfl, fun _ => q_move rfl⟩) ?_
 refine Wr.pure (v := Value.pointer (some ⟨nb, 2, none⟩)) 1 rfl (by kernel_rfl) (.inr (fun _ h => st_take [0, 0, 0, 0, 0, 0, 0] h)) (.inl ⟨rfl, fun _ => q_move rfl⟩) ?_
 refine Wr.pure (v := Value.pointer (some ⟨nb, 2, none⟩)) 2 rfl (by kernel_rfl) (.inr (fun _ h => st_take [0, 0, 0, 0, 0, 0, 0] h)) (.inl ⟨rfl, fun _ => q_nil_ptr rfl⟩) ?_
 refine Wr.pure (v := Value.pointer (some ⟨nb, 2, none⟩)) 3 rfl (by kernel_rfl) (.inr (fun _ h => st_take [0, 0, 0, 0, 0, 0, 0] h)) (.inl ⟨rfl, fun _ => q_field (m := 2) fo_126_0 rfl rfl⟩) ?_
 refine Wr.take (v := v10) 4 rfl (by kernel_rfl) (fun _ h => st_take [0, 0, 0, 0, 0, 0, 0] h) (.inl ⟨rfl, q_load sc_23 rfl (.cel (i := 6) rfl rfl)⟩) ?_
 refine Wr.pure (v := Value.pointer (some ⟨nb, 2, none⟩)) 5 rfl (by kernel_rfl) (.inr (fun _ h => st_take [0, 0, 0, 0, 0, 0, 0] h)) (.inl ⟨rfl, fun _ => q_move rfl⟩) ?_
 refine Wr.pure (v := Value.pointer (some ⟨nb, 2, none⟩)) 6 rfl (by kernel_rfl) (.inr (fun _ h => st_take [0, 0, 0, 0, 0, 0, 0] h)) (.inl ⟨rfl, fun _ => q_nil_ptr rfl⟩) ?_
 refine Wr.pure (v := Value.pointer (some ⟨nb, 3, none⟩)) 7 rfl (by kernel_rfl) (.inr (fun _ h => st_take [0, 0, 0, 0, 0, 0, 0] h)) (.inl ⟨rfl, fun _ => q_field (m := 3) fo_126_1 rfl rfl⟩) ?_
 refine Wr.take (v := Value.int .i64 1) 8 rfl (by kernel_rfl) (fun _ h => st_take [0, 0, 0, 0, 0, 0, 0] h) (.inl ⟨rfl, q_load sc_3 rfl (.cel (i := 6) rfl rfl)⟩) ?_
 refine Wr.e 9 (by kernel_rfl) rfl (e_call (F := (pt b9 3 [Value.int .i64 (-1001)]) :: (pt b7 3 [Value.int .i64 (-1001)]) :: (pt b5 3 [Value.int .i64 (-1000)]) :: (pt b3 3 [Value.int .i64 (-1000)]) :: (pt b1 3 [Value.int .i64 (-1000)]) :: (pt b 81 (bkC 2 (Value.slice (some ⟨nb, 0, none⟩) 2 nc))) :: (pt nb 126 ([v6, Value.int .i64 0, v10, Value.int .i64 1] ++ rest)) :: (sl 3 1 v6 (((n1 + 1) + 1) + 1) (((((List.replicate n1 ((-1000) : Int)).map intV) ++ [Value.int .i64 (-1000)]) ++ [Value.int .i64 (-1000)]) ++ [Value.int .i64 (-1000)])) :: (sl 3 1 v10 ((n2 + 1) + 1) ((((List.replicate n2 ((-1001) : Int)).map intV) ++ [Value.int .i64 (-1001)]) ++ [Value.int .i64 (-1001)])) :: F) (args := [Value.int .i64 1]) Tryz.call144 rfl (mark_1 W0)) (.inr fun _ _ _ h => st_take [0, 0, 0, 0, 0, 0, 0] h) (fun _ _ => ?_)
 refine Wr.imp (L' := (pt b9 3 [Value.int .i64 (-1001)]) :: (pt b7 3 [Value.int .i64 (-1001)]) :: (pt b5 3 [Value.int .i64 (-1000)]) :: (pt b3 3 [Value.int .i64 (-1000)]) :: (pt b1 3 [Value.int .i64 (-1000)]) :: (pt b 81 (bkC 2 (Value.slice (some ⟨nb, 0, none⟩) 2 nc))) :: (pt nb 126 ([v6, Value.int .i64 0, v10, Value.int .i64 1] ++ rest)) :: (sl 3 1 v6 (((n1 + 1) + 1) + 1) (((((List.replicate n1 ((-1000) : Int)).map intV) ++ [Value.int .i64 (-1000)]) ++ [Value.int .i64 (-1000)]) ++ [Value.int .i64 (-1000)])) :: (sl 3 1 v10 ((n2 + 1) + 1) ((((List.replicate n2 ((-1001) : Int)).map intV) ++ [Value.int .i64 (-1001)]) ++ [Value.int .i64 (-1001)])) :: F) (fun _ h => h) ?_
 refine Wr.e 10 (by kernel_rfl) rfl (e_buildSlice (cs := [Value.int .i64 (-1001)]) se_23 zo_3 (by decide) (by decide) (by kernel_rfl)) (.inr fun _ _ _ h => st_take [1, 1, 1, 1, 1, 1, 1] h) (fun b11 _ => ?_)
 refine Wr.imp (L' := (pt b11 3 [Value.int .i64 (-1001)]) :: (pt b9 3 [Value.int .i64 (-1001)]) :: (pt b7 3 [Value.int .i64 (-1001)]) :: (pt b5 3 [Value.int .i64 (-1000)]) :: (pt b3 3 [Value.int .i64 (-1000)]) :: (pt b1 3 [Value.int .i64 (-1000)]) :: (pt b 81 (bkC 2 (Value.slice (some ⟨nb, 0, none⟩) 2 nc))) :: (pt nb 126 ([v6, Value.int .i64 0, v10, Value.int .i64 1] ++ rest)) :: (sl 3 1 v6 (((n1 + 1) + 1) + 1) (((((List.replicate n1 ((-1000) : Int)).map intV) ++ [Value.int .i64 (-1000)]) ++ [Value.int .i64 (-1000)]) ++ [Value.int .i64 (-1000)])) :: (sl 3 1 v10 ((n2 + 1) + 1) ((((List.replicate n2 ((-1001) : Int)).map intV) ++ [Value.int .i64 (-1001)]) ++ [Value.int .i64 (-1001)])) :: F) (fun _ h => h) ?_
 refine Wr.more (S' := (pt b11 3 [Value.int .i64 (-1001)]) :: (pt b9 3 [Value.int .i64 (-1001)]) :: (pt b7 3 [Value.int .i64 (-1001)]) :: (pt b5 3 [Value.int .i64 (-1000)]) :: (pt b3 3 [Value.int .i64 (-1000)]) :: (pt b1 3 [Value.int .i64 (-1000)]) :: (pt b 81 (bkC 2 (Value.slice (some ⟨nb, 0, none⟩) 2 nc))) :: (pt nb 126 ([v6, Value.int .i64 0, v10, Value.int .i64 1] ++ rest)) :: []) (fun _ h => st_drop h) ?_
 refine Wr.e 11 (by kernel_rfl) rfl (e_append (i := 9) (k := 1) (m := 1) (off := 0) (news := [Value.int .i64 (-1001)]) Tryz.underlying23 sz_3 by_3 zo_3 rfl rfl rfl rfl rfl (Has.of_pt (i := 0) rfl rfl) rfl (by decide) (by simp only [maxLen]; omega) (by omega)) (.inr fun _ _ _ h => st_take [0, 0, 0, 0, 0, 0, 0, 0] h) (fun v12 _ => ?_)
 refine Wr.imp (L' := (pt b11 3 [Value.int .i64 (-1001)]) :: (pt b9 3 [Value.int .i64 (-1001)]) :: (pt b7 3 [Value.int .i64 (-1001)]) :: (pt b5 3 [Value.int .i64 (-1000)]) :: (pt b3 3 [Value.int .i64 (-1000)]) :: (pt b1 3 [Value.int .i64 (-1000)]) :: (pt b 81 (bkC 2 (Value.slice (some ⟨nb, 0, none⟩) 2 nc))) :: (pt nb 126 ([v6, Value.int .i64 0, v10, Value.int .i64 1] ++ rest)) :: (sl 3 1 v6 (((n1 + 1) + 1) + 1) (((((List.replicate n1 ((-1000) : Int)).map intV) ++ [Value.int .i64 (-1000)]) ++ [Value.int .i64 (-1000)]) ++ [Value.int .i64 (-1000)])) :: (sl 3 1 v12 (((n2 + 1) + 1) + 1) (((((List.replicate n2 ((-1001) : Int)).map intV) ++ [Value.int .i64 (-1001)]) ++ [Value.int .i64 (-1001)]) ++ [Value.int .i64 (-1001)])) :: F) (fun _ h => h) ?_
 refine Wr.pure (v := Value.pointer (some ⟨nb, 2, none⟩)) 12 rfl (by kernel_rfl) (.inr (fun _ h => st_take [0, 0, 0, 0, 0, 0, 0, 0] h)) (.inl ⟨rfl, fun _ => q_nil_ptr rfl⟩) ?_
 refine Wr.pure (v := Value.pointer (some ⟨nb, 2, none⟩)) 13 rfl (by kernel_rfl) (.inr (fun _ h => st_take [0, 0, 0, 0, 0, 0, 0, 0] h)) (.inl ⟨rfl, fun _ => q_field (m := 2) fo_126_0 rfl rfl⟩) ?_
 refine Wr.e 14 (by kernel_rfl) rfl (e_store (i := 7) (v := v12) sz_23 rfl rfl (fun _ h => sl_one (i := 9) h rfl) rfl (by simp)) (.inl (by kernel_rfl)) (fun _ _ => ?_)
 refine Wr.imp (L' := (pt b11 3 [Value.int .i64 (-1001)]) :: (pt b9 3 [Value.int .i64 (-1001)]) :: (pt b7 3 [Value.int .i64 (-1001)]) :: (pt b5 3 [Value.int .i64 (-1000)]) :: (pt b3 3 [Value.int .i64 (-1000)]) :: (pt b1 3 [Value.int .i64 (-1000)]) :: (pt b 81 (bkC 2 (Value.slice (some ⟨nb, 0, none⟩) 2 nc))) :: (pt nb 126 ([v6, Value.int .i64 0, v12, Value.int .i64 1] ++ rest)) :: (sl 3 1 v6 (((n1 + 1) + 1) + 1) (((((List.replicate n1 ((-1000) : Int)).map intV) ++ [Value.int .i64 (-1000)]) ++ [Value.int .i64 (-1000)]) ++ [Value.int .i64 (-1000)])) :: (sl 3 1 v12 (((n2 + 1) + 1) + 1) (((((List.replicate n2 ((-1001) : Int)).map intV) ++ [Value.int .i64 (-1001)]) ++ [Value.int .i64 (-1001)]) ++ [Value.int .i64 (-1001)])) :: F) (fun _ h => h) ?_
 refine Wr.rebaseS [] ((pt b11 3 [Value.int .i64 (-1001)]) :: (pt b9 3 [Value.int .i64 (-1001)]) :: (pt b7 3 [Value.int .i64 (-1001)]) :: (pt b5 3 [Value.int .i64 (-1000)]) :: (pt b3 3 [Value.int .i64 (-1000)]) :: (pt b1 3 [Value.int .i64 (-1000)]) :: (pt b 81 (bkC 2 (Value.slice (some ⟨nb, 0, none⟩) 2 nc))) :: (pt nb 126 ([v6, Value.int .i64 0, v12, Value.int .i64 1] ++ rest)) :: (sl 3 1 v6 (((n1 + 1) + 1) + 1) (((((List.replicate n1 ((-1000) : Int)).map intV) ++ [Value.int .i64 (-1000)]) ++ [Value.int .i64 (-1000)]) ++ [Value.int .i64 (-1000)])) :: (sl 3 1 v12 (((n2 + 1) + 1) + 1) (((((List.replicate n2 ((-1001) : Int)).map intV) ++ [Value.int .i64 (-1001)]) ++ [Value.int .i64 (-1001)]) ++ [Value.int .i64 (-1001)])) :: []) (by kernel_rfl) ?_
 refine Wr.done (by kernel_rfl) ?_
 refine Wx.blockEnd ?_
 refine Wx.go ?_
 refine Wc.region ?_
 refine Wl.q (v := Value.int .i64 2) (q_move rfl) ?_
 refine Wl.q (v := Value.int .i64 3) (q_add (c := 3) rfl rfl (by decide)) ?_
 refine Wl.q (v := Value.int .i64 3) (q_assign rfl) ?_
 refine Wl.done ?_
 refine Wx.again ?_
 refine Wn.round ?_
 refine Wc.seq ?_
 refine Wc.seq ?_
 refine Wc.region ?_
 refine Wl.q (v := Value.int .i64 3) (q_move rfl) ?_
 refine Wl.q (v := Value.bool false) (q_lss (r := false) rfl rfl (decide_eq_false (by decide))) ?_
 refine Wl.done ?_
 refine Wx.go ?_
 refine Wc.no rfl ?_
 refine Wc.exit ?_
 refine Wx.thenExit ?_
 refine Wx.thenExit ?_
 refine Wx.out ?_
 refine Wx.blockEnd ?_
 refine Wx.go ?_
 refine Wc.region ?_
 refine Wl.q (v := Value.int .i64 2) (q_add (c := 2) rfl rfl (by decide)) ?_
 refine Wl.q (v := Value.int .i64 2) (q_move rfl) ?_
 refine Wl.done ?_
 refine Wx.again ?_
 refine Wn.round ?_
 refine Wc.seq ?_
 refine Wc.region ?_
 refine Wl.q (v := Value.bool false) (q_lss (r := false) rfl rfl (decide_eq_false (by decide))) ?_
 refine Wl.done ?_
 refine Wx.go ?_
 refine Wc.seq ?_
 refine Wc.no rfl ?_
 refine Wc.exit ?_
 refine Wx.thenExit ?_
 refine Wx.thenExit ?_
 refine Wx.out ?_
 refine Wx.fin0 rfl (.inr rfl) (fun w hs => ?_)
 rw [grown_V, grown_V] at hs
 exact ⟨(v6, v12), trivial, rfl, (st_drop (st_drop (st_drop (st_drop (st_drop (st_drop (st_pull [0, 0, 0, 0, 0, 0] hs)))))))⟩

theorem look_n (W0 : World) (b nb nc pb pc qb qc : Nat) (rest : List Value) (n1 n2 : Nat) (h1 : n1 ≤ 1010) (h2 : n2 ≤ 1010) :
    Con Tryz.prog W0 99 #[Value.pointer (some ⟨b, 0, none⟩)] [pt b 81 (bkC 2 (Value.slice (some ⟨nb, 0, none⟩) 2 nc)), pt nb 126 ([Value.slice (some ⟨pb, 0, none⟩) n1 pc, Value.int .i64 0, Value.slice (some ⟨qb, 0, none⟩) n2 qc, Value.int .i64 1] ++ rest), slp 3 1 pb pc ((List.replicate n1 ((-1000) : Int)).map intV), slp 3 1 qb qc ((List.replicate n2 ((-1001) : Int)).map intV)] (X := Unit) (fun _ => True) (fun _ => .bool true) (fun _ => [pt b 81 (bkC 2 (Value.slice (some ⟨nb, 0, none⟩) 2 nc)), pt nb 126 ([Value.slice (some ⟨pb, 0, none⟩) n1 pc, Value.int .i64 0, Value.slice (some ⟨qb, 0, none⟩) n2 qc, Value.int .i64 1] ++ rest), slp 3 1 pb pc ((List.replicate n1 ((-1000) : Int)).map intV), slp 3 1 qb qc ((List.replicate n2 ((-1001) : Int)).map intV)]) := by
  refine Con.of (args := [Value.pointer (some ⟨b, 0, none⟩)]) Tryz.func99 rfl Tryz.ntmps99 rfl (fun F => ?_)
  show Wc _ W0 _ _ _ _ _ ((pt b 81 (bkC 2 (Value.slice (some ⟨nb, 0, none⟩) 2 nc))) :: (pt nb 126 ([Value.slice (some ⟨pb, 0, none⟩) n1 pc, Value.int .i64 0, Value.slice (some ⟨qb, 0, none⟩) n2 qc, Value.int .i64 1] ++ rest)) :: (slp 3 1 pb pc ((List.replicate n1 ((-1000) : Int)).map intV)) :: (slp 3 1 qb qc ((List.replicate n2 ((-1001) : Int)).map intV)) :: F)
  refine Wc.seq ?_
  refine Wc.region ?_
  refine Wl.q (v := Value.bool false) (q_assign rfl) ?_
  refine Wl.done ?_
  refine Wx.go ?_
  refine Wc.seq ?_
  refine Wc.seq ?_
  refine Wc.region ?_
  refine Wl.q (v := Value.pointer (some ⟨b, 0, none⟩)) (q_move rfl) ?_
  refine Wl.q (v := Value.pointer (some ⟨b, 0, none⟩)) (q_nil_ptr rfl) ?_
  refine Wl.q (v := Value.pointer (some ⟨b, 2, none⟩)) (q_field (m := 2) fo_81_2 rfl rfl) ?_
  refine Wl.q (v := Value.slice (some ⟨nb, 0, none⟩) 2 nc) (q_load sc_47 rfl (.cel (i := 0) rfl rfl)) ?_
  refine Wl.q (v := Value.int .i64 2) (q_len_slice Tryz.underlying47 rfl) ?_
  refine Wl.q (v := Value.int .i64 0) (q_move rfl) ?_
  refine Wl.done ?_
  refine Wx.go ?_
  refine Wc.block ?_
  refine Wc.rounds 3 ?_
  refine Wn.round ?_
  refine Wc.seq ?_
  refine Wc.region ?_
  refine Wl.q (v := Value.bool true) (q_lss (r := true) rfl rfl (decide_eq_true (by decide))) ?_
  refine Wl.done ?_
  refine Wx.go ?_
  refine Wc.seq ?_
  refine Wc.yes rfl ?_
  refine Wc.skip ?_
  refine Wx.go ?_
  refine Wc.seq ?_
  refine Wc.block ?_
  refine Wc.seq ?_
  refine Wc.region ?_
  refine Wl.q (v := Value.pointer (some ⟨nb, 0, none⟩)) (q_idx (m := 0) se_47 rfl rfl (by omega) (by omega) rfl) ?_
  refine Wl.q (v := Value.agg #[Value.slice (some ⟨pb, 0, none⟩) n1 pc, Value.int .i64 0]) (q_loadAgg (vs := [Value.slice (some ⟨pb, 0, none⟩) n1 pc, Value.int .i64 0]) ag_126 rfl (Has.of_pt (i := 1) rfl rfl)) ?_
  refine Wl.e (e_alloc (vs := [Value.slice none 0 0, Value.int .i64 0]) zo_126 rfl) (fun b1 _ => ?_)
  refine Wl.imp (L' := (pt b1 126 [Value.slice none 0 0, Value.int .i64 0]) :: (pt b 81 (bkC 2 (Value.slice (some ⟨nb, 0, none⟩) 2 nc))) :: (pt nb 126 ([Value.slice (some ⟨pb, 0, none⟩) n1 pc, Value.int .i64 0, Value.slice (some ⟨qb, 0, none⟩) n2 qc, Value.int .i64 1] ++ rest)) :: (slp 3 1 pb pc ((List.replicate n1 ((-1000) : Int)).map intV)) :: (slp 3 1 qb qc ((List.replicate n2 ((-1001) : Int)).map intV)) :: F) (fun _ h => h) ?_
  refine Wl.e (e_storeAgg (i := 0) (vs := [Value.slice (some ⟨pb, 0, none⟩) n1 pc, Value.int .i64 0]) (c' := [Value.slice (some ⟨pb, 0, none⟩) n1 pc, Value.int .i64 0]) sz_126 rfl rfl rfl rfl (by simp) rfl) (fun _ _ => ?_)
  refine Wl.imp (L' := (pt b1 126 [Value.slice (some ⟨pb, 0, none⟩) n1 pc, Value.int .i64 0]) :: (pt b 81 (bkC 2 (Value.slice (some ⟨nb, 0, none⟩) 2 nc))) :: (pt nb 126 ([Value.slice (some ⟨pb, 0, none⟩) n1 pc, Value.int .i64 0, Value.slice (some ⟨qb, 0, none⟩) n2 qc, Value.int .i64 1] ++ rest)) :: (slp 3 1 pb pc ((List.replicate n1 ((-1000) : Int)).map intV)) :: (slp 3 1 qb qc ((List.replicate n2 ((-1001) : Int)).map intV)) :: F) (fun _ h => h) ?_
  refine Wl.done ?_
  refine Wx.go ?_
  refine Wc.seq ?_
  refine Wc.region ?_
  refine Wl.q (v := Value.pointer (some ⟨b1, 0, none⟩)) (q_field (m := 0) fo_126_0 rfl rfl) ?_
  refine Wl.q (v := Value.slice (some ⟨pb, 0, none⟩) n1 pc) (q_load sc_23 rfl (.cel (i := 0) rfl rfl)) ?_
  refine Wl.q (v := Value.int .i64 ((n1 : Nat) : Int)) (q_len_slice Tryz.underlying23 rfl) ?_
  refine Wl.q (v := Value.int .i64 0) (q_move rfl) ?_
  refine Wl.done ?_
  refine Wx.go ?_
  refine Wc.block ?_
  refine Wc.loop (X := Nat) (fun k E => E 19 = Value.int .i64 ((k : Nat) : Int) ∧ E 4 = Value.pointer (some ⟨b1, 0, none⟩) ∧ E 10 = Value.slice (some ⟨nb, 0, none⟩) 2 nc ∧ E 11 = Value.int .i64 2 ∧ E 12 = Value.int .i64 0 ∧ E 17 = Value.slice (some ⟨pb, 0, none⟩) n1 pc ∧ E 18 = Value.int .i64 ((n1 : Nat) : Int) ∧ k ≤ n1) (fun k => (pt b 81 (bkC 2 (Value.slice (some ⟨nb, 0, none⟩) 2 nc))) :: (pt nb 126 ([Value.slice (some ⟨pb, 0, none⟩) n1 pc, Value.int .i64 0, Value.slice (some ⟨qb, 0, none⟩) n2 qc, Value.int .i64 1] ++ rest)) :: (slp 3 1 pb pc ((List.replicate n1 ((-1000) : Int)).map intV)) :: (slp 3 1 qb qc ((List.replicate n2 ((-1001) : Int)).map intV)) :: (pt b1 126 [Value.slice (some ⟨pb, 0, none⟩) n1 pc, Value.int .i64 0]) :: F) (fun k => n1 - k) 0 ?_ ?_ ?_
  · exact ⟨rfl, rfl, rfl, rfl, rfl, rfl, rfl, (Nat.zero_le _)⟩
  · exact fun w hs => (st_pull [1, 1, 1, 1, 0] (hs))
  · rintro k E3 ⟨hE19_1, hE4_1, hE10_1, hE11_1, hE12_1, hE17_1, hE18_1, hk⟩
    refine Wc.seq ?_
    refine Wc.region ?_
    by_cases hlt : ((k : Nat) : Int) < ((n1 : Nat) : Int)
    ·
      have hget : (List.replicate n1 ((-1000) : Int))[k]? = some (-1000) := by rw [List.getElem?_replicate, if_pos (by omega)]
      refine Wl.q (v := Value.bool true) (q_lss (r := true) hE19_1 hE18_1 (decide_eq_true hlt)) ?_
      refine Wl.done ?_
      refine Wx.go ?_
      refine Wc.seq ?_
      refine Wc.yes rfl ?_
      refine Wc.skip ?_
      refine Wx.go ?_
      refine Wc.seq ?_
      refine Wc.block ?_
      refine Wc.seq ?_
      refine Wc.region ?_
      refine Wl.q (v := Value.pointer (some ⟨pb, k, none⟩)) (q_idx (m := k) se_23 hE17_1 hE19_1 (by omega) (by omega) (by simp)) ?_
      refine Wl.q (v := Value.int .i64 (-1000)) (q_load sc_3 rfl (.row (i := 2) rfl (map_at hget))) ?_
      refine Wl.q (v := Value.int .i64 (-1000)) (q_assign rfl) ?_
      refine Wl.done ?_
      refine Wx.go ?_
      refine Wc.seq ?_
      refine Wc.region ?_
      refine Wl.q (v := Value.int .i64 (-1000)) (q_move rfl) ?_
      refine Wl.q (v := Value.pointer (some ⟨b1, 1, none⟩)) (q_field (m := 1) fo_126_1 hE4_1 rfl) ?_
      refine Wl.q (v := Value.int .i64 0) (q_load sc_3 rfl (.cel (i := 4) rfl rfl)) ?_
      refine Wl.e (e_call (F := (pt b 81 (bkC 2 (Value.slice (some ⟨nb, 0, none⟩) 2 nc))) :: (pt nb 126 ([Value.slice (some ⟨pb, 0, none⟩) n1 pc, Value.int .i64 0, Value.slice (some ⟨qb, 0, none⟩) n2 qc, Value.int .i64 1] ++ rest)) :: (slp 3 1 pb pc ((List.replicate n1 ((-1000) : Int)).map intV)) :: (slp 3 1 qb qc ((List.replicate n2 ((-1001) : Int)).map intV)) :: (pt b1 126 [Value.slice (some ⟨pb, 0, none⟩) n1 pc, Value.int .i64 0]) :: F) (args := [Value.int .i64 (-1000), Value.int .i64 0]) Tryz.call177 rfl (isn_0 W0)) (fun _ _ => ?_)
      refine Wl.imp (L' := (pt b 81 (bkC 2 (Value.slice (some ⟨nb, 0, none⟩) 2 nc))) :: (pt nb 126 ([Value.slice (some ⟨pb, 0, none⟩) n1 pc, Value.int .i64 0, Value.slice (some ⟨qb, 0, none⟩) n2 qc, Value.int .i64 1] ++ rest)) :: (slp 3 1 pb pc ((List.replicate n1 ((-1000) : Int)).map intV)) :: (slp 3 1 qb qc ((List.replicate n2 ((-1001) : Int)).map intV)) :: (pt b1 126 [Value.slice (some ⟨pb, 0, none⟩) n1 pc, Value.int .i64 0]) :: F) (fun _ h => h) ?_
      refine Wl.q (v := Value.bool false) (q_not rfl rfl) ?_
      refine Wl.done ?_
      refine Wx.go ?_
      refine Wc.no rfl ?_
      refine Wc.skip ?_
      refine Wx.blockEnd ?_
      refine Wx.go ?_
      refine Wc.region ?_
      refine Wl.q (v := Value.int .i64 ((k + 1 : Nat) : Int)) (q_add (c := ((k + 1 : Nat) : Int)) hE19_1 rfl (by rw [wrap_i64] <;> omega)) ?_
      refine Wl.q (v := Value.int .i64 ((k + 1 : Nat) : Int)) (q_move rfl) ?_
      refine Wl.done ?_
      refine Wx.at (k + 1) ⟨(by omega), rfl, hE4_1, hE10_1, hE11_1, hE12_1, hE17_1, hE18_1, (by omega)⟩ (fun w hs => hs)
    ·
      refine Wl.q (v := Value.bool false) (q_lss (r := false) hE19_1 hE18_1 (decide_eq_false hlt)) ?_
      refine Wl.done ?_
      refine Wx.go ?_
      refine Wc.seq ?_
      refine Wc.no rfl ?_
      refine Wc.exit ?_
      refine Wx.thenExit ?_
      refine Wx.thenExit ?_
      refine Wx.out ?_
      refine Wx.blockEnd ?_
      refine Wx.go ?_
      refine Wc.region ?_
      refine Wl.q (v := Value.int .i64 1) (q_add (c := 1) hE12_1 rfl (by decide)) ?_
      refine Wl.q (v := Value.int .i64 1) (q_move rfl) ?_
      refine Wl.done ?_
      refine Wx.again ?_
      refine Wn.round ?_
      refine Wc.seq ?_
      refine Wc.region ?_
      refine Wl.q (v := Value.bool true) (q_lss (r := true) rfl hE11_1 (decide_eq_true (by decide))) ?_
      refine Wl.done ?_
      refine Wx.go ?_
      refine Wc.seq ?_
      refine Wc.yes rfl ?_
      refine Wc.skip ?_
      refine Wx.go ?_
      refine Wc.seq ?_
      refine Wc.block ?_
      refine Wc.seq ?_
      refine Wc.region ?_
      refine Wl.q (v := Value.pointer (some ⟨nb, 2, none⟩)) (q_idx (m := 2) se_47 hE10_1 rfl (by omega) (by omega) rfl) ?_
      refine Wl.q (v := Value.agg #[Value.slice (some ⟨qb, 0, none⟩) n2 qc, Value.int .i64 1]) (q_loadAgg (vs := [Value.slice (some ⟨qb, 0, none⟩) n2 qc, Value.int .i64 1]) ag_126 rfl (Has.of_pt (i := 1) rfl rfl)) ?_
      refine Wl.e (e_alloc (vs := [Value.slice none 0 0, Value.int .i64 0]) zo_126 rfl) (fun b4 _ => ?_)
      refine Wl.imp (L' := (pt b4 126 [Value.slice none 0 0, Value.int .i64 0]) :: (pt b 81 (bkC 2 (Value.slice (some ⟨nb, 0, none⟩) 2 nc))) :: (pt nb 126 ([Value.slice (some ⟨pb, 0, none⟩) n1 pc, Value.int .i64 0, Value.slice (some ⟨qb, 0, none⟩) n2 qc, Value.int .i64 1] ++ rest)) :: (slp 3 1 pb pc ((List.replicate n1 ((-1000) : Int)).map intV)) :: (slp 3 1 qb qc ((List.replicate n2 ((-1001) : Int)).map intV)) :: (pt b1 126 [Value.slice (some ⟨pb, 0, none⟩) n1 pc, Value.int .i64 0]) :: F) (fun _ h => h) ?_
      refine Wl.e (e_storeAgg (i := 0) (vs := [Value.slice (some ⟨qb, 0, none⟩) n2 qc, Value.int .i64 1]) (c' := [Value.slice (some ⟨qb, 0, none⟩) n2 qc, Value.int .i64 1]) sz_126 rfl rfl rfl rfl (by simp) rfl) (fun _ _ => ?_)
      refine Wl.imp (L' := (pt b4 126 [Value.slice (some ⟨qb, 0, none⟩) n2 qc, Value.int .i64 1]) :: (pt b 81 (bkC 2 (Value.slice (some ⟨nb, 0, none⟩) 2 nc))) :: (pt nb 126 ([Value.slice (some ⟨pb, 0, none⟩) n1 pc, Value.int .i64 0, Value.slice (some ⟨qb, 0, none⟩) n2 qc, Value.int .i64 1] ++ rest)) :: (slp 3 1 pb pc ((List.replicate n1 ((-1000) : Int)).map intV)) :: (slp 3 1 qb qc ((List.replicate n2 ((-1001) : Int)).map intV)) :: (pt b1 126 [Value.slice (some ⟨pb, 0, none⟩) n1 pc, Value.int .i64 0]) :: F) (fun _ h => h) ?_
      refine Wl.done ?_
      refine Wx.go ?_
      refine Wc.seq ?_
      refine Wc.region ?_
      refine Wl.q (v := Value.pointer (some ⟨b4, 0, none⟩)) (q_field (m := 0) fo_126_0 rfl rfl) ?_
      refine Wl.q (v := Value.slice (some ⟨qb, 0, none⟩) n2 qc) (q_load sc_23 rfl (.cel (i := 0) rfl rfl)) ?_
      refine Wl.q (v := Value.int .i64 ((n2 : Nat) : Int)) (q_len_slice Tryz.underlying23 rfl) ?_
      refine Wl.q (v := Value.int .i64 0) (q_move rfl) ?_
      refine Wl.done ?_
      refine Wx.go ?_
      refine Wc.block ?_
      refine Wc.loop (X := Nat) (fun k E => E 19 = Value.int .i64 ((k : Nat) : Int) ∧ E 4 = Value.pointer (some ⟨b4, 0, none⟩) ∧ E 10 = Value.slice (some ⟨nb, 0, none⟩) 2 nc ∧ E 11 = Value.int .i64 2 ∧ E 12 = Value.int .i64 1 ∧ E 17 = Value.slice (some ⟨qb, 0, none⟩) n2 qc ∧ E 18 = Value.int .i64 ((n2 : Nat) : Int) ∧ k ≤ n2) (fun k => (pt b 81 (bkC 2 (Value.slice (some ⟨nb, 0, none⟩) 2 nc))) :: (pt nb 126 ([Value.slice (some ⟨pb, 0, none⟩) n1 pc, Value.int .i64 0, Value.slice (some ⟨qb, 0, none⟩) n2 qc, Value.int .i64 1] ++ rest)) :: (slp 3 1 pb pc ((List.replicate n1 ((-1000) : Int)).map intV)) :: (slp 3 1 qb qc ((List.replicate n2 ((-1001) : Int)).map intV)) :: (pt b4 126 [Value.slice (some ⟨qb, 0, none⟩) n2 qc, Value.int .i64 1]) :: F) (fun k => n2 - k) 0 ?_ ?_ ?_
      · exact ⟨rfl, rfl, hE10_1, hE11_1, rfl, rfl, rfl, (Nat.zero_le _)⟩
      · exact fun w hs => (st_pull [1, 1, 1, 1, 0] (st_drop (st_pull [5] hs)))
      · rintro k E6 ⟨hE19_4, hE4_4, hE10_4, hE11_4, hE12_4, hE17_4, hE18_4, hk⟩
        refine Wc.seq ?_
        refine Wc.region ?_
        by_cases hlt : ((k : Nat) : Int) < ((n2 : Nat) : Int)
        ·
          have hget : (List.replicate n2 ((-1001) : Int))[k]? = some (-1001) := by rw [List.getElem?_replicate, if_pos (by omega)]
          refine Wl.q (v := Value.bool true) (q_lss (r := true) hE19_4 hE18_4 (decide_eq_true hlt)) ?_
          refine Wl.done ?_
          refine Wx.go ?_
          refine Wc.seq ?_
          refine Wc.yes rfl ?_
          refine Wc.skip ?_
          refine Wx.go ?_
          refine Wc.seq ?_
          refine Wc.block ?_
          refine Wc.seq ?_
          refine Wc.region ?_
          refine Wl.q (v := Value.pointer (some ⟨qb, k, none⟩)) (q_idx (m := k) se_23 hE17_4 hE19_4 (by omega) (by omega) (by simp)) ?_
          refine Wl.q (v := Value.int .i64 (-1001)) (q_load sc_3 rfl (.row (i := 3) rfl (map_at hget))) ?_
          refine Wl.q (v := Value.int .i64 (-1001)) (q_assign rfl) ?_
          refine Wl.done ?_
          refine Wx.go ?_
          refine Wc.seq ?_
          refine Wc.region ?_
          refine Wl.q (v := Value.int .i64 (-1001)) (q_move rfl) ?_
          refine Wl.q (v := Value.pointer (some ⟨b4, 1, none⟩)) (q_field (m := 1) fo_126_1 hE4_4 rfl) ?_
          refine Wl.q (v := Value.int .i64 1) (q_load sc_3 rfl (.cel (i := 4) rfl rfl)) ?_
          refine Wl.e (e_call (F := (pt b 81 (bkC 2 (Value.slice (some ⟨nb, 0, none⟩) 2 nc))) :: (pt nb 126 ([Value.slice (some ⟨pb, 0, none⟩) n1 pc, Value.int .i64 0, Value.slice (some ⟨qb, 0, none⟩) n2 qc, Value.int .i64 1] ++ rest)) :: (slp 3 1 pb pc ((List.replicate n1 ((-1000) : Int)).map intV)) :: (slp 3 1 qb qc ((List.replicate n2 ((-1001) : Int)).map intV)) :: (pt b4 126 [Value.slice (some ⟨qb, 0, none⟩) n2 qc, Value.int .i64 1]) :: F) (args := [Value.int .i64 (-1001), Value.int .i64 1]) Tryz.call177 rfl (isn_1 W0)) (fun _ _ => ?_)
          refine Wl.imp (L' := (pt b 81 (bkC 2 (Value.slice (some ⟨nb, 0, none⟩) 2 nc))) :: (pt nb 126 ([Value.slice (some ⟨pb, 0, none⟩) n1 pc, Value.int .i64 0, Value.slice (some ⟨qb, 0, none⟩) n2 qc, Value.int .i64 1] ++ rest)) :: (slp 3 1 pb pc ((List.replicate n1 ((-1000) : Int)).map intV)) :: (slp 3 1 qb qc ((List.replicate n2 ((-1001) : Int)).map intV)) :: (pt b4 126 [Value.slice (some ⟨qb, 0, none⟩) n2 qc, Value.int .i64 1]) :: F) (fun _ h => h) ?_
          refine Wl.q (v := Value.bool false) (q_not rfl rfl) ?_
          refine Wl.done ?_
          refine Wx.go ?_
          refine Wc.no rfl ?_
          refine Wc.skip ?_
          refine Wx.blockEnd ?_
          refine Wx.go ?_
          refine Wc.region ?_
          refine Wl.q (v := Value.int .i64 ((k + 1 : Nat) : Int)) (q_add (c := ((k + 1 : Nat) : Int)) hE19_4 rfl (by rw [wrap_i64] <;> omega)) ?_
          refine Wl.q (v := Value.int .i64 ((k + 1 : Nat) : Int)) (q_move rfl) ?_
          refine Wl.done ?_
          refine Wx.at (k + 1) ⟨(by omega), rfl, hE4_4, hE10_4, hE11_4, hE12_4, hE17_4, hE18_4, (by omega)⟩ (fun w hs => hs)
        ·
          refine Wl.q (v := Value.bool false) (q_lss (r := false) hE19_4 hE18_4 (decide_eq_false hlt)) ?_
          refine Wl.done ?_
          refine Wx.go ?_
          refine Wc.seq ?_
          refine Wc.no rfl ?_
          refine Wc.exit ?_
          refine Wx.thenExit ?_
          refine Wx.thenExit ?_
          refine Wx.out ?_
          refine Wx.blockEnd ?_
          refine Wx.go ?_
          refine Wc.region ?_
          refine Wl.q (v := Value.int .i64 2) (q_add (c := 2) hE12_4 rfl (by decide)) ?_
          refine Wl.q (v := Value.int .i64 2) (q_move rfl) ?_
          refine Wl.done ?_
          refine Wx.again ?_
          refine Wn.round ?_
          refine Wc.seq ?_
          refine Wc.region ?_
          refine Wl.q (v := Value.bool false) (q_lss (r := false) rfl hE11_4 (decide_eq_false (by decide))) ?_
          refine Wl.done ?_
          refine Wx.go ?_
          refine Wc.seq ?_
          refine Wc.no rfl ?_
          refine Wc.exit ?_
          refine Wx.thenExit ?_
          refine Wx.thenExit ?_
          refine Wx.out ?_
          refine Wx.go ?_
          refine Wc.seq ?_
          refine Wc.region ?_
          refine Wl.q (v := Value.bool true) (q_assign rfl) ?_
          refine Wl.done ?_
          refine Wx.go ?_
          refine Wc.ret ?_
          refine Wx.fin1 rfl (.inl rfl) (fun w hs => ?_)
          exact ⟨(), trivial, rfl, (st_drop (st_pull [4] hs))⟩

end Go.Proofs.YtjjghmkjdgogiaaGreatDoor
