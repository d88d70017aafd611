/- What follows: contracts of the calls. -/
import Derived.Test.YtjjghmkjdgogiaaGreatDoorDdCh
import Derived.Test.YtjjghmkjdgogiaaGreatDoorSLN
namespace Go.Proofs.YtjjghmkjdgogiaaGreatDoor
open Go Go.SL Go.Dd Go.RowKit
set_option linter.unusedVariables false
set_option maxRecDepth 8000
theorem fo_39_0 : fieldOff Tryz.prog 39 0 = some 0 := by kernel_rfl
theorem sc_24 : scalar Tryz.prog 24 = true := by kernel_rfl
theorem fo_39_1 : fieldOff Tryz.prog 39 1 = some 1 := by kernel_rfl
theorem fo_39_2 : fieldOff Tryz.prog 39 2 = some 2 := by kernel_rfl
theorem fo_39_3 : fieldOff Tryz.prog 39 3 = some 3 := by kernel_rfl
theorem sc_37 : scalar Tryz.prog 37 = true := by kernel_rfl
theorem zo_39 : zeroOf Tryz.prog 39 = some (Value.agg #[Value.pointer none, Value.int .i64 0, Value.int .i64 0, Value.map none]) := by kernel_rfl
def leftV (l : List (Nat × Nat)) : List (Value × Value) := l.map fun p => (natV p.1, natV p.2)

theorem step_w (W0 : World) (c mb s : Nat) (ts : List TermR) (z n : Nat) (hw : Wf ts) (hz : 1 ≤ z ∧ z ≤ ts.length) (hl : ts.length + 2 ≤ 1048576) (hn : n < 9223372036854775807) :
  Con Tryz.prog W0 23 #[Value.pointer (some ⟨c, 0, none⟩)] [pt c 39 [Value.pointer (some ⟨s, 0, none⟩), Value.int .i64 ((z : Nat) : Int), Value.int .i64 ((n : Nat) : Int), Value.map (some mb)], storeW s ts] (X := Unit) (fun _ => True) (fun _ => .tuple #[.int .i64 (((mk ts ⟨4, 11, (z : Int), 0⟩).2.1 : Nat) : Int), .int .i64 0]) (fun _ => [pt c 39 [Value.pointer (some ⟨s, 0, none⟩), Value.int .i64 (((mk (mk ts ⟨4, 11, (z : Int), 0⟩).1 ⟨4, 10, (z : Int), 0⟩).2.1 : Nat) : Int), Value.int .i64 (((n + 1) : Nat) : Int), Value.map (some mb)], storeW s ((mk (mk ts ⟨4, 11, (z : Int), 0⟩).1 ⟨4, 10, (z : Int), 0⟩).1)]) := by
 refine Con.of (args := [Value.pointer (some ⟨c, 0, none⟩)]) Tryz.func23 rfl Tryz.ntmps23 rfl (fun F => ?_)
 obtain ⟨ok1, e1, a1, I1⟩ := kdf_made (l := 11) (a := (z : Int)) (b := 0) hw (by decide) (by omega) (.inr rfl) (by omega)
 have I1l := I1.len
 have I1e := I1.ext.len
 simp only at I1l I1e
 obtain ⟨ok2, e2, a2, I2⟩ := kdf_made (l := 10) (a := (z : Int)) (b := 0) I1.wf (by decide) (by simp only; omega) (.inr rfl) (by simp only; omega)
 show Wc _ W0 _ _ _ _ _ ((pt c 39 [Value.pointer (some ⟨s, 0, none⟩), Value.int .i64 ((z : Nat) : Int), Value.int .i64 ((n : Nat) : Int), Value.map (some mb)]) :: (storeW s ts) :: F)
 refine Wc.seq ?_
 refine Wc.region ?_
 refine Wl.q (v := Value.int .i64 0) (q_assign rfl) ?_
 refine Wl.q (v := Value.int .i64 0) (q_assign rfl) ?_
 refine Wl.done ?_
 refine Wx.go ?_
 refine Wc.seq ?_
 refine Wc.drawsS [8] ((pt c 39 [Value.pointer (some ⟨s, 0, none⟩), Value.int .i64 ((z : Nat) : Int), Value.int .i64 ((n : Nat) : Int), Value.map (some mb)]) :: (storeW s ts) :: []) (by kernel_rfl) ?_
 refine Wr.pure (v := Value.pointer (some ⟨c, 0, none⟩)) 0 rfl (by kernel_rfl) (.inr (fun _ h => st_take [0, 0] h)) (.inl ⟨rfl, fun _ => q_move rfl⟩) ?_
 refine Wr.pure (v := Value.pointer (some ⟨c, 0, none⟩)) 1 rfl (by kernel_rfl) (.inr (fun _ h => st_take [0, 0] h)) (.inl ⟨rfl, fun _ => q_nil_ptr rfl⟩) ?_
 refine Wr.pure (v := Value.pointer (some ⟨c, 0, none⟩)) 2 rfl (by kernel_rfl) (.inr (fun _ h => st_take [0, 0] h)) (.inl ⟨rfl, fun _ => q_field (m := 0) fo_39_0 rfl rfl⟩) ?_
 refine Wr.take (v := Value.pointer (some ⟨s, 0, none⟩)) 3 rfl (by kernel_rfl) (fun _ h => st_take [0, 0] h) (.inl ⟨rfl, q_load sc_24 rfl (.cel (i := 0) rfl rfl)⟩) ?_
 refine Wr.pure (v := Value.pointer (some ⟨c, 0, none⟩)) 4 rfl (by kernel_rfl) (.inr (fun _ h => st_take [0, 0] h)) (.inl ⟨rfl, fun _ => q_move rfl⟩) ?_
 refine Wr.pure (v := Value.pointer (some ⟨c, 0, none⟩)) 5 rfl (by kernel_rfl) (.inr (fun _ h => st_take [0, 0] h)) (.inl ⟨rfl, fun _ => q_nil_ptr rfl⟩) ?_
 refine Wr.pure (v := Value.pointer (some ⟨c, 1, none⟩)) 6 rfl (by kernel_rfl) (.inr (fun _ h => st_take [0, 0] h)) (.inl ⟨rfl, fun _ => q_field (m := 1) fo_39_1 rfl rfl⟩) ?_
 refine Wr.take (v := Value.int .i64 ((z : Nat) : Int)) 7 rfl (by kernel_rfl) (fun _ h => st_take [0, 0] h) (.inl ⟨rfl, q_load sc_3 rfl (.cel (i := 0) rfl rfl)⟩) ?_
 refine Wr.imp (L' := (storeW s ts) :: (pt c 39 [Value.pointer (some ⟨s, 0, none⟩), Value.int .i64 ((z : Nat) : Int), Value.int .i64 ((n : Nat) : Int), Value.map (some mb)]) :: F) (fun _ h => st_pull [1] h) ?_
 refine Wr.e 8 (by kernel_rfl) rfl (e_call (F := (pt c 39 [Value.pointer (some ⟨s, 0, none⟩), Value.int .i64 ((z : Nat) : Int), Value.int .i64 ((n : Nat) : Int), Value.map (some mb)]) :: F) (args := [Value.pointer (some ⟨s, 0, none⟩), Value.int .i64 11, Value.int .i64 ((z : Nat) : Int), Value.int .i64 0]) Tryz.call137 rfl (kdf_w W0 s ts ((mk ts ⟨4, 11, ((z : Nat) : Int), 0⟩).1) 11 ((z : Nat) : Int) 0 ((mk ts ⟨4, 11, ((z : Nat) : Int), 0⟩).2.1) ok1 e1)) (.inl (by kernel_rfl)) (fun _ _ => ?_)
 refine Wr.imp (L' := (storeW s ((mk ts ⟨4, 11, ((z : Nat) : Int), 0⟩).1)) :: (pt c 39 [Value.pointer (some ⟨s, 0, none⟩), Value.int .i64 ((z : Nat) : Int), Value.int .i64 ((n : Nat) : Int), Value.map (some mb)]) :: F) (fun _ h => h) ?_
 refine Wr.rebaseS [] ((storeW s ((mk ts ⟨4, 11, ((z : Nat) : Int), 0⟩).1)) :: (pt c 39 [Value.pointer (some ⟨s, 0, none⟩), Value.int .i64 ((z : Nat) : Int), Value.int .i64 ((n : Nat) : Int), Value.map (some mb)]) :: []) (by kernel_rfl) ?_
 refine Wr.pure (v := Value.tuple #[Value.int .i64 (((mk ts ⟨4, 11, ((z : Nat) : Int), 0⟩).2.1 : Nat) : Int), Value.int .i64 0]) 9 rfl (by kernel_rfl) (.inr (fun _ h => st_take [0, 0] h)) (.inl ⟨rfl, fun _ => q_move rfl⟩) ?_
 refine Wr.pure (v := Value.int .i64 (((mk ts ⟨4, 11, ((z : Nat) : Int), 0⟩).2.1 : Nat) : Int)) 10 rfl (by kernel_rfl) (.inr (fun _ h => st_take [0, 0] h)) (.inl ⟨rfl, fun _ => q_extract (i := 0) rfl rfl⟩) ?_
 refine Wr.pure (v := Value.int .i64 0) 11 rfl (by kernel_rfl) (.inr (fun _ h => st_take [0, 0] h)) (.inl ⟨rfl, fun _ => q_extract (i := 1) rfl rfl⟩) ?_
 refine Wr.pure (v := Value.int .i64 (((mk ts ⟨4, 11, ((z : Nat) : Int), 0⟩).2.1 : Nat) : Int)) 12 rfl (by kernel_rfl) (.inr (fun _ h => st_take [0, 0] h)) (.inl ⟨rfl, fun _ => q_assign rfl⟩) ?_
 refine Wr.pure (v := Value.int .i64 0) 13 rfl (by kernel_rfl) (.inr (fun _ h => st_take [0, 0] h)) (.inl ⟨rfl, fun _ => q_assign rfl⟩) ?_
 refine Wr.done (by kernel_rfl) ?_
 refine Wx.go ?_
 refine Wc.seq ?_
 refine Wc.seq ?_
 refine Wc.region ?_
 refine Wl.q (v := Value.int .i64 0) (q_move rfl) ?_
 refine Wl.q (v := Value.bool false) (q_neq (r := true) rfl rfl (decide_eq_true (by decide))) ?_
 refine Wl.done ?_
 refine Wx.go ?_
 refine Wc.no rfl ?_
 refine Wc.skip ?_
 refine Wx.go ?_
 refine Wc.seq ?_
 refine Wc.drawsS [8] ((storeW s ((mk ts ⟨4, 11, ((z : Nat) : Int), 0⟩).1)) :: (pt c 39 [Value.pointer (some ⟨s, 0, none⟩), Value.int .i64 ((z : Nat) : Int), Value.int .i64 ((n : Nat) : Int), Value.map (some mb)]) :: []) (by kernel_rfl) ?_
 refine Wr.pure (v := Value.pointer (some ⟨c, 0, none⟩)) 0 rfl (by kernel_rfl) (.inr (fun _ h => st_take [0, 0] h)) (.inl ⟨rfl, fun _ => q_move rfl⟩) ?_
 refine Wr.pure (v := Value.pointer (some ⟨c, 0, none⟩)) 1 rfl (by kernel_rfl) (.inr (fun _ h => st_take [0, 0] h)) (.inl ⟨rfl, fun _ => q_nil_ptr rfl⟩) ?_
 refine Wr.pure (v := Value.pointer (some ⟨c, 0, none⟩)) 2 rfl (by kernel_rfl) (.inr (fun _ h => st_take [0, 0] h)) (.inl ⟨rfl, fun _ => q_field (m := 0) fo_39_0 rfl rfl⟩) ?_
 refine Wr.take (v := Value.pointer (some ⟨s, 0, none⟩)) 3 rfl (by kernel_rfl) (fun _ h => st_take [0, 0] h) (.inl ⟨rfl, q_load sc_24 rfl (.cel (i := 1) rfl rfl)⟩) ?_
 refine Wr.pure (v := Value.pointer (some ⟨c, 0, none⟩)) 4 rfl (by kernel_rfl) (.inr (fun _ h => st_take [0, 0] h)) (.inl ⟨rfl, fun _ => q_move rfl⟩) ?_
 refine Wr.pure (v := Value.pointer (some ⟨c, 0, none⟩)) 5 rfl (by kernel_rfl) (.inr (fun _ h => st_take [0, 0] h)) (.inl ⟨rfl, fun _ => q_nil_ptr rfl⟩) ?_
 refine Wr.pure (v := Value.pointer (some ⟨c, 1, none⟩)) 6 rfl (by kernel_rfl) (.inr (fun _ h => st_take [0, 0] h)) (.inl ⟨rfl, fun _ => q_field (m := 1) fo_39_1 rfl rfl⟩) ?_
 refine Wr.take (v := Value.int .i64 ((z : Nat) : Int)) 7 rfl (by kernel_rfl) (fun _ h => st_take [0, 0] h) (.inl ⟨rfl, q_load sc_3 rfl (.cel (i := 1) rfl rfl)⟩) ?_
 refine Wr.e 8 (by kernel_rfl) rfl (e_call (F := (pt c 39 [Value.pointer (some ⟨s, 0, none⟩), Value.int .i64 ((z : Nat) : Int), Value.int .i64 ((n : Nat) : Int), Value.map (some mb)]) :: F) (args := [Value.pointer (some ⟨s, 0, none⟩), Value.int .i64 10, Value.int .i64 ((z : Nat) : Int), Value.int .i64 0]) Tryz.call137 rfl (kdf_w W0 s ((mk ts ⟨4, 11, ((z : Nat) : Int), 0⟩).1) ((mk ((mk ts ⟨4, 11, ((z : Nat) : Int), 0⟩).1) ⟨4, 10, ((z : Nat) : Int), 0⟩).1) 10 ((z : Nat) : Int) 0 ((mk ((mk ts ⟨4, 11, ((z : Nat) : Int), 0⟩).1) ⟨4, 10, ((z : Nat) : Int), 0⟩).2.1) ok2 e2)) (.inl (by kernel_rfl)) (fun _ _ => ?_)
 refine Wr.imp (L' := (storeW s ((mk ((mk ts ⟨4, 11, ((z : Nat) : Int), 0⟩).1) ⟨4, 10, ((z : Nat) : Int), 0⟩).1)) :: (pt c 39 [Value.pointer (some ⟨s, 0, none⟩), Value.int .i64 ((z : Nat) : Int), Value.int .i64 ((n : Nat) : Int), Value.map (some mb)]) :: F) (fun _ h => h) ?_
 refine Wr.rebaseS [] ((storeW s ((mk ((mk ts ⟨4, 11, ((z : Nat) : Int), 0⟩).1) ⟨4, 10, ((z : Nat) : Int), 0⟩).1)) :: (pt c 39 [Value.pointer (some ⟨s, 0, none⟩), Value.int .i64 ((z : Nat) : Int), Value.int .i64 ((n : Nat) : Int), Value.map (some mb)]) :: []) (by kernel_rfl) ?_
 refine Wr.pure (v := Value.tuple #[Value.int .i64 (((mk ((mk ts ⟨4, 11, ((z : Nat) : Int), 0⟩).1) ⟨4, 10, ((z : Nat) : Int), 0⟩).2.1 : Nat) : Int), Value.int .i64 0]) 9 rfl (by kernel_rfl) (.inr (fun _ h => st_take [0, 0] h)) (.inl ⟨rfl, fun _ => q_move rfl⟩) ?_
 refine Wr.pure (v := Value.int .i64 (((mk ((mk ts ⟨4, 11, ((z : Nat) : Int), 0⟩).1) ⟨4, 10, ((z : Nat) : Int), 0⟩).2.1 : Nat) : Int)) 10 rfl (by kernel_rfl) (.inr (fun _ h => st_take [0, 0] h)) (.inl ⟨rfl, fun _ => q_extract (i := 0) rfl rfl⟩) ?_
 refine Wr.pure (v := Value.int .i64 0) 11 rfl (by kernel_rfl) (.inr (fun _ h => st_take [0, 0] h)) (.inl ⟨rfl, fun _ => q_extract (i := 1) rfl rfl⟩) ?_
 refine Wr.pure (v := Value.int .i64 (((mk ((mk ts ⟨4, 11, ((z : Nat) : Int), 0⟩).1) ⟨4, 10, ((z : Nat) : Int), 0⟩).2.1 : Nat) : Int)) 12 rfl (by kernel_rfl) (.inr (fun _ h => st_take [0, 0] h)) (.inl ⟨rfl, fun _ => q_assign rfl⟩) ?_
 refine Wr.pure (v := Value.int .i64 0) 13 rfl (by kernel_rfl) (.inr (fun _ h => st_take [0, 0] h)) (.inl ⟨rfl, fun _ => q_assign rfl⟩) ?_
 refine Wr.done (by kernel_rfl) ?_
 refine Wx.go ?_
 refine Wc.seq ?_
 refine Wc.seq ?_
 refine Wc.region ?_
 refine Wl.q (v := Value.int .i64 0) (q_move rfl) ?_
 refine Wl.q (v := Value.bool false) (q_neq (r := true) rfl rfl (decide_eq_true (by decide))) ?_
 refine Wl.done ?_
 refine Wx.go ?_
 refine Wc.no rfl ?_
 refine Wc.skip ?_
 refine Wx.go ?_
 refine Wc.seq ?_
 refine Wc.region ?_
 refine Wl.q (v := Value.pointer (some ⟨c, 0, none⟩)) (q_move rfl) ?_
 refine Wl.q (v := Value.int .i64 (((mk ((mk ts ⟨4, 11, ((z : Nat) : Int), 0⟩).1) ⟨4, 10, ((z : Nat) : Int), 0⟩).2.1 : Nat) : Int)) (q_move rfl) ?_
 refine Wl.q (v := Value.pointer (some ⟨c, 0, none⟩)) (q_nil_ptr rfl) ?_
 refine Wl.q (v := Value.pointer (some ⟨c, 1, none⟩)) (q_field (m := 1) fo_39_1 rfl rfl) ?_
 refine Wl.e (e_store (i := 1) (v := Value.int .i64 (((mk ((mk ts ⟨4, 11, ((z : Nat) : Int), 0⟩).1) ⟨4, 10, ((z : Nat) : Int), 0⟩).2.1 : Nat) : Int)) sz_3 rfl rfl (fun _ _ => rfl) rfl (by simp)) (fun _ _ => ?_)
 refine Wl.imp (L' := (storeW s ((mk ((mk ts ⟨4, 11, ((z : Nat) : Int), 0⟩).1) ⟨4, 10, ((z : Nat) : Int), 0⟩).1)) :: (pt c 39 [Value.pointer (some ⟨s, 0, none⟩), Value.int .i64 (((mk ((mk ts ⟨4, 11, ((z : Nat) : Int), 0⟩).1) ⟨4, 10, ((z : Nat) : Int), 0⟩).2.1 : Nat) : Int), Value.int .i64 ((n : Nat) : Int), Value.map (some mb)]) :: F) (fun _ h => h) ?_
 refine Wl.done ?_
 refine Wx.go ?_
 refine Wc.seq ?_
 refine Wc.region ?_
 refine Wl.q (v := Value.pointer (some ⟨c, 0, none⟩)) (q_move rfl) ?_
 refine Wl.q (v := Value.pointer (some ⟨c, 0, none⟩)) (q_nil_ptr rfl) ?_
 refine Wl.q (v := Value.pointer (some ⟨c, 2, none⟩)) (q_field (m := 2) fo_39_2 rfl rfl) ?_
 refine Wl.q (v := Value.int .i64 ((n : Nat) : Int)) (q_load sc_3 rfl (.cel (i := 1) rfl rfl)) ?_
 refine Wl.q (v := Value.int .i64 ((n + 1 : Nat) : Int)) (q_add (c := ((n + 1 : Nat) : Int)) rfl rfl (by rw [wrap_i64] <;> omega)) ?_
 refine Wl.q (v := Value.pointer (some ⟨c, 0, none⟩)) (q_nil_ptr rfl) ?_
 refine Wl.q (v := Value.pointer (some ⟨c, 2, none⟩)) (q_field (m := 2) fo_39_2 rfl rfl) ?_
 refine Wl.e (e_store (i := 1) (v := Value.int .i64 ((n + 1 : Nat) : Int)) sz_3 rfl rfl (fun _ _ => rfl) rfl (by simp)) (fun _ _ => ?_)
 refine Wl.imp (L' := (storeW s ((mk ((mk ts ⟨4, 11, ((z : Nat) : Int), 0⟩).1) ⟨4, 10, ((z : Nat) : Int), 0⟩).1)) :: (pt c 39 [Value.pointer (some ⟨s, 0, none⟩), Value.int .i64 (((mk ((mk ts ⟨4, 11, ((z : Nat) : Int), 0⟩).1) ⟨4, 10, ((z : Nat) : Int), 0⟩).2.1 : Nat) : Int), Value.int .i64 ((n + 1 : Nat) : Int), Value.map (some mb)]) :: F) (fun _ h => h) ?_
 refine Wl.done ?_
 refine Wx.go ?_
 refine Wc.seq ?_
 refine Wc.region ?_
 refine Wl.q (v := Value.int .i64 (((mk ts ⟨4, 11, ((z : Nat) : Int), 0⟩).2.1 : Nat) : Int)) (q_move rfl) ?_
 refine Wl.q (v := Value.int .i64 (((mk ts ⟨4, 11, ((z : Nat) : Int), 0⟩).2.1 : Nat) : Int)) (q_assign rfl) ?_
 refine Wl.q (v := Value.int .i64 0) (q_assign rfl) ?_
 refine Wl.done ?_
 refine Wx.go ?_
 refine Wc.ret ?_
 refine Wx.fin2 rfl (.inl rfl) (fun w hs => ?_)
 exact ⟨(), trivial, rfl, (st_pull [1, 0] (hs))⟩

theorem leftV_len (l : List (Nat × Nat)) : (leftV l).length = l.length := List.length_map _
theorem leftV_snoc (l : List (Nat × Nat)) (a b : Nat) : leftV (l ++ [(a, b)]) = leftV l ++ [(natV a, natV b)] := by simp [leftV]
theorem leftV_erase (l : List (Nat × Nat)) (j : Nat) : leftV (l.eraseIdx j) = (leftV l).eraseIdx j := map_eraseIdx_of _ _ _
theorem keyI {x : Int} (h : -9223372036854775808 ≤ x ∧ x ≤ 9223372036854775807) : ∃ l, keyOf Tryz.prog 3 (.int .i64 x) = some l := by
 have w2 : (Lit.int .i64 x).wf = true := by simp only [Lit.wf, IntKind.min, IntKind.max, IntKind.signed, IntKind.bits, Bool.and_eq_true, decide_eq_true_eq, if_true]; omega
 refine ⟨.int .i64 x, ?_⟩
 unfold keyOf
 simp [Tryz.underlying3, mapKey, w2]
theorem left_keys {l : List (Nat × Nat)} {n : Nat} (h : ∀ p ∈ l, p.1 < n) (hn : n ≤ 9223372036854775807) : ∀ p ∈ leftV l, ∃ z, keyOf Tryz.prog 3 p.1 = some z := fun p hp => by
 obtain ⟨a, ha, rfl⟩ := List.mem_map.1 hp
 have := h a ha
 exact keyI (by omega)
theorem left_no {l : List (Nat × Nat)} {m : Nat} (h : ∀ p ∈ l, p.1 ≠ m) : ∀ p ∈ leftV l, p.1 ≠ natV m := fun p hp e => by
 obtain ⟨a, ha, rfl⟩ := List.mem_map.1 hp
 simp only [natV, Value.int.injEq, true_and] at e
 exact h a ha (by omega)
theorem left_at {l : List (Nat × Nat)} {j m k : Nat} (hj : l[j]? = some (m, k)) : (leftV l)[j]? = some (natV m, natV k) := by simp [leftV, hj]
theorem left_only {l : List (Nat × Nat)} {j m k : Nat} (hone : (l.map (·.1)).Nodup) (hj : l[j]? = some (m, k)) : ∀ (n : Nat) (p : Value × Value), (leftV l)[n]? = some p → p.1 = natV m → n = j := fun n p hn e => by
 simp only [leftV, List.getElem?_map, Option.map_eq_some_iff] at hn
 obtain ⟨a, ha, rfl⟩ := hn
 simp only [natV, Value.int.injEq, true_and] at e
 have h1 : (l.map (·.1))[n]? = some m := by rw [List.getElem?_map, ha]; simp; omega
 have h2 : (l.map (·.1))[j]? = some m := by rw [List.getElem?_map, hj]; rfl
 obtain ⟨l1, e1⟩ := List.getElem?_eq_some_iff.1 h1
 obtain ⟨l2, e2⟩ := List.getElem?_eq_some_iff.1 h2
 exact (List.getElem_inj hone).1 (e1.trans e2.symm)
theorem left_uni {l : List (Nat × Nat)} {j m k : Nat} (hone : (l.map (·.1)).Nodup) (hj : l[j]? = some (m, k)) : ∀ v', (natV m, v') ∈ leftV l → v' = natV k := fun v' hv => by
 obtain ⟨n, hn⟩ := List.mem_iff_getElem?.1 hv
 have := left_only hone hj n _ hn rfl
 subst this
 rw [left_at hj] at hn
 exact (congrArg Prod.snd (Option.some.inj hn)).symm

theorem take_neg (W0 : World) (c mb s : Nat) (S : ChS) (m : Int) (hm : m < 0) :
  Con Tryz.prog W0 7 #[Value.pointer (some ⟨c, 0, none⟩), Value.int .i64 m] [pt c 39 [Value.pointer (some ⟨s, 0, none⟩), Value.int .i64 ((S.z : Nat) : Int), Value.int .i64 ((S.nx : Nat) : Int), Value.map (some mb)], mp mb (leftV S.left), storeW s S.ts] (X := Unit) (fun _ => True) (fun _ => .tuple #[.int .i64 0, .int .i64 1]) (fun _ => [pt c 39 [Value.pointer (some ⟨s, 0, none⟩), Value.int .i64 ((S.z : Nat) : Int), Value.int .i64 ((S.nx : Nat) : Int), Value.map (some mb)], mp mb (leftV S.left), storeW s S.ts]) := by
 refine Con.of (args := [Value.pointer (some ⟨c, 0, none⟩), Value.int .i64 m]) Tryz.func7 rfl Tryz.ntmps7 rfl (fun F => ?_)
 show Wc _ W0 _ _ _ _ _ ((pt c 39 [Value.pointer (some ⟨s, 0, none⟩), Value.int .i64 ((S.z : Nat) : Int), Value.int .i64 ((S.nx : Nat) : Int), Value.map (some mb)]) :: (mp mb (leftV S.left)) :: (storeW s S.ts) :: F)
 refine Wc.seq ?_
 refine Wc.region ?_
 refine Wl.q (v := Value.int .i64 0) (q_assign rfl) ?_
 refine Wl.q (v := Value.int .i64 0) (q_assign rfl) ?_
 refine Wl.done ?_
 refine Wx.go ?_
 refine Wc.seq ?_
 refine Wc.seq ?_
 refine Wc.region ?_
 refine Wl.q (v := Value.pointer (some ⟨c, 0, none⟩)) (q_move rfl) ?_
 refine Wl.q (v := Value.bool false) (q_eql_nil (r := false) rfl rfl Tryz.underlying28 rfl) ?_
 refine Wl.q (v := Value.bool false) (q_move rfl) ?_
 refine Wl.q (v := Value.pointer (some ⟨c, 0, none⟩)) (q_move rfl) ?_
 refine Wl.q (v := Value.pointer (some ⟨c, 0, none⟩)) (q_nil_ptr rfl) ?_
 refine Wl.q (v := Value.pointer (some ⟨c, 0, none⟩)) (q_field (m := 0) fo_39_0 rfl rfl) ?_
 refine Wl.q (v := Value.pointer (some ⟨s, 0, none⟩)) (q_load sc_24 rfl (.cel (i := 0) rfl rfl)) ?_
 refine Wl.q (v := Value.bool false) (q_eql_nil (r := false) rfl rfl Tryz.underlying24 rfl) ?_
 refine Wl.q (v := Value.bool false) (q_pick (t := false) rfl rfl) ?_
 refine Wl.done ?_
 refine Wx.go ?_
 refine Wc.no rfl ?_
 refine Wc.skip ?_
 refine Wx.go ?_
 refine Wc.seq ?_
 refine Wc.seq ?_
 refine Wc.region ?_
 refine Wl.q (v := Value.int .i64 m) (q_move rfl) ?_
 refine Wl.q (v := Value.bool true) (q_lss (r := true) rfl rfl (decide_eq_true (hm))) ?_
 refine Wl.done ?_
 refine Wx.go ?_
 refine Wc.yes rfl ?_
 refine Wc.seq ?_
 refine Wc.region ?_
 refine Wl.q (v := Value.int .i64 0) (q_assign rfl) ?_
 refine Wl.q (v := Value.int .i64 1) (q_assign rfl) ?_
 refine Wl.done ?_
 refine Wx.go ?_
 refine Wc.ret ?_
 refine Wx.thenRet ?_
 refine Wx.fin2 rfl (.inl rfl) (fun w hs => ?_)
 exact ⟨(), trivial, rfl, hs⟩

theorem take_found (W0 : World) (c mb s : Nat) (S : ChS) (hS : OkS S) (hx : S.nx < 4611686018427387904) (m : Nat) (hm : m ≤ 9223372036854775807) (j k : Nat) (hj : S.left[j]? = some (m, k)) :
  Con Tryz.prog W0 7 #[Value.pointer (some ⟨c, 0, none⟩), Value.int .i64 ((m : Nat) : Int)] [pt c 39 [Value.pointer (some ⟨s, 0, none⟩), Value.int .i64 ((S.z : Nat) : Int), Value.int .i64 ((S.nx : Nat) : Int), Value.map (some mb)], mp mb (leftV S.left), storeW s S.ts] (X := Unit) (fun _ => True) (fun _ => .tuple #[.int .i64 ((k : Nat) : Int), .int .i64 0]) (fun _ => [pt c 39 [Value.pointer (some ⟨s, 0, none⟩), Value.int .i64 ((S.z : Nat) : Int), Value.int .i64 ((S.nx : Nat) : Int), Value.map (some mb)], mp mb (leftV (S.left.eraseIdx j)), storeW s S.ts]) := by
 refine Con.of (args := [Value.pointer (some ⟨c, 0, none⟩), Value.int .i64 ((m : Nat) : Int)]) Tryz.func7 rfl Tryz.ntmps7 rfl (fun F => ?_)
 show Wc _ W0 _ _ _ _ _ ((pt c 39 [Value.pointer (some ⟨s, 0, none⟩), Value.int .i64 ((S.z : Nat) : Int), Value.int .i64 ((S.nx : Nat) : Int), Value.map (some mb)]) :: (mp mb (leftV S.left)) :: (storeW s S.ts) :: F)
 refine Wc.seq ?_
 refine Wc.region ?_
 refine Wl.q (v := Value.int .i64 0) (q_assign rfl) ?_
 refine Wl.q (v := Value.int .i64 0) (q_assign rfl) ?_
 refine Wl.done ?_
 refine Wx.go ?_
 refine Wc.seq ?_
 refine Wc.seq ?_
 refine Wc.region ?_
 refine Wl.q (v := Value.pointer (some ⟨c, 0, none⟩)) (q_move rfl) ?_
 refine Wl.q (v := Value.bool false) (q_eql_nil (r := false) rfl rfl Tryz.underlying28 rfl) ?_
 refine Wl.q (v := Value.bool false) (q_move rfl) ?_
 refine Wl.q (v := Value.pointer (some ⟨c, 0, none⟩)) (q_move rfl) ?_
 refine Wl.q (v := Value.pointer (some ⟨c, 0, none⟩)) (q_nil_ptr rfl) ?_
 refine Wl.q (v := Value.pointer (some ⟨c, 0, none⟩)) (q_field (m := 0) fo_39_0 rfl rfl) ?_
 refine Wl.q (v := Value.pointer (some ⟨s, 0, none⟩)) (q_load sc_24 rfl (.cel (i := 0) rfl rfl)) ?_
 refine Wl.q (v := Value.bool false) (q_eql_nil (r := false) rfl rfl Tryz.underlying24 rfl) ?_
 refine Wl.q (v := Value.bool false) (q_pick (t := false) rfl rfl) ?_
 refine Wl.done ?_
 refine Wx.go ?_
 refine Wc.no rfl ?_
 refine Wc.skip ?_
 refine Wx.go ?_
 refine Wc.seq ?_
 refine Wc.seq ?_
 refine Wc.region ?_
 refine Wl.q (v := Value.int .i64 ((m : Nat) : Int)) (q_move rfl) ?_
 refine Wl.q (v := Value.bool false) (q_lss (r := false) rfl rfl (decide_eq_false (by omega))) ?_
 refine Wl.done ?_
 refine Wx.go ?_
 refine Wc.no rfl ?_
 refine Wc.skip ?_
 refine Wx.go ?_
 refine Wc.seq ?_
 refine Wc.seq ?_
 refine Wc.region ?_
 refine Wl.q (v := Value.pointer (some ⟨c, 0, none⟩)) (q_move rfl) ?_
 refine Wl.q (v := Value.pointer (some ⟨c, 0, none⟩)) (q_nil_ptr rfl) ?_
 refine Wl.q (v := Value.pointer (some ⟨c, 3, none⟩)) (q_field (m := 3) fo_39_3 rfl rfl) ?_
 refine Wl.q (v := Value.map (some mb)) (q_load sc_37 rfl (.cel (i := 0) rfl rfl)) ?_
 refine Wl.q (v := Value.int .i64 ((m : Nat) : Int)) (q_move rfl) ?_
 refine Wl.q (v := Value.tuple #[Value.int .i64 ((k : Nat) : Int), Value.bool true]) (q_lookup (i := 1) (key := natV m) (r := natV k) (ok := true) Tryz.underlying37 (Maps.int_keyed Tryz.underlying3) zo_3 rfl rfl rfl (keyI (x := ((m : Nat) : Int)) (by omega)) (left_keys hS.keys (by omega)) (.inr ⟨List.mem_of_getElem? (left_at hj), left_uni hS.one hj, rfl⟩)) ?_
 refine Wl.q (v := Value.tuple #[Value.int .i64 ((k : Nat) : Int), Value.bool true]) (q_move rfl) ?_
 refine Wl.q (v := Value.int .i64 ((k : Nat) : Int)) (q_extract (i := 0) rfl rfl) ?_
 refine Wl.q (v := Value.bool true) (q_extract (i := 1) rfl rfl) ?_
 refine Wl.q (v := Value.int .i64 ((k : Nat) : Int)) (q_assign rfl) ?_
 refine Wl.q (v := Value.bool true) (q_assign rfl) ?_
 refine Wl.done ?_
 refine Wx.go ?_
 refine Wc.seq ?_
 refine Wc.region ?_
 refine Wl.q (v := Value.bool true) (q_move rfl) ?_
 refine Wl.done ?_
 refine Wx.go ?_
 refine Wc.yes rfl ?_
 refine Wc.seq ?_
 refine Wc.region ?_
 refine Wl.q (v := Value.pointer (some ⟨c, 0, none⟩)) (q_move rfl) ?_
 refine Wl.q (v := Value.pointer (some ⟨c, 0, none⟩)) (q_nil_ptr rfl) ?_
 refine Wl.q (v := Value.pointer (some ⟨c, 3, none⟩)) (q_field (m := 3) fo_39_3 rfl rfl) ?_
 refine Wl.q (v := Value.map (some mb)) (q_load sc_37 rfl (.cel (i := 0) rfl rfl)) ?_
 refine Wl.q (v := Value.int .i64 ((m : Nat) : Int)) (q_move rfl) ?_
 refine Wl.e (e_delete (i := 1) (j := j) (key := natV m) (r := natV k) Tryz.underlying37 (Maps.int_keyed Tryz.underlying3) rfl rfl rfl (keyI (x := ((m : Nat) : Int)) (by omega)) (left_keys hS.keys (by omega)) (left_at hj) (left_only hS.one hj)) (fun _ _ => ?_)
 refine Wl.imp (L' := (pt c 39 [Value.pointer (some ⟨s, 0, none⟩), Value.int .i64 ((S.z : Nat) : Int), Value.int .i64 ((S.nx : Nat) : Int), Value.map (some mb)]) :: (mp mb ((leftV S.left).eraseIdx j)) :: (storeW s S.ts) :: F) (fun _ h => h) ?_
 refine Wl.done ?_
 refine Wx.go ?_
 refine Wc.seq ?_
 refine Wc.region ?_
 refine Wl.q (v := Value.int .i64 ((k : Nat) : Int)) (q_move rfl) ?_
 refine Wl.q (v := Value.int .i64 ((k : Nat) : Int)) (q_assign rfl) ?_
 refine Wl.q (v := Value.int .i64 0) (q_assign rfl) ?_
 refine Wl.done ?_
 refine Wx.go ?_
 refine Wc.ret ?_
 refine Wx.thenRet ?_
 refine Wx.fin2 rfl (.inl rfl) (fun w hs => ?_)
 exact ⟨(), trivial, rfl, by rw [leftV_erase]; exact hs⟩

theorem take_stale (W0 : World) (c mb s : Nat) (S : ChS) (hS : OkS S) (hx : S.nx < 4611686018427387904) (m : Nat) (hm : m ≤ 9223372036854775807) (hno : ∀ p ∈ S.left, p.1 ≠ m) (hst : m < S.nx) :
  Con Tryz.prog W0 7 #[Value.pointer (some ⟨c, 0, none⟩), Value.int .i64 ((m : Nat) : Int)] [pt c 39 [Value.pointer (some ⟨s, 0, none⟩), Value.int .i64 ((S.z : Nat) : Int), Value.int .i64 ((S.nx : Nat) : Int), Value.map (some mb)], mp mb (leftV S.left), storeW s S.ts] (X := Unit) (fun _ => True) (fun _ => .tuple #[.int .i64 0, .int .i64 10]) (fun _ => [pt c 39 [Value.pointer (some ⟨s, 0, none⟩), Value.int .i64 ((S.z : Nat) : Int), Value.int .i64 ((S.nx : Nat) : Int), Value.map (some mb)], mp mb (leftV S.left), storeW s S.ts]) := by
 refine Con.of (args := [Value.pointer (some ⟨c, 0, none⟩), Value.int .i64 ((m : Nat) : Int)]) Tryz.func7 rfl Tryz.ntmps7 rfl (fun F => ?_)
 show Wc _ W0 _ _ _ _ _ ((pt c 39 [Value.pointer (some ⟨s, 0, none⟩), Value.int .i64 ((S.z : Nat) : Int), Value.int .i64 ((S.nx : Nat) : Int), Value.map (some mb)]) :: (mp mb (leftV S.left)) :: (storeW s S.ts) :: F)
 refine Wc.seq ?_
 refine Wc.region ?_
 refine Wl.q (v := Value.int .i64 0) (q_assign rfl) ?_
 refine Wl.q (v := Value.int .i64 0) (q_assign rfl) ?_
 refine Wl.done ?_
 refine Wx.go ?_
 refine Wc.seq ?_
 refine Wc.seq ?_
 refine Wc.region ?_
 refine Wl.q (v := Value.pointer (some ⟨c, 0, none⟩)) (q_move rfl) ?_
 refine Wl.q (v := Value.bool false) (q_eql_nil (r := false) rfl rfl Tryz.underlying28 rfl) ?_
 refine Wl.q (v := Value.bool false) (q_move rfl) ?_
 refine Wl.q (v := Value.pointer (some ⟨c, 0, none⟩)) (q_move rfl) ?_
 refine Wl.q (v := Value.pointer (some ⟨c, 0, none⟩)) (q_nil_ptr rfl) ?_
 refine Wl.q (v := Value.pointer (some ⟨c, 0, none⟩)) (q_field (m := 0) fo_39_0 rfl rfl) ?_
 refine Wl.q (v := Value.pointer (some ⟨s, 0, none⟩)) (q_load sc_24 rfl (.cel (i := 0) rfl rfl)) ?_
 refine Wl.q (v := Value.bool false) (q_eql_nil (r := false) rfl rfl Tryz.underlying24 rfl) ?_
 refine Wl.q (v := Value.bool false) (q_pick (t := false) rfl rfl) ?_
 refine Wl.done ?_
 refine Wx.go ?_
 refine Wc.no rfl ?_
 refine Wc.skip ?_
 refine Wx.go ?_
 refine Wc.seq ?_
 refine Wc.seq ?_
 refine Wc.region ?_
 refine Wl.q (v := Value.int .i64 ((m : Nat) : Int)) (q_move rfl) ?_
 refine Wl.q (v := Value.bool false) (q_lss (r := false) rfl rfl (decide_eq_false (by omega))) ?_
 refine Wl.done ?_
 refine Wx.go ?_
 refine Wc.no rfl ?_
 refine Wc.skip ?_
 refine Wx.go ?_
 refine Wc.seq ?_
 refine Wc.seq ?_
 refine Wc.region ?_
 refine Wl.q (v := Value.pointer (some ⟨c, 0, none⟩)) (q_move rfl) ?_
 refine Wl.q (v := Value.pointer (some ⟨c, 0, none⟩)) (q_nil_ptr rfl) ?_
 refine Wl.q (v := Value.pointer (some ⟨c, 3, none⟩)) (q_field (m := 3) fo_39_3 rfl rfl) ?_
 refine Wl.q (v := Value.map (some mb)) (q_load sc_37 rfl (.cel (i := 0) rfl rfl)) ?_
 refine Wl.q (v := Value.int .i64 ((m : Nat) : Int)) (q_move rfl) ?_
 refine Wl.q (v := Value.tuple #[Value.int .i64 0, Value.bool false]) (q_lookup (i := 1) (key := natV m) (r := .int .i64 0) (ok := false) Tryz.underlying37 (Maps.int_keyed Tryz.underlying3) zo_3 rfl rfl rfl (keyI (x := ((m : Nat) : Int)) (by omega)) (left_keys hS.keys (by omega)) (.inl ⟨left_no hno, rfl, rfl⟩)) ?_
 refine Wl.q (v := Value.tuple #[Value.int .i64 0, Value.bool false]) (q_move rfl) ?_
 refine Wl.q (v := Value.int .i64 0) (q_extract (i := 0) rfl rfl) ?_
 refine Wl.q (v := Value.bool false) (q_extract (i := 1) rfl rfl) ?_
 refine Wl.q (v := Value.int .i64 0) (q_assign rfl) ?_
 refine Wl.q (v := Value.bool false) (q_assign rfl) ?_
 refine Wl.done ?_
 refine Wx.go ?_
 refine Wc.seq ?_
 refine Wc.region ?_
 refine Wl.q (v := Value.bool false) (q_move rfl) ?_
 refine Wl.done ?_
 refine Wx.go ?_
 refine Wc.no rfl ?_
 refine Wc.skip ?_
 refine Wx.go ?_
 refine Wc.seq ?_
 refine Wc.block ?_
 refine Wc.seq ?_
 refine Wc.region ?_
 refine Wl.q (v := Value.int .i64 ((m : Nat) : Int)) (q_move rfl) ?_
 refine Wl.q (v := Value.pointer (some ⟨c, 0, none⟩)) (q_move rfl) ?_
 refine Wl.q (v := Value.pointer (some ⟨c, 0, none⟩)) (q_nil_ptr rfl) ?_
 refine Wl.q (v := Value.pointer (some ⟨c, 2, none⟩)) (q_field (m := 2) fo_39_2 rfl rfl) ?_
 refine Wl.q (v := Value.int .i64 ((S.nx : Nat) : Int)) (q_load sc_3 rfl (.cel (i := 0) rfl rfl)) ?_
 refine Wl.q (v := Value.bool true) (q_lss (r := true) rfl rfl (decide_eq_true (by omega))) ?_
 refine Wl.q (v := Value.bool true) (q_assign rfl) ?_
 refine Wl.done ?_
 refine Wx.go ?_
 refine Wc.yes rfl ?_
 refine Wc.seq ?_
 refine Wc.region ?_
 refine Wl.q (v := Value.int .i64 0) (q_assign rfl) ?_
 refine Wl.q (v := Value.int .i64 10) (q_assign rfl) ?_
 refine Wl.done ?_
 refine Wx.go ?_
 refine Wc.ret ?_
 refine Wx.blockRet ?_
 refine Wx.thenRet ?_
 refine Wx.fin2 rfl (.inl rfl) (fun w hs => ?_)
 exact ⟨(), trivial, rfl, hs⟩

theorem take_limit (W0 : World) (c mb s : Nat) (S : ChS) (hS : OkS S) (hx : S.nx < 4611686018427387904) (m : Nat) (hm : m ≤ 9223372036854775807) (hno : ∀ p ∈ S.left, p.1 ≠ m) (hll : S.left.length ≤ 1000) (hst : S.nx ≤ m) (hlim : 64 < m - S.nx + S.left.length) :
  Con Tryz.prog W0 7 #[Value.pointer (some ⟨c, 0, none⟩), Value.int .i64 ((m : Nat) : Int)] [pt c 39 [Value.pointer (some ⟨s, 0, none⟩), Value.int .i64 ((S.z : Nat) : Int), Value.int .i64 ((S.nx : Nat) : Int), Value.map (some mb)], mp mb (leftV S.left), storeW s S.ts] (X := Unit) (fun _ => True) (fun _ => .tuple #[.int .i64 0, .int .i64 3]) (fun _ => [pt c 39 [Value.pointer (some ⟨s, 0, none⟩), Value.int .i64 ((S.z : Nat) : Int), Value.int .i64 ((S.nx : Nat) : Int), Value.map (some mb)], mp mb (leftV S.left), storeW s S.ts]) := by
 refine Con.of (args := [Value.pointer (some ⟨c, 0, none⟩), Value.int .i64 ((m : Nat) : Int)]) Tryz.func7 rfl Tryz.ntmps7 rfl (fun F => ?_)
 have hlv := leftV_len S.left
 show Wc _ W0 _ _ _ _ _ ((pt c 39 [Value.pointer (some ⟨s, 0, none⟩), Value.int .i64 ((S.z : Nat) : Int), Value.int .i64 ((S.nx : Nat) : Int), Value.map (some mb)]) :: (mp mb (leftV S.left)) :: (storeW s S.ts) :: F)
 refine Wc.seq ?_
 refine Wc.region ?_
 refine Wl.q (v := Value.int .i64 0) (q_assign rfl) ?_
 refine Wl.q (v := Value.int .i64 0) (q_assign rfl) ?_
 refine Wl.done ?_
 refine Wx.go ?_
 refine Wc.seq ?_
 refine Wc.seq ?_
 refine Wc.region ?_
 refine Wl.q (v := Value.pointer (some ⟨c, 0, none⟩)) (q_move rfl) ?_
 refine Wl.q (v := Value.bool false) (q_eql_nil (r := false) rfl rfl Tryz.underlying28 rfl) ?_
 refine Wl.q (v := Value.bool false) (q_move rfl) ?_
 refine Wl.q (v := Value.pointer (some ⟨c, 0, none⟩)) (q_move rfl) ?_
 refine Wl.q (v := Value.pointer (some ⟨c, 0, none⟩)) (q_nil_ptr rfl) ?_
 refine Wl.q (v := Value.pointer (some ⟨c, 0, none⟩)) (q_field (m := 0) fo_39_0 rfl rfl) ?_
 refine Wl.q (v := Value.pointer (some ⟨s, 0, none⟩)) (q_load sc_24 rfl (.cel (i := 0) rfl rfl)) ?_
 refine Wl.q (v := Value.bool false) (q_eql_nil (r := false) rfl rfl Tryz.underlying24 rfl) ?_
 refine Wl.q (v := Value.bool false) (q_pick (t := false) rfl rfl) ?_
 refine Wl.done ?_
 refine Wx.go ?_
 refine Wc.no rfl ?_
 refine Wc.skip ?_
 refine Wx.go ?_
 refine Wc.seq ?_
 refine Wc.seq ?_
 refine Wc.region ?_
 refine Wl.q (v := Value.int .i64 ((m : Nat) : Int)) (q_move rfl) ?_
 refine Wl.q (v := Value.bool false) (q_lss (r := false) rfl rfl (decide_eq_false (by omega))) ?_
 refine Wl.done ?_
 refine Wx.go ?_
 refine Wc.no rfl ?_
 refine Wc.skip ?_
 refine Wx.go ?_
 refine Wc.seq ?_
 refine Wc.seq ?_
 refine Wc.region ?_
 refine Wl.q (v := Value.pointer (some ⟨c, 0, none⟩)) (q_move rfl) ?_
 refine Wl.q (v := Value.pointer (some ⟨c, 0, none⟩)) (q_nil_ptr rfl) ?_
 refine Wl.q (v := Value.pointer (some ⟨c, 3, none⟩)) (q_field (m := 3) fo_39_3 rfl rfl) ?_
 refine Wl.q (v := Value.map (some mb)) (q_load sc_37 rfl (.cel (i := 0) rfl rfl)) ?_
 refine Wl.q (v := Value.int .i64 ((m : Nat) : Int)) (q_move rfl) ?_
 refine Wl.q (v := Value.tuple #[Value.int .i64 0, Value.bool false]) (q_lookup (i := 1) (key := natV m) (r := .int .i64 0) (ok := false) Tryz.underlying37 (Maps.int_keyed Tryz.underlying3) zo_3 rfl rfl rfl (keyI (x := ((m : Nat) : Int)) (by omega)) (left_keys hS.keys (by omega)) (.inl ⟨left_no hno, rfl, rfl⟩)) ?_
 refine Wl.q (v := Value.tuple #[Value.int .i64 0, Value.bool false]) (q_move rfl) ?_
 refine Wl.q (v := Value.int .i64 0) (q_extract (i := 0) rfl rfl) ?_
 refine Wl.q (v := Value.bool false) (q_extract (i := 1) rfl rfl) ?_
 refine Wl.q (v := Value.int .i64 0) (q_assign rfl) ?_
 refine Wl.q (v := Value.bool false) (q_assign rfl) ?_
 refine Wl.done ?_
 refine Wx.go ?_
 refine Wc.seq ?_
 refine Wc.region ?_
 refine Wl.q (v := Value.bool false) (q_move rfl) ?_
 refine Wl.done ?_
 refine Wx.go ?_
 refine Wc.no rfl ?_
 refine Wc.skip ?_
 refine Wx.go ?_
 refine Wc.seq ?_
 refine Wc.block ?_
 refine Wc.seq ?_
 refine Wc.region ?_
 refine Wl.q (v := Value.int .i64 ((m : Nat) : Int)) (q_move rfl) ?_
 refine Wl.q (v := Value.pointer (some ⟨c, 0, none⟩)) (q_move rfl) ?_
 refine Wl.q (v := Value.pointer (some ⟨c, 0, none⟩)) (q_nil_ptr rfl) ?_
 refine Wl.q (v := Value.pointer (some ⟨c, 2, none⟩)) (q_field (m := 2) fo_39_2 rfl rfl) ?_
 refine Wl.q (v := Value.int .i64 ((S.nx : Nat) : Int)) (q_load sc_3 rfl (.cel (i := 0) rfl rfl)) ?_
 refine Wl.q (v := Value.bool false) (q_lss (r := false) rfl rfl (decide_eq_false (by omega))) ?_
 refine Wl.q (v := Value.bool false) (q_assign rfl) ?_
 refine Wl.done ?_
 refine Wx.go ?_
 refine Wc.no rfl ?_
 refine Wc.seq ?_
 refine Wc.drawsS [] ((pt c 39 [Value.pointer (some ⟨s, 0, none⟩), Value.int .i64 ((S.z : Nat) : Int), Value.int .i64 ((S.nx : Nat) : Int), Value.map (some mb)]) :: (mp mb (leftV S.left)) :: (storeW s S.ts) :: []) (by kernel_rfl) ?_
 refine Wr.pure (v := Value.int .i64 ((m : Nat) : Int)) 0 rfl (by kernel_rfl) (.inr (fun _ h => st_take [0, 0, 0] h)) (.inl ⟨rfl, fun _ => q_move rfl⟩) ?_
 refine Wr.pure (v := Value.pointer (some ⟨c, 0, none⟩)) 1 rfl (by kernel_rfl) (.inr (fun _ h => st_take [0, 0, 0] h)) (.inl ⟨rfl, fun _ => q_move rfl⟩) ?_
 refine Wr.pure (v := Value.pointer (some ⟨c, 0, none⟩)) 2 rfl (by kernel_rfl) (.inr (fun _ h => st_take [0, 0, 0] h)) (.inl ⟨rfl, fun _ => q_nil_ptr rfl⟩) ?_
 refine Wr.pure (v := Value.pointer (some ⟨c, 2, none⟩)) 3 rfl (by kernel_rfl) (.inr (fun _ h => st_take [0, 0, 0] h)) (.inl ⟨rfl, fun _ => q_field (m := 2) fo_39_2 rfl rfl⟩) ?_
 refine Wr.take (v := Value.int .i64 ((S.nx : Nat) : Int)) 4 rfl (by kernel_rfl) (fun _ h => st_take [0, 0, 0] h) (.inl ⟨rfl, q_load sc_3 rfl (.cel (i := 0) rfl rfl)⟩) ?_
 refine Wr.pure (v := Value.int .i64 (((m : Nat) : Int) - ((S.nx : Nat) : Int))) 5 rfl (by kernel_rfl) (.inr (fun _ h => st_take [0, 0, 0] h)) (.inl ⟨rfl, fun _ => q_sub (c := (((m : Nat) : Int) - ((S.nx : Nat) : Int))) rfl rfl (wrap_i64 (by omega) (by omega))⟩) ?_
 refine Wr.pure (v := Value.pointer (some ⟨c, 0, none⟩)) 6 rfl (by kernel_rfl) (.inr (fun _ h => st_take [0, 0, 0] h)) (.inl ⟨rfl, fun _ => q_move rfl⟩) ?_
 refine Wr.pure (v := Value.pointer (some ⟨c, 0, none⟩)) 7 rfl (by kernel_rfl) (.inr (fun _ h => st_take [0, 0, 0] h)) (.inl ⟨rfl, fun _ => q_nil_ptr rfl⟩) ?_
 refine Wr.pure (v := Value.pointer (some ⟨c, 3, none⟩)) 8 rfl (by kernel_rfl) (.inr (fun _ h => st_take [0, 0, 0] h)) (.inl ⟨rfl, fun _ => q_field (m := 3) fo_39_3 rfl rfl⟩) ?_
 refine Wr.take (v := Value.map (some mb)) 9 rfl (by kernel_rfl) (fun _ h => st_take [0, 0, 0] h) (.inl ⟨rfl, q_load sc_37 rfl (.cel (i := 0) rfl rfl)⟩) ?_
 refine Wr.take (v := Value.int .i64 (((leftV S.left).length : Nat) : Int)) 10 rfl (by kernel_rfl) (fun _ h => st_take [0, 0, 0] h) (.inl ⟨rfl, q_len_map (i := 1) Tryz.underlying37 rfl rfl⟩) ?_
 refine Wr.pure (v := Value.int .i64 (64 - (((leftV S.left).length : Nat) : Int))) 11 rfl (by kernel_rfl) (.inr (fun _ h => st_take [0, 0, 0] h)) (.inl ⟨rfl, fun _ => q_sub (c := (64 - (((leftV S.left).length : Nat) : Int))) rfl rfl (wrap_i64 (by omega) (by omega))⟩) ?_
 refine Wr.pure (v := Value.bool true) 12 rfl (by kernel_rfl) (.inr (fun _ h => st_take [0, 0, 0] h)) (.inl ⟨rfl, fun _ => q_gtr (r := true) rfl rfl (decide_eq_true (by rw [leftV_len]; omega))⟩) ?_
 refine Wr.pure (v := Value.bool true) 13 rfl (by kernel_rfl) (.inr (fun _ h => st_take [0, 0, 0] h)) (.inl ⟨rfl, fun _ => q_assign rfl⟩) ?_
 refine Wr.done (by kernel_rfl) ?_
 refine Wx.go ?_
 refine Wc.yes rfl ?_
 refine Wc.seq ?_
 refine Wc.region ?_
 refine Wl.q (v := Value.int .i64 0) (q_assign rfl) ?_
 refine Wl.q (v := Value.int .i64 3) (q_assign rfl) ?_
 refine Wl.done ?_
 refine Wx.go ?_
 refine Wc.ret ?_
 refine Wx.blockRet ?_
 refine Wx.thenRet ?_
 refine Wx.fin2 rfl (.inl rfl) (fun w hs => ?_)
 exact ⟨(), trivial, rfl, hs⟩

theorem take_go (W0 : World) (c mb s : Nat) (S : ChS) (hS : OkS S) (hx : S.nx < 4611686018427387904) (m : Nat) (hm : m ≤ 9223372036854775807) (hno : ∀ p ∈ S.left, p.1 ≠ m) (hll : S.left.length ≤ 1000) (hst : S.nx ≤ m) (hlim : m - S.nx + S.left.length ≤ 64) (hl : S.ts.length + 2 * (m - S.nx) + 2 ≤ 1048576) :
    Con Tryz.prog W0 7 #[Value.pointer (some ⟨c, 0, none⟩), Value.int .i64 ((m : Nat) : Int)] [pt c 39 [Value.pointer (some ⟨s, 0, none⟩), Value.int .i64 ((S.z : Nat) : Int), Value.int .i64 ((S.nx : Nat) : Int), Value.map (some mb)], mp mb (leftV S.left), storeW s S.ts] (X := Unit) (fun _ => True) (fun _ => .tuple #[.int .i64 ((keyN (runS S (m - S.nx)) : Nat) : Int), .int .i64 0]) (fun _ => [pt c 39 [Value.pointer (some ⟨s, 0, none⟩), Value.int .i64 (((stepS (runS S (m - S.nx))).z : Nat) : Int), Value.int .i64 (((stepS (runS S (m - S.nx))).nx : Nat) : Int), Value.map (some mb)], mp mb (leftV ((stepS (runS S (m - S.nx))).left)), storeW s ((stepS (runS S (m - S.nx))).ts)]) := by
  refine Con.of (args := [Value.pointer (some ⟨c, 0, none⟩), Value.int .i64 ((m : Nat) : Int)]) Tryz.func7 rfl Tryz.ntmps7 rfl (fun F => ?_)
  have hlv := leftV_len S.left
  show Wc _ W0 _ _ _ _ _ ((pt c 39 [Value.pointer (some ⟨s, 0, none⟩), Value.int .i64 ((S.z : Nat) : Int), Value.int .i64 ((S.nx : Nat) : Int), Value.map (some mb)]) :: (mp mb (leftV S.left)) :: (storeW s S.ts) :: F)
  refine Wc.seq ?_
  refine Wc.region ?_
  refine Wl.q (v := Value.int .i64 0) (q_assign rfl) ?_
  refine Wl.q (v := Value.int .i64 0) (q_assign rfl) ?_
  refine Wl.done ?_
  refine Wx.go ?_
  refine Wc.seq ?_
  refine Wc.seq ?_
  refine Wc.region ?_
  refine Wl.q (v := Value.pointer (some ⟨c, 0, none⟩)) (q_move rfl) ?_
  refine Wl.q (v := Value.bool false) (q_eql_nil (r := false) rfl rfl Tryz.underlying28 rfl) ?_
  refine Wl.q (v := Value.bool false) (q_move rfl) ?_
  refine Wl.q (v := Value.pointer (some ⟨c, 0, none⟩)) (q_move rfl) ?_
  refine Wl.q (v := Value.pointer (some ⟨c, 0, none⟩)) (q_nil_ptr rfl) ?_
  refine Wl.q (v := Value.pointer (some ⟨c, 0, none⟩)) (q_field (m := 0) fo_39_0 rfl rfl) ?_
  refine Wl.q (v := Value.pointer (some ⟨s, 0, none⟩)) (q_load sc_24 rfl (.cel (i := 0) rfl rfl)) ?_
  refine Wl.q (v := Value.bool false) (q_eql_nil (r := false) rfl rfl Tryz.underlying24 rfl) ?_
  refine Wl.q (v := Value.bool false) (q_pick (t := false) rfl rfl) ?_
  refine Wl.done ?_
  refine Wx.go ?_
  refine Wc.no rfl ?_
  refine Wc.skip ?_
  refine Wx.go ?_
  refine Wc.seq ?_
  refine Wc.seq ?_
  refine Wc.region ?_
  refine Wl.q (v := Value.int .i64 ((m : Nat) : Int)) (q_move rfl) ?_
  refine Wl.q (v := Value.bool false) (q_lss (r := false) rfl rfl (decide_eq_false (by omega))) ?_
  refine Wl.done ?_
  refine Wx.go ?_
  refine Wc.no rfl ?_
  refine Wc.skip ?_
  refine Wx.go ?_
  refine Wc.seq ?_
  refine Wc.seq ?_
  refine Wc.region ?_
  refine Wl.q (v := Value.pointer (some ⟨c, 0, none⟩)) (q_move rfl) ?_
  refine Wl.q (v := Value.pointer (some ⟨c, 0, none⟩)) (q_nil_ptr rfl) ?_
  refine Wl.q (v := Value.pointer (some ⟨c, 3, none⟩)) (q_field (m := 3) fo_39_3 rfl rfl) ?_
  refine Wl.q (v := Value.map (some mb)) (q_load sc_37 rfl (.cel (i := 0) rfl rfl)) ?_
  refine Wl.q (v := Value.int .i64 ((m : Nat) : Int)) (q_move rfl) ?_
  refine Wl.q (v := Value.tuple #[Value.int .i64 0, Value.bool false]) (q_lookup (i := 1) (key := natV m) (r := .int .i64 0) (ok := false) Tryz.underlying37 (Maps.int_keyed Tryz.underlying3) zo_3 rfl rfl rfl (keyI (x := ((m : Nat) : Int)) (by omega)) (left_keys hS.keys (by omega)) (.inl ⟨left_no hno, rfl, rfl⟩)) ?_
  refine Wl.q (v := Value.tuple #[Value.int .i64 0, Value.bool false]) (q_move rfl) ?_
  refine Wl.q (v := Value.int .i64 0) (q_extract (i := 0) rfl rfl) ?_
  refine Wl.q (v := Value.bool false) (q_extract (i := 1) rfl rfl) ?_
  refine Wl.q (v := Value.int .i64 0) (q_assign rfl) ?_
  refine Wl.q (v := Value.bool false) (q_assign rfl) ?_
  refine Wl.done ?_
  refine Wx.go ?_
  refine Wc.seq ?_
  refine Wc.region ?_
  refine Wl.q (v := Value.bool false) (q_move rfl) ?_
  refine Wl.done ?_
  refine Wx.go ?_
  refine Wc.no rfl ?_
  refine Wc.skip ?_
  refine Wx.go ?_
  refine Wc.seq ?_
  refine Wc.block ?_
  refine Wc.seq ?_
  refine Wc.region ?_
  refine Wl.q (v := Value.int .i64 ((m : Nat) : Int)) (q_move rfl) ?_
  refine Wl.q (v := Value.pointer (some ⟨c, 0, none⟩)) (q_move rfl) ?_
  refine Wl.q (v := Value.pointer (some ⟨c, 0, none⟩)) (q_nil_ptr rfl) ?_
  refine Wl.q (v := Value.pointer (some ⟨c, 2, none⟩)) (q_field (m := 2) fo_39_2 rfl rfl) ?_
  refine Wl.q (v := Value.int .i64 ((S.nx : Nat) : Int)) (q_load sc_3 rfl (.cel (i := 0) rfl rfl)) ?_
  refine Wl.q (v := Value.bool false) (q_lss (r := false) rfl rfl (decide_eq_false (by omega))) ?_
  refine Wl.q (v := Value.bool false) (q_assign rfl) ?_
  refine Wl.done ?_
  refine Wx.go ?_
  refine Wc.no rfl ?_
  refine Wc.seq ?_
  refine Wc.drawsS [] ((pt c 39 [Value.pointer (some ⟨s, 0, none⟩), Value.int .i64 ((S.z : Nat) : Int), Value.int .i64 ((S.nx : Nat) : Int), Value.map (some mb)]) :: (mp mb (leftV S.left)) :: (storeW s S.ts) :: []) (by kernel_rfl) ?_
  refine Wr.pure (v := Value.int .i64 ((m : Nat) : Int)) 0 rfl (by kernel_rfl) (.inr (fun _ h => st_take [0, 0, 0] h)) (.inl ⟨rfl, fun _ => q_move rfl⟩) ?_
  refine Wr.pure (v := Value.pointer (some ⟨c, 0, none⟩)) 1 rfl (by kernel_rfl) (.inr (fun _ h => st_take [0, 0, 0] h)) (.inl ⟨rfl, fun _ => q_move rfl⟩) ?_
  refine Wr.pure (v := Value.pointer (some ⟨c, 0, none⟩)) 2 rfl (by kernel_rfl) (.inr (fun _ h => st_take [0, 0, 0] h)) (.inl ⟨rfl, fun _ => q_nil_ptr rfl⟩) ?_
  refine Wr.pure (v := Value.pointer (some ⟨c, 2, none⟩)) 3 rfl (by kernel_rfl) (.inr (fun _ h => st_take [0, 0, 0] h)) (.inl ⟨rfl, fun _ => q_field (m := 2) fo_39_2 rfl rfl⟩) ?_
  refine Wr.take (v := Value.int .i64 ((S.nx : Nat) : Int)) 4 rfl (by kernel_rfl) (fun _ h => st_take [0, 0, 0] h) (.inl ⟨rfl, q_load sc_3 rfl (.cel (i := 0) rfl rfl)⟩) ?_
  refine Wr.pure (v := Value.int .i64 (((m : Nat) : Int) - ((S.nx : Nat) : Int))) 5 rfl (by kernel_rfl) (.inr (fun _ h => st_take [0, 0, 0] h)) (.inl ⟨rfl, fun _ => q_sub (c := (((m : Nat) : Int) - ((S.nx : Nat) : Int))) rfl rfl (wrap_i64 (by omega) (by omega))⟩) ?_
  refine Wr.pure (v := Value.pointer (some ⟨c, 0, none⟩)) 6 rfl (by kernel_rfl) (.inr (fun _ h => st_take [0, 0, 0] h)) (.inl ⟨rfl, fun _ => q_move rfl⟩) ?_
  refine Wr.pure (v := Value.pointer (some ⟨c, 0, none⟩)) 7 rfl (by kernel_rfl) (.inr (fun _ h => st_take [0, 0, 0] h)) (.inl ⟨rfl, fun _ => q_nil_ptr rfl⟩) ?_
  refine Wr.pure (v := Value.pointer (some ⟨c, 3, none⟩)) 8 rfl (by kernel_rfl) (.inr (fun _ h => st_take [0, 0, 0] h)) (.inl ⟨rfl, fun _ => q_field (m := 3) fo_39_3 rfl rfl⟩) ?_
  refine Wr.take (v := Value.map (some mb)) 9 rfl (by kernel_rfl) (fun _ h => st_take [0, 0, 0] h) (.inl ⟨rfl, q_load sc_37 rfl (.cel (i := 0) rfl rfl)⟩) ?_
  refine Wr.take (v := Value.int .i64 (((leftV S.left).length : Nat) : Int)) 10 rfl (by kernel_rfl) (fun _ h => st_take [0, 0, 0] h) (.inl ⟨rfl, q_len_map (i := 1) Tryz.underlying37 rfl rfl⟩) ?_
  refine Wr.pure (v := Value.int .i64 (64 - (((leftV S.left).length : Nat) : Int))) 11 rfl (by kernel_rfl) (.inr (fun _ h => st_take [0, 0, 0] h)) (.inl ⟨rfl, fun _ => q_sub (c := (64 - (((leftV S.left).length : Nat) : Int))) rfl rfl (wrap_i64 (by omega) (by omega))⟩) ?_
  refine Wr.pure (v := Value.bool false) 12 rfl (by kernel_rfl) (.inr (fun _ h => st_take [0, 0, 0] h)) (.inl ⟨rfl, fun _ => q_gtr (r := false) rfl rfl (decide_eq_false (by rw [leftV_len]; omega))⟩) ?_
  refine Wr.pure (v := Value.bool false) 13 rfl (by kernel_rfl) (.inr (fun _ h => st_take [0, 0, 0] h)) (.inl ⟨rfl, fun _ => q_assign rfl⟩) ?_
  refine Wr.done (by kernel_rfl) ?_
  refine Wx.go ?_
  refine Wc.no rfl ?_
  refine Wc.skip ?_
  refine Wx.blockEnd ?_
  refine Wx.go ?_
  refine Wc.seq ?_
  refine Wc.block ?_
  refine Wc.loop (X := Nat) (fun i E => E 0 = Value.pointer (some ⟨c, 0, none⟩) ∧ E 1 = Value.int .i64 ((m : Nat) : Int) ∧ i ≤ m - S.nx) (fun i => (pt c 39 [Value.pointer (some ⟨s, 0, none⟩), Value.int .i64 (((runS S i).z : Nat) : Int), Value.int .i64 (((runS S i).nx : Nat) : Int), Value.map (some mb)]) :: (mp mb (leftV ((runS S i).left))) :: (storeW s ((runS S i).ts)) :: F) (fun i => m - S.nx - i) 0 ?_ ?_ ?_
  · exact ⟨rfl, rfl, (Nat.zero_le _)⟩
  · exact fun w hs => hs
  · rintro i E2 ⟨hE0_0, hE1_0, hi⟩
    obtain ⟨hT, hTn, hTl, hTt, hTe⟩ := runS_ok hS i (by omega)
    have hTp := hT.pos
    refine Wc.seq ?_
    refine Wc.seq ?_
    refine Wc.region ?_
    refine Wl.q (v := Value.pointer (some ⟨c, 0, none⟩)) (q_move hE0_0) ?_
    refine Wl.q (v := Value.pointer (some ⟨c, 0, none⟩)) (q_nil_ptr rfl) ?_
    refine Wl.q (v := Value.pointer (some ⟨c, 2, none⟩)) (q_field (m := 2) fo_39_2 rfl rfl) ?_
    refine Wl.q (v := Value.int .i64 (((runS S i).nx : Nat) : Int)) (q_load sc_3 rfl (.cel (i := 0) rfl rfl)) ?_
    refine Wl.q (v := Value.int .i64 ((m : Nat) : Int)) (q_move hE1_0) ?_
    by_cases hlt : (((runS S i).nx : Nat) : Int) < ((m : Nat) : Int)
    ·
      refine Wl.q (v := Value.bool true) (q_lss (r := true) rfl rfl (decide_eq_true hlt)) ?_
      refine Wl.done ?_
      refine Wx.go ?_
      refine Wc.yes rfl ?_
      refine Wc.skip ?_
      refine Wx.go ?_
      refine Wc.block ?_
      refine Wc.seq ?_
      refine Wc.region ?_
      refine Wl.q (v := Value.pointer (some ⟨c, 0, none⟩)) (q_move hE0_0) ?_
      refine Wl.q (v := Value.pointer (some ⟨c, 0, none⟩)) (q_nil_ptr rfl) ?_
      refine Wl.q (v := Value.pointer (some ⟨c, 2, none⟩)) (q_field (m := 2) fo_39_2 rfl rfl) ?_
      refine Wl.q (v := Value.int .i64 (((runS S i).nx : Nat) : Int)) (q_load sc_3 rfl (.cel (i := 0) rfl rfl)) ?_
      refine Wl.q (v := Value.int .i64 (((runS S i).nx : Nat) : Int)) (q_assign rfl) ?_
      refine Wl.done ?_
      refine Wx.go ?_
      refine Wc.seq ?_
      refine Wc.region ?_
      refine Wl.q (v := Value.pointer (some ⟨c, 0, none⟩)) (q_move hE0_0) ?_
      refine Wl.imp (L' := (pt c 39 [Value.pointer (some ⟨s, 0, none⟩), Value.int .i64 (((runS S i).z : Nat) : Int), Value.int .i64 (((runS S i).nx : Nat) : Int), Value.map (some mb)]) :: (storeW s ((runS S i).ts)) :: (mp mb (leftV ((runS S i).left))) :: F) (fun _ h => st_pull [0, 1] h) ?_
      refine Wl.e (e_call (F := (mp mb (leftV ((runS S i).left))) :: F) (args := [Value.pointer (some ⟨c, 0, none⟩)]) Tryz.call23 rfl (step_w W0 c mb s ((runS S i).ts) ((runS S i).z) ((runS S i).nx) hT.wf hTp (by omega) (by omega))) (fun _ _ => ?_)
      refine Wl.imp (L' := (pt c 39 [Value.pointer (some ⟨s, 0, none⟩), Value.int .i64 (((mk (mk ((runS S i).ts) ⟨4, 11, ((runS S i).z : Int), 0⟩).1 ⟨4, 10, ((runS S i).z : Int), 0⟩).2.1 : Nat) : Int), Value.int .i64 ((((runS S i).nx + 1) : Nat) : Int), Value.map (some mb)]) :: (storeW s ((mk (mk ((runS S i).ts) ⟨4, 11, ((runS S i).z : Int), 0⟩).1 ⟨4, 10, ((runS S i).z : Int), 0⟩).1)) :: (mp mb (leftV ((runS S i).left))) :: F) (fun _ h => h) ?_
      refine Wl.q (v := Value.tuple #[Value.int .i64 (((mk ((runS S i).ts) ⟨4, 11, ((runS S i).z : Int), 0⟩).2.1 : Nat) : Int), Value.int .i64 0]) (q_move rfl) ?_
      refine Wl.q (v := Value.int .i64 (((mk ((runS S i).ts) ⟨4, 11, ((runS S i).z : Int), 0⟩).2.1 : Nat) : Int)) (q_extract (i := 0) rfl rfl) ?_
      refine Wl.q (v := Value.int .i64 0) (q_extract (i := 1) rfl rfl) ?_
      refine Wl.q (v := Value.int .i64 (((mk ((runS S i).ts) ⟨4, 11, ((runS S i).z : Int), 0⟩).2.1 : Nat) : Int)) (q_assign rfl) ?_
      refine Wl.q (v := Value.int .i64 0) (q_assign rfl) ?_
      refine Wl.done ?_
      refine Wx.go ?_
      refine Wc.seq ?_
      refine Wc.seq ?_
      refine Wc.region ?_
      refine Wl.q (v := Value.int .i64 0) (q_move rfl) ?_
      refine Wl.q (v := Value.bool false) (q_neq (r := true) rfl rfl (decide_eq_true (by decide))) ?_
      refine Wl.done ?_
      refine Wx.go ?_
      refine Wc.no rfl ?_
      refine Wc.skip ?_
      refine Wx.go ?_
      refine Wc.region ?_
      refine Wl.q (v := Value.pointer (some ⟨c, 0, none⟩)) (q_move hE0_0) ?_
      refine Wl.q (v := Value.pointer (some ⟨c, 0, none⟩)) (q_nil_ptr rfl) ?_
      refine Wl.q (v := Value.pointer (some ⟨c, 3, none⟩)) (q_field (m := 3) fo_39_3 rfl rfl) ?_
      refine Wl.q (v := Value.map (some mb)) (q_load sc_37 rfl (.cel (i := 0) rfl rfl)) ?_
      refine Wl.q (v := Value.int .i64 (((runS S i).nx : Nat) : Int)) (q_move rfl) ?_
      refine Wl.q (v := Value.int .i64 (((mk ((runS S i).ts) ⟨4, 11, ((runS S i).z : Int), 0⟩).2.1 : Nat) : Int)) (q_move rfl) ?_
      refine Wl.e (e_mapNew (i := 2) (key := natV (runS S i).nx) (val := natV (keyN (runS S i))) Tryz.underlying37 (Maps.int_keyed Tryz.underlying3) rfl rfl rfl rfl (keyI (x := (((runS S i).nx : Nat) : Int)) (by omega)) (left_keys hT.keys (by omega)) (left_no (fun p hp => Nat.ne_of_lt (hT.keys p hp)))) (fun _ _ => ?_)
      refine Wl.imp (L' := (pt c 39 [Value.pointer (some ⟨s, 0, none⟩), Value.int .i64 (((mk (mk ((runS S i).ts) ⟨4, 11, ((runS S i).z : Int), 0⟩).1 ⟨4, 10, ((runS S i).z : Int), 0⟩).2.1 : Nat) : Int), Value.int .i64 ((((runS S i).nx + 1) : Nat) : Int), Value.map (some mb)]) :: (storeW s ((mk (mk ((runS S i).ts) ⟨4, 11, ((runS S i).z : Int), 0⟩).1 ⟨4, 10, ((runS S i).z : Int), 0⟩).1)) :: (mp mb (leftV (runS S i).left ++ [(natV (runS S i).nx, natV (keyN (runS S i)))])) :: F) (fun _ h => h) ?_
      refine Wl.done ?_
      refine Wx.blockEnd ?_
      refine Wx.at (i + 1) ⟨(by omega), hE0_0, hE1_0, (by omega)⟩ (fun w hs => by have h2 : st W0 w ((pt c 39 [Value.pointer (some ⟨s, 0, none⟩), Value.int .i64 (((runS S (i + 1)).z : Nat) : Int), Value.int .i64 (((runS S (i + 1)).nx : Nat) : Int), Value.map (some mb)]) :: (mp mb (leftV ((runS S (i + 1)).left))) :: (storeW s ((runS S (i + 1)).ts)) :: F) := (by rw [show leftV (runS S (i + 1)).left = leftV (runS S i).left ++ [(natV (runS S i).nx, natV (keyN (runS S i)))] from leftV_snoc _ _ _]; exact (st_pull [0, 1, 0] (hs))); exact h2)
    ·
      have he : i = m - S.nx := by omega
      refine Wl.q (v := Value.bool false) (q_lss (r := false) rfl rfl (decide_eq_false hlt)) ?_
      refine Wl.done ?_
      refine Wx.go ?_
      refine Wc.no rfl ?_
      refine Wc.exit ?_
      refine Wx.thenExit ?_
      refine Wx.thenExit ?_
      refine Wx.out ?_
      refine Wx.go ?_
      refine Wc.seq ?_
      refine Wc.region ?_
      refine Wl.q (v := Value.pointer (some ⟨c, 0, none⟩)) (q_move hE0_0) ?_
      refine Wl.imp (L' := (pt c 39 [Value.pointer (some ⟨s, 0, none⟩), Value.int .i64 (((runS S i).z : Nat) : Int), Value.int .i64 (((runS S i).nx : Nat) : Int), Value.map (some mb)]) :: (storeW s ((runS S i).ts)) :: (mp mb (leftV ((runS S i).left))) :: F) (fun _ h => st_pull [0, 1] h) ?_
      refine Wl.e (e_call (F := (mp mb (leftV ((runS S i).left))) :: F) (args := [Value.pointer (some ⟨c, 0, none⟩)]) Tryz.call23 rfl (step_w W0 c mb s ((runS S i).ts) ((runS S i).z) ((runS S i).nx) hT.wf hTp (by omega) (by omega))) (fun _ _ => ?_)
      refine Wl.imp (L' := (pt c 39 [Value.pointer (some ⟨s, 0, none⟩), Value.int .i64 (((mk (mk ((runS S i).ts) ⟨4, 11, ((runS S i).z : Int), 0⟩).1 ⟨4, 10, ((runS S i).z : Int), 0⟩).2.1 : Nat) : Int), Value.int .i64 ((((runS S i).nx + 1) : Nat) : Int), Value.map (some mb)]) :: (storeW s ((mk (mk ((runS S i).ts) ⟨4, 11, ((runS S i).z : Int), 0⟩).1 ⟨4, 10, ((runS S i).z : Int), 0⟩).1)) :: (mp mb (leftV ((runS S i).left))) :: F) (fun _ h => h) ?_
      refine Wl.q (v := Value.int .i64 (((mk ((runS S i).ts) ⟨4, 11, ((runS S i).z : Int), 0⟩).2.1 : Nat) : Int)) (q_extract (i := 0) rfl rfl) ?_
      refine Wl.q (v := Value.int .i64 0) (q_extract (i := 1) rfl rfl) ?_
      refine Wl.q (v := Value.int .i64 (((mk ((runS S i).ts) ⟨4, 11, ((runS S i).z : Int), 0⟩).2.1 : Nat) : Int)) (q_assign rfl) ?_
      refine Wl.q (v := Value.int .i64 0) (q_assign rfl) ?_
      refine Wl.done ?_
      refine Wx.go ?_
      refine Wc.ret ?_
      refine Wx.fin2 rfl (.inl rfl) (fun w hs => ?_)
      rw [← he]
      exact ⟨(), trivial, rfl, (st_pull [0, 1, 0] (hs))⟩

theorem new_w (W0 : World) (s : Nat) (ts : List TermR) (app x : Int) (hw : Wf ts) (ha : 1 ≤ app ∧ app ≤ (ts.length : Int)) (hx : i64R x) (hl : ts.length + 2 ≤ 1048576) :
  Con Tryz.prog W0 5 #[Value.pointer (some ⟨s, 0, none⟩), Value.int .i64 app, Value.int .i64 x] [storeW s ts] (X := Nat × Nat) (fun _ => True) (fun y => .tuple #[.pointer (some ⟨y.1, 0, none⟩), .int .i64 0]) (fun y => [pt y.1 39 [.pointer (some ⟨s, 0, none⟩), .int .i64 (((beginR ts app x).2 : Nat) : Int), .int .i64 ((0 : Nat) : Int), .map (some y.2)], mp y.2 (leftV []), storeW s (beginR ts app x).1]) := by
 refine Con.of (args := [Value.pointer (some ⟨s, 0, none⟩), Value.int .i64 app, Value.int .i64 x]) Tryz.func5 rfl Tryz.ntmps5 rfl (fun F => ?_)
 show Wc _ W0 _ _ _ _ _ ((storeW s ts) :: F)
 refine Wc.seq ?_
 refine Wc.region ?_
 refine Wl.q (v := Value.pointer none) (q_assign rfl) ?_
 refine Wl.q (v := Value.int .i64 0) (q_assign rfl) ?_
 refine Wl.done ?_
 refine Wx.go ?_
 refine Wc.seq ?_
 refine Wc.region ?_
 refine Wl.q (v := Value.pointer (some ⟨s, 0, none⟩)) (q_move rfl) ?_
 refine Wl.q (v := Value.int .i64 app) (q_move rfl) ?_
 refine Wl.q (v := Value.int .i64 x) (q_move rfl) ?_
 refine Wl.e (e_call (F := F) (args := [Value.pointer (some ⟨s, 0, none⟩), Value.int .i64 app, Value.int .i64 x]) Tryz.call20 rfl (begin_w W0 s ts app x hw ha hx hl)) (fun _ _ => ?_)
 refine Wl.imp (L' := (storeW s ((beginR ts app x).1)) :: F) (fun _ h => h) ?_
 refine Wl.q (v := Value.tuple #[Value.int .i64 (((beginR ts app x).2 : Nat) : Int), Value.int .i64 0]) (q_move rfl) ?_
 refine Wl.q (v := Value.int .i64 (((beginR ts app x).2 : Nat) : Int)) (q_extract (i := 0) rfl rfl) ?_
 refine Wl.q (v := Value.int .i64 0) (q_extract (i := 1) rfl rfl) ?_
 refine Wl.q (v := Value.int .i64 (((beginR ts app x).2 : Nat) : Int)) (q_assign rfl) ?_
 refine Wl.q (v := Value.int .i64 0) (q_assign rfl) ?_
 refine Wl.done ?_
 refine Wx.go ?_
 refine Wc.seq ?_
 refine Wc.seq ?_
 refine Wc.region ?_
 refine Wl.q (v := Value.int .i64 0) (q_move rfl) ?_
 refine Wl.q (v := Value.bool false) (q_neq (r := true) rfl rfl (decide_eq_true (by decide))) ?_
 refine Wl.done ?_
 refine Wx.go ?_
 refine Wc.no rfl ?_
 refine Wc.skip ?_
 refine Wx.go ?_
 refine Wc.seq ?_
 refine Wc.region ?_
 refine Wl.q (v := Value.pointer (some ⟨s, 0, none⟩)) (q_move rfl) ?_
 refine Wl.q (v := Value.int .i64 (((beginR ts app x).2 : Nat) : Int)) (q_move rfl) ?_
 refine Wl.e (e_makeMap) (fun mb _ => ?_)
 refine Wl.imp (L' := (mp mb []) :: (storeW s ((beginR ts app x).1)) :: F) (fun _ h => h) ?_
 refine Wl.q (v := Value.agg #[Value.pointer (some ⟨s, 0, none⟩), Value.int .i64 (((beginR ts app x).2 : Nat) : Int), Value.int .i64 0, Value.map (some mb)]) (q_build (pl := [(0, 1), (1, 1), (2, 1), (3, 1)]) Tryz.underlying39 zo_39 (by kernel_rfl) (by kernel_rfl)) ?_
 refine Wl.e (e_box (x := .tmp 23) (vs := [Value.pointer (some ⟨s, 0, none⟩), Value.int .i64 (((beginR ts app x).2 : Nat) : Int), Value.int .i64 0, Value.map (some mb)]) rfl) (fun c _ => ?_)
 refine Wl.imp (L' := (pt c 39 [Value.pointer (some ⟨s, 0, none⟩), Value.int .i64 (((beginR ts app x).2 : Nat) : Int), Value.int .i64 0, Value.map (some mb)]) :: (mp mb []) :: (storeW s ((beginR ts app x).1)) :: F) (fun _ h => h) ?_
 refine Wl.q (v := Value.pointer (some ⟨c, 0, none⟩)) (q_assign rfl) ?_
 refine Wl.q (v := Value.int .i64 0) (q_assign rfl) ?_
 refine Wl.done ?_
 refine Wx.go ?_
 refine Wc.ret ?_
 refine Wx.fin2 rfl (.inl rfl) (fun w hs => ?_)
 exact ⟨(c, mb), trivial, rfl, hs⟩

end Go.Proofs.YtjjghmkjdgogiaaGreatDoor
