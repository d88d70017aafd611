/- What follows: contracts of the calls. -/
import Derived.Test.YtjjghmkjdgogiaaGreatDoorDdCk
import Derived.Test.YtjjghmkjdgogiaaGreatDoorSLI
import Derived.Test.YtjjghmkjdgogiaaGreatDoorIt
import Derived.Test.YtjjghmkjdgogiaaGreatDoorSLK
namespace Go.Proofs.YtjjghmkjdgogiaaGreatDoor
open Go Go.SL Go.Dd Go.RowKit
set_option linter.unusedVariables false
set_option maxRecDepth 8000

open Go.Maps Go.Sort Go.Shelf
theorem sorts_in (m : Nat) : AnyZI.SortsIn Tryz.prog Tryz.sortedA_ren Fence.wide m :=
  ⟨fun blk off cap ss W hH hblk hsz => callsIn_wide.2 (AnyM.slices_Sort_int Tryz.sortA blk off cap ss W hH hblk hsz),
   fun p cap W => callsIn_wide.2 (AnyM.slices_Sort_int_none Tryz.sortA p cap W)⟩
def lN (l : List (Nat × Nat)) : List Nat := l.map (·.1)
def lK (l : List (Nat × Nat)) : List Nat := l.map (·.2)
theorem lN_len (l : List (Nat × Nat)) : (lN l).length = l.length := List.length_map _
theorem lK_len (l : List (Nat × Nat)) : (lK l).length = l.length := List.length_map _
theorem lK_take {l : List (Nat × Nat)} {i : Nat} {o : Nat × Nat} (h : l[i]? = some o) : lK (l.take (i + 1)) = lK (l.take i) ++ [o.2] := by
 obtain ⟨hl, he⟩ := List.getElem?_eq_some_iff.1 h
 unfold lK
 rw [List.take_succ_eq_append_getElem hl, he, List.map_append]; rfl
def leftI (l : List (Nat × Nat)) : List (Int × Value) := l.map fun p => (((p.1 : Nat) : Int), natV p.2)
theorem leftI_V (l : List (Nat × Nat)) : (leftI l).map (fun p => (encZ p.1, p.2)) = leftV l := by
 unfold leftI leftV; rw [List.map_map]; rfl
theorem leftI_sorted {l : List (Nat × Nat)} (h : (l.map (·.1)).Pairwise (· < ·)) : (((leftI l).map (·.1)).mergeSort leI).map encZ = (l.map (·.1)).map natV := by
  have e : (leftI l).map (·.1) = (l.map (·.1)).map Int.ofNat := by unfold leftI; rw [List.map_map, List.map_map]; rfl
  rw [e, List.mergeSort_of_pairwise, List.map_map, List.map_map, List.map_map]
  · rfl
  · rw [List.pairwise_map]
    exact h.imp fun {a b} hab => by simp only [leI, decide_eq_true_eq]; exact Int.ofNat_le.2 (Nat.le_of_lt hab)
theorem keys_w (W0 : World) (mb : Nat) : Con Tryz.prog W0 25 #[.map (some mb)] [] (X := Nat) (fun _ => True) (fun q => .func (.func 142) #[] #[.pointer (some ⟨q, 0, none⟩)]) (fun q => [pt q 37 [.map (some mb)]]) := con_keys Tryz.keysA mb
theorem sorted_w (W0 : World) (q mb : Nat) (S : ChS) (hS : OkS S) (hl : S.left.length ≤ 1000) (hx : S.nx < 9223372036854775807) : Con Tryz.prog W0 24 #[.func (.func 142) #[] #[.pointer (some ⟨q, 0, none⟩)]] [pt q 37 [.map (some mb)], mp mb (leftV S.left)] (X := Value) (fun _ => True) (fun v => v)
  (fun v => [sl 3 1 v S.left.length ((lN S.left).map natV), pt q 37 [.map (some mb)], mp mb (leftV S.left)]) := by
 have h := con_sorted (W0 := W0) Tryz.keysA Tryz.sortedA sorts_in (enters_of Tryz.func141 (by kernel_rfl) rfl) (enters_of Tryz.func142 (by kernel_rfl) rfl) Tryz.underlying3 q mb (leftI S.left) (fun p hp => by
  obtain ⟨a, ha, rfl⟩ := List.mem_map.1 hp
  have := hS.keys a ha
  simp only [Lit.wf, IntKind.min, IntKind.max, IntKind.signed, IntKind.bits, Bool.and_eq_true, decide_eq_true_eq, if_true]; omega) (by unfold leftI; rw [List.length_map]; omega)
 rw [leftI_V, leftI_sorted hS.srt, show (leftI S.left).length = S.left.length from List.length_map _] at h
 exact h
theorem has_key {S : ChS} (hS : OkS S) {i : Nat} {o : Nat × Nat} (h : S.left[i]? = some o) : (natV o.1, natV o.2) ∈ leftV S.left ∧ ∀ v', (natV o.1, v') ∈ leftV S.left → v' = natV o.2 :=
 ⟨List.mem_of_getElem? (left_at (m := o.1) (k := o.2) h), left_uni hS.one (m := o.1) (k := o.2) h⟩
theorem map2_at {l : List (Nat × Nat)} {i : Nat} {o : Nat × Nat} (h : l[i]? = some o) : ((lN l).map natV)[i]? = some (natV o.1) := by unfold lN; rw [List.getElem?_map, List.getElem?_map, h]; rfl
theorem hasN_V (S : ChS) : (lK S.left).map natV ++ [natV S.z] = (hasN S).map natV := by unfold hasN lK; rw [List.map_append]; rfl
theorem hasN_len (S : ChS) : (lK S.left).length + 1 = (hasN S).length := by unfold hasN lK; simp

theorem has_w (W0 : World) (c mb s : Nat) (S : ChS) (hS : OkS S) (hll : S.left.length ≤ 1000) (hx : S.nx < 9223372036854775807) :
    Con Tryz.prog W0 8 #[Value.pointer (some ⟨c, 0, none⟩)] [pt c 39 [Value.pointer (some ⟨s, 0, none⟩), Value.int .i64 ((S.z : Nat) : Int), Value.int .i64 ((S.nx : Nat) : Int), Value.map (some mb)], mp mb (leftV S.left)] (X := Value) (fun _ => True) (fun v => v) (fun v => [sl 3 1 v ((hasN S).length) ((hasN S).map natV), pt c 39 [Value.pointer (some ⟨s, 0, none⟩), Value.int .i64 ((S.z : Nat) : Int), Value.int .i64 ((S.nx : Nat) : Int), Value.map (some mb)], mp mb (leftV S.left)]) := by
  refine Con.of (args := [Value.pointer (some ⟨c, 0, none⟩)]) Tryz.func8 rfl Tryz.ntmps8 rfl (fun F => ?_)
  show Wc _ W0 _ _ _ _ _ ((pt c 39 [Value.pointer (some ⟨s, 0, none⟩), Value.int .i64 ((S.z : Nat) : Int), Value.int .i64 ((S.nx : Nat) : Int), Value.map (some mb)]) :: (mp mb (leftV S.left)) :: F)
  refine Wc.seq ?_
  refine Wc.region ?_
  refine Wl.q (v := Value.slice none 0 0) (q_assign rfl) ?_
  refine Wl.done ?_
  refine Wx.go ?_
  refine Wc.seq ?_
  refine Wc.seq ?_
  refine Wc.region ?_
  refine Wl.q (v := Value.pointer (some ⟨c, 0, none⟩)) (q_move rfl) ?_
  refine Wl.q (v := Value.bool false) (q_eql_nil (r := false) rfl rfl Tryz.underlying28 rfl) ?_
  refine Wl.q (v := Value.bool false) (q_move rfl) ?_
  refine Wl.q (v := Value.pointer (some ⟨c, 0, none⟩)) (q_move rfl) ?_
  refine Wl.q (v := Value.pointer (some ⟨c, 0, none⟩)) (q_nil_ptr rfl) ?_
  refine Wl.q (v := Value.pointer (some ⟨c, 0, none⟩)) (q_field (m := 0) fo_39_0 rfl rfl) ?_
  refine Wl.q (v := Value.pointer (some ⟨s, 0, none⟩)) (q_load sc_24 rfl (.cel (i := 0) rfl rfl)) ?_
  refine Wl.q (v := Value.bool false) (q_eql_nil (r := false) rfl rfl Tryz.underlying24 rfl) ?_
  refine Wl.q (v := Value.bool false) (q_pick (t := false) rfl rfl) ?_
  refine Wl.done ?_
  refine Wx.go ?_
  refine Wc.no rfl ?_
  refine Wc.skip ?_
  refine Wx.go ?_
  refine Wc.seq ?_
  refine Wc.region ?_
  refine Wl.q (v := Value.slice none 0 0) (q_assign rfl) ?_
  refine Wl.done ?_
  refine Wx.go ?_
  refine Wc.seq ?_
  refine Wc.seq ?_
  refine Wc.region ?_
  refine Wl.q (v := Value.pointer (some ⟨c, 0, none⟩)) (q_move rfl) ?_
  refine Wl.q (v := Value.pointer (some ⟨c, 0, none⟩)) (q_nil_ptr rfl) ?_
  refine Wl.q (v := Value.pointer (some ⟨c, 3, none⟩)) (q_field (m := 3) fo_39_3 rfl rfl) ?_
  refine Wl.q (v := Value.map (some mb)) (q_load sc_37 rfl (.cel (i := 0) rfl rfl)) ?_
  refine Wl.e (e_call (F := (pt c 39 [Value.pointer (some ⟨s, 0, none⟩), Value.int .i64 ((S.z : Nat) : Int), Value.int .i64 ((S.nx : Nat) : Int), Value.map (some mb)]) :: (mp mb (leftV S.left)) :: F) (args := [Value.map (some mb)]) Tryz.call25 rfl (keys_w W0 mb)) (fun q _ => ?_)
  refine Wl.imp (L' := (pt q 37 [Value.map (some mb)]) :: (pt c 39 [Value.pointer (some ⟨s, 0, none⟩), Value.int .i64 ((S.z : Nat) : Int), Value.int .i64 ((S.nx : Nat) : Int), Value.map (some mb)]) :: (mp mb (leftV S.left)) :: F) (fun _ h => h) ?_
  refine Wl.imp (L' := (pt q 37 [Value.map (some mb)]) :: (mp mb (leftV S.left)) :: (pt c 39 [Value.pointer (some ⟨s, 0, none⟩), Value.int .i64 ((S.z : Nat) : Int), Value.int .i64 ((S.nx : Nat) : Int), Value.map (some mb)]) :: F) (fun _ h => st_pull [0, 1] h) ?_
  refine Wl.e (e_call (F := (pt c 39 [Value.pointer (some ⟨s, 0, none⟩), Value.int .i64 ((S.z : Nat) : Int), Value.int .i64 ((S.nx : Nat) : Int), Value.map (some mb)]) :: F) (args := [Value.func (.func 142) #[] #[Value.pointer (some ⟨q, 0, none⟩)]]) Tryz.call24 rfl (sorted_w W0 q mb S hS (by omega) (by omega))) (fun v _ => ?_)
  refine Wl.imp (L' := (sl 3 1 v S.left.length ((lN S.left).map natV)) :: (pt q 37 [Value.map (some mb)]) :: (mp mb (leftV S.left)) :: (pt c 39 [Value.pointer (some ⟨s, 0, none⟩), Value.int .i64 ((S.z : Nat) : Int), Value.int .i64 ((S.nx : Nat) : Int), Value.map (some mb)]) :: F) (fun _ h => h) ?_
  refine Wl.q (v := Value.int .i64 ((S.left.length : Nat) : Int)) (q_len_sl (i := 0) Tryz.underlying23 rfl rfl) ?_
  refine Wl.q (v := Value.int .i64 0) (q_move rfl) ?_
  refine Wl.done ?_
  refine Wx.go ?_
  refine Wc.block ?_
  refine Wc.loop (X := Nat × Value) (fun (i, u) E => E 22 = Value.int .i64 ((i : Nat) : Int) ∧ E 3 = u ∧ E 0 = Value.pointer (some ⟨c, 0, none⟩) ∧ E 20 = v ∧ E 21 = Value.int .i64 ((S.left.length : Nat) : Int) ∧ i ≤ S.left.length) (fun (i, u) => (sl 3 1 u ((lK (S.left.take i)).length) ((lK (S.left.take i)).map natV)) :: (sl 3 1 v S.left.length ((lN S.left).map natV)) :: (pt c 39 [Value.pointer (some ⟨s, 0, none⟩), Value.int .i64 ((S.z : Nat) : Int), Value.int .i64 ((S.nx : Nat) : Int), Value.map (some mb)]) :: (mp mb (leftV S.left)) :: F) (fun (i, u) => S.left.length - i) (0, Value.slice none 0 0) ?_ ?_ ?_
  · exact ⟨rfl, rfl, rfl, rfl, rfl, (by omega)⟩
  · exact fun w hs => st_sl_nil (st_pull [0, 1, 0] (st_drop (st_pull [1] hs)))
  · rintro ⟨i, u⟩ E2 ⟨hE22_0, hE3_0, hE0_0, hE20_0, hE21_0, hi⟩
    dsimp only at *
    have htl := lK_len (S.left.take i)
    rw [List.length_take] at htl
    refine Wc.seq ?_
    refine Wc.region ?_
    by_cases hlt : ((i : Nat) : Int) < ((S.left.length : Nat) : Int)
    ·
      obtain ⟨o, hget⟩ : ∃ o, S.left[i]? = some o := ⟨S.left[i]'(by omega), List.getElem?_eq_getElem (by omega)⟩
      refine Wl.q (v := Value.bool true) (q_lss (r := true) hE22_0 hE21_0 (decide_eq_true hlt)) ?_
      refine Wl.done ?_
      refine Wx.go ?_
      refine Wc.seq ?_
      refine Wc.yes rfl ?_
      refine Wc.skip ?_
      refine Wx.go ?_
      refine Wc.seq ?_
      refine Wc.block ?_
      refine Wc.seq ?_
      refine Wc.region ?_
      refine Wl.sl (i := 1) (m := S.left.length) rfl (by omega) (fun nb nc hv hcl => ?_)
      subst hv
      refine Wl.q (v := Value.pointer (some ⟨nb, i, none⟩)) (q_idx (m := i) se_23 hE20_0 hE22_0 (by omega) (by omega) (by simp)) ?_
      refine Wl.q (v := Value.int .i64 ((o.1 : Nat) : Int)) (q_load sc_3 rfl (.row (i := 1) rfl (map2_at hget))) ?_
      refine Wl.q (v := Value.int .i64 ((o.1 : Nat) : Int)) (q_assign rfl) ?_
      refine Wl.done ?_
      refine Wx.go ?_
      refine Wc.region ?_
      refine Wl.q (v := u) (q_move hE3_0) ?_
      refine Wl.q (v := Value.pointer (some ⟨c, 0, none⟩)) (q_move hE0_0) ?_
      refine Wl.q (v := Value.pointer (some ⟨c, 0, none⟩)) (q_nil_ptr rfl) ?_
      refine Wl.q (v := Value.pointer (some ⟨c, 3, none⟩)) (q_field (m := 3) fo_39_3 rfl rfl) ?_
      refine Wl.q (v := Value.map (some mb)) (q_load sc_37 rfl (.cel (i := 2) rfl rfl)) ?_
      refine Wl.q (v := Value.int .i64 ((o.1 : Nat) : Int)) (q_move rfl) ?_
      refine Wl.q (v := Value.int .i64 ((o.2 : Nat) : Int)) (q_lookup1 (i := 3) (key := natV o.1) (r := natV o.2) Tryz.underlying37 (Maps.int_keyed Tryz.underlying3) zo_3 rfl rfl rfl (keyI (x := ((o.1 : Nat) : Int)) (by have := hS.keys o (List.mem_of_getElem? hget); omega)) (left_keys hS.keys (by omega)) (.inr (has_key hS hget))) ?_
      refine Wl.e (e_buildSlice (cs := [Value.int .i64 ((o.2 : Nat) : Int)]) se_23 zo_3 (by decide) (by decide) (by kernel_rfl)) (fun b3 _ => ?_)
      refine Wl.imp (L' := (pt b3 3 [Value.int .i64 ((o.2 : Nat) : Int)]) :: (sl 3 1 u ((lK (S.left.take i)).length) ((lK (S.left.take i)).map natV)) :: (slp 3 1 nb nc ((lN S.left).map natV)) :: (pt c 39 [Value.pointer (some ⟨s, 0, none⟩), Value.int .i64 ((S.z : Nat) : Int), Value.int .i64 ((S.nx : Nat) : Int), Value.map (some mb)]) :: (mp mb (leftV S.left)) :: F) (fun _ h => h) ?_
      refine Wl.e (e_append (i := 1) (k := 1) (m := 1) (off := 0) (news := [Value.int .i64 ((o.2 : Nat) : Int)]) Tryz.underlying23 sz_3 by_3 zo_3 rfl rfl rfl rfl rfl (Has.of_pt (i := 0) rfl rfl) rfl (by decide) (by simp only [maxLen]; omega) (by omega)) (fun u2 _ => ?_)
      refine Wl.imp (L' := (pt b3 3 [Value.int .i64 ((o.2 : Nat) : Int)]) :: (sl 3 1 u2 (((lK (S.left.take i)).length) + 1) (((lK (S.left.take i)).map natV) ++ [Value.int .i64 ((o.2 : Nat) : Int)])) :: (slp 3 1 nb nc ((lN S.left).map natV)) :: (pt c 39 [Value.pointer (some ⟨s, 0, none⟩), Value.int .i64 ((S.z : Nat) : Int), Value.int .i64 ((S.nx : Nat) : Int), Value.map (some mb)]) :: (mp mb (leftV S.left)) :: F) (fun _ h => h) ?_
      refine Wl.q (v := u2) (q_assign rfl) ?_
      refine Wl.done ?_
      refine Wx.blockEnd ?_
      refine Wx.go ?_
      refine Wc.region ?_
      refine Wl.q (v := Value.int .i64 ((i + 1 : Nat) : Int)) (q_add (c := ((i + 1 : Nat) : Int)) hE22_0 rfl (by rw [wrap_i64] <;> omega)) ?_
      refine Wl.q (v := Value.int .i64 ((i + 1 : Nat) : Int)) (q_move rfl) ?_
      refine Wl.done ?_
      refine Wx.at (i + 1, u2) ⟨(by simp only; omega), rfl, rfl, hE0_0, hE20_0, hE21_0, (by simp only; omega)⟩ (fun w hs => by rw [lK_take hget, List.length_append, List.map_append]; exact (fun hs => st_pull [1, 0, 0, 0] (st_sl_mk (e := 3) (by simp [lN_len]) hcl hs)) (st_pull [1, 0, 0, 0] (st_drop (st_pull [0] hs))))
    ·
      have hie : i = S.left.length := by omega
      refine Wl.q (v := Value.bool false) (q_lss (r := false) hE22_0 hE21_0 (decide_eq_false hlt)) ?_
      refine Wl.done ?_
      refine Wx.go ?_
      refine Wc.seq ?_
      refine Wc.no rfl ?_
      refine Wc.exit ?_
      refine Wx.thenExit ?_
      refine Wx.thenExit ?_
      refine Wx.out ?_
      refine Wx.go ?_
      refine Wc.seq ?_
      refine Wc.region ?_
      refine Wl.q (v := u) (q_move hE3_0) ?_
      refine Wl.q (v := Value.pointer (some ⟨c, 0, none⟩)) (q_move hE0_0) ?_
      refine Wl.q (v := Value.pointer (some ⟨c, 0, none⟩)) (q_nil_ptr rfl) ?_
      refine Wl.q (v := Value.pointer (some ⟨c, 1, none⟩)) (q_field (m := 1) fo_39_1 rfl rfl) ?_
      refine Wl.q (v := Value.int .i64 ((S.z : Nat) : Int)) (q_load sc_3 rfl (.cel (i := 2) rfl rfl)) ?_
      refine Wl.e (e_buildSlice (cs := [Value.int .i64 ((S.z : Nat) : Int)]) se_23 zo_3 (by decide) (by decide) (by kernel_rfl)) (fun b4 _ => ?_)
      refine Wl.imp (L' := (pt b4 3 [Value.int .i64 ((S.z : Nat) : Int)]) :: (sl 3 1 u ((lK (S.left.take i)).length) ((lK (S.left.take i)).map natV)) :: (sl 3 1 v S.left.length ((lN S.left).map natV)) :: (pt c 39 [Value.pointer (some ⟨s, 0, none⟩), Value.int .i64 ((S.z : Nat) : Int), Value.int .i64 ((S.nx : Nat) : Int), Value.map (some mb)]) :: (mp mb (leftV S.left)) :: F) (fun _ h => h) ?_
      refine Wl.e (e_append (i := 1) (k := 1) (m := 1) (off := 0) (news := [Value.int .i64 ((S.z : Nat) : Int)]) Tryz.underlying23 sz_3 by_3 zo_3 rfl rfl rfl rfl rfl (Has.of_pt (i := 0) rfl rfl) rfl (by decide) (by simp only [maxLen]; omega) (by omega)) (fun u3 _ => ?_)
      refine Wl.imp (L' := (pt b4 3 [Value.int .i64 ((S.z : Nat) : Int)]) :: (sl 3 1 u3 (((lK (S.left.take i)).length) + 1) (((lK (S.left.take i)).map natV) ++ [Value.int .i64 ((S.z : Nat) : Int)])) :: (sl 3 1 v S.left.length ((lN S.left).map natV)) :: (pt c 39 [Value.pointer (some ⟨s, 0, none⟩), Value.int .i64 ((S.z : Nat) : Int), Value.int .i64 ((S.nx : Nat) : Int), Value.map (some mb)]) :: (mp mb (leftV S.left)) :: F) (fun _ h => h) ?_
      refine Wl.q (v := u3) (q_assign rfl) ?_
      refine Wl.done ?_
      refine Wx.go ?_
      refine Wc.ret ?_
      refine Wx.fin1 rfl (.inl rfl) (fun w hs => ?_)
      subst hie
      rw [List.take_length] at hs
      have hV := hasN_V S
      have hL := hasN_len S
      refine ⟨u3, trivial, rfl, ?_⟩
      rw [← hV, ← hL]
      exact (st_drop (st_drop (st_pull [0, 1] hs)))

end Go.Proofs.YtjjghmkjdgogiaaGreatDoor
