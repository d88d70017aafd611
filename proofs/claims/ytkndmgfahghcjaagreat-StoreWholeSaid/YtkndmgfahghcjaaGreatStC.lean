import Derived.Test.YtkndmgfahghcjaaGreatStB
import Derived.Test.YtkndmgfahghcjaaGreatIt
/- Contracts of the calls. -/
namespace Go.Proofs.YtkndmgfahghcjaaGreat
open Go Go.SL Go.St Go.Wr Go.RowKit
open Go.Dk (DS WF)
open Go.Jn (JS Ok openD_up)
set_option linter.unusedVariables false
set_option maxRecDepth 8000
theorem fo_49_0 : fieldOff Tryz.prog 49 0 = some 0 := by kernel_rfl
theorem fo_49_1 : fieldOff Tryz.prog 49 1 = some 1 := by kernel_rfl
theorem sc_47 : scalar Tryz.prog 47 = true := by kernel_rfl
theorem zo_49 : zeroOf Tryz.prog 49 = some (Value.agg #[Value.pointer none, Value.map none]) := by kernel_rfl
open Go.Maps Go.Sort Go.Shelf
theorem keyS {s : ByteArray} (h : s.size ≤ 65536) : ∃ l, keyOf Tryz.prog 9 (.string s) = some l := by
 have h' : s.size ≤ maxLen := Nat.le_trans h (by decide)
 exact ⟨_, by simp [keyOf, Tryz.underlying9, mapKey, h']; rfl⟩
theorem keysS {T : AL} (h : okA T) : ∀ p ∈ strV T, ∃ l, keyOf Tryz.prog 9 p.1 = some l := fun p hp => by
 obtain ⟨q, hq, rfl⟩ := List.mem_map.1 hp
 exact keyS (h.2 q hq).1
theorem sorts_in (m : Nat) : Go.Proofs.AnyZ.SortsIn Tryz.prog Tryz.sortedA_ren Fence.wide m :=
  ⟨fun blk off cap ss W hH hblk hsz => callsIn_wide.2 (Go.Proofs.AnyM.slices_Sort_string Tryz.sortA blk off cap ss W hH hblk hsz),
   fun p cap W => callsIn_wide.2 (Go.Proofs.AnyM.slices_Sort_string_none Tryz.sortA p cap W)⟩
def keysL (T : AL) : List (List UInt8 × Value) := T.map fun p => (p.1.data.toList, .string p.2)
theorem keysL_V (T : AL) : (keysL T).map (fun p => (Go.Proofs.encStr p.1, p.2)) = strV T := by
 unfold keysL strV; rw [List.map_map]; exact List.map_congr_left fun p _ => by simp [Go.Proofs.encStr]
theorem keysL_N (T : AL) : ((keysL T).map (·.1)).mergeSort leB = namesA T := by
 unfold keysL namesA keysA; rw [List.map_map, List.map_map]; rfl
theorem keys_w (W0 : World) (mb : Nat) : Con Tryz.prog W0 54 #[.map (some mb)] [] (X := Nat) (fun _ => True) (fun q => .func (.func 83) #[] #[.pointer (some ⟨q, 0, none⟩)]) (fun q => [pt q 47 [.map (some mb)]]) := con_keysS Tryz.keysA mb
theorem sorted_w (W0 : World) (q mb : Nat) (T : AL) (hT : okA T) (hl : T.length ≤ 1000000) : Con Tryz.prog W0 53 #[.func (.func 83) #[] #[.pointer (some ⟨q, 0, none⟩)]] [pt q 47 [.map (some mb)], mp mb (strV T)] (X := Value) (fun _ => True) (fun v => v)
  (fun v => [sl 9 1 v T.length ((namesA T).map Go.Proofs.encStr), pt q 47 [.map (some mb)], mp mb (strV T)]) := by
 have h := con_sortedS (W0 := W0) Tryz.keysA Tryz.sortedA sorts_in (enters_of Tryz.func82 (by kernel_rfl) rfl) (enters_of Tryz.func83 (by kernel_rfl) rfl) Tryz.underlying9 q mb (keysL T) (fun p hp => by
  obtain ⟨a, ha, rfl⟩ := List.mem_map.1 hp
  have := (hT.2 a ha).1
  show a.1.data.toList.length ≤ maxLen
  rw [size_list]; exact Nat.le_trans this (by decide)) (by unfold keysL; rw [List.length_map]; omega)
 rw [keysL_V, keysL_N, show (keysL T).length = T.length from List.length_map _] at h
 exact h
theorem clone_w (W0 : World) (mb : Nat) (T : AL) : Con Tryz.prog W0 52 #[.map (some mb)] [mp mb (strV T)] (X := Nat) (fun _ => True) (fun q => .map (some q)) (fun q => [mp q (strV T), mp mb (strV T)]) := con_clone Tryz.cloneA mb (strV T)

theorem st_there (W0 : World) (sp j mb : Nat) :
  Con Tryz.prog W0 51 #[Value.pointer (some ⟨sp, 0, none⟩)] [pt sp 49 [Value.pointer (some ⟨j, 0, none⟩), Value.map (some mb)]] (X := Unit) (fun _ => True) (fun _ => .bool true) (fun _ => [pt sp 49 [Value.pointer (some ⟨j, 0, none⟩), Value.map (some mb)]]) := by
 refine Con.of (args := [Value.pointer (some ⟨sp, 0, none⟩)]) Tryz.func51 rfl Tryz.ntmps51 rfl (fun F => ?_)
 show Wc _ W0 _ _ _ _ _ ((pt sp 49 [Value.pointer (some ⟨j, 0, none⟩), Value.map (some mb)]) :: F)
 refine Wc.seq (Wc.region (Wl.q (v := Value.bool false) (q_assign rfl) (Wl.done (Wx.go (Wc.seq (Wc.region (Wl.q (v := Value.pointer (some ⟨sp, 0, none⟩)) (q_move rfl) (Wl.q (v := Value.bool true) (q_neq_nil (r := false) rfl rfl Tryz.underlying36 rfl) (Wl.q (v := Value.bool true) (q_move rfl) (Wl.q (v := Value.pointer (some ⟨sp, 0, none⟩)) (q_move rfl) (Wl.q (v := Value.pointer (some ⟨sp, 0, none⟩)) (q_nil_ptr rfl) ?_)))))))))))
 refine Wl.q (v := Value.pointer (some ⟨sp, 0, none⟩)) (q_field (m := 0) fo_49_0 rfl rfl) (Wl.q (v := Value.pointer (some ⟨j, 0, none⟩)) (q_load sc_46 rfl (.cel (i := 0) rfl rfl)) (Wl.q (v := Value.bool true) (q_neq_nil (r := false) rfl rfl Tryz.underlying46 rfl) (Wl.q (v := Value.bool true) (q_pick (t := true) rfl rfl) (Wl.q (v := Value.bool true) (q_assign rfl) (Wl.done (Wx.go (Wc.ret (Wx.fin1 rfl (.inl rfl) (fun w hs => ?_)))))))))
 exact ⟨(), trivial, rfl, hs⟩

theorem get_no (W0 : World) (sp j mb : Nat) (T : AL) (n : ByteArray) (hT : okA T) (hn : n.size ≤ 65536) (h : getA T n = none) :
  Con Tryz.prog W0 22 #[Value.pointer (some ⟨sp, 0, none⟩), Value.string n] [pt sp 49 [Value.pointer (some ⟨j, 0, none⟩), Value.map (some mb)], mp mb (strV T)] (X := Unit) (fun _ => True) (fun _ => .tuple #[.string (⟨#[]⟩), .bool false]) (fun _ => [pt sp 49 [Value.pointer (some ⟨j, 0, none⟩), Value.map (some mb)], mp mb (strV T)]) := by
 refine Con.of (args := [Value.pointer (some ⟨sp, 0, none⟩), Value.string n]) Tryz.func22 rfl Tryz.ntmps22 rfl (fun F => ?_)
 show Wc _ W0 _ _ _ _ _ ((pt sp 49 [Value.pointer (some ⟨j, 0, none⟩), Value.map (some mb)]) :: (mp mb (strV T)) :: F)
 refine Wc.seq (Wc.region (Wl.q (v := Value.string (⟨#[]⟩)) (q_assign rfl) (Wl.q (v := Value.bool false) (q_assign rfl) (Wl.done (Wx.go (Wc.seq (Wc.seq (Wc.region (Wl.q (v := Value.pointer (some ⟨sp, 0, none⟩)) (q_move rfl) (Wl.e (e_call (F := (mp mb (strV T)) :: F) (args := [Value.pointer (some ⟨sp, 0, none⟩)]) Tryz.call51 rfl (st_there W0 sp j mb)) (fun _ _ => Wl.imp (L' := (pt sp 49 [Value.pointer (some ⟨j, 0, none⟩), Value.map (some mb)]) :: (mp mb (strV T)) :: F) (fun _ h => h) ?_)))))))))))
 refine Wl.q (v := Value.bool false) (q_not rfl rfl) (Wl.done (Wx.go (Wc.no rfl (Wc.skip (Wx.go (Wc.seq (Wc.region (Wl.q (v := Value.pointer (some ⟨sp, 0, none⟩)) (q_move rfl) (Wl.q (v := Value.pointer (some ⟨sp, 0, none⟩)) (q_nil_ptr rfl) (Wl.q (v := Value.pointer (some ⟨sp, 1, none⟩)) (q_field (m := 1) fo_49_1 rfl rfl) (Wl.q (v := Value.map (some mb)) (q_load sc_47 rfl (.cel (i := 0) rfl rfl)) ?_)))))))))))
 refine Wl.q (v := Value.string n) (q_move rfl) (Wl.q (v := Value.tuple #[Value.string (⟨#[]⟩), Value.bool false]) (q_lookup (i := 1) (key := .string n) (r := .string (⟨#[]⟩)) (ok := false) Tryz.underlying47 (Maps.string_keyed Tryz.underlying9) zo_9 rfl rfl rfl (keyS hn) (keysS hT) (.inl ⟨strV_no h, rfl, rfl⟩)) (Wl.q (v := Value.tuple #[Value.string (⟨#[]⟩), Value.bool false]) (q_move rfl) (Wl.q (v := Value.string (⟨#[]⟩)) (q_extract (i := 0) rfl rfl) (Wl.q (v := Value.bool false) (q_extract (i := 1) rfl rfl) (Wl.q (v := Value.string (⟨#[]⟩)) (q_assign rfl) (Wl.q (v := Value.bool false) (q_assign rfl) (Wl.done (Wx.go (Wc.seq (Wc.region (Wl.q (v := Value.string (⟨#[]⟩)) (q_move rfl) ?_)))))))))))
 refine Wl.q (v := Value.bool false) (q_move rfl) (Wl.q (v := Value.string (⟨#[]⟩)) (q_assign rfl) (Wl.q (v := Value.bool false) (q_assign rfl) (Wl.done (Wx.go (Wc.ret (Wx.fin2 rfl (.inl rfl) (fun w hs => ?_)))))))
 exact ⟨(), trivial, rfl, hs⟩

theorem get_yes (W0 : World) (sp j mb : Nat) (T : AL) (n : ByteArray) (hT : okA T) (hn : n.size ≤ 65536) (t : ByteArray) (h : getA T n = some t) :
  Con Tryz.prog W0 22 #[Value.pointer (some ⟨sp, 0, none⟩), Value.string n] [pt sp 49 [Value.pointer (some ⟨j, 0, none⟩), Value.map (some mb)], mp mb (strV T)] (X := Unit) (fun _ => True) (fun _ => .tuple #[.string t, .bool true]) (fun _ => [pt sp 49 [Value.pointer (some ⟨j, 0, none⟩), Value.map (some mb)], mp mb (strV T)]) := by
 refine Con.of (args := [Value.pointer (some ⟨sp, 0, none⟩), Value.string n]) Tryz.func22 rfl Tryz.ntmps22 rfl (fun F => ?_)
 show Wc _ W0 _ _ _ _ _ ((pt sp 49 [Value.pointer (some ⟨j, 0, none⟩), Value.map (some mb)]) :: (mp mb (strV T)) :: F)
 refine Wc.seq (Wc.region (Wl.q (v := Value.string (⟨#[]⟩)) (q_assign rfl) (Wl.q (v := Value.bool false) (q_assign rfl) (Wl.done (Wx.go (Wc.seq (Wc.seq (Wc.region (Wl.q (v := Value.pointer (some ⟨sp, 0, none⟩)) (q_move rfl) (Wl.e (e_call (F := (mp mb (strV T)) :: F) (args := [Value.pointer (some ⟨sp, 0, none⟩)]) Tryz.call51 rfl (st_there W0 sp j mb)) (fun _ _ => Wl.imp (L' := (pt sp 49 [Value.pointer (some ⟨j, 0, none⟩), Value.map (some mb)]) :: (mp mb (strV T)) :: F) (fun _ h => h) ?_)))))))))))
 refine Wl.q (v := Value.bool false) (q_not rfl rfl) (Wl.done (Wx.go (Wc.no rfl (Wc.skip (Wx.go (Wc.seq (Wc.region (Wl.q (v := Value.pointer (some ⟨sp, 0, none⟩)) (q_move rfl) (Wl.q (v := Value.pointer (some ⟨sp, 0, none⟩)) (q_nil_ptr rfl) (Wl.q (v := Value.pointer (some ⟨sp, 1, none⟩)) (q_field (m := 1) fo_49_1 rfl rfl) (Wl.q (v := Value.map (some mb)) (q_load sc_47 rfl (.cel (i := 0) rfl rfl)) ?_)))))))))))
 refine Wl.q (v := Value.string n) (q_move rfl) (Wl.q (v := Value.tuple #[Value.string t, Value.bool true]) (q_lookup (i := 1) (key := .string n) (r := .string t) (ok := true) Tryz.underlying47 (Maps.string_keyed Tryz.underlying9) zo_9 rfl rfl rfl (keyS hn) (keysS hT) (.inr ⟨(strV_yes hT.1 h).1, (strV_yes hT.1 h).2, rfl⟩)) (Wl.q (v := Value.tuple #[Value.string t, Value.bool true]) (q_move rfl) (Wl.q (v := Value.string t) (q_extract (i := 0) rfl rfl) (Wl.q (v := Value.bool true) (q_extract (i := 1) rfl rfl) (Wl.q (v := Value.string t) (q_assign rfl) (Wl.q (v := Value.bool true) (q_assign rfl) (Wl.done (Wx.go (Wc.seq (Wc.region (Wl.q (v := Value.string t) (q_move rfl) ?_)))))))))))
 refine Wl.q (v := Value.bool true) (q_move rfl) (Wl.q (v := Value.string t) (q_assign rfl) (Wl.q (v := Value.bool true) (q_assign rfl) (Wl.done (Wx.go (Wc.ret (Wx.fin2 rfl (.inl rfl) (fun w hs => ?_)))))))
 exact ⟨(), trivial, rfl, hs⟩

theorem names_w (W0 : World) (sp j mb : Nat) (T : AL) (hT : okA T) (hl : T.length ≤ 1000000) :
  Con Tryz.prog W0 24 #[Value.pointer (some ⟨sp, 0, none⟩)] [pt sp 49 [Value.pointer (some ⟨j, 0, none⟩), Value.map (some mb)], mp mb (strV T)] (X := Value) (fun _ => True) (fun v => v) (fun v => [sl 9 1 v T.length ((namesA T).map Go.Proofs.encStr), pt sp 49 [Value.pointer (some ⟨j, 0, none⟩), Value.map (some mb)], mp mb (strV T)]) := by
 refine Con.of (args := [Value.pointer (some ⟨sp, 0, none⟩)]) Tryz.func24 rfl Tryz.ntmps24 rfl (fun F => ?_)
 show Wc _ W0 _ _ _ _ _ ((pt sp 49 [Value.pointer (some ⟨j, 0, none⟩), Value.map (some mb)]) :: (mp mb (strV T)) :: F)
 refine Wc.seq (Wc.region (Wl.q (v := Value.slice none 0 0) (q_assign rfl) (Wl.done (Wx.go (Wc.seq (Wc.seq (Wc.region (Wl.q (v := Value.pointer (some ⟨sp, 0, none⟩)) (q_move rfl) (Wl.e (e_call (F := (mp mb (strV T)) :: F) (args := [Value.pointer (some ⟨sp, 0, none⟩)]) Tryz.call51 rfl (st_there W0 sp j mb)) (fun _ _ => Wl.imp (L' := (pt sp 49 [Value.pointer (some ⟨j, 0, none⟩), Value.map (some mb)]) :: (mp mb (strV T)) :: F) (fun _ h => h) (Wl.q (v := Value.bool false) (q_not rfl rfl) ?_)))))))))))
 refine Wl.done (Wx.go (Wc.no rfl (Wc.skip (Wx.go (Wc.seq (Wc.region (Wl.q (v := Value.pointer (some ⟨sp, 0, none⟩)) (q_move rfl) (Wl.q (v := Value.pointer (some ⟨sp, 0, none⟩)) (q_nil_ptr rfl) (Wl.q (v := Value.pointer (some ⟨sp, 1, none⟩)) (q_field (m := 1) fo_49_1 rfl rfl) (Wl.q (v := Value.map (some mb)) (q_load sc_47 rfl (.cel (i := 0) rfl rfl)) (Wl.e (e_call (F := (pt sp 49 [Value.pointer (some ⟨j, 0, none⟩), Value.map (some mb)]) :: (mp mb (strV T)) :: F) (args := [Value.map (some mb)]) Tryz.call54 rfl (keys_w W0 mb)) (fun kq _ => ?_))))))))))))
 refine Wl.imp (L' := (pt kq 47 [Value.map (some mb)]) :: (pt sp 49 [Value.pointer (some ⟨j, 0, none⟩), Value.map (some mb)]) :: (mp mb (strV T)) :: F) (fun _ h => h) (Wl.imp (L' := (pt kq 47 [Value.map (some mb)]) :: (mp mb (strV T)) :: (pt sp 49 [Value.pointer (some ⟨j, 0, none⟩), Value.map (some mb)]) :: F) (fun _ h => st_pull [0, 1] h) (Wl.e (e_call (F := (pt sp 49 [Value.pointer (some ⟨j, 0, none⟩), Value.map (some mb)]) :: F) (args := [Value.func (.func 83) #[] #[Value.pointer (some ⟨kq, 0, none⟩)]]) Tryz.call53 rfl (sorted_w W0 kq mb T hT hl)) (fun nv _ => Wl.imp (L' := (sl 9 1 nv T.length ((namesA T).map Go.Proofs.encStr)) :: (pt kq 47 [Value.map (some mb)]) :: (mp mb (strV T)) :: (pt sp 49 [Value.pointer (some ⟨j, 0, none⟩), Value.map (some mb)]) :: F) (fun _ h => h) (Wl.q (v := nv) (q_assign rfl) (Wl.done (Wx.go (Wc.ret (Wx.fin1 rfl (.inl rfl) (fun w hs => ?_)))))))))
 exact ⟨nv, trivial, rfl, (st_pull [0, 1, 0] (st_drop (st_pull [1] hs)))⟩

theorem seq_w (W0 : World) (sp j mb dp : Nat) (t : ByteArray) (q : Int) :
  Con Tryz.prog W0 25 #[Value.pointer (some ⟨sp, 0, none⟩)] [pt sp 49 [Value.pointer (some ⟨j, 0, none⟩), Value.map (some mb)], isJ j dp ⟨t, q, false⟩] (X := Unit) (fun _ => True) (fun _ => .int .i64 q) (fun _ => [pt sp 49 [Value.pointer (some ⟨j, 0, none⟩), Value.map (some mb)], isJ j dp ⟨t, q, false⟩]) := by
 refine Con.of (args := [Value.pointer (some ⟨sp, 0, none⟩)]) Tryz.func25 rfl Tryz.ntmps25 rfl (fun F => ?_)
 show Wc _ W0 _ _ _ _ _ ((pt sp 49 [Value.pointer (some ⟨j, 0, none⟩), Value.map (some mb)]) :: (isJ j dp ⟨t, q, false⟩) :: F)
 refine Wc.seq (Wc.region (Wl.q (v := Value.int .i64 0) (q_assign rfl) (Wl.done (Wx.go (Wc.seq (Wc.seq (Wc.region (Wl.q (v := Value.pointer (some ⟨sp, 0, none⟩)) (q_move rfl) (Wl.e (e_call (F := (isJ j dp ⟨t, q, false⟩) :: F) (args := [Value.pointer (some ⟨sp, 0, none⟩)]) Tryz.call51 rfl (st_there W0 sp j mb)) (fun _ _ => Wl.imp (L' := (pt sp 49 [Value.pointer (some ⟨j, 0, none⟩), Value.map (some mb)]) :: (isJ j dp ⟨t, q, false⟩) :: F) (fun _ h => h) (Wl.q (v := Value.bool false) (q_not rfl rfl) ?_)))))))))))
 refine Wl.done (Wx.go (Wc.no rfl (Wc.skip (Wx.go (Wc.seq (Wc.region (Wl.q (v := Value.pointer (some ⟨sp, 0, none⟩)) (q_move rfl) (Wl.q (v := Value.pointer (some ⟨sp, 0, none⟩)) (q_nil_ptr rfl) (Wl.q (v := Value.pointer (some ⟨sp, 0, none⟩)) (q_field (m := 0) fo_49_0 rfl rfl) (Wl.q (v := Value.pointer (some ⟨j, 0, none⟩)) (q_load sc_46 rfl (.cel (i := 0) rfl rfl)) (Wl.imp (L' := (isJ j dp ⟨t, q, false⟩) :: (pt sp 49 [Value.pointer (some ⟨j, 0, none⟩), Value.map (some mb)]) :: F) (fun _ h => st_pull [1] h) ?_)))))))))))
 refine Wl.e (e_call (F := (pt sp 49 [Value.pointer (some ⟨j, 0, none⟩), Value.map (some mb)]) :: F) (args := [Value.pointer (some ⟨j, 0, none⟩)]) Tryz.call49 rfl (seq_in W0 j dp t q false)) (fun _ _ => Wl.imp (L' := (isJ j dp ⟨t, q, false⟩) :: (pt sp 49 [Value.pointer (some ⟨j, 0, none⟩), Value.map (some mb)]) :: F) (fun _ h => h) (Wl.q (v := Value.int .i64 q) (q_assign rfl) (Wl.done (Wx.go (Wc.ret (Wx.fin1 rfl (.inl rfl) (fun w hs => ?_)))))))
 exact ⟨(), trivial, rfl, (st_pull [1, 0] (hs))⟩

theorem open_fresh (W0 : World) (dp : Nat) (S : List ByteArray) (k : Nat) (hok : Ok S ByteArray.empty 0) :
  Con Tryz.prog W0 19 #[Value.pointer (some ⟨dp, 0, none⟩)] [isDisk dp (⟨S, [], false, k, none⟩ : DS)] (X := Nat × Nat × Nat) (fun _ => True) (fun y => .tuple #[.pointer (some ⟨y.1, 0, none⟩), .int .i64 0]) (fun y => [pt y.1 49 [.pointer (some ⟨y.2.1, 0, none⟩), .map (some y.2.2)], mp y.2.2 (strV []), isJ y.2.1 dp ⟨ByteArray.empty, 0, false⟩, isDisk dp (⟨S, [], false, k, none⟩ : DS)]) := by
 refine Con.of (args := [Value.pointer (some ⟨dp, 0, none⟩)]) Tryz.func19 rfl Tryz.ntmps19 rfl (fun F => ?_)
 have hlen := hok.rng.2.2
 show Wc _ W0 _ _ _ _ _ ((isDisk dp (⟨S, [], false, k, none⟩ : DS)) :: F)
 refine Wc.seq (Wc.region (Wl.q (v := Value.pointer none) (q_assign rfl) (Wl.q (v := Value.int .i64 0) (q_assign rfl) (Wl.done (Wx.go (Wc.seq (Wc.region (Wl.q (v := Value.pointer (some ⟨dp, 0, none⟩)) (q_move rfl) (Wl.e (e_call (F := F) (args := [Value.pointer (some ⟨dp, 0, none⟩)]) Tryz.call48 rfl (open_ok W0 dp (⟨S, [], false, k, none⟩ : DS) (Ok.wf hok) (by show 1 ≤ (S).length; omega) (by show 0 < 1099511627776; decide) (openD_up hok))) (fun j _ => Wl.imp (L' := (isJ j dp ⟨ByteArray.empty, 0, false⟩) :: (isDisk dp (⟨S, [], false, k, none⟩ : DS)) :: F) (fun _ h => h) (Wl.q (v := Value.tuple #[Value.pointer (some ⟨j, 0, none⟩), Value.int .i64 0]) (q_move rfl) ?_)))))))))))
 refine Wl.q (v := Value.pointer (some ⟨j, 0, none⟩)) (q_extract (i := 0) rfl rfl) (Wl.q (v := Value.int .i64 0) (q_extract (i := 1) rfl rfl) (Wl.q (v := Value.pointer (some ⟨j, 0, none⟩)) (q_assign rfl) (Wl.q (v := Value.int .i64 0) (q_assign rfl) (Wl.done (Wx.go (Wc.seq (Wc.seq (Wc.region (Wl.q (v := Value.int .i64 0) (q_move rfl) (Wl.q (v := Value.bool false) (q_neq (r := true) rfl rfl (decide_eq_true (by decide))) (Wl.done ?_)))))))))))
 refine Wx.go (Wc.no rfl (Wc.skip (Wx.go (Wc.seq (Wc.region (Wl.q (v := Value.pointer (some ⟨j, 0, none⟩)) (q_move rfl) (Wl.e (e_makeMap) (fun mb _ => Wl.imp (L' := (mp mb []) :: (isJ j dp ⟨ByteArray.empty, 0, false⟩) :: (isDisk dp (⟨S, [], false, k, none⟩ : DS)) :: F) (fun _ h => h) (Wl.q (v := Value.agg #[Value.pointer (some ⟨j, 0, none⟩), Value.map (some mb)]) (q_build (pl := [(0, 1), (1, 1)]) Tryz.underlying49 zo_49 (by kernel_rfl) (by kernel_rfl)) (Wl.e (e_box (x := .tmp 21) (vs := [Value.pointer (some ⟨j, 0, none⟩), Value.map (some mb)]) rfl) (fun sp _ => Wl.imp (L' := (pt sp 49 [Value.pointer (some ⟨j, 0, none⟩), Value.map (some mb)]) :: (mp mb []) :: (isJ j dp ⟨ByteArray.empty, 0, false⟩) :: (isDisk dp (⟨S, [], false, k, none⟩ : DS)) :: F) (fun _ h => h) ?_)))))))))))
 refine Wl.q (v := Value.pointer (some ⟨sp, 0, none⟩)) (q_assign rfl) (Wl.done (Wx.go (Wc.seq (Wc.seq (Wc.region (Wl.q (v := Value.pointer (some ⟨j, 0, none⟩)) (q_move rfl) (Wl.imp (L' := (isJ j dp ⟨ByteArray.empty, 0, false⟩) :: (pt sp 49 [Value.pointer (some ⟨j, 0, none⟩), Value.map (some mb)]) :: (mp mb []) :: (isDisk dp (⟨S, [], false, k, none⟩ : DS)) :: F) (fun _ h => st_pull [2] h) (Wl.e (e_call (F := (pt sp 49 [Value.pointer (some ⟨j, 0, none⟩), Value.map (some mb)]) :: (mp mb []) :: (isDisk dp (⟨S, [], false, k, none⟩ : DS)) :: F) (args := [Value.pointer (some ⟨j, 0, none⟩)]) Tryz.call49 rfl (seq_in W0 j dp ByteArray.empty 0 false)) (fun _ _ => Wl.imp (L' := (isJ j dp ⟨ByteArray.empty, 0, false⟩) :: (pt sp 49 [Value.pointer (some ⟨j, 0, none⟩), Value.map (some mb)]) :: (mp mb []) :: (isDisk dp (⟨S, [], false, k, none⟩ : DS)) :: F) (fun _ h => h) (Wl.q (v := Value.bool true) (q_eql (r := true) rfl rfl (decide_eq_true (by decide))) (Wl.done ?_)))))))))))
 refine Wx.go (Wc.yes rfl (Wc.seq (Wc.region (Wl.q (v := Value.pointer (some ⟨sp, 0, none⟩)) (q_move rfl) (Wl.q (v := Value.pointer (some ⟨sp, 0, none⟩)) (q_assign rfl) (Wl.q (v := Value.int .i64 0) (q_assign rfl) (Wl.done (Wx.go (Wc.ret (Wx.thenRet (Wx.fin2 rfl (.inl rfl) (fun w hs => ?_))))))))))))
 exact ⟨(sp, j, mb), trivial, rfl, (st_pull [1, 1, 0, 0] (hs))⟩

end Go.Proofs.YtkndmgfahghcjaaGreat

