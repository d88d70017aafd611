/- A part of the proof. -/
import Derived.Test.YtjnejkdamhefgaaGreatDoorWrD
namespace Go.Proofs.YtjnejkdamhefgaaGreatDoor
open Tryz
open Go Go.SL Go.Wr Go.RowKit
open Go.Dk (beyondF beyondB beyond_step beyond_le beyond_one beyond_two)
set_option linter.unusedVariables false
set_option maxRecDepth 8000
theorem zo_438 : zeroOf prog 438 = some (Value.agg #[Value.bool false, Value.string (⟨#[]⟩), Value.int .i64 0]) := by kernel_rfl
theorem number_ok (W0 : World) (r : Nat) (s : ByteArray) (a0 : Nat) (ha0 : a0 ≤ s.size) (hsz : s.size ≤ 9223372036854775807) (v : Int) (a : Nat) (h : takeNum s a0 = some (v, a)) :
  Con1 prog W0 268 #[Vp r] [pt r 438 [Vt, Vs s, Vi ((a0 : Nat) : Int)]] (.tuple #[.int .i64 v, .bool true]) [pt r 438 [Vt, Vs s, Vi ((a : Nat) : Int)]] :=
 (number_c W0 r s a0 ha0 hsz).mono (fun ⟨v', ok, a'⟩ hN => by
  have h1 := hN.1
  simp only [h] at h1
  obtain ⟨rfl, rfl, rfl⟩ := h1
  exact ⟨(), trivial, rfl, fun _ _ h => h⟩)
theorem number_bad (W0 : World) (r : Nat) (s : ByteArray) (a0 : Nat) (ha0 : a0 ≤ s.size) (hsz : s.size ≤ 9223372036854775807) (h : takeNum s a0 = none) :
  Con prog W0 268 #[Vp r] [pt r 438 [Vt, Vs s, Vi ((a0 : Nat) : Int)]] (X := Int × Nat) (fun _ => True) (fun y => .tuple #[.int .i64 y.1, .bool false]) (fun y => [pt r 438 [Vt, Vs s, Vi ((y.2 : Nat) : Int)]]) :=
 (number_c W0 r s a0 ha0 hsz).mono (fun ⟨v', ok, a'⟩ hN => by
  have h1 := hN.1
  simp only [h] at h1
  subst h1
  exact ⟨(v', a'), trivial, rfl, fun _ _ h => h⟩)
theorem list1_ok (W0 : World) (r rb nb : Nat) (s : ByteArray) (a0 : Nat) (ha0 : a0 ≤ s.size) (hsz : s.size ≤ 9223372036854775807) (v : Int) (a : Nat) (htk : takeNum s a0 = some (v, a)) (hv0 : 0 ≤ v) (hv1 : v ≤ 65536) :
  Con1 prog W0 267 #[Vp rb, Vp nb] [pt rb 145 [Vp r], pt nb 3 [Vi 0], pt r 438 [Vt, Vs s, Vi ((a0 : Nat) : Int)]] (.int .i64 0) [pt rb 145 [Vp r], pt nb 3 [Vi v], pt r 438 [Vt, Vs s, Vi ((a : Nat) : Int)]] := by
 refine Con.of func267 rfl ntmps267 rfl (fun F => ?_)
 show Wc _ W0 _ _ _ _ _ ((pt rb 145 [Vp r]) :: (pt nb 3 [Vi 0]) :: (pt r 438 [Vt, Vs s, Vi ((a0 : Nat) : Int)]) :: F)
 refine Wc.a 1 rfl (Wc.sr (Wl.q (q_c 0 sc_145 rfl rfl rfl) (Wl.pull [2] (Wl.e (e_c call268 (number_ok W0 r s a0 ha0 hsz v a htk)) (fun _ _ => Wl.rg 5 rfl (Wc.seq (Wc.b 1 rfl (Wl.q (q_not rfl rfl) (Wl.run 2 rfl (Wl.q (q_lss rfl rfl (df (by omega))) (Wl.run 3 rfl (Wl.q (q_gtr rfl rfl (df (by omega))) (Wl.rg 1 rfl (Wc.no rfl (Wc.skip (Wx.go (Wc.b 1 rfl (Wl.e (e_store (i := 2) (v := Vi v) sz_3 rfl rfl (fun _ _ => rfl) rfl (by simp)) (fun _ _ => Wl.dg (Wc.a 1 rfl (Wc.ret (Wx.f1 rfl (fun w hs => ?_)))))))))))))))))))))))
 exact ⟨(), trivial, rfl, (st_pull [1, 1, 0] (hs))⟩
theorem list1_bad (W0 : World) (r rb nb : Nat) (s : ByteArray) (a0 : Nat) (ha0 : a0 ≤ s.size) (hsz : s.size ≤ 9223372036854775807) (htk : takeNum s a0 = none) :
  Con prog W0 267 #[Vp rb, Vp nb] [pt rb 145 [Vp r], pt nb 3 [Vi 0], pt r 438 [Vt, Vs s, Vi ((a0 : Nat) : Int)]] (X := Nat) (fun _ => True) (fun _ => .int .i64 4) (fun a => [pt rb 145 [Vp r], pt nb 3 [Vi 0], pt r 438 [Vt, Vs s, Vi ((a : Nat) : Int)]]) := by
 refine Con.of func267 rfl ntmps267 rfl (fun F => ?_)
 show Wc _ W0 _ _ _ _ _ ((pt rb 145 [Vp r]) :: (pt nb 3 [Vi 0]) :: (pt r 438 [Vt, Vs s, Vi ((a0 : Nat) : Int)]) :: F)
 refine Wc.a 1 rfl (Wc.sr (Wl.q (q_c 0 sc_145 rfl rfl rfl) (Wl.pull [2] (Wl.e (e_c call268 (number_bad W0 r s a0 ha0 hsz htk)) (fun y _ => Wl.rg 5 rfl (Wc.seq (Wc.b 1 rfl (Wl.q (q_not rfl rfl) (Wl.rg 8 rfl (Wc.yes rfl (Wc.a 1 rfl (Wc.ret (Wx.thenRet (Wx.f1 rfl (fun w hs => ?_)))))))))))))))
 exact ⟨y.2, trivial, rfl, (st_pull [1, 1, 0] (hs))⟩
theorem list1_neg (W0 : World) (r rb nb : Nat) (s : ByteArray) (a0 : Nat) (ha0 : a0 ≤ s.size) (hsz : s.size ≤ 9223372036854775807) (v : Int) (a : Nat) (htk : takeNum s a0 = some (v, a)) (hv : v < 0) :
  Con prog W0 267 #[Vp rb, Vp nb] [pt rb 145 [Vp r], pt nb 3 [Vi 0], pt r 438 [Vt, Vs s, Vi ((a0 : Nat) : Int)]] (X := Nat) (fun _ => True) (fun _ => .int .i64 4) (fun a => [pt rb 145 [Vp r], pt nb 3 [Vi 0], pt r 438 [Vt, Vs s, Vi ((a : Nat) : Int)]]) := by
 refine Con.of func267 rfl ntmps267 rfl (fun F => ?_)
 show Wc _ W0 _ _ _ _ _ ((pt rb 145 [Vp r]) :: (pt nb 3 [Vi 0]) :: (pt r 438 [Vt, Vs s, Vi ((a0 : Nat) : Int)]) :: F)
 refine Wc.a 1 rfl (Wc.sr (Wl.q (q_c 0 sc_145 rfl rfl rfl) (Wl.pull [2] (Wl.e (e_c call268 (number_ok W0 r s a0 ha0 hsz v a htk)) (fun _ _ => Wl.rg 5 rfl (Wc.seq (Wc.b 1 rfl (Wl.q (q_not rfl rfl) (Wl.run 2 rfl (Wl.q (q_lss rfl rfl (dt (hv))) (Wl.rg 5 rfl (Wc.yes rfl (Wc.a 1 rfl (Wc.ret (Wx.thenRet (Wx.f1 rfl (fun w hs => ?_)))))))))))))))))
 exact ⟨a, trivial, rfl, (st_pull [1, 1, 0] (hs))⟩
theorem list1_big (W0 : World) (r rb nb : Nat) (s : ByteArray) (a0 : Nat) (ha0 : a0 ≤ s.size) (hsz : s.size ≤ 9223372036854775807) (v : Int) (a : Nat) (htk : takeNum s a0 = some (v, a)) (hv0 : 0 ≤ v) (hv : 65536 < v) :
  Con prog W0 267 #[Vp rb, Vp nb] [pt rb 145 [Vp r], pt nb 3 [Vi 0], pt r 438 [Vt, Vs s, Vi ((a0 : Nat) : Int)]] (X := Nat) (fun _ => True) (fun _ => .int .i64 4) (fun a => [pt rb 145 [Vp r], pt nb 3 [Vi 0], pt r 438 [Vt, Vs s, Vi ((a : Nat) : Int)]]) := by
 refine Con.of func267 rfl ntmps267 rfl (fun F => ?_)
 show Wc _ W0 _ _ _ _ _ ((pt rb 145 [Vp r]) :: (pt nb 3 [Vi 0]) :: (pt r 438 [Vt, Vs s, Vi ((a0 : Nat) : Int)]) :: F)
 refine Wc.a 1 rfl (Wc.sr (Wl.q (q_c 0 sc_145 rfl rfl rfl) (Wl.pull [2] (Wl.e (e_c call268 (number_ok W0 r s a0 ha0 hsz v a htk)) (fun _ _ => Wl.rg 5 rfl (Wc.seq (Wc.b 1 rfl (Wl.q (q_not rfl rfl) (Wl.run 2 rfl (Wl.q (q_lss rfl rfl (df (by omega))) (Wl.run 3 rfl (Wl.q (q_gtr rfl rfl (dt (by omega))) (Wl.rg 1 rfl (Wc.yes rfl (Wc.a 1 rfl (Wc.ret (Wx.thenRet (Wx.f1 rfl (fun w hs => ?_)))))))))))))))))))
 exact ⟨a, trivial, rfl, (st_pull [1, 1, 0] (hs))⟩
theorem rlist_ok (W0 : World) (r : Nat) (s : ByteArray) (a0 : Nat) (ha0 : a0 ≤ s.size) (hsz : s.size ≤ 9223372036854775807) (v : Int) (a : Nat) (htk : takeNum s a0 = some (v, a)) (hv0 : 0 ≤ v) (hv1 : v ≤ 65536) :
  Con1 prog W0 167 #[Vp r] [pt r 438 [Vt, Vs s, Vi ((a0 : Nat) : Int)]] (.tuple #[Vi v, .int .i64 0]) [pt r 438 [Vt, Vs s, Vi ((a : Nat) : Int)]] := by
 refine Con.of func167 rfl ntmps167 rfl (fun F => ?_)
 refine Wc.sr (Wl.e (e_box (x := .tmp 0) (vs := [Vp r]) rfl) (fun rb _ => Wl.e (e_alloc (vs := [Vi 0]) zo_3 rfl) (fun nb _ => Wl.rg 1 rfl (Wc.sr (Wl.q (q_c 1 sc_145 rfl rfl rfl) (Wl.q (q_makeFunc (us := []) (vs := [Vp rb, Vp nb]) rfl rfl) (Wl.pull [1, 0, 0] (Wl.e (e_c call266 (take_List_ok W0 r rb nb s a0 a (Vi 0) (Vi v) (list1_ok W0 r rb nb s a0 ha0 hsz v a htk hv0 hv1))) (fun _ _ => Wl.rg 1 rfl (Wc.sr (Wl.q (q_c 1 sc_3 rfl rfl rfl) (Wl.run 1 rfl (Wl.e (e_store (i := 1) (v := Vi v) sz_3 rfl rfl (fun _ _ => rfl) rfl (by simp)) (fun _ _ => Wl.rg 1 rfl (Wc.ret (Wx.finC2 rfl (.inl rfl) sc_3 rfl (.cel (i := 1) rfl rfl) (fun w hs => ?_)))))))))))))))))
 exact ⟨(), trivial, rfl, (st_drop (st_drop (st_pull [0, 0] hs)))⟩
theorem rlist_none (W0 : World) (r : Nat) (s : ByteArray) (a0 : Nat) (ha0 : a0 ≤ s.size) (hsz : s.size ≤ 9223372036854775807) (htk : takeNum s a0 = none) :
  Con1 prog W0 167 #[Vp r] [pt r 438 [Vt, Vs s, Vi ((a0 : Nat) : Int)]] (.tuple #[Vi 0, .int .i64 4]) [pt r 438 [Vt, Vs s, Vi ((a0 : Nat) : Int)]] := by
 refine Con.of func167 rfl ntmps167 rfl (fun F => ?_)
 refine Wc.sr (Wl.e (e_box (x := .tmp 0) (vs := [Vp r]) rfl) (fun rb _ => Wl.e (e_alloc (vs := [Vi 0]) zo_3 rfl) (fun nb _ => Wl.rg 1 rfl (Wc.sr (Wl.q (q_c 1 sc_145 rfl rfl rfl) (Wl.q (q_makeFunc (us := []) (vs := [Vp rb, Vp nb]) rfl rfl) (Wl.pull [1, 0, 0] (Wl.e (e_c call266 (take_List_bad W0 r rb nb s a0 (Vi 0) (list1_bad W0 r rb nb s a0 ha0 hsz htk))) (fun _ _ => Wl.rg 1 rfl (Wc.sr (Wl.q (q_c 1 sc_3 rfl rfl rfl) (Wl.run 1 rfl (Wl.e (e_store (i := 1) (v := Vi 0) sz_3 rfl rfl (fun _ _ => rfl) rfl (by simp)) (fun _ _ => Wl.rg 1 rfl (Wc.ret (Wx.finC2 rfl (.inl rfl) sc_3 rfl (.cel (i := 1) rfl rfl) (fun w hs => ?_)))))))))))))))))
 exact ⟨(), trivial, rfl, (st_drop (st_drop (st_pull [0, 0] hs)))⟩
theorem rlist_neg (W0 : World) (r : Nat) (s : ByteArray) (a0 : Nat) (ha0 : a0 ≤ s.size) (hsz : s.size ≤ 9223372036854775807) (v : Int) (a : Nat) (htk : takeNum s a0 = some (v, a)) (hv : v < 0) :
  Con1 prog W0 167 #[Vp r] [pt r 438 [Vt, Vs s, Vi ((a0 : Nat) : Int)]] (.tuple #[Vi 0, .int .i64 4]) [pt r 438 [Vt, Vs s, Vi ((a0 : Nat) : Int)]] := by
 refine Con.of func167 rfl ntmps167 rfl (fun F => ?_)
 refine Wc.sr (Wl.e (e_box (x := .tmp 0) (vs := [Vp r]) rfl) (fun rb _ => Wl.e (e_alloc (vs := [Vi 0]) zo_3 rfl) (fun nb _ => Wl.rg 1 rfl (Wc.sr (Wl.q (q_c 1 sc_145 rfl rfl rfl) (Wl.q (q_makeFunc (us := []) (vs := [Vp rb, Vp nb]) rfl rfl) (Wl.pull [1, 0, 0] (Wl.e (e_c call266 (take_List_bad W0 r rb nb s a0 (Vi 0) (list1_neg W0 r rb nb s a0 ha0 hsz v a htk hv))) (fun _ _ => Wl.rg 1 rfl (Wc.sr (Wl.q (q_c 1 sc_3 rfl rfl rfl) (Wl.run 1 rfl (Wl.e (e_store (i := 1) (v := Vi 0) sz_3 rfl rfl (fun _ _ => rfl) rfl (by simp)) (fun _ _ => Wl.rg 1 rfl (Wc.ret (Wx.finC2 rfl (.inl rfl) sc_3 rfl (.cel (i := 1) rfl rfl) (fun w hs => ?_)))))))))))))))))
 exact ⟨(), trivial, rfl, (st_drop (st_drop (st_pull [0, 0] hs)))⟩
theorem rlist_big (W0 : World) (r : Nat) (s : ByteArray) (a0 : Nat) (ha0 : a0 ≤ s.size) (hsz : s.size ≤ 9223372036854775807) (v : Int) (a : Nat) (htk : takeNum s a0 = some (v, a)) (hv0 : 0 ≤ v) (hv : 65536 < v) :
  Con1 prog W0 167 #[Vp r] [pt r 438 [Vt, Vs s, Vi ((a0 : Nat) : Int)]] (.tuple #[Vi 0, .int .i64 4]) [pt r 438 [Vt, Vs s, Vi ((a0 : Nat) : Int)]] := by
 refine Con.of func167 rfl ntmps167 rfl (fun F => ?_)
 refine Wc.sr (Wl.e (e_box (x := .tmp 0) (vs := [Vp r]) rfl) (fun rb _ => Wl.e (e_alloc (vs := [Vi 0]) zo_3 rfl) (fun nb _ => Wl.rg 1 rfl (Wc.sr (Wl.q (q_c 1 sc_145 rfl rfl rfl) (Wl.q (q_makeFunc (us := []) (vs := [Vp rb, Vp nb]) rfl rfl) (Wl.pull [1, 0, 0] (Wl.e (e_c call266 (take_List_bad W0 r rb nb s a0 (Vi 0) (list1_big W0 r rb nb s a0 ha0 hsz v a htk hv0 hv))) (fun _ _ => Wl.rg 1 rfl (Wc.sr (Wl.q (q_c 1 sc_3 rfl rfl rfl) (Wl.run 1 rfl (Wl.e (e_store (i := 1) (v := Vi 0) sz_3 rfl rfl (fun _ _ => rfl) rfl (by simp)) (fun _ _ => Wl.rg 1 rfl (Wc.ret (Wx.finC2 rfl (.inl rfl) sc_3 rfl (.cel (i := 1) rfl rfl) (fun w hs => ?_)))))))))))))))))
 exact ⟨(), trivial, rfl, (st_drop (st_drop (st_pull [0, 0] hs)))⟩
theorem text1_ok (W0 : World) (r rb nb : Nat) (s : ByteArray) (a0 : Nat) (ha0 : a0 ≤ s.size) (hsz : s.size ≤ 9223372036854775807) (n a : Nat) (htk : takeNum s a0 = some ((n : Int), a)) (hn : n ≤ 65536) (hna : a + n ≤ s.size) :
  Con1 prog W0 269 #[Vp rb, Vp nb] [pt rb 145 [Vp r], pt nb 9 ([Vs (⟨#[]⟩)]), pt r 438 [Vt, Vs s, Vi ((a0 : Nat) : Int)]] (.int .i64 0) [pt rb 145 [Vp r], pt nb 9 [Vs (s.extract a (a + n))], pt r 438 [Vt, Vs s, Vi (((a + n) : Nat) : Int)]] := by
 refine Con.of func269 rfl ntmps269 rfl (fun F => ?_)
 show Wc _ W0 _ _ _ _ _ ((pt rb 145 [Vp r]) :: (pt nb 9 ([Vs (⟨#[]⟩)])) :: (pt r 438 [Vt, Vs s, Vi ((a0 : Nat) : Int)]) :: F)
 refine Wc.a 1 rfl (Wc.sr (Wl.q (q_c 0 sc_145 rfl rfl rfl) (Wl.pull [2] (Wl.e (e_c call167 (rlist_ok W0 r s a0 ha0 hsz (n : Int) a htk (by omega) (by omega))) (fun _ _ => Wl.rg 5 rfl (Wc.seq (Wc.seq (Wc.drawsS [] ((pt r 438 [Vt, Vs s, Vi ((a : Nat) : Int)]) :: (pt rb 145 [Vp r]) :: (pt nb 9 ([Vs (⟨#[]⟩)])) :: []) (by kernel_rfl) (Wr.p 0 oo3 rfl (q_move rfl) (Wr.p 1 oo3 rfl (q_neq rfl rfl (dt (by decide))) (Wr.p 2 oo3 rfl (q_move rfl) (Wr.p 3 oo3 rfl (q_move rfl) (Wr.t 4 oo3 rfl (q_c 1 sc_145 rfl rfl rfl) (Wr.p 5 oo3 rfl (q_nil_ptr rfl) (Wr.p 6 oo3 rfl (q_field fo_438_1 rfl rfl) (Wr.t 7 oo3 rfl (q_c 0 sc_9 rfl rfl rfl) (Wr.t 8 oo3 rfl (q_len_str underlying9 rfl) (Wr.t 9 oo3 rfl (q_c 1 sc_145 rfl rfl rfl) (Wr.p 10 oo3 rfl (q_nil_ptr rfl) (Wr.p 11 oo3 rfl (q_field fo_438_2 rfl rfl) (Wr.t 12 oo3 rfl (q_c 0 sc_3 rfl rfl rfl) (Wr.p 13 oo3 rfl (q_sub (c := (((s.size : Nat) : Int) - ((a : Nat) : Int))) rfl rfl (wrap_i64 (by omega) (by omega))) (Wr.p 14 oo3 rfl (q_gtr rfl rfl (df (by omega))) ?_)))))))))))))))))))))))
 refine Wr.p 15 oo3 rfl (q_pick (t := false) rfl rfl) (Wr.z (Wx.go (Wc.no rfl (Wc.skip (Wx.go (Wc.seq (Wc.drawsS [15] ((pt r 438 [Vt, Vs s, Vi ((a : Nat) : Int)]) :: (pt rb 145 [Vp r]) :: (pt nb 9 ([Vs (⟨#[]⟩)])) :: []) (by kernel_rfl) (Wr.t 0 oo3 rfl (q_c 1 sc_145 rfl rfl rfl) (Wr.p 1 oo3 rfl (q_nil_ptr rfl) (Wr.p 2 oo3 rfl (q_field fo_438_1 rfl rfl) (Wr.t 3 oo3 rfl (q_c 0 sc_9 rfl rfl rfl) (Wr.t 4 oo3 rfl (q_c 1 sc_145 rfl rfl rfl) (Wr.p 5 oo3 rfl (q_nil_ptr rfl) (Wr.p 6 oo3 rfl (q_field fo_438_2 rfl rfl) (Wr.t 7 oo3 rfl (q_c 0 sc_3 rfl rfl rfl) (Wr.t 8 oo3 rfl (q_c 1 sc_145 rfl rfl rfl) (Wr.p 9 oo3 rfl (q_nil_ptr rfl) (Wr.p 10 oo3 rfl (q_field fo_438_2 rfl rfl) (Wr.t 11 oo3 rfl (q_c 0 sc_3 rfl rfl rfl) (Wr.p 12 oo3 rfl (q_move rfl) (Wr.p 13 oo3 rfl (q_add (c := ((a + n : Nat) : Int)) rfl rfl (by rw [wrap_i64] <;> omega)) (Wr.p 14 oo3 rfl (q_slice_str (l := a) (h := a + n) underlying9 rfl ⟨_, rfl⟩ ⟨_, rfl⟩ (by omega) (by omega) rfl) (Wr.x0 15 rfl (e_store (i := 2) (v := Vs (s.extract a (a + n))) sz_9 rfl rfl (fun _ _ => rfl) rfl (by simp)) (fun _ _ => ?_))))))))))))))))))))))))
 refine Wr.rebaseS [] ((pt r 438 [Vt, Vs s, Vi ((a : Nat) : Int)]) :: (pt rb 145 [Vp r]) :: (pt nb 9 [Vs (s.extract a (a + n))]) :: []) (by kernel_rfl) (Wr.z (Wx.go (Wc.sr (Wl.q (q_c 1 sc_145 rfl rfl rfl) (Wl.run 1 rfl (Wl.q (q_field fo_438_2 rfl rfl) (Wl.q (q_c 0 sc_3 rfl rfl rfl) (Wl.run 1 rfl (Wl.q (q_add (c := ((a + n : Nat) : Int)) rfl rfl (by rw [wrap_i64] <;> omega)) (Wl.run 1 rfl (Wl.q (q_field fo_438_2 rfl rfl) (Wl.e (e_store (i := 0) (v := Vi ((a + n : Nat) : Int)) sz_3 rfl rfl (fun _ _ => rfl) rfl (by simp)) (fun _ _ => Wl.dg (Wc.a 1 rfl (Wc.ret (Wx.f1 rfl (fun w hs => ?_)))))))))))))))))
 exact ⟨(), trivial, rfl, (st_pull [1, 1, 0] (hs))⟩
theorem rtext_ok (W0 : World) (r : Nat) (s : ByteArray) (a0 : Nat) (ha0 : a0 ≤ s.size) (hsz : s.size ≤ 9223372036854775807) (n a : Nat) (htk : takeNum s a0 = some ((n : Int), a)) (hn : n ≤ 65536) (hna : a + n ≤ s.size) :
  Con1 prog W0 168 #[Vp r] [pt r 438 [Vt, Vs s, Vi ((a0 : Nat) : Int)]] (.tuple #[Vs (s.extract a (a + n)), .int .i64 0]) [pt r 438 [Vt, Vs s, Vi (((a + n) : Nat) : Int)]] := by
 refine Con.of func168 rfl ntmps168 rfl (fun F => ?_)
 refine Wc.sr (Wl.e (e_box (x := .tmp 0) (vs := [Vp r]) rfl) (fun rb _ => Wl.e (e_alloc (vs := [Vs (⟨#[]⟩)]) zo_9 rfl) (fun nb _ => Wl.rg 1 rfl (Wc.sr (Wl.q (q_c 1 sc_145 rfl rfl rfl) (Wl.q (q_makeFunc (us := []) (vs := [Vp rb, Vp nb]) rfl rfl) (Wl.pull [1, 0, 0] (Wl.e (e_c call266 (take_Text_ok W0 r rb nb s a0 (a + n) (Vs (⟨#[]⟩)) (Vs (s.extract a (a + n))) (text1_ok W0 r rb nb s a0 ha0 hsz n a htk hn hna))) (fun _ _ => Wl.rg 1 rfl (Wc.sr (Wl.q (q_c 1 sc_9 rfl rfl rfl) (Wl.run 1 rfl (Wl.e (e_store (i := 1) (v := Vs (s.extract a (a + n))) sz_9 rfl rfl (fun _ _ => rfl) rfl (by simp)) (fun _ _ => Wl.rg 1 rfl (Wc.ret (Wx.finC2 rfl (.inl rfl) sc_9 rfl (.cel (i := 1) rfl rfl) (fun w hs => ?_)))))))))))))))))
 exact ⟨(), trivial, rfl, (st_drop (st_drop (st_pull [0, 0] hs)))⟩
theorem end_yes (W0 : World) (r : Nat) (s : ByteArray) (a : Nat) (h : a = s.size) :
  Con1 prog W0 169 #[Vp r] [pt r 438 [Vt, Vs s, Vi ((a : Nat) : Int)]] (.int .i64 0) [pt r 438 [Vt, Vs s, Vi ((a : Nat) : Int)]] := by
 refine Con.of func169 rfl ntmps169 rfl (fun F => ?_)
 show Wc _ W0 _ _ _ _ _ ((pt r 438 [Vt, Vs s, Vi ((a : Nat) : Int)]) :: F)
 refine Wc.a 1 rfl (Wc.seq (Wc.b 1 rfl (Wl.q (q_eql_nil (r := false) rfl rfl underlying145 rfl) (Wl.run 3 rfl (Wl.q (q_field fo_438_0 rfl rfl) (Wl.q (q_c 0 sc_4 rfl rfl rfl) (Wl.q (q_not rfl rfl) (Wl.rg 1 rfl (Wc.no rfl (Wc.skip (Wx.go (Wc.seq (Wc.drawsS [10] ((pt r 438 [Vt, Vs s, Vi ((a : Nat) : Int)]) :: []) (by kernel_rfl) (Wr.p 0 oo1 rfl (q_move rfl) (Wr.p 1 oo1 rfl (q_nil_ptr rfl) (Wr.p 2 oo1 rfl (q_field fo_438_2 rfl rfl) (Wr.t 3 oo1 rfl (q_c 0 sc_3 rfl rfl rfl) (Wr.p 4 oo1 rfl (q_move rfl) (Wr.p 5 oo1 rfl (q_nil_ptr rfl) (Wr.p 6 oo1 rfl (q_field fo_438_1 rfl rfl) (Wr.t 7 oo1 rfl (q_c 0 sc_9 rfl rfl rfl) (Wr.t 8 oo1 rfl (q_len_str underlying9 rfl) (Wr.p 9 oo1 rfl (q_eql rfl rfl (dt (by omega))) ?_)))))))))))))))))))))))
 refine Wr.x0 10 rfl (e_c call270 (form_t W0)) (fun _ _ => Wr.rebaseS [] ((pt r 438 [Vt, Vs s, Vi ((a : Nat) : Int)]) :: []) (by kernel_rfl) (Wr.p 11 oo1 rfl (q_assign rfl) (Wr.z (Wx.go (Wc.ret (Wx.f1 rfl (fun w hs => ?_)))))))
 exact ⟨(), trivial, rfl, hs⟩
theorem end_no (W0 : World) (r : Nat) (s : ByteArray) (a : Nat) (h : ¬ a = s.size) :
  Con1 prog W0 169 #[Vp r] [pt r 438 [Vt, Vs s, Vi ((a : Nat) : Int)]] (.int .i64 4) [pt r 438 [Vt, Vs s, Vi ((a : Nat) : Int)]] := by
 refine Con.of func169 rfl ntmps169 rfl (fun F => ?_)
 show Wc _ W0 _ _ _ _ _ ((pt r 438 [Vt, Vs s, Vi ((a : Nat) : Int)]) :: F)
 refine Wc.a 1 rfl (Wc.seq (Wc.b 1 rfl (Wl.q (q_eql_nil (r := false) rfl rfl underlying145 rfl) (Wl.run 3 rfl (Wl.q (q_field fo_438_0 rfl rfl) (Wl.q (q_c 0 sc_4 rfl rfl rfl) (Wl.q (q_not rfl rfl) (Wl.rg 1 rfl (Wc.no rfl (Wc.skip (Wx.go (Wc.seq (Wc.drawsS [10] ((pt r 438 [Vt, Vs s, Vi ((a : Nat) : Int)]) :: []) (by kernel_rfl) (Wr.p 0 oo1 rfl (q_move rfl) (Wr.p 1 oo1 rfl (q_nil_ptr rfl) (Wr.p 2 oo1 rfl (q_field fo_438_2 rfl rfl) (Wr.t 3 oo1 rfl (q_c 0 sc_3 rfl rfl rfl) (Wr.p 4 oo1 rfl (q_move rfl) (Wr.p 5 oo1 rfl (q_nil_ptr rfl) (Wr.p 6 oo1 rfl (q_field fo_438_1 rfl rfl) (Wr.t 7 oo1 rfl (q_c 0 sc_9 rfl rfl rfl) (Wr.t 8 oo1 rfl (q_len_str underlying9 rfl) (Wr.p 9 oo1 rfl (q_eql rfl rfl (df (by omega))) ?_)))))))))))))))))))))))
 refine Wr.x0 10 rfl (e_c call270 (form_f W0)) (fun _ _ => Wr.rebaseS [] ((pt r 438 [Vt, Vs s, Vi ((a : Nat) : Int)]) :: []) (by kernel_rfl) (Wr.p 11 oo1 rfl (q_assign rfl) (Wr.z (Wx.go (Wc.ret (Wx.f1 rfl (fun w hs => ?_)))))))
 exact ⟨(), trivial, rfl, hs⟩
theorem rnew_c (W0 : World) (s : ByteArray) :
  Con prog W0 166 #[Vs s] [] (X := Nat) (fun _ => True) (fun r => .pointer (some ⟨r, 0, none⟩)) (fun r => [pt r 438 [Vt, Vs s, Vi 0]]) := by
 refine Con.of func166 rfl ntmps166 rfl (fun F => ?_)
 refine Wc.a 1 rfl (Wc.b 1 rfl (Wl.q (v := Value.agg #[Vt, Vs s, Vi 0]) (q_build (pl := [(0, 1), (1, 1), (2, 1)]) underlying438 zo_438 (by kernel_rfl) (by kernel_rfl)) (Wl.e (e_box (x := .tmp 4) (vs := [Vt, Vs s, Vi 0]) rfl) (fun r _ => Wl.rg 1 rfl (Wc.ret (Wx.f1 rfl (fun w hs => ?_)))))))
 exact ⟨r, trivial, rfl, hs⟩
end Go.Proofs.YtjnejkdamhefgaaGreatDoor
