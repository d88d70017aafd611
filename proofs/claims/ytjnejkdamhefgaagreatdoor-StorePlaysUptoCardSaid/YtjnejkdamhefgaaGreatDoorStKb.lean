/- A part of the proof. -/
import Derived.Test.YtjnejkdamhefgaaGreatDoorStKa
namespace Go.Proofs.YtjnejkdamhefgaaGreatDoor
open Tryz
open Go Go.SL Go.St Go.Wr Go.RowKit
open Go.Dk (DS WF)
open Go.Jn (JS Ok openD_up)
set_option linter.unusedVariables false
set_option maxRecDepth 8000
theorem fo_155_1 : fieldOff prog 155 1 = some 1 := by kernel_rfl
theorem fo_155_2 : fieldOff prog 155 2 = some 2 := by kernel_rfl
theorem fo_155_0 : fieldOff prog 155 0 = some 0 := by kernel_rfl
theorem keep_00 (W0 : World) (r : Nat) (s : ByteArray) (a b : Nat) :
  Con1 prog W0 272 #[Vp r, Vi ((b : Nat) : Int), Vi 0] [pt r 155 [Vs s, Vi ((a : Nat) : Int), Vi 0]] (.tuple #[]) [pt r 155 [Vs s, Vi ((b : Nat) : Int), Vi 0]] := by
 refine Con.of func272 rfl ntmps272 rfl (fun F => ?_)
 show Wc _ W0 _ _ _ _ _ ((pt r 155 [Vs s, Vi ((a : Nat) : Int), Vi 0]) :: F)
 refine Wc.b 3 rfl (Wl.q (q_field fo_155_1 rfl rfl) (Wl.e (e_store (i := 0) (v := Vi ((b : Nat) : Int)) sz_3 rfl rfl (fun _ _ => rfl) rfl (by simp)) (fun _ _ => Wl.dg (Wc.b 2 rfl (Wl.q (q_field fo_155_2 rfl rfl) (Wl.q (q_c 0 sc_26 rfl rfl rfl) (Wl.q (q_eql rfl rfl (dt (by decide))) (Wl.run 2 rfl (Wl.q (q_neq rfl rfl (dt (by decide))) (Wl.rg 1 rfl (Wc.no rfl (Wc.skip (Wx.fin0 rfl (.inr rfl) (fun w hs => ?_))))))))))))))
 exact ⟨(), trivial, rfl, hs⟩
theorem keep_04 (W0 : World) (r : Nat) (s : ByteArray) (a b : Nat) :
  Con1 prog W0 272 #[Vp r, Vi ((b : Nat) : Int), Vi 4] [pt r 155 [Vs s, Vi ((a : Nat) : Int), Vi 0]] (.tuple #[]) [pt r 155 [Vs s, Vi ((b : Nat) : Int), Vi 4]] := by
 refine Con.of func272 rfl ntmps272 rfl (fun F => ?_)
 show Wc _ W0 _ _ _ _ _ ((pt r 155 [Vs s, Vi ((a : Nat) : Int), Vi 0]) :: F)
 refine Wc.b 3 rfl (Wl.q (q_field fo_155_1 rfl rfl) (Wl.e (e_store (i := 0) (v := Vi ((b : Nat) : Int)) sz_3 rfl rfl (fun _ _ => rfl) rfl (by simp)) (fun _ _ => Wl.dg (Wc.b 2 rfl (Wl.q (q_field fo_155_2 rfl rfl) (Wl.q (q_c 0 sc_26 rfl rfl rfl) (Wl.q (q_eql rfl rfl (dt (by decide))) (Wl.run 2 rfl (Wl.q (q_neq rfl rfl (df (by decide))) (Wl.rg 1 rfl (Wc.yes rfl (Wc.region (Wl.run 3 rfl (Wl.q (q_field fo_155_2 rfl rfl) (Wl.e (e_store (i := 0) (v := Vi 4) sz_26 rfl rfl (fun _ _ => rfl) rfl (by simp)) (fun _ _ => Wl.done (Wx.fin0 rfl (.inr rfl) (fun w hs => ?_))))))))))))))))))
 exact ⟨(), trivial, rfl, hs⟩
theorem keep_44 (W0 : World) (r : Nat) (s : ByteArray) (a b : Nat) :
  Con1 prog W0 272 #[Vp r, Vi ((b : Nat) : Int), Vi 4] [pt r 155 [Vs s, Vi ((a : Nat) : Int), Vi 4]] (.tuple #[]) [pt r 155 [Vs s, Vi ((b : Nat) : Int), Vi 4]] := by
 refine Con.of func272 rfl ntmps272 rfl (fun F => ?_)
 show Wc _ W0 _ _ _ _ _ ((pt r 155 [Vs s, Vi ((a : Nat) : Int), Vi 4]) :: F)
 refine Wc.b 3 rfl (Wl.q (q_field fo_155_1 rfl rfl) (Wl.e (e_store (i := 0) (v := Vi ((b : Nat) : Int)) sz_3 rfl rfl (fun _ _ => rfl) rfl (by simp)) (fun _ _ => Wl.dg (Wc.b 2 rfl (Wl.q (q_field fo_155_2 rfl rfl) (Wl.q (q_c 0 sc_26 rfl rfl rfl) (Wl.q (q_eql rfl rfl (df (by decide))) (Wl.rg 4 rfl (Wc.no rfl (Wc.skip (Wx.fin0 rfl (.inr rfl) (fun w hs => ?_))))))))))))
 exact ⟨(), trivial, rfl, hs⟩
theorem ilist_no (W0 : World) (r : Nat) (s : ByteArray) (a : Nat) (ha : a ≤ s.size) (hsz : s.size ≤ 9223372036854775807) (h : takeList s a = none) :
  Con1 prog W0 174 #[Vp r] [pt r 155 [Vs s, Vi ((a : Nat) : Int), Vi 0]] (.int .i64 0) [pt r 155 [Vs s, Vi ((a : Nat) : Int), Vi 4]] := by
 refine Con.of func174 rfl ntmps174 rfl (fun F => ?_)
 show Wc _ W0 _ _ _ _ _ ((pt r 155 [Vs s, Vi ((a : Nat) : Int), Vi 0]) :: F)
 refine Wc.a 1 rfl (Wc.seq (Wc.drawsS [8] ((pt r 155 [Vs s, Vi ((a : Nat) : Int), Vi 0]) :: []) (by kernel_rfl) (Wr.p 0 oo1 rfl (q_move rfl) (Wr.p 1 oo1 rfl (q_nil_ptr rfl) (Wr.p 2 oo1 rfl (q_field fo_155_0 rfl rfl) (Wr.t 3 oo1 rfl (q_c 0 sc_9 rfl rfl rfl) (Wr.p 4 oo1 rfl (q_move rfl) (Wr.p 5 oo1 rfl (q_nil_ptr rfl) (Wr.p 6 oo1 rfl (q_field fo_155_1 rfl rfl) (Wr.t 7 oo1 rfl (q_c 0 sc_3 rfl rfl rfl) (Wr.e 8 (by kernel_rfl) rfl (e_c call271 (Con.eqs (val' := fun _ => .tuple #[.int .i64 0, .int .i64 ((a : Nat) : Int), .int .i64 4]) (post' := fun _ => []) (tlist_c W0 s a ha hsz) (fun _ => by rw [h]; rfl) (fun _ => rfl))) (.inl (by kernel_rfl)) (fun _ _ => Wr.imp (L' := (pt r 155 [Vs s, Vi ((a : Nat) : Int), Vi 0]) :: F) (fun _ h => h) (Wr.rebaseS [] ((pt r 155 [Vs s, Vi ((a : Nat) : Int), Vi 0]) :: []) (by kernel_rfl) (Wr.p 9 oo1 rfl (q_move rfl) (Wr.p 10 oo1 rfl (q_extract (i := 0) rfl rfl) (Wr.p 11 oo1 rfl (q_extract (i := 1) rfl rfl) (Wr.p 12 oo1 rfl (q_extract (i := 2) rfl rfl) (Wr.p 13 oo1 rfl (q_assign rfl) (Wr.p 14 oo1 rfl (q_assign rfl) (Wr.p 15 oo1 rfl (q_assign rfl) (Wr.z (Wx.go (Wc.b 3 rfl ?_)))))))))))))))))))))))
 refine Wl.e (e_c call272 (keep_04 W0 r s a a)) (fun _ _ => Wl.dg (Wc.seq (Wc.b 2 rfl (Wl.q (q_field fo_155_2 rfl rfl) (Wl.q (q_c 0 sc_26 rfl rfl rfl) (Wl.q (q_neq rfl rfl (df (by decide))) (Wl.dg (Wc.yes rfl (Wc.a 1 rfl (Wc.ret (Wx.thenRet (Wx.f1 rfl (fun w hs => ?_)))))))))))))
 exact ⟨(), trivial, rfl, hs⟩
theorem ilist_yes (W0 : World) (r : Nat) (s : ByteArray) (a : Nat) (ha : a ≤ s.size) (hsz : s.size ≤ 9223372036854775807) (n b : Nat) (h : takeList s a = some (n, b)) :
  Con1 prog W0 174 #[Vp r] [pt r 155 [Vs s, Vi ((a : Nat) : Int), Vi 0]] (.int .i64 ((n : Nat) : Int)) [pt r 155 [Vs s, Vi ((b : Nat) : Int), Vi 0]] := by
 refine Con.of func174 rfl ntmps174 rfl (fun F => ?_)
 show Wc _ W0 _ _ _ _ _ ((pt r 155 [Vs s, Vi ((a : Nat) : Int), Vi 0]) :: F)
 refine Wc.a 1 rfl (Wc.seq (Wc.drawsS [8] ((pt r 155 [Vs s, Vi ((a : Nat) : Int), Vi 0]) :: []) (by kernel_rfl) (Wr.p 0 oo1 rfl (q_move rfl) (Wr.p 1 oo1 rfl (q_nil_ptr rfl) (Wr.p 2 oo1 rfl (q_field fo_155_0 rfl rfl) (Wr.t 3 oo1 rfl (q_c 0 sc_9 rfl rfl rfl) (Wr.p 4 oo1 rfl (q_move rfl) (Wr.p 5 oo1 rfl (q_nil_ptr rfl) (Wr.p 6 oo1 rfl (q_field fo_155_1 rfl rfl) (Wr.t 7 oo1 rfl (q_c 0 sc_3 rfl rfl rfl) (Wr.e 8 (by kernel_rfl) rfl (e_c call271 (Con.eqs (val' := fun _ => .tuple #[.int .i64 ((n : Nat) : Int), .int .i64 ((b : Nat) : Int), .int .i64 0]) (post' := fun _ => []) (tlist_c W0 s a ha hsz) (fun _ => by rw [h]; rfl) (fun _ => rfl))) (.inl (by kernel_rfl)) (fun _ _ => Wr.imp (L' := (pt r 155 [Vs s, Vi ((a : Nat) : Int), Vi 0]) :: F) (fun _ h => h) (Wr.rebaseS [] ((pt r 155 [Vs s, Vi ((a : Nat) : Int), Vi 0]) :: []) (by kernel_rfl) (Wr.p 9 oo1 rfl (q_move rfl) (Wr.p 10 oo1 rfl (q_extract (i := 0) rfl rfl) (Wr.p 11 oo1 rfl (q_extract (i := 1) rfl rfl) (Wr.p 12 oo1 rfl (q_extract (i := 2) rfl rfl) (Wr.p 13 oo1 rfl (q_assign rfl) (Wr.p 14 oo1 rfl (q_assign rfl) (Wr.p 15 oo1 rfl (q_assign rfl) (Wr.z (Wx.go (Wc.b 3 rfl ?_)))))))))))))))))))))))
 refine Wl.e (e_c call272 (keep_00 W0 r s a b)) (fun _ _ => Wl.dg (Wc.seq (Wc.b 2 rfl (Wl.q (q_field fo_155_2 rfl rfl) (Wl.q (q_c 0 sc_26 rfl rfl rfl) (Wl.q (q_neq rfl rfl (dt (by decide))) (Wl.dg (Wc.no rfl (Wc.skip (Wx.go (Wc.a 2 rfl (Wc.ret (Wx.f1 rfl (fun w hs => ?_))))))))))))))
 exact ⟨(), trivial, rfl, hs⟩
theorem itext_no0 (W0 : World) (r : Nat) (s : ByteArray) (a : Nat) (ha : a ≤ s.size) (hsz : s.size ≤ 9223372036854775807) (h : takeText s a = none) :
  Con1 prog W0 175 #[Vp r] [pt r 155 [Vs s, Vi ((a : Nat) : Int), Vi 0]] (.string ⟨#[]⟩) [pt r 155 [Vs s, Vi ((a : Nat) : Int), Vi 4]] := by
 refine Con.of func175 rfl ntmps175 rfl (fun F => ?_)
 show Wc _ W0 _ _ _ _ _ ((pt r 155 [Vs s, Vi ((a : Nat) : Int), Vi 0]) :: F)
 refine Wc.a 1 rfl (Wc.seq (Wc.drawsS [8] ((pt r 155 [Vs s, Vi ((a : Nat) : Int), Vi 0]) :: []) (by kernel_rfl) (Wr.p 0 oo1 rfl (q_move rfl) (Wr.p 1 oo1 rfl (q_nil_ptr rfl) (Wr.p 2 oo1 rfl (q_field fo_155_0 rfl rfl) (Wr.t 3 oo1 rfl (q_c 0 sc_9 rfl rfl rfl) (Wr.p 4 oo1 rfl (q_move rfl) (Wr.p 5 oo1 rfl (q_nil_ptr rfl) (Wr.p 6 oo1 rfl (q_field fo_155_1 rfl rfl) (Wr.t 7 oo1 rfl (q_c 0 sc_3 rfl rfl rfl) (Wr.e 8 (by kernel_rfl) rfl (e_c call273 (Con.eqs (val' := fun _ => .tuple #[.string ⟨#[]⟩, .int .i64 ((a : Nat) : Int), .int .i64 4]) (post' := fun _ => []) (ttext_c W0 s a ha hsz) (fun _ => by rw [h]; rfl) (fun _ => rfl))) (.inl (by kernel_rfl)) (fun _ _ => Wr.imp (L' := (pt r 155 [Vs s, Vi ((a : Nat) : Int), Vi 0]) :: F) (fun _ h => h) (Wr.rebaseS [] ((pt r 155 [Vs s, Vi ((a : Nat) : Int), Vi 0]) :: []) (by kernel_rfl) (Wr.p 9 oo1 rfl (q_move rfl) (Wr.p 10 oo1 rfl (q_extract (i := 0) rfl rfl) (Wr.p 11 oo1 rfl (q_extract (i := 1) rfl rfl) (Wr.p 12 oo1 rfl (q_extract (i := 2) rfl rfl) (Wr.p 13 oo1 rfl (q_assign rfl) (Wr.p 14 oo1 rfl (q_assign rfl) (Wr.p 15 oo1 rfl (q_assign rfl) (Wr.z (Wx.go (Wc.b 3 rfl ?_)))))))))))))))))))))))
 refine Wl.e (e_c call272 (keep_04 W0 r s a a)) (fun _ _ => Wl.dg (Wc.a 2 rfl (Wc.ret (Wx.f1 rfl (fun w hs => ?_)))))
 exact ⟨(), trivial, rfl, hs⟩
theorem itext_no4 (W0 : World) (r : Nat) (s : ByteArray) (a : Nat) (ha : a ≤ s.size) (hsz : s.size ≤ 9223372036854775807) (h : takeText s a = none) :
  Con1 prog W0 175 #[Vp r] [pt r 155 [Vs s, Vi ((a : Nat) : Int), Vi 4]] (.string ⟨#[]⟩) [pt r 155 [Vs s, Vi ((a : Nat) : Int), Vi 4]] := by
 refine Con.of func175 rfl ntmps175 rfl (fun F => ?_)
 show Wc _ W0 _ _ _ _ _ ((pt r 155 [Vs s, Vi ((a : Nat) : Int), Vi 4]) :: F)
 refine Wc.a 1 rfl (Wc.seq (Wc.drawsS [8] ((pt r 155 [Vs s, Vi ((a : Nat) : Int), Vi 4]) :: []) (by kernel_rfl) (Wr.p 0 oo1 rfl (q_move rfl) (Wr.p 1 oo1 rfl (q_nil_ptr rfl) (Wr.p 2 oo1 rfl (q_field fo_155_0 rfl rfl) (Wr.t 3 oo1 rfl (q_c 0 sc_9 rfl rfl rfl) (Wr.p 4 oo1 rfl (q_move rfl) (Wr.p 5 oo1 rfl (q_nil_ptr rfl) (Wr.p 6 oo1 rfl (q_field fo_155_1 rfl rfl) (Wr.t 7 oo1 rfl (q_c 0 sc_3 rfl rfl rfl) (Wr.e 8 (by kernel_rfl) rfl (e_c call273 (Con.eqs (val' := fun _ => .tuple #[.string ⟨#[]⟩, .int .i64 ((a : Nat) : Int), .int .i64 4]) (post' := fun _ => []) (ttext_c W0 s a ha hsz) (fun _ => by rw [h]; rfl) (fun _ => rfl))) (.inl (by kernel_rfl)) (fun _ _ => Wr.imp (L' := (pt r 155 [Vs s, Vi ((a : Nat) : Int), Vi 4]) :: F) (fun _ h => h) (Wr.rebaseS [] ((pt r 155 [Vs s, Vi ((a : Nat) : Int), Vi 4]) :: []) (by kernel_rfl) (Wr.p 9 oo1 rfl (q_move rfl) (Wr.p 10 oo1 rfl (q_extract (i := 0) rfl rfl) (Wr.p 11 oo1 rfl (q_extract (i := 1) rfl rfl) (Wr.p 12 oo1 rfl (q_extract (i := 2) rfl rfl) (Wr.p 13 oo1 rfl (q_assign rfl) (Wr.p 14 oo1 rfl (q_assign rfl) (Wr.p 15 oo1 rfl (q_assign rfl) (Wr.z (Wx.go (Wc.b 3 rfl ?_)))))))))))))))))))))))
 refine Wl.e (e_c call272 (keep_44 W0 r s a a)) (fun _ _ => Wl.dg (Wc.a 2 rfl (Wc.ret (Wx.f1 rfl (fun w hs => ?_)))))
 exact ⟨(), trivial, rfl, hs⟩
theorem itext_yes (W0 : World) (r : Nat) (s : ByteArray) (a : Nat) (ha : a ≤ s.size) (hsz : s.size ≤ 9223372036854775807) (x : ByteArray) (b : Nat) (h : takeText s a = some (x, b)) :
  Con1 prog W0 175 #[Vp r] [pt r 155 [Vs s, Vi ((a : Nat) : Int), Vi 0]] (.string x) [pt r 155 [Vs s, Vi ((b : Nat) : Int), Vi 0]] := by
 refine Con.of func175 rfl ntmps175 rfl (fun F => ?_)
 show Wc _ W0 _ _ _ _ _ ((pt r 155 [Vs s, Vi ((a : Nat) : Int), Vi 0]) :: F)
 refine Wc.a 1 rfl (Wc.seq (Wc.drawsS [8] ((pt r 155 [Vs s, Vi ((a : Nat) : Int), Vi 0]) :: []) (by kernel_rfl) (Wr.p 0 oo1 rfl (q_move rfl) (Wr.p 1 oo1 rfl (q_nil_ptr rfl) (Wr.p 2 oo1 rfl (q_field fo_155_0 rfl rfl) (Wr.t 3 oo1 rfl (q_c 0 sc_9 rfl rfl rfl) (Wr.p 4 oo1 rfl (q_move rfl) (Wr.p 5 oo1 rfl (q_nil_ptr rfl) (Wr.p 6 oo1 rfl (q_field fo_155_1 rfl rfl) (Wr.t 7 oo1 rfl (q_c 0 sc_3 rfl rfl rfl) (Wr.e 8 (by kernel_rfl) rfl (e_c call273 (Con.eqs (val' := fun _ => .tuple #[.string x, .int .i64 ((b : Nat) : Int), .int .i64 0]) (post' := fun _ => []) (ttext_c W0 s a ha hsz) (fun _ => by rw [h]; rfl) (fun _ => rfl))) (.inl (by kernel_rfl)) (fun _ _ => Wr.imp (L' := (pt r 155 [Vs s, Vi ((a : Nat) : Int), Vi 0]) :: F) (fun _ h => h) (Wr.rebaseS [] ((pt r 155 [Vs s, Vi ((a : Nat) : Int), Vi 0]) :: []) (by kernel_rfl) (Wr.p 9 oo1 rfl (q_move rfl) (Wr.p 10 oo1 rfl (q_extract (i := 0) rfl rfl) (Wr.p 11 oo1 rfl (q_extract (i := 1) rfl rfl) (Wr.p 12 oo1 rfl (q_extract (i := 2) rfl rfl) (Wr.p 13 oo1 rfl (q_assign rfl) (Wr.p 14 oo1 rfl (q_assign rfl) (Wr.p 15 oo1 rfl (q_assign rfl) (Wr.z (Wx.go (Wc.b 3 rfl ?_)))))))))))))))))))))))
 refine Wl.e (e_c call272 (keep_00 W0 r s a b)) (fun _ _ => Wl.dg (Wc.a 2 rfl (Wc.ret (Wx.f1 rfl (fun w hs => ?_)))))
 exact ⟨(), trivial, rfl, hs⟩
end Go.Proofs.YtjnejkdamhefgaaGreatDoor
