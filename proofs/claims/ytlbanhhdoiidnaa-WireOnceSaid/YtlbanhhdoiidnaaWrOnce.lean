/- The wire: contracts of its calls. -/
import Derived.Test.YtlbanhhdoiidnaaWrI
import Derived.Test.YtlbanhhdoiidnaaWrO
namespace Go.Proofs.Ytlbanhhdoiidnaa
open Go Go.SL Go.Wr Go.RowKit
open Go.Dk (beyondF beyondB beyond_step beyond_le beyond_one beyond_two)
set_option linter.unusedVariables false
theorem ag_44 : aggSize Try.prog 44 = some 3 := by kernel_rfl
theorem zo_44 : zeroOf Try.prog 44 = some (Value.agg #[Value.int .i64 0, Value.int .i64 0, Value.string (⟨#[]⟩)]) := by kernel_rfl
theorem sz_44 : sizeIs Try.prog 44 = some 3 := by kernel_rfl
set_option maxRecDepth 4000 in
theorem once_law (W0 : World) (s : ByteArray) (hsz : s.size ≤ 9223372036854775807) (kind : Int) :
    Con Try.prog W0 8 #[Value.string s, Value.int .i64 kind] [] (X := Unit) (fun _ => True) (fun _ => .bool true) (fun _ => []) := by
  refine Con.of (args := [Value.string s, Value.int .i64 kind]) Try.func8 rfl Try.ntmps8 rfl (fun F => ?_)
  show Wc _ W0 _ _ _ _ _ (F)
  refine Wc.seq ?_
  refine Wc.region ?_
  refine Wl.q (v := Value.bool false) (q_assign rfl) ?_
  refine Wl.done ?_
  refine Wx.go ?_
  refine Wc.seq ?_
  refine Wc.region ?_
  refine Wl.q (v := Value.string s) (q_move rfl) ?_
  refine Wl.e (e_call (F := F) (args := [Value.string s]) Try.call15 rfl (rnew_c W0 s)) (fun r _ => ?_)
  refine Wl.imp (L' := (pt r 59 [Value.bool true, Value.string s, Value.int .i64 0]) :: F) (fun _ h => h) ?_
  refine Wl.q (v := Value.pointer (some ⟨r, 0, none⟩)) (q_assign rfl) ?_
  refine Wl.done ?_
  refine Wx.go ?_
  refine Wc.seq ?_
  refine Wc.region ?_
  refine Wl.e (e_call (F := (pt r 59 [Value.bool true, Value.string s, Value.int .i64 0]) :: F) (args := []) Try.call10 rfl (wnew_c W0)) (fun q _ => ?_)
  refine Wl.imp (L' := (isW q []) :: (pt r 59 [Value.bool true, Value.string s, Value.int .i64 0]) :: F) (fun _ h => h) ?_
  refine Wl.q (v := Value.pointer (some ⟨q, 0, none⟩)) (q_assign rfl) ?_
  refine Wl.done ?_
  refine Wx.go ?_
  refine Wc.seq ?_
  refine Wc.seq ?_
  refine Wc.region ?_
  refine Wl.q (v := Value.pointer (some ⟨r, 0, none⟩)) (q_move rfl) ?_
  refine Wl.q (v := Value.bool false) (q_eql_nil (r := false) rfl rfl Try.underlying31 rfl) ?_
  refine Wl.q (v := Value.bool false) (q_move rfl) ?_
  refine Wl.q (v := Value.pointer (some ⟨q, 0, none⟩)) (q_move rfl) ?_
  refine Wl.q (v := Value.bool false) (q_eql_nil (r := false) rfl rfl Try.underlying22 rfl) ?_
  refine Wl.q (v := Value.bool false) (q_pick (t := false) rfl rfl) ?_
  refine Wl.done ?_
  refine Wx.go ?_
  refine Wc.no rfl ?_
  refine Wc.skip ?_
  refine Wx.go ?_
  refine Wc.seq ?_
  refine Wc.region ?_
  refine Wl.q (v := Value.int .i64 kind) (q_move rfl) ?_
  refine Wl.q (v := Value.agg #[Value.int .i64 kind, Value.int .i64 0, Value.string (⟨#[]⟩)]) (q_build (pl := [(0, 1), (1, 1), (2, 1)]) Try.underlying44 zo_44 (by kernel_rfl) (by kernel_rfl)) ?_
  refine Wl.e (e_alloc (vs := [Value.int .i64 0, Value.int .i64 0, Value.string (⟨#[]⟩)]) zo_44 rfl) (fun xb _ => ?_)
  refine Wl.imp (L' := (pt xb 44 ([Value.int .i64 0, Value.int .i64 0, Value.string (⟨#[]⟩)])) :: (isW q []) :: (pt r 59 [Value.bool true, Value.string s, Value.int .i64 0]) :: F) (fun _ h => h) ?_
  refine Wl.e (e_storeAgg (i := 0) (vs := [Value.int .i64 kind, Value.int .i64 0, Value.string (⟨#[]⟩)]) (c' := [Value.int .i64 kind, Value.int .i64 0, Value.string (⟨#[]⟩)]) sz_44 rfl rfl rfl rfl (by simp) rfl) (fun _ _ => ?_)
  refine Wl.imp (L' := (pt xb 44 ([Value.int .i64 kind, Value.int .i64 0, Value.string (⟨#[]⟩)])) :: (isW q []) :: (pt r 59 [Value.bool true, Value.string s, Value.int .i64 0]) :: F) (fun _ h => h) ?_
  refine Wl.done ?_
  refine Wx.go ?_
  refine Wc.seq ?_
  refine Wc.region ?_
  refine Wl.q (v := Value.int .i64 0) (q_assign rfl) ?_
  refine Wl.done ?_
  refine Wx.go ?_
  refine Wc.seq ?_
  refine Wc.seq ?_
  refine Wc.region ?_
  refine Wl.q (v := Value.int .i64 kind) (q_move rfl) ?_
  refine Wl.done ?_
  refine Wx.go ?_
  refine Wc.block ?_
  refine Wc.seq ?_
  refine Wc.region ?_
  by_cases hk0 : kind = 0
  ·
    refine Wl.q (v := Value.bool true) (q_eql (r := true) rfl rfl (decide_eq_true hk0)) ?_
    refine Wl.q (v := Value.bool true) (q_assign rfl) ?_
    refine Wl.done ?_
    refine Wx.go ?_
    refine Wc.yes rfl ?_
    refine Wc.seq ?_
    refine Wc.region ?_
    refine Wl.q (v := Value.pointer (some ⟨r, 0, none⟩)) (q_move rfl) ?_
    refine Wl.imp (L' := (pt r 59 [Value.bool true, Value.string s, Value.int .i64 0]) :: (pt xb 44 ([Value.int .i64 kind, Value.int .i64 0, Value.string (⟨#[]⟩)])) :: (isW q []) :: F) (fun _ h => st_pull [2] h) ?_
    refine Wl.e (e_call (F := (pt xb 44 ([Value.int .i64 kind, Value.int .i64 0, Value.string (⟨#[]⟩)])) :: (isW q []) :: F) (args := [Value.pointer (some ⟨r, 0, none⟩)]) Try.call22 rfl (rbyte_c W0 r s 0 (Nat.zero_le _) hsz)) (fun _ _ => ?_)
    refine Wl.imp (L' := (pt r 59 [Value.bool true, Value.string s, Value.int .i64 (((gn 0 (takeByte s 0)) : Nat) : Int)]) :: (pt xb 44 ([Value.int .i64 kind, Value.int .i64 0, Value.string (⟨#[]⟩)])) :: (isW q []) :: F) (fun _ h => h) ?_
    refine Wl.q (v := Value.tuple #[Value.int .i64 (((gv 0 (takeByte s 0)) : Nat) : Int), Value.int .i64 (ge (takeByte s 0))]) (q_move rfl) ?_
    refine Wl.q (v := Value.int .i64 (((gv 0 (takeByte s 0)) : Nat) : Int)) (q_extract (i := 0) rfl rfl) ?_
    refine Wl.q (v := Value.int .i64 (ge (takeByte s 0))) (q_extract (i := 1) rfl rfl) ?_
    refine Wl.q (v := Value.int .i64 (((gv 0 (takeByte s 0)) : Nat) : Int)) (q_assign rfl) ?_
    refine Wl.q (v := Value.int .i64 (ge (takeByte s 0))) (q_assign rfl) ?_
    refine Wl.done ?_
    refine Wx.go ?_
    refine Wc.region ?_
    refine Wl.q (v := Value.int .i64 (((gv 0 (takeByte s 0)) : Nat) : Int)) (q_move rfl) ?_
    refine Wl.q (v := Value.int .i64 (ge (takeByte s 0))) (q_move rfl) ?_
    refine Wl.q (v := Value.pointer (some ⟨xb, 1, none⟩)) (q_field (m := 1) fo_44_1 rfl rfl) ?_
    refine Wl.e (e_store (i := 1) (v := Value.int .i64 (((gv 0 (takeByte s 0)) : Nat) : Int)) sz_2 rfl rfl (fun _ _ => rfl) rfl (by simp)) (fun _ _ => ?_)
    refine Wl.imp (L' := (pt r 59 [Value.bool true, Value.string s, Value.int .i64 (((gn 0 (takeByte s 0)) : Nat) : Int)]) :: (pt xb 44 ([Value.int .i64 kind, Value.int .i64 (((gv 0 (takeByte s 0)) : Nat) : Int), Value.string (⟨#[]⟩)])) :: (isW q []) :: F) (fun _ h => h) ?_
    refine Wl.q (v := Value.int .i64 (ge (takeByte s 0))) (q_assign rfl) ?_
    refine Wl.done ?_
    refine Wx.blockEnd ?_
    refine Wx.go ?_
    refine Wc.seq ?_
    refine Wc.seq ?_
    refine Wc.region ?_
    refine Wl.q (v := Value.int .i64 (ge (takeByte s 0))) (q_move rfl) ?_
    by_cases hok : (ge (takeByte s 0)) = 0
    ·
      have hw : OnceI s (⟨kind, (((gv 0 (takeByte s 0)) : Nat) : Int), ⟨#[]⟩⟩ : ItemR) (gn 0 (takeByte s 0)) := once_byte hk0 hok
      refine Wl.q (v := Value.bool false) (q_neq (r := true) rfl rfl (decide_eq_true hok)) ?_
      refine Wl.done ?_
      refine Wx.go ?_
      refine Wc.no rfl ?_
      refine Wc.skip ?_
      refine Wx.go ?_
      refine Wc.seq ?_
      refine Wc.region ?_
      refine Wl.q (v := Value.pointer (some ⟨q, 0, none⟩)) (q_move rfl) ?_
      refine Wl.q (v := Value.agg #[Value.int .i64 kind, Value.int .i64 (((gv 0 (takeByte s 0)) : Nat) : Int), Value.string (⟨#[]⟩)]) (q_loadAgg (vs := [Value.int .i64 kind, Value.int .i64 (((gv 0 (takeByte s 0)) : Nat) : Int), Value.string (⟨#[]⟩)]) ag_44 rfl (Has.of_pt (i := 1) rfl rfl)) ?_
      refine Wl.imp (L' := (isW q []) :: (pt r 59 [Value.bool true, Value.string s, Value.int .i64 (((gn 0 (takeByte s 0)) : Nat) : Int)]) :: (pt xb 44 ([Value.int .i64 kind, Value.int .i64 (((gv 0 (takeByte s 0)) : Nat) : Int), Value.string (⟨#[]⟩)])) :: F) (fun _ h => st_pull [2] h) ?_
      refine Wl.e (e_call (F := (pt r 59 [Value.bool true, Value.string s, Value.int .i64 (((gn 0 (takeByte s 0)) : Nat) : Int)]) :: (pt xb 44 ([Value.int .i64 kind, Value.int .i64 (((gv 0 (takeByte s 0)) : Nat) : Int), Value.string (⟨#[]⟩)])) :: F) (args := [Value.pointer (some ⟨q, 0, none⟩), Value.agg #[Value.int .i64 kind, Value.int .i64 (((gv 0 (takeByte s 0)) : Nat) : Int), Value.string (⟨#[]⟩)]]) Try.call21 rfl (write_c W0 q [] (⟨kind, (((gv 0 (takeByte s 0)) : Nat) : Int), ⟨#[]⟩⟩ : ItemR) hw.2 (by decide))) (fun _ _ => ?_)
      refine Wl.imp (L' := (isW q ([] ++ (itemW (⟨kind, (((gv 0 (takeByte s 0)) : Nat) : Int), ⟨#[]⟩⟩ : ItemR)).2)) :: (pt r 59 [Value.bool true, Value.string s, Value.int .i64 (((gn 0 (takeByte s 0)) : Nat) : Int)]) :: (pt xb 44 ([Value.int .i64 kind, Value.int .i64 (((gv 0 (takeByte s 0)) : Nat) : Int), Value.string (⟨#[]⟩)])) :: F) (fun _ h => h) ?_
      refine Wl.q (v := Value.bool true) (q_eql (r := true) rfl rfl (decide_eq_true (by rw [hw.1.1]))) ?_
      refine Wl.q (v := Value.bool true) (q_move rfl) ?_
      refine Wl.q (v := Value.pointer (some ⟨q, 0, none⟩)) (q_move rfl) ?_
      refine Wl.e (e_call (F := (pt r 59 [Value.bool true, Value.string s, Value.int .i64 (((gn 0 (takeByte s 0)) : Nat) : Int)]) :: (pt xb 44 ([Value.int .i64 kind, Value.int .i64 (((gv 0 (takeByte s 0)) : Nat) : Int), Value.string (⟨#[]⟩)])) :: F) (args := [Value.pointer (some ⟨q, 0, none⟩)]) Try.call12 rfl (wbytes_c W0 q ([] ++ (itemW (⟨kind, (((gv 0 (takeByte s 0)) : Nat) : Int), ⟨#[]⟩⟩ : ItemR)).2))) (fun _ _ => ?_)
      refine Wl.imp (L' := (isW q ([] ++ (itemW (⟨kind, (((gv 0 (takeByte s 0)) : Nat) : Int), ⟨#[]⟩⟩ : ItemR)).2)) :: (pt r 59 [Value.bool true, Value.string s, Value.int .i64 (((gn 0 (takeByte s 0)) : Nat) : Int)]) :: (pt xb 44 ([Value.int .i64 kind, Value.int .i64 (((gv 0 (takeByte s 0)) : Nat) : Int), Value.string (⟨#[]⟩)])) :: F) (fun _ h => h) ?_
      refine Wl.q (v := Value.string s) (q_move rfl) ?_
      refine Wl.q (v := Value.pointer (some ⟨r, 0, none⟩)) (q_move rfl) ?_
      refine Wl.imp (L' := (pt r 59 [Value.bool true, Value.string s, Value.int .i64 (((gn 0 (takeByte s 0)) : Nat) : Int)]) :: (isW q ([] ++ (itemW (⟨kind, (((gv 0 (takeByte s 0)) : Nat) : Int), ⟨#[]⟩⟩ : ItemR)).2)) :: (pt xb 44 ([Value.int .i64 kind, Value.int .i64 (((gv 0 (takeByte s 0)) : Nat) : Int), Value.string (⟨#[]⟩)])) :: F) (fun _ h => st_pull [1] h) ?_
      refine Wl.e (e_call (F := (isW q ([] ++ (itemW (⟨kind, (((gv 0 (takeByte s 0)) : Nat) : Int), ⟨#[]⟩⟩ : ItemR)).2)) :: (pt xb 44 ([Value.int .i64 kind, Value.int .i64 (((gv 0 (takeByte s 0)) : Nat) : Int), Value.string (⟨#[]⟩)])) :: F) (args := [Value.pointer (some ⟨r, 0, none⟩)]) Try.call17 rfl (at_c W0 r s (gn 0 (takeByte s 0)))) (fun _ _ => ?_)
      refine Wl.imp (L' := (pt r 59 [Value.bool true, Value.string s, Value.int .i64 (((gn 0 (takeByte s 0)) : Nat) : Int)]) :: (isW q ([] ++ (itemW (⟨kind, (((gv 0 (takeByte s 0)) : Nat) : Int), ⟨#[]⟩⟩ : ItemR)).2)) :: (pt xb 44 ([Value.int .i64 kind, Value.int .i64 (((gv 0 (takeByte s 0)) : Nat) : Int), Value.string (⟨#[]⟩)])) :: F) (fun _ h => h) ?_
      refine Wl.q (v := Value.string (s.extract 0 (gn 0 (takeByte s 0)))) (q_slice_str (l := 0) (h := (gn 0 (takeByte s 0))) Try.underlying9 rfl rfl ⟨_, rfl⟩ (Nat.zero_le _) hw.1.2 rfl) ?_
      refine Wl.q (v := Value.bool true) (q_eql_str (r := true) rfl rfl (text_true (once_eq hw))) ?_
      refine Wl.q (v := Value.bool true) (q_pick (t := true) rfl rfl) ?_
      refine Wl.q (v := Value.bool true) (q_move rfl) ?_
      refine Wl.e (e_call (F := (pt r 59 [Value.bool true, Value.string s, Value.int .i64 (((gn 0 (takeByte s 0)) : Nat) : Int)]) :: (isW q ([] ++ (itemW (⟨kind, (((gv 0 (takeByte s 0)) : Nat) : Int), ⟨#[]⟩⟩ : ItemR)).2)) :: (pt xb 44 ([Value.int .i64 kind, Value.int .i64 (((gv 0 (takeByte s 0)) : Nat) : Int), Value.string (⟨#[]⟩)])) :: F) (args := []) Try.call13 rfl (alive_c W0)) (fun _ _ => ?_)
      refine Wl.imp (L' := (pt r 59 [Value.bool true, Value.string s, Value.int .i64 (((gn 0 (takeByte s 0)) : Nat) : Int)]) :: (isW q ([] ++ (itemW (⟨kind, (((gv 0 (takeByte s 0)) : Nat) : Int), ⟨#[]⟩⟩ : ItemR)).2)) :: (pt xb 44 ([Value.int .i64 kind, Value.int .i64 (((gv 0 (takeByte s 0)) : Nat) : Int), Value.string (⟨#[]⟩)])) :: F) (fun _ h => h) ?_
      refine Wl.q (v := Value.bool true) (q_pick (t := true) rfl rfl) ?_
      refine Wl.q (v := Value.bool true) (q_assign rfl) ?_
      refine Wl.done ?_
      refine Wx.go ?_
      refine Wc.ret ?_
      refine Wx.fin1 rfl (.inl rfl) (fun w hs => ?_)
      exact ⟨(), trivial, rfl, (st_drop (st_drop (st_drop (st_pull [0, 0, 0] hs))))⟩
    ·
      have hg0 : (gn 0 (takeByte s 0)) = 0 := gn_bad hok
      refine Wl.q (v := Value.bool true) (q_neq (r := false) rfl rfl (decide_eq_false hok)) ?_
      refine Wl.done ?_
      refine Wx.go ?_
      refine Wc.yes rfl ?_
      refine Wc.seq ?_
      refine Wc.region ?_
      refine Wl.q (v := Value.pointer (some ⟨r, 0, none⟩)) (q_move rfl) ?_
      refine Wl.e (e_call (F := (pt xb 44 ([Value.int .i64 kind, Value.int .i64 (((gv 0 (takeByte s 0)) : Nat) : Int), Value.string (⟨#[]⟩)])) :: (isW q []) :: F) (args := [Value.pointer (some ⟨r, 0, none⟩)]) Try.call17 rfl (at_c W0 r s (gn 0 (takeByte s 0)))) (fun _ _ => ?_)
      refine Wl.imp (L' := (pt r 59 [Value.bool true, Value.string s, Value.int .i64 (((gn 0 (takeByte s 0)) : Nat) : Int)]) :: (pt xb 44 ([Value.int .i64 kind, Value.int .i64 (((gv 0 (takeByte s 0)) : Nat) : Int), Value.string (⟨#[]⟩)])) :: (isW q []) :: F) (fun _ h => h) ?_
      refine Wl.q (v := Value.bool true) (q_eql (r := true) rfl rfl (decide_eq_true (by omega))) ?_
      refine Wl.q (v := Value.bool true) (q_move rfl) ?_
      refine Wl.e (e_call (F := (pt r 59 [Value.bool true, Value.string s, Value.int .i64 (((gn 0 (takeByte s 0)) : Nat) : Int)]) :: (pt xb 44 ([Value.int .i64 kind, Value.int .i64 (((gv 0 (takeByte s 0)) : Nat) : Int), Value.string (⟨#[]⟩)])) :: (isW q []) :: F) (args := []) Try.call13 rfl (alive_c W0)) (fun _ _ => ?_)
      refine Wl.imp (L' := (pt r 59 [Value.bool true, Value.string s, Value.int .i64 (((gn 0 (takeByte s 0)) : Nat) : Int)]) :: (pt xb 44 ([Value.int .i64 kind, Value.int .i64 (((gv 0 (takeByte s 0)) : Nat) : Int), Value.string (⟨#[]⟩)])) :: (isW q []) :: F) (fun _ h => h) ?_
      refine Wl.q (v := Value.bool true) (q_pick (t := true) rfl rfl) ?_
      refine Wl.q (v := Value.bool true) (q_assign rfl) ?_
      refine Wl.done ?_
      refine Wx.go ?_
      refine Wc.ret ?_
      refine Wx.thenRet ?_
      refine Wx.fin1 rfl (.inl rfl) (fun w hs => ?_)
      exact ⟨(), trivial, rfl, (st_drop (st_drop (st_drop (st_pull [0, 0, 0] hs))))⟩
  ·
    refine Wl.q (v := Value.bool false) (q_eql (r := false) rfl rfl (decide_eq_false hk0)) ?_
    refine Wl.q (v := Value.bool false) (q_assign rfl) ?_
    refine Wl.done ?_
    refine Wx.go ?_
    refine Wc.no rfl ?_
    refine Wc.seq ?_
    refine Wc.region ?_
    by_cases hk1 : kind = 1
    ·
      refine Wl.q (v := Value.bool true) (q_eql (r := true) rfl rfl (decide_eq_true hk1)) ?_
      refine Wl.q (v := Value.bool true) (q_assign rfl) ?_
      refine Wl.done ?_
      refine Wx.go ?_
      refine Wc.yes rfl ?_
      refine Wc.region ?_
      refine Wl.q (v := Value.pointer (some ⟨r, 0, none⟩)) (q_move rfl) ?_
      refine Wl.imp (L' := (pt r 59 [Value.bool true, Value.string s, Value.int .i64 0]) :: (pt xb 44 ([Value.int .i64 kind, Value.int .i64 0, Value.string (⟨#[]⟩)])) :: (isW q []) :: F) (fun _ h => st_pull [2] h) ?_
      refine Wl.e (e_call (F := (pt xb 44 ([Value.int .i64 kind, Value.int .i64 0, Value.string (⟨#[]⟩)])) :: (isW q []) :: F) (args := [Value.pointer (some ⟨r, 0, none⟩)]) Try.call23 rfl (rnumber_c W0 r s 0 (Nat.zero_le _) hsz)) (fun _ _ => ?_)
      refine Wl.imp (L' := (pt r 59 [Value.bool true, Value.string s, Value.int .i64 (((gn 0 (takeNum s 0)) : Nat) : Int)]) :: (pt xb 44 ([Value.int .i64 kind, Value.int .i64 0, Value.string (⟨#[]⟩)])) :: (isW q []) :: F) (fun _ h => h) ?_
      refine Wl.q (v := Value.tuple #[Value.int .i64 (gv 0 (takeNum s 0)), Value.int .i64 (ge (takeNum s 0))]) (q_move rfl) ?_
      refine Wl.q (v := Value.int .i64 (gv 0 (takeNum s 0))) (q_extract (i := 0) rfl rfl) ?_
      refine Wl.q (v := Value.int .i64 (ge (takeNum s 0))) (q_extract (i := 1) rfl rfl) ?_
      refine Wl.q (v := Value.pointer (some ⟨xb, 1, none⟩)) (q_field (m := 1) fo_44_1 rfl rfl) ?_
      refine Wl.e (e_store (i := 1) (v := Value.int .i64 (gv 0 (takeNum s 0))) sz_2 rfl rfl (fun _ _ => rfl) rfl (by simp)) (fun _ _ => ?_)
      refine Wl.imp (L' := (pt r 59 [Value.bool true, Value.string s, Value.int .i64 (((gn 0 (takeNum s 0)) : Nat) : Int)]) :: (pt xb 44 ([Value.int .i64 kind, Value.int .i64 (gv 0 (takeNum s 0)), Value.string (⟨#[]⟩)])) :: (isW q []) :: F) (fun _ h => h) ?_
      refine Wl.q (v := Value.int .i64 (ge (takeNum s 0))) (q_assign rfl) ?_
      refine Wl.done ?_
      refine Wx.blockEnd ?_
      refine Wx.go ?_
      refine Wc.seq ?_
      refine Wc.seq ?_
      refine Wc.region ?_
      refine Wl.q (v := Value.int .i64 (ge (takeNum s 0))) (q_move rfl) ?_
      by_cases hok : (ge (takeNum s 0)) = 0
      ·
        have hw : OnceI s (⟨kind, (gv 0 (takeNum s 0)), ⟨#[]⟩⟩ : ItemR) (gn 0 (takeNum s 0)) := once_num hk0 hk1 hok
        refine Wl.q (v := Value.bool false) (q_neq (r := true) rfl rfl (decide_eq_true hok)) ?_
        refine Wl.done ?_
        refine Wx.go ?_
        refine Wc.no rfl ?_
        refine Wc.skip ?_
        refine Wx.go ?_
        refine Wc.seq ?_
        refine Wc.region ?_
        refine Wl.q (v := Value.pointer (some ⟨q, 0, none⟩)) (q_move rfl) ?_
        refine Wl.q (v := Value.agg #[Value.int .i64 kind, Value.int .i64 (gv 0 (takeNum s 0)), Value.string (⟨#[]⟩)]) (q_loadAgg (vs := [Value.int .i64 kind, Value.int .i64 (gv 0 (takeNum s 0)), Value.string (⟨#[]⟩)]) ag_44 rfl (Has.of_pt (i := 1) rfl rfl)) ?_
        refine Wl.imp (L' := (isW q []) :: (pt r 59 [Value.bool true, Value.string s, Value.int .i64 (((gn 0 (takeNum s 0)) : Nat) : Int)]) :: (pt xb 44 ([Value.int .i64 kind, Value.int .i64 (gv 0 (takeNum s 0)), Value.string (⟨#[]⟩)])) :: F) (fun _ h => st_pull [2] h) ?_
        refine Wl.e (e_call (F := (pt r 59 [Value.bool true, Value.string s, Value.int .i64 (((gn 0 (takeNum s 0)) : Nat) : Int)]) :: (pt xb 44 ([Value.int .i64 kind, Value.int .i64 (gv 0 (takeNum s 0)), Value.string (⟨#[]⟩)])) :: F) (args := [Value.pointer (some ⟨q, 0, none⟩), Value.agg #[Value.int .i64 kind, Value.int .i64 (gv 0 (takeNum s 0)), Value.string (⟨#[]⟩)]]) Try.call21 rfl (write_c W0 q [] (⟨kind, (gv 0 (takeNum s 0)), ⟨#[]⟩⟩ : ItemR) hw.2 (by decide))) (fun _ _ => ?_)
        refine Wl.imp (L' := (isW q ([] ++ (itemW (⟨kind, (gv 0 (takeNum s 0)), ⟨#[]⟩⟩ : ItemR)).2)) :: (pt r 59 [Value.bool true, Value.string s, Value.int .i64 (((gn 0 (takeNum s 0)) : Nat) : Int)]) :: (pt xb 44 ([Value.int .i64 kind, Value.int .i64 (gv 0 (takeNum s 0)), Value.string (⟨#[]⟩)])) :: F) (fun _ h => h) ?_
        refine Wl.q (v := Value.bool true) (q_eql (r := true) rfl rfl (decide_eq_true (by rw [hw.1.1]))) ?_
        refine Wl.q (v := Value.bool true) (q_move rfl) ?_
        refine Wl.q (v := Value.pointer (some ⟨q, 0, none⟩)) (q_move rfl) ?_
        refine Wl.e (e_call (F := (pt r 59 [Value.bool true, Value.string s, Value.int .i64 (((gn 0 (takeNum s 0)) : Nat) : Int)]) :: (pt xb 44 ([Value.int .i64 kind, Value.int .i64 (gv 0 (takeNum s 0)), Value.string (⟨#[]⟩)])) :: F) (args := [Value.pointer (some ⟨q, 0, none⟩)]) Try.call12 rfl (wbytes_c W0 q ([] ++ (itemW (⟨kind, (gv 0 (takeNum s 0)), ⟨#[]⟩⟩ : ItemR)).2))) (fun _ _ => ?_)
        refine Wl.imp (L' := (isW q ([] ++ (itemW (⟨kind, (gv 0 (takeNum s 0)), ⟨#[]⟩⟩ : ItemR)).2)) :: (pt r 59 [Value.bool true, Value.string s, Value.int .i64 (((gn 0 (takeNum s 0)) : Nat) : Int)]) :: (pt xb 44 ([Value.int .i64 kind, Value.int .i64 (gv 0 (takeNum s 0)), Value.string (⟨#[]⟩)])) :: F) (fun _ h => h) ?_
        refine Wl.q (v := Value.string s) (q_move rfl) ?_
        refine Wl.q (v := Value.pointer (some ⟨r, 0, none⟩)) (q_move rfl) ?_
        refine Wl.imp (L' := (pt r 59 [Value.bool true, Value.string s, Value.int .i64 (((gn 0 (takeNum s 0)) : Nat) : Int)]) :: (isW q ([] ++ (itemW (⟨kind, (gv 0 (takeNum s 0)), ⟨#[]⟩⟩ : ItemR)).2)) :: (pt xb 44 ([Value.int .i64 kind, Value.int .i64 (gv 0 (takeNum s 0)), Value.string (⟨#[]⟩)])) :: F) (fun _ h => st_pull [1] h) ?_
        refine Wl.e (e_call (F := (isW q ([] ++ (itemW (⟨kind, (gv 0 (takeNum s 0)), ⟨#[]⟩⟩ : ItemR)).2)) :: (pt xb 44 ([Value.int .i64 kind, Value.int .i64 (gv 0 (takeNum s 0)), Value.string (⟨#[]⟩)])) :: F) (args := [Value.pointer (some ⟨r, 0, none⟩)]) Try.call17 rfl (at_c W0 r s (gn 0 (takeNum s 0)))) (fun _ _ => ?_)
        refine Wl.imp (L' := (pt r 59 [Value.bool true, Value.string s, Value.int .i64 (((gn 0 (takeNum s 0)) : Nat) : Int)]) :: (isW q ([] ++ (itemW (⟨kind, (gv 0 (takeNum s 0)), ⟨#[]⟩⟩ : ItemR)).2)) :: (pt xb 44 ([Value.int .i64 kind, Value.int .i64 (gv 0 (takeNum s 0)), Value.string (⟨#[]⟩)])) :: F) (fun _ h => h) ?_
        refine Wl.q (v := Value.string (s.extract 0 (gn 0 (takeNum s 0)))) (q_slice_str (l := 0) (h := (gn 0 (takeNum s 0))) Try.underlying9 rfl rfl ⟨_, rfl⟩ (Nat.zero_le _) hw.1.2 rfl) ?_
        refine Wl.q (v := Value.bool true) (q_eql_str (r := true) rfl rfl (text_true (once_eq hw))) ?_
        refine Wl.q (v := Value.bool true) (q_pick (t := true) rfl rfl) ?_
        refine Wl.q (v := Value.bool true) (q_move rfl) ?_
        refine Wl.e (e_call (F := (pt r 59 [Value.bool true, Value.string s, Value.int .i64 (((gn 0 (takeNum s 0)) : Nat) : Int)]) :: (isW q ([] ++ (itemW (⟨kind, (gv 0 (takeNum s 0)), ⟨#[]⟩⟩ : ItemR)).2)) :: (pt xb 44 ([Value.int .i64 kind, Value.int .i64 (gv 0 (takeNum s 0)), Value.string (⟨#[]⟩)])) :: F) (args := []) Try.call13 rfl (alive_c W0)) (fun _ _ => ?_)
        refine Wl.imp (L' := (pt r 59 [Value.bool true, Value.string s, Value.int .i64 (((gn 0 (takeNum s 0)) : Nat) : Int)]) :: (isW q ([] ++ (itemW (⟨kind, (gv 0 (takeNum s 0)), ⟨#[]⟩⟩ : ItemR)).2)) :: (pt xb 44 ([Value.int .i64 kind, Value.int .i64 (gv 0 (takeNum s 0)), Value.string (⟨#[]⟩)])) :: F) (fun _ h => h) ?_
        refine Wl.q (v := Value.bool true) (q_pick (t := true) rfl rfl) ?_
        refine Wl.q (v := Value.bool true) (q_assign rfl) ?_
        refine Wl.done ?_
        refine Wx.go ?_
        refine Wc.ret ?_
        refine Wx.fin1 rfl (.inl rfl) (fun w hs => ?_)
        exact ⟨(), trivial, rfl, (st_drop (st_drop (st_drop (st_pull [0, 0, 0] hs))))⟩
      ·
        have hg0 : (gn 0 (takeNum s 0)) = 0 := gn_bad hok
        refine Wl.q (v := Value.bool true) (q_neq (r := false) rfl rfl (decide_eq_false hok)) ?_
        refine Wl.done ?_
        refine Wx.go ?_
        refine Wc.yes rfl ?_
        refine Wc.seq ?_
        refine Wc.region ?_
        refine Wl.q (v := Value.pointer (some ⟨r, 0, none⟩)) (q_move rfl) ?_
        refine Wl.e (e_call (F := (pt xb 44 ([Value.int .i64 kind, Value.int .i64 (gv 0 (takeNum s 0)), Value.string (⟨#[]⟩)])) :: (isW q []) :: F) (args := [Value.pointer (some ⟨r, 0, none⟩)]) Try.call17 rfl (at_c W0 r s (gn 0 (takeNum s 0)))) (fun _ _ => ?_)
        refine Wl.imp (L' := (pt r 59 [Value.bool true, Value.string s, Value.int .i64 (((gn 0 (takeNum s 0)) : Nat) : Int)]) :: (pt xb 44 ([Value.int .i64 kind, Value.int .i64 (gv 0 (takeNum s 0)), Value.string (⟨#[]⟩)])) :: (isW q []) :: F) (fun _ h => h) ?_
        refine Wl.q (v := Value.bool true) (q_eql (r := true) rfl rfl (decide_eq_true (by omega))) ?_
        refine Wl.q (v := Value.bool true) (q_move rfl) ?_
        refine Wl.e (e_call (F := (pt r 59 [Value.bool true, Value.string s, Value.int .i64 (((gn 0 (takeNum s 0)) : Nat) : Int)]) :: (pt xb 44 ([Value.int .i64 kind, Value.int .i64 (gv 0 (takeNum s 0)), Value.string (⟨#[]⟩)])) :: (isW q []) :: F) (args := []) Try.call13 rfl (alive_c W0)) (fun _ _ => ?_)
        refine Wl.imp (L' := (pt r 59 [Value.bool true, Value.string s, Value.int .i64 (((gn 0 (takeNum s 0)) : Nat) : Int)]) :: (pt xb 44 ([Value.int .i64 kind, Value.int .i64 (gv 0 (takeNum s 0)), Value.string (⟨#[]⟩)])) :: (isW q []) :: F) (fun _ h => h) ?_
        refine Wl.q (v := Value.bool true) (q_pick (t := true) rfl rfl) ?_
        refine Wl.q (v := Value.bool true) (q_assign rfl) ?_
        refine Wl.done ?_
        refine Wx.go ?_
        refine Wc.ret ?_
        refine Wx.thenRet ?_
        refine Wx.fin1 rfl (.inl rfl) (fun w hs => ?_)
        exact ⟨(), trivial, rfl, (st_drop (st_drop (st_drop (st_pull [0, 0, 0] hs))))⟩
    ·
      refine Wl.q (v := Value.bool false) (q_eql (r := false) rfl rfl (decide_eq_false hk1)) ?_
      refine Wl.q (v := Value.bool false) (q_assign rfl) ?_
      refine Wl.done ?_
      refine Wx.go ?_
      refine Wc.no rfl ?_
      refine Wc.seq ?_
      refine Wc.region ?_
      by_cases hk2 : kind = 2
      ·
        refine Wl.q (v := Value.bool true) (q_eql (r := true) rfl rfl (decide_eq_true hk2)) ?_
        refine Wl.q (v := Value.bool true) (q_assign rfl) ?_
        refine Wl.done ?_
        refine Wx.go ?_
        refine Wc.yes rfl ?_
        refine Wc.seq ?_
        refine Wc.region ?_
        refine Wl.q (v := Value.pointer (some ⟨r, 0, none⟩)) (q_move rfl) ?_
        refine Wl.imp (L' := (pt r 59 [Value.bool true, Value.string s, Value.int .i64 0]) :: (pt xb 44 ([Value.int .i64 kind, Value.int .i64 0, Value.string (⟨#[]⟩)])) :: (isW q []) :: F) (fun _ h => st_pull [2] h) ?_
        refine Wl.e (e_call (F := (pt xb 44 ([Value.int .i64 kind, Value.int .i64 0, Value.string (⟨#[]⟩)])) :: (isW q []) :: F) (args := [Value.pointer (some ⟨r, 0, none⟩)]) Try.call24 rfl (rflag_c W0 r s 0 (Nat.zero_le _) hsz)) (fun _ _ => ?_)
        refine Wl.imp (L' := (pt r 59 [Value.bool true, Value.string s, Value.int .i64 (((gn 0 (takeFlag s 0)) : Nat) : Int)]) :: (pt xb 44 ([Value.int .i64 kind, Value.int .i64 0, Value.string (⟨#[]⟩)])) :: (isW q []) :: F) (fun _ h => h) ?_
        refine Wl.q (v := Value.tuple #[Value.bool (gv false (takeFlag s 0)), Value.int .i64 (ge (takeFlag s 0))]) (q_move rfl) ?_
        refine Wl.q (v := Value.bool (gv false (takeFlag s 0))) (q_extract (i := 0) rfl rfl) ?_
        refine Wl.q (v := Value.int .i64 (ge (takeFlag s 0))) (q_extract (i := 1) rfl rfl) ?_
        refine Wl.q (v := Value.bool (gv false (takeFlag s 0))) (q_assign rfl) ?_
        refine Wl.q (v := Value.int .i64 (ge (takeFlag s 0))) (q_assign rfl) ?_
        refine Wl.done ?_
        refine Wx.go ?_
        refine Wc.seq ?_
        refine Wc.region ?_
        refine Wl.q (v := Value.int .i64 (ge (takeFlag s 0))) (q_move rfl) ?_
        refine Wl.q (v := Value.int .i64 (ge (takeFlag s 0))) (q_assign rfl) ?_
        refine Wl.done ?_
        refine Wx.go ?_
        refine Wc.seq ?_
        refine Wc.region ?_
        refine Wl.q (v := Value.bool (gv false (takeFlag s 0))) (q_move rfl) ?_
        refine Wl.done ?_
        refine Wx.go ?_
        refine Wc.both (b := (gv false (takeFlag s 0))) rfl (fun hb1 => ?_) (fun hb1 => ?_)
        ·
          have hbf := hb1
          refine Wc.region ?_
          refine Wl.q (v := Value.pointer (some ⟨xb, 1, none⟩)) (q_field (m := 1) fo_44_1 rfl rfl) ?_
          refine Wl.e (e_store (i := 1) (v := Value.int .i64 1) sz_2 rfl rfl (fun _ _ => rfl) rfl (by simp)) (fun _ _ => ?_)
          refine Wl.imp (L' := (pt r 59 [Value.bool true, Value.string s, Value.int .i64 (((gn 0 (takeFlag s 0)) : Nat) : Int)]) :: (pt xb 44 ([Value.int .i64 kind, Value.int .i64 1, Value.string (⟨#[]⟩)])) :: (isW q []) :: F) (fun _ h => h) ?_
          refine Wl.done ?_
          refine Wx.blockEnd ?_
          refine Wx.go ?_
          refine Wc.seq ?_
          refine Wc.seq ?_
          refine Wc.region ?_
          refine Wl.q (v := Value.int .i64 (ge (takeFlag s 0))) (q_move rfl) ?_
          by_cases hok : (ge (takeFlag s 0)) = 0
          ·
            have hw : OnceI s (⟨kind, 1, ⟨#[]⟩⟩ : ItemR) (gn 0 (takeFlag s 0)) := once_flag hk0 hk1 hk2 hok hbf
            refine Wl.q (v := Value.bool false) (q_neq (r := true) rfl rfl (decide_eq_true hok)) ?_
            refine Wl.done ?_
            refine Wx.go ?_
            refine Wc.no rfl ?_
            refine Wc.skip ?_
            refine Wx.go ?_
            refine Wc.seq ?_
            refine Wc.region ?_
            refine Wl.q (v := Value.pointer (some ⟨q, 0, none⟩)) (q_move rfl) ?_
            refine Wl.q (v := Value.agg #[Value.int .i64 kind, Value.int .i64 1, Value.string (⟨#[]⟩)]) (q_loadAgg (vs := [Value.int .i64 kind, Value.int .i64 1, Value.string (⟨#[]⟩)]) ag_44 rfl (Has.of_pt (i := 1) rfl rfl)) ?_
            refine Wl.imp (L' := (isW q []) :: (pt r 59 [Value.bool true, Value.string s, Value.int .i64 (((gn 0 (takeFlag s 0)) : Nat) : Int)]) :: (pt xb 44 ([Value.int .i64 kind, Value.int .i64 1, Value.string (⟨#[]⟩)])) :: F) (fun _ h => st_pull [2] h) ?_
            refine Wl.e (e_call (F := (pt r 59 [Value.bool true, Value.string s, Value.int .i64 (((gn 0 (takeFlag s 0)) : Nat) : Int)]) :: (pt xb 44 ([Value.int .i64 kind, Value.int .i64 1, Value.string (⟨#[]⟩)])) :: F) (args := [Value.pointer (some ⟨q, 0, none⟩), Value.agg #[Value.int .i64 kind, Value.int .i64 1, Value.string (⟨#[]⟩)]]) Try.call21 rfl (write_c W0 q [] (⟨kind, 1, ⟨#[]⟩⟩ : ItemR) hw.2 (by decide))) (fun _ _ => ?_)
            refine Wl.imp (L' := (isW q ([] ++ (itemW (⟨kind, 1, ⟨#[]⟩⟩ : ItemR)).2)) :: (pt r 59 [Value.bool true, Value.string s, Value.int .i64 (((gn 0 (takeFlag s 0)) : Nat) : Int)]) :: (pt xb 44 ([Value.int .i64 kind, Value.int .i64 1, Value.string (⟨#[]⟩)])) :: F) (fun _ h => h) ?_
            refine Wl.q (v := Value.bool true) (q_eql (r := true) rfl rfl (decide_eq_true (by rw [hw.1.1]))) ?_
            refine Wl.q (v := Value.bool true) (q_move rfl) ?_
            refine Wl.q (v := Value.pointer (some ⟨q, 0, none⟩)) (q_move rfl) ?_
            refine Wl.e (e_call (F := (pt r 59 [Value.bool true, Value.string s, Value.int .i64 (((gn 0 (takeFlag s 0)) : Nat) : Int)]) :: (pt xb 44 ([Value.int .i64 kind, Value.int .i64 1, Value.string (⟨#[]⟩)])) :: F) (args := [Value.pointer (some ⟨q, 0, none⟩)]) Try.call12 rfl (wbytes_c W0 q ([] ++ (itemW (⟨kind, 1, ⟨#[]⟩⟩ : ItemR)).2))) (fun _ _ => ?_)
            refine Wl.imp (L' := (isW q ([] ++ (itemW (⟨kind, 1, ⟨#[]⟩⟩ : ItemR)).2)) :: (pt r 59 [Value.bool true, Value.string s, Value.int .i64 (((gn 0 (takeFlag s 0)) : Nat) : Int)]) :: (pt xb 44 ([Value.int .i64 kind, Value.int .i64 1, Value.string (⟨#[]⟩)])) :: F) (fun _ h => h) ?_
            refine Wl.q (v := Value.string s) (q_move rfl) ?_
            refine Wl.q (v := Value.pointer (some ⟨r, 0, none⟩)) (q_move rfl) ?_
            refine Wl.imp (L' := (pt r 59 [Value.bool true, Value.string s, Value.int .i64 (((gn 0 (takeFlag s 0)) : Nat) : Int)]) :: (isW q ([] ++ (itemW (⟨kind, 1, ⟨#[]⟩⟩ : ItemR)).2)) :: (pt xb 44 ([Value.int .i64 kind, Value.int .i64 1, Value.string (⟨#[]⟩)])) :: F) (fun _ h => st_pull [1] h) ?_
            refine Wl.e (e_call (F := (isW q ([] ++ (itemW (⟨kind, 1, ⟨#[]⟩⟩ : ItemR)).2)) :: (pt xb 44 ([Value.int .i64 kind, Value.int .i64 1, Value.string (⟨#[]⟩)])) :: F) (args := [Value.pointer (some ⟨r, 0, none⟩)]) Try.call17 rfl (at_c W0 r s (gn 0 (takeFlag s 0)))) (fun _ _ => ?_)
            refine Wl.imp (L' := (pt r 59 [Value.bool true, Value.string s, Value.int .i64 (((gn 0 (takeFlag s 0)) : Nat) : Int)]) :: (isW q ([] ++ (itemW (⟨kind, 1, ⟨#[]⟩⟩ : ItemR)).2)) :: (pt xb 44 ([Value.int .i64 kind, Value.int .i64 1, Value.string (⟨#[]⟩)])) :: F) (fun _ h => h) ?_
            refine Wl.q (v := Value.string (s.extract 0 (gn 0 (takeFlag s 0)))) (q_slice_str (l := 0) (h := (gn 0 (takeFlag s 0))) Try.underlying9 rfl rfl ⟨_, rfl⟩ (Nat.zero_le _) hw.1.2 rfl) ?_
            refine Wl.q (v := Value.bool true) (q_eql_str (r := true) rfl rfl (text_true (once_eq hw))) ?_
            refine Wl.q (v := Value.bool true) (q_pick (t := true) rfl rfl) ?_
            refine Wl.q (v := Value.bool true) (q_move rfl) ?_
            refine Wl.e (e_call (F := (pt r 59 [Value.bool true, Value.string s, Value.int .i64 (((gn 0 (takeFlag s 0)) : Nat) : Int)]) :: (isW q ([] ++ (itemW (⟨kind, 1, ⟨#[]⟩⟩ : ItemR)).2)) :: (pt xb 44 ([Value.int .i64 kind, Value.int .i64 1, Value.string (⟨#[]⟩)])) :: F) (args := []) Try.call13 rfl (alive_c W0)) (fun _ _ => ?_)
            refine Wl.imp (L' := (pt r 59 [Value.bool true, Value.string s, Value.int .i64 (((gn 0 (takeFlag s 0)) : Nat) : Int)]) :: (isW q ([] ++ (itemW (⟨kind, 1, ⟨#[]⟩⟩ : ItemR)).2)) :: (pt xb 44 ([Value.int .i64 kind, Value.int .i64 1, Value.string (⟨#[]⟩)])) :: F) (fun _ h => h) ?_
            refine Wl.q (v := Value.bool true) (q_pick (t := true) rfl rfl) ?_
            refine Wl.q (v := Value.bool true) (q_assign rfl) ?_
            refine Wl.done ?_
            refine Wx.go ?_
            refine Wc.ret ?_
            refine Wx.fin1 rfl (.inl rfl) (fun w hs => ?_)
            exact ⟨(), trivial, rfl, (st_drop (st_drop (st_drop (st_pull [0, 0, 0] hs))))⟩
          ·
            have hg0 : (gn 0 (takeFlag s 0)) = 0 := gn_bad hok
            refine Wl.q (v := Value.bool true) (q_neq (r := false) rfl rfl (decide_eq_false hok)) ?_
            refine Wl.done ?_
            refine Wx.go ?_
            refine Wc.yes rfl ?_
            refine Wc.seq ?_
            refine Wc.region ?_
            refine Wl.q (v := Value.pointer (some ⟨r, 0, none⟩)) (q_move rfl) ?_
            refine Wl.e (e_call (F := (pt xb 44 ([Value.int .i64 kind, Value.int .i64 1, Value.string (⟨#[]⟩)])) :: (isW q []) :: F) (args := [Value.pointer (some ⟨r, 0, none⟩)]) Try.call17 rfl (at_c W0 r s (gn 0 (takeFlag s 0)))) (fun _ _ => ?_)
            refine Wl.imp (L' := (pt r 59 [Value.bool true, Value.string s, Value.int .i64 (((gn 0 (takeFlag s 0)) : Nat) : Int)]) :: (pt xb 44 ([Value.int .i64 kind, Value.int .i64 1, Value.string (⟨#[]⟩)])) :: (isW q []) :: F) (fun _ h => h) ?_
            refine Wl.q (v := Value.bool true) (q_eql (r := true) rfl rfl (decide_eq_true (by omega))) ?_
            refine Wl.q (v := Value.bool true) (q_move rfl) ?_
            refine Wl.e (e_call (F := (pt r 59 [Value.bool true, Value.string s, Value.int .i64 (((gn 0 (takeFlag s 0)) : Nat) : Int)]) :: (pt xb 44 ([Value.int .i64 kind, Value.int .i64 1, Value.string (⟨#[]⟩)])) :: (isW q []) :: F) (args := []) Try.call13 rfl (alive_c W0)) (fun _ _ => ?_)
            refine Wl.imp (L' := (pt r 59 [Value.bool true, Value.string s, Value.int .i64 (((gn 0 (takeFlag s 0)) : Nat) : Int)]) :: (pt xb 44 ([Value.int .i64 kind, Value.int .i64 1, Value.string (⟨#[]⟩)])) :: (isW q []) :: F) (fun _ h => h) ?_
            refine Wl.q (v := Value.bool true) (q_pick (t := true) rfl rfl) ?_
            refine Wl.q (v := Value.bool true) (q_assign rfl) ?_
            refine Wl.done ?_
            refine Wx.go ?_
            refine Wc.ret ?_
            refine Wx.thenRet ?_
            refine Wx.fin1 rfl (.inl rfl) (fun w hs => ?_)
            exact ⟨(), trivial, rfl, (st_drop (st_drop (st_drop (st_pull [0, 0, 0] hs))))⟩
        ·
          have hbf := hb1
          refine Wc.skip ?_
          refine Wx.blockEnd ?_
          refine Wx.go ?_
          refine Wc.seq ?_
          refine Wc.seq ?_
          refine Wc.region ?_
          refine Wl.q (v := Value.int .i64 (ge (takeFlag s 0))) (q_move rfl) ?_
          by_cases hok : (ge (takeFlag s 0)) = 0
          ·
            have hw : OnceI s (⟨kind, 0, ⟨#[]⟩⟩ : ItemR) (gn 0 (takeFlag s 0)) := once_flag hk0 hk1 hk2 hok hbf
            refine Wl.q (v := Value.bool false) (q_neq (r := true) rfl rfl (decide_eq_true hok)) ?_
            refine Wl.done ?_
            refine Wx.go ?_
            refine Wc.no rfl ?_
            refine Wc.skip ?_
            refine Wx.go ?_
            refine Wc.seq ?_
            refine Wc.region ?_
            refine Wl.q (v := Value.pointer (some ⟨q, 0, none⟩)) (q_move rfl) ?_
            refine Wl.q (v := Value.agg #[Value.int .i64 kind, Value.int .i64 0, Value.string (⟨#[]⟩)]) (q_loadAgg (vs := [Value.int .i64 kind, Value.int .i64 0, Value.string (⟨#[]⟩)]) ag_44 rfl (Has.of_pt (i := 1) rfl rfl)) ?_
            refine Wl.imp (L' := (isW q []) :: (pt r 59 [Value.bool true, Value.string s, Value.int .i64 (((gn 0 (takeFlag s 0)) : Nat) : Int)]) :: (pt xb 44 ([Value.int .i64 kind, Value.int .i64 0, Value.string (⟨#[]⟩)])) :: F) (fun _ h => st_pull [2] h) ?_
            refine Wl.e (e_call (F := (pt r 59 [Value.bool true, Value.string s, Value.int .i64 (((gn 0 (takeFlag s 0)) : Nat) : Int)]) :: (pt xb 44 ([Value.int .i64 kind, Value.int .i64 0, Value.string (⟨#[]⟩)])) :: F) (args := [Value.pointer (some ⟨q, 0, none⟩), Value.agg #[Value.int .i64 kind, Value.int .i64 0, Value.string (⟨#[]⟩)]]) Try.call21 rfl (write_c W0 q [] (⟨kind, 0, ⟨#[]⟩⟩ : ItemR) hw.2 (by decide))) (fun _ _ => ?_)
            refine Wl.imp (L' := (isW q ([] ++ (itemW (⟨kind, 0, ⟨#[]⟩⟩ : ItemR)).2)) :: (pt r 59 [Value.bool true, Value.string s, Value.int .i64 (((gn 0 (takeFlag s 0)) : Nat) : Int)]) :: (pt xb 44 ([Value.int .i64 kind, Value.int .i64 0, Value.string (⟨#[]⟩)])) :: F) (fun _ h => h) ?_
            refine Wl.q (v := Value.bool true) (q_eql (r := true) rfl rfl (decide_eq_true (by rw [hw.1.1]))) ?_
            refine Wl.q (v := Value.bool true) (q_move rfl) ?_
            refine Wl.q (v := Value.pointer (some ⟨q, 0, none⟩)) (q_move rfl) ?_
            refine Wl.e (e_call (F := (pt r 59 [Value.bool true, Value.string s, Value.int .i64 (((gn 0 (takeFlag s 0)) : Nat) : Int)]) :: (pt xb 44 ([Value.int .i64 kind, Value.int .i64 0, Value.string (⟨#[]⟩)])) :: F) (args := [Value.pointer (some ⟨q, 0, none⟩)]) Try.call12 rfl (wbytes_c W0 q ([] ++ (itemW (⟨kind, 0, ⟨#[]⟩⟩ : ItemR)).2))) (fun _ _ => ?_)
            refine Wl.imp (L' := (isW q ([] ++ (itemW (⟨kind, 0, ⟨#[]⟩⟩ : ItemR)).2)) :: (pt r 59 [Value.bool true, Value.string s, Value.int .i64 (((gn 0 (takeFlag s 0)) : Nat) : Int)]) :: (pt xb 44 ([Value.int .i64 kind, Value.int .i64 0, Value.string (⟨#[]⟩)])) :: F) (fun _ h => h) ?_
            refine Wl.q (v := Value.string s) (q_move rfl) ?_
            refine Wl.q (v := Value.pointer (some ⟨r, 0, none⟩)) (q_move rfl) ?_
            refine Wl.imp (L' := (pt r 59 [Value.bool true, Value.string s, Value.int .i64 (((gn 0 (takeFlag s 0)) : Nat) : Int)]) :: (isW q ([] ++ (itemW (⟨kind, 0, ⟨#[]⟩⟩ : ItemR)).2)) :: (pt xb 44 ([Value.int .i64 kind, Value.int .i64 0, Value.string (⟨#[]⟩)])) :: F) (fun _ h => st_pull [1] h) ?_
            refine Wl.e (e_call (F := (isW q ([] ++ (itemW (⟨kind, 0, ⟨#[]⟩⟩ : ItemR)).2)) :: (pt xb 44 ([Value.int .i64 kind, Value.int .i64 0, Value.string (⟨#[]⟩)])) :: F) (args := [Value.pointer (some ⟨r, 0, none⟩)]) Try.call17 rfl (at_c W0 r s (gn 0 (takeFlag s 0)))) (fun _ _ => ?_)
            refine Wl.imp (L' := (pt r 59 [Value.bool true, Value.string s, Value.int .i64 (((gn 0 (takeFlag s 0)) : Nat) : Int)]) :: (isW q ([] ++ (itemW (⟨kind, 0, ⟨#[]⟩⟩ : ItemR)).2)) :: (pt xb 44 ([Value.int .i64 kind, Value.int .i64 0, Value.string (⟨#[]⟩)])) :: F) (fun _ h => h) ?_
            refine Wl.q (v := Value.string (s.extract 0 (gn 0 (takeFlag s 0)))) (q_slice_str (l := 0) (h := (gn 0 (takeFlag s 0))) Try.underlying9 rfl rfl ⟨_, rfl⟩ (Nat.zero_le _) hw.1.2 rfl) ?_
            refine Wl.q (v := Value.bool true) (q_eql_str (r := true) rfl rfl (text_true (once_eq hw))) ?_
            refine Wl.q (v := Value.bool true) (q_pick (t := true) rfl rfl) ?_
            refine Wl.q (v := Value.bool true) (q_move rfl) ?_
            refine Wl.e (e_call (F := (pt r 59 [Value.bool true, Value.string s, Value.int .i64 (((gn 0 (takeFlag s 0)) : Nat) : Int)]) :: (isW q ([] ++ (itemW (⟨kind, 0, ⟨#[]⟩⟩ : ItemR)).2)) :: (pt xb 44 ([Value.int .i64 kind, Value.int .i64 0, Value.string (⟨#[]⟩)])) :: F) (args := []) Try.call13 rfl (alive_c W0)) (fun _ _ => ?_)
            refine Wl.imp (L' := (pt r 59 [Value.bool true, Value.string s, Value.int .i64 (((gn 0 (takeFlag s 0)) : Nat) : Int)]) :: (isW q ([] ++ (itemW (⟨kind, 0, ⟨#[]⟩⟩ : ItemR)).2)) :: (pt xb 44 ([Value.int .i64 kind, Value.int .i64 0, Value.string (⟨#[]⟩)])) :: F) (fun _ h => h) ?_
            refine Wl.q (v := Value.bool true) (q_pick (t := true) rfl rfl) ?_
            refine Wl.q (v := Value.bool true) (q_assign rfl) ?_
            refine Wl.done ?_
            refine Wx.go ?_
            refine Wc.ret ?_
            refine Wx.fin1 rfl (.inl rfl) (fun w hs => ?_)
            exact ⟨(), trivial, rfl, (st_drop (st_drop (st_drop (st_pull [0, 0, 0] hs))))⟩
          ·
            have hg0 : (gn 0 (takeFlag s 0)) = 0 := gn_bad hok
            refine Wl.q (v := Value.bool true) (q_neq (r := false) rfl rfl (decide_eq_false hok)) ?_
            refine Wl.done ?_
            refine Wx.go ?_
            refine Wc.yes rfl ?_
            refine Wc.seq ?_
            refine Wc.region ?_
            refine Wl.q (v := Value.pointer (some ⟨r, 0, none⟩)) (q_move rfl) ?_
            refine Wl.e (e_call (F := (pt xb 44 ([Value.int .i64 kind, Value.int .i64 0, Value.string (⟨#[]⟩)])) :: (isW q []) :: F) (args := [Value.pointer (some ⟨r, 0, none⟩)]) Try.call17 rfl (at_c W0 r s (gn 0 (takeFlag s 0)))) (fun _ _ => ?_)
            refine Wl.imp (L' := (pt r 59 [Value.bool true, Value.string s, Value.int .i64 (((gn 0 (takeFlag s 0)) : Nat) : Int)]) :: (pt xb 44 ([Value.int .i64 kind, Value.int .i64 0, Value.string (⟨#[]⟩)])) :: (isW q []) :: F) (fun _ h => h) ?_
            refine Wl.q (v := Value.bool true) (q_eql (r := true) rfl rfl (decide_eq_true (by omega))) ?_
            refine Wl.q (v := Value.bool true) (q_move rfl) ?_
            refine Wl.e (e_call (F := (pt r 59 [Value.bool true, Value.string s, Value.int .i64 (((gn 0 (takeFlag s 0)) : Nat) : Int)]) :: (pt xb 44 ([Value.int .i64 kind, Value.int .i64 0, Value.string (⟨#[]⟩)])) :: (isW q []) :: F) (args := []) Try.call13 rfl (alive_c W0)) (fun _ _ => ?_)
            refine Wl.imp (L' := (pt r 59 [Value.bool true, Value.string s, Value.int .i64 (((gn 0 (takeFlag s 0)) : Nat) : Int)]) :: (pt xb 44 ([Value.int .i64 kind, Value.int .i64 0, Value.string (⟨#[]⟩)])) :: (isW q []) :: F) (fun _ h => h) ?_
            refine Wl.q (v := Value.bool true) (q_pick (t := true) rfl rfl) ?_
            refine Wl.q (v := Value.bool true) (q_assign rfl) ?_
            refine Wl.done ?_
            refine Wx.go ?_
            refine Wc.ret ?_
            refine Wx.thenRet ?_
            refine Wx.fin1 rfl (.inl rfl) (fun w hs => ?_)
            exact ⟨(), trivial, rfl, (st_drop (st_drop (st_drop (st_pull [0, 0, 0] hs))))⟩
      ·
        refine Wl.q (v := Value.bool false) (q_eql (r := false) rfl rfl (decide_eq_false hk2)) ?_
        refine Wl.q (v := Value.bool false) (q_assign rfl) ?_
        refine Wl.done ?_
        refine Wx.go ?_
        refine Wc.no rfl ?_
        refine Wc.seq ?_
        refine Wc.region ?_
        by_cases hk3 : kind = 3
        ·
          refine Wl.q (v := Value.bool true) (q_eql (r := true) rfl rfl (decide_eq_true hk3)) ?_
          refine Wl.q (v := Value.bool true) (q_assign rfl) ?_
          refine Wl.done ?_
          refine Wx.go ?_
          refine Wc.yes rfl ?_
          refine Wc.region ?_
          refine Wl.q (v := Value.pointer (some ⟨r, 0, none⟩)) (q_move rfl) ?_
          refine Wl.imp (L' := (pt r 59 [Value.bool true, Value.string s, Value.int .i64 0]) :: (pt xb 44 ([Value.int .i64 kind, Value.int .i64 0, Value.string (⟨#[]⟩)])) :: (isW q []) :: F) (fun _ h => st_pull [2] h) ?_
          refine Wl.e (e_call (F := (pt xb 44 ([Value.int .i64 kind, Value.int .i64 0, Value.string (⟨#[]⟩)])) :: (isW q []) :: F) (args := [Value.pointer (some ⟨r, 0, none⟩)]) Try.call25 rfl (rtext_c W0 r s 0 (Nat.zero_le _) hsz)) (fun _ _ => ?_)
          refine Wl.imp (L' := (pt r 59 [Value.bool true, Value.string s, Value.int .i64 (((gn 0 (takeText s 0)) : Nat) : Int)]) :: (pt xb 44 ([Value.int .i64 kind, Value.int .i64 0, Value.string (⟨#[]⟩)])) :: (isW q []) :: F) (fun _ h => h) ?_
          refine Wl.q (v := Value.tuple #[Value.string (gv ⟨#[]⟩ (takeText s 0)), Value.int .i64 (ge (takeText s 0))]) (q_move rfl) ?_
          refine Wl.q (v := Value.string (gv ⟨#[]⟩ (takeText s 0))) (q_extract (i := 0) rfl rfl) ?_
          refine Wl.q (v := Value.int .i64 (ge (takeText s 0))) (q_extract (i := 1) rfl rfl) ?_
          refine Wl.q (v := Value.pointer (some ⟨xb, 2, none⟩)) (q_field (m := 2) fo_44_2 rfl rfl) ?_
          refine Wl.e (e_store (i := 1) (v := Value.string (gv ⟨#[]⟩ (takeText s 0))) sz_9 rfl rfl (fun _ _ => rfl) rfl (by simp)) (fun _ _ => ?_)
          refine Wl.imp (L' := (pt r 59 [Value.bool true, Value.string s, Value.int .i64 (((gn 0 (takeText s 0)) : Nat) : Int)]) :: (pt xb 44 ([Value.int .i64 kind, Value.int .i64 0, Value.string (gv ⟨#[]⟩ (takeText s 0))])) :: (isW q []) :: F) (fun _ h => h) ?_
          refine Wl.q (v := Value.int .i64 (ge (takeText s 0))) (q_assign rfl) ?_
          refine Wl.done ?_
          refine Wx.blockEnd ?_
          refine Wx.go ?_
          refine Wc.seq ?_
          refine Wc.seq ?_
          refine Wc.region ?_
          refine Wl.q (v := Value.int .i64 (ge (takeText s 0))) (q_move rfl) ?_
          by_cases hok : (ge (takeText s 0)) = 0
          ·
            have hw : OnceI s (⟨kind, 0, (gv ⟨#[]⟩ (takeText s 0))⟩ : ItemR) (gn 0 (takeText s 0)) := once_text hk0 hk1 hk2 hk3 hok
            refine Wl.q (v := Value.bool false) (q_neq (r := true) rfl rfl (decide_eq_true hok)) ?_
            refine Wl.done ?_
            refine Wx.go ?_
            refine Wc.no rfl ?_
            refine Wc.skip ?_
            refine Wx.go ?_
            refine Wc.seq ?_
            refine Wc.region ?_
            refine Wl.q (v := Value.pointer (some ⟨q, 0, none⟩)) (q_move rfl) ?_
            refine Wl.q (v := Value.agg #[Value.int .i64 kind, Value.int .i64 0, Value.string (gv ⟨#[]⟩ (takeText s 0))]) (q_loadAgg (vs := [Value.int .i64 kind, Value.int .i64 0, Value.string (gv ⟨#[]⟩ (takeText s 0))]) ag_44 rfl (Has.of_pt (i := 1) rfl rfl)) ?_
            refine Wl.imp (L' := (isW q []) :: (pt r 59 [Value.bool true, Value.string s, Value.int .i64 (((gn 0 (takeText s 0)) : Nat) : Int)]) :: (pt xb 44 ([Value.int .i64 kind, Value.int .i64 0, Value.string (gv ⟨#[]⟩ (takeText s 0))])) :: F) (fun _ h => st_pull [2] h) ?_
            refine Wl.e (e_call (F := (pt r 59 [Value.bool true, Value.string s, Value.int .i64 (((gn 0 (takeText s 0)) : Nat) : Int)]) :: (pt xb 44 ([Value.int .i64 kind, Value.int .i64 0, Value.string (gv ⟨#[]⟩ (takeText s 0))])) :: F) (args := [Value.pointer (some ⟨q, 0, none⟩), Value.agg #[Value.int .i64 kind, Value.int .i64 0, Value.string (gv ⟨#[]⟩ (takeText s 0))]]) Try.call21 rfl (write_c W0 q [] (⟨kind, 0, (gv ⟨#[]⟩ (takeText s 0))⟩ : ItemR) hw.2 (by decide))) (fun _ _ => ?_)
            refine Wl.imp (L' := (isW q ([] ++ (itemW (⟨kind, 0, (gv ⟨#[]⟩ (takeText s 0))⟩ : ItemR)).2)) :: (pt r 59 [Value.bool true, Value.string s, Value.int .i64 (((gn 0 (takeText s 0)) : Nat) : Int)]) :: (pt xb 44 ([Value.int .i64 kind, Value.int .i64 0, Value.string (gv ⟨#[]⟩ (takeText s 0))])) :: F) (fun _ h => h) ?_
            refine Wl.q (v := Value.bool true) (q_eql (r := true) rfl rfl (decide_eq_true (by rw [hw.1.1]))) ?_
            refine Wl.q (v := Value.bool true) (q_move rfl) ?_
            refine Wl.q (v := Value.pointer (some ⟨q, 0, none⟩)) (q_move rfl) ?_
            refine Wl.e (e_call (F := (pt r 59 [Value.bool true, Value.string s, Value.int .i64 (((gn 0 (takeText s 0)) : Nat) : Int)]) :: (pt xb 44 ([Value.int .i64 kind, Value.int .i64 0, Value.string (gv ⟨#[]⟩ (takeText s 0))])) :: F) (args := [Value.pointer (some ⟨q, 0, none⟩)]) Try.call12 rfl (wbytes_c W0 q ([] ++ (itemW (⟨kind, 0, (gv ⟨#[]⟩ (takeText s 0))⟩ : ItemR)).2))) (fun _ _ => ?_)
            refine Wl.imp (L' := (isW q ([] ++ (itemW (⟨kind, 0, (gv ⟨#[]⟩ (takeText s 0))⟩ : ItemR)).2)) :: (pt r 59 [Value.bool true, Value.string s, Value.int .i64 (((gn 0 (takeText s 0)) : Nat) : Int)]) :: (pt xb 44 ([Value.int .i64 kind, Value.int .i64 0, Value.string (gv ⟨#[]⟩ (takeText s 0))])) :: F) (fun _ h => h) ?_
            refine Wl.q (v := Value.string s) (q_move rfl) ?_
            refine Wl.q (v := Value.pointer (some ⟨r, 0, none⟩)) (q_move rfl) ?_
            refine Wl.imp (L' := (pt r 59 [Value.bool true, Value.string s, Value.int .i64 (((gn 0 (takeText s 0)) : Nat) : Int)]) :: (isW q ([] ++ (itemW (⟨kind, 0, (gv ⟨#[]⟩ (takeText s 0))⟩ : ItemR)).2)) :: (pt xb 44 ([Value.int .i64 kind, Value.int .i64 0, Value.string (gv ⟨#[]⟩ (takeText s 0))])) :: F) (fun _ h => st_pull [1] h) ?_
            refine Wl.e (e_call (F := (isW q ([] ++ (itemW (⟨kind, 0, (gv ⟨#[]⟩ (takeText s 0))⟩ : ItemR)).2)) :: (pt xb 44 ([Value.int .i64 kind, Value.int .i64 0, Value.string (gv ⟨#[]⟩ (takeText s 0))])) :: F) (args := [Value.pointer (some ⟨r, 0, none⟩)]) Try.call17 rfl (at_c W0 r s (gn 0 (takeText s 0)))) (fun _ _ => ?_)
            refine Wl.imp (L' := (pt r 59 [Value.bool true, Value.string s, Value.int .i64 (((gn 0 (takeText s 0)) : Nat) : Int)]) :: (isW q ([] ++ (itemW (⟨kind, 0, (gv ⟨#[]⟩ (takeText s 0))⟩ : ItemR)).2)) :: (pt xb 44 ([Value.int .i64 kind, Value.int .i64 0, Value.string (gv ⟨#[]⟩ (takeText s 0))])) :: F) (fun _ h => h) ?_
            refine Wl.q (v := Value.string (s.extract 0 (gn 0 (takeText s 0)))) (q_slice_str (l := 0) (h := (gn 0 (takeText s 0))) Try.underlying9 rfl rfl ⟨_, rfl⟩ (Nat.zero_le _) hw.1.2 rfl) ?_
            refine Wl.q (v := Value.bool true) (q_eql_str (r := true) rfl rfl (text_true (once_eq hw))) ?_
            refine Wl.q (v := Value.bool true) (q_pick (t := true) rfl rfl) ?_
            refine Wl.q (v := Value.bool true) (q_move rfl) ?_
            refine Wl.e (e_call (F := (pt r 59 [Value.bool true, Value.string s, Value.int .i64 (((gn 0 (takeText s 0)) : Nat) : Int)]) :: (isW q ([] ++ (itemW (⟨kind, 0, (gv ⟨#[]⟩ (takeText s 0))⟩ : ItemR)).2)) :: (pt xb 44 ([Value.int .i64 kind, Value.int .i64 0, Value.string (gv ⟨#[]⟩ (takeText s 0))])) :: F) (args := []) Try.call13 rfl (alive_c W0)) (fun _ _ => ?_)
            refine Wl.imp (L' := (pt r 59 [Value.bool true, Value.string s, Value.int .i64 (((gn 0 (takeText s 0)) : Nat) : Int)]) :: (isW q ([] ++ (itemW (⟨kind, 0, (gv ⟨#[]⟩ (takeText s 0))⟩ : ItemR)).2)) :: (pt xb 44 ([Value.int .i64 kind, Value.int .i64 0, Value.string (gv ⟨#[]⟩ (takeText s 0))])) :: F) (fun _ h => h) ?_
            refine Wl.q (v := Value.bool true) (q_pick (t := true) rfl rfl) ?_
            refine Wl.q (v := Value.bool true) (q_assign rfl) ?_
            refine Wl.done ?_
            refine Wx.go ?_
            refine Wc.ret ?_
            refine Wx.fin1 rfl (.inl rfl) (fun w hs => ?_)
            exact ⟨(), trivial, rfl, (st_drop (st_drop (st_drop (st_pull [0, 0, 0] hs))))⟩
          ·
            have hg0 : (gn 0 (takeText s 0)) = 0 := gn_bad hok
            refine Wl.q (v := Value.bool true) (q_neq (r := false) rfl rfl (decide_eq_false hok)) ?_
            refine Wl.done ?_
            refine Wx.go ?_
            refine Wc.yes rfl ?_
            refine Wc.seq ?_
            refine Wc.region ?_
            refine Wl.q (v := Value.pointer (some ⟨r, 0, none⟩)) (q_move rfl) ?_
            refine Wl.e (e_call (F := (pt xb 44 ([Value.int .i64 kind, Value.int .i64 0, Value.string (gv ⟨#[]⟩ (takeText s 0))])) :: (isW q []) :: F) (args := [Value.pointer (some ⟨r, 0, none⟩)]) Try.call17 rfl (at_c W0 r s (gn 0 (takeText s 0)))) (fun _ _ => ?_)
            refine Wl.imp (L' := (pt r 59 [Value.bool true, Value.string s, Value.int .i64 (((gn 0 (takeText s 0)) : Nat) : Int)]) :: (pt xb 44 ([Value.int .i64 kind, Value.int .i64 0, Value.string (gv ⟨#[]⟩ (takeText s 0))])) :: (isW q []) :: F) (fun _ h => h) ?_
            refine Wl.q (v := Value.bool true) (q_eql (r := true) rfl rfl (decide_eq_true (by omega))) ?_
            refine Wl.q (v := Value.bool true) (q_move rfl) ?_
            refine Wl.e (e_call (F := (pt r 59 [Value.bool true, Value.string s, Value.int .i64 (((gn 0 (takeText s 0)) : Nat) : Int)]) :: (pt xb 44 ([Value.int .i64 kind, Value.int .i64 0, Value.string (gv ⟨#[]⟩ (takeText s 0))])) :: (isW q []) :: F) (args := []) Try.call13 rfl (alive_c W0)) (fun _ _ => ?_)
            refine Wl.imp (L' := (pt r 59 [Value.bool true, Value.string s, Value.int .i64 (((gn 0 (takeText s 0)) : Nat) : Int)]) :: (pt xb 44 ([Value.int .i64 kind, Value.int .i64 0, Value.string (gv ⟨#[]⟩ (takeText s 0))])) :: (isW q []) :: F) (fun _ h => h) ?_
            refine Wl.q (v := Value.bool true) (q_pick (t := true) rfl rfl) ?_
            refine Wl.q (v := Value.bool true) (q_assign rfl) ?_
            refine Wl.done ?_
            refine Wx.go ?_
            refine Wc.ret ?_
            refine Wx.thenRet ?_
            refine Wx.fin1 rfl (.inl rfl) (fun w hs => ?_)
            exact ⟨(), trivial, rfl, (st_drop (st_drop (st_drop (st_pull [0, 0, 0] hs))))⟩
        ·
          refine Wl.q (v := Value.bool false) (q_eql (r := false) rfl rfl (decide_eq_false hk3)) ?_
          refine Wl.q (v := Value.bool false) (q_assign rfl) ?_
          refine Wl.done ?_
          refine Wx.go ?_
          refine Wc.no rfl ?_
          refine Wc.seq ?_
          refine Wc.region ?_
          refine Wl.q (v := Value.pointer (some ⟨r, 0, none⟩)) (q_move rfl) ?_
          refine Wl.imp (L' := (pt r 59 [Value.bool true, Value.string s, Value.int .i64 0]) :: (pt xb 44 ([Value.int .i64 kind, Value.int .i64 0, Value.string (⟨#[]⟩)])) :: (isW q []) :: F) (fun _ h => st_pull [2] h) ?_
          refine Wl.e (e_call (F := (pt xb 44 ([Value.int .i64 kind, Value.int .i64 0, Value.string (⟨#[]⟩)])) :: (isW q []) :: F) (args := [Value.pointer (some ⟨r, 0, none⟩)]) Try.call26 rfl (rlist_c W0 r s 0 (Nat.zero_le _) hsz)) (fun _ _ => ?_)
          refine Wl.imp (L' := (pt r 59 [Value.bool true, Value.string s, Value.int .i64 (((gn 0 (takeList s 0)) : Nat) : Int)]) :: (pt xb 44 ([Value.int .i64 kind, Value.int .i64 0, Value.string (⟨#[]⟩)])) :: (isW q []) :: F) (fun _ h => h) ?_
          refine Wl.q (v := Value.tuple #[Value.int .i64 (((gv 0 (takeList s 0)) : Nat) : Int), Value.int .i64 (ge (takeList s 0))]) (q_move rfl) ?_
          refine Wl.q (v := Value.int .i64 (((gv 0 (takeList s 0)) : Nat) : Int)) (q_extract (i := 0) rfl rfl) ?_
          refine Wl.q (v := Value.int .i64 (ge (takeList s 0))) (q_extract (i := 1) rfl rfl) ?_
          refine Wl.q (v := Value.int .i64 (((gv 0 (takeList s 0)) : Nat) : Int)) (q_assign rfl) ?_
          refine Wl.q (v := Value.int .i64 (ge (takeList s 0))) (q_assign rfl) ?_
          refine Wl.done ?_
          refine Wx.go ?_
          refine Wc.region ?_
          refine Wl.q (v := Value.int .i64 (((gv 0 (takeList s 0)) : Nat) : Int)) (q_move rfl) ?_
          refine Wl.q (v := Value.int .i64 (ge (takeList s 0))) (q_move rfl) ?_
          refine Wl.q (v := Value.pointer (some ⟨xb, 1, none⟩)) (q_field (m := 1) fo_44_1 rfl rfl) ?_
          refine Wl.e (e_store (i := 1) (v := Value.int .i64 (((gv 0 (takeList s 0)) : Nat) : Int)) sz_2 rfl rfl (fun _ _ => rfl) rfl (by simp)) (fun _ _ => ?_)
          refine Wl.imp (L' := (pt r 59 [Value.bool true, Value.string s, Value.int .i64 (((gn 0 (takeList s 0)) : Nat) : Int)]) :: (pt xb 44 ([Value.int .i64 kind, Value.int .i64 (((gv 0 (takeList s 0)) : Nat) : Int), Value.string (⟨#[]⟩)])) :: (isW q []) :: F) (fun _ h => h) ?_
          refine Wl.q (v := Value.int .i64 (ge (takeList s 0))) (q_assign rfl) ?_
          refine Wl.done ?_
          refine Wx.blockEnd ?_
          refine Wx.go ?_
          refine Wc.seq ?_
          refine Wc.seq ?_
          refine Wc.region ?_
          refine Wl.q (v := Value.int .i64 (ge (takeList s 0))) (q_move rfl) ?_
          by_cases hok : (ge (takeList s 0)) = 0
          ·
            have hw : OnceI s (⟨kind, (((gv 0 (takeList s 0)) : Nat) : Int), ⟨#[]⟩⟩ : ItemR) (gn 0 (takeList s 0)) := once_list hk0 hk1 hk2 hk3 hok
            refine Wl.q (v := Value.bool false) (q_neq (r := true) rfl rfl (decide_eq_true hok)) ?_
            refine Wl.done ?_
            refine Wx.go ?_
            refine Wc.no rfl ?_
            refine Wc.skip ?_
            refine Wx.go ?_
            refine Wc.seq ?_
            refine Wc.region ?_
            refine Wl.q (v := Value.pointer (some ⟨q, 0, none⟩)) (q_move rfl) ?_
            refine Wl.q (v := Value.agg #[Value.int .i64 kind, Value.int .i64 (((gv 0 (takeList s 0)) : Nat) : Int), Value.string (⟨#[]⟩)]) (q_loadAgg (vs := [Value.int .i64 kind, Value.int .i64 (((gv 0 (takeList s 0)) : Nat) : Int), Value.string (⟨#[]⟩)]) ag_44 rfl (Has.of_pt (i := 1) rfl rfl)) ?_
            refine Wl.imp (L' := (isW q []) :: (pt r 59 [Value.bool true, Value.string s, Value.int .i64 (((gn 0 (takeList s 0)) : Nat) : Int)]) :: (pt xb 44 ([Value.int .i64 kind, Value.int .i64 (((gv 0 (takeList s 0)) : Nat) : Int), Value.string (⟨#[]⟩)])) :: F) (fun _ h => st_pull [2] h) ?_
            refine Wl.e (e_call (F := (pt r 59 [Value.bool true, Value.string s, Value.int .i64 (((gn 0 (takeList s 0)) : Nat) : Int)]) :: (pt xb 44 ([Value.int .i64 kind, Value.int .i64 (((gv 0 (takeList s 0)) : Nat) : Int), Value.string (⟨#[]⟩)])) :: F) (args := [Value.pointer (some ⟨q, 0, none⟩), Value.agg #[Value.int .i64 kind, Value.int .i64 (((gv 0 (takeList s 0)) : Nat) : Int), Value.string (⟨#[]⟩)]]) Try.call21 rfl (write_c W0 q [] (⟨kind, (((gv 0 (takeList s 0)) : Nat) : Int), ⟨#[]⟩⟩ : ItemR) hw.2 (by decide))) (fun _ _ => ?_)
            refine Wl.imp (L' := (isW q ([] ++ (itemW (⟨kind, (((gv 0 (takeList s 0)) : Nat) : Int), ⟨#[]⟩⟩ : ItemR)).2)) :: (pt r 59 [Value.bool true, Value.string s, Value.int .i64 (((gn 0 (takeList s 0)) : Nat) : Int)]) :: (pt xb 44 ([Value.int .i64 kind, Value.int .i64 (((gv 0 (takeList s 0)) : Nat) : Int), Value.string (⟨#[]⟩)])) :: F) (fun _ h => h) ?_
            refine Wl.q (v := Value.bool true) (q_eql (r := true) rfl rfl (decide_eq_true (by rw [hw.1.1]))) ?_
            refine Wl.q (v := Value.bool true) (q_move rfl) ?_
            refine Wl.q (v := Value.pointer (some ⟨q, 0, none⟩)) (q_move rfl) ?_
            refine Wl.e (e_call (F := (pt r 59 [Value.bool true, Value.string s, Value.int .i64 (((gn 0 (takeList s 0)) : Nat) : Int)]) :: (pt xb 44 ([Value.int .i64 kind, Value.int .i64 (((gv 0 (takeList s 0)) : Nat) : Int), Value.string (⟨#[]⟩)])) :: F) (args := [Value.pointer (some ⟨q, 0, none⟩)]) Try.call12 rfl (wbytes_c W0 q ([] ++ (itemW (⟨kind, (((gv 0 (takeList s 0)) : Nat) : Int), ⟨#[]⟩⟩ : ItemR)).2))) (fun _ _ => ?_)
            refine Wl.imp (L' := (isW q ([] ++ (itemW (⟨kind, (((gv 0 (takeList s 0)) : Nat) : Int), ⟨#[]⟩⟩ : ItemR)).2)) :: (pt r 59 [Value.bool true, Value.string s, Value.int .i64 (((gn 0 (takeList s 0)) : Nat) : Int)]) :: (pt xb 44 ([Value.int .i64 kind, Value.int .i64 (((gv 0 (takeList s 0)) : Nat) : Int), Value.string (⟨#[]⟩)])) :: F) (fun _ h => h) ?_
            refine Wl.q (v := Value.string s) (q_move rfl) ?_
            refine Wl.q (v := Value.pointer (some ⟨r, 0, none⟩)) (q_move rfl) ?_
            refine Wl.imp (L' := (pt r 59 [Value.bool true, Value.string s, Value.int .i64 (((gn 0 (takeList s 0)) : Nat) : Int)]) :: (isW q ([] ++ (itemW (⟨kind, (((gv 0 (takeList s 0)) : Nat) : Int), ⟨#[]⟩⟩ : ItemR)).2)) :: (pt xb 44 ([Value.int .i64 kind, Value.int .i64 (((gv 0 (takeList s 0)) : Nat) : Int), Value.string (⟨#[]⟩)])) :: F) (fun _ h => st_pull [1] h) ?_
            refine Wl.e (e_call (F := (isW q ([] ++ (itemW (⟨kind, (((gv 0 (takeList s 0)) : Nat) : Int), ⟨#[]⟩⟩ : ItemR)).2)) :: (pt xb 44 ([Value.int .i64 kind, Value.int .i64 (((gv 0 (takeList s 0)) : Nat) : Int), Value.string (⟨#[]⟩)])) :: F) (args := [Value.pointer (some ⟨r, 0, none⟩)]) Try.call17 rfl (at_c W0 r s (gn 0 (takeList s 0)))) (fun _ _ => ?_)
            refine Wl.imp (L' := (pt r 59 [Value.bool true, Value.string s, Value.int .i64 (((gn 0 (takeList s 0)) : Nat) : Int)]) :: (isW q ([] ++ (itemW (⟨kind, (((gv 0 (takeList s 0)) : Nat) : Int), ⟨#[]⟩⟩ : ItemR)).2)) :: (pt xb 44 ([Value.int .i64 kind, Value.int .i64 (((gv 0 (takeList s 0)) : Nat) : Int), Value.string (⟨#[]⟩)])) :: F) (fun _ h => h) ?_
            refine Wl.q (v := Value.string (s.extract 0 (gn 0 (takeList s 0)))) (q_slice_str (l := 0) (h := (gn 0 (takeList s 0))) Try.underlying9 rfl rfl ⟨_, rfl⟩ (Nat.zero_le _) hw.1.2 rfl) ?_
            refine Wl.q (v := Value.bool true) (q_eql_str (r := true) rfl rfl (text_true (once_eq hw))) ?_
            refine Wl.q (v := Value.bool true) (q_pick (t := true) rfl rfl) ?_
            refine Wl.q (v := Value.bool true) (q_move rfl) ?_
            refine Wl.e (e_call (F := (pt r 59 [Value.bool true, Value.string s, Value.int .i64 (((gn 0 (takeList s 0)) : Nat) : Int)]) :: (isW q ([] ++ (itemW (⟨kind, (((gv 0 (takeList s 0)) : Nat) : Int), ⟨#[]⟩⟩ : ItemR)).2)) :: (pt xb 44 ([Value.int .i64 kind, Value.int .i64 (((gv 0 (takeList s 0)) : Nat) : Int), Value.string (⟨#[]⟩)])) :: F) (args := []) Try.call13 rfl (alive_c W0)) (fun _ _ => ?_)
            refine Wl.imp (L' := (pt r 59 [Value.bool true, Value.string s, Value.int .i64 (((gn 0 (takeList s 0)) : Nat) : Int)]) :: (isW q ([] ++ (itemW (⟨kind, (((gv 0 (takeList s 0)) : Nat) : Int), ⟨#[]⟩⟩ : ItemR)).2)) :: (pt xb 44 ([Value.int .i64 kind, Value.int .i64 (((gv 0 (takeList s 0)) : Nat) : Int), Value.string (⟨#[]⟩)])) :: F) (fun _ h => h) ?_
            refine Wl.q (v := Value.bool true) (q_pick (t := true) rfl rfl) ?_
            refine Wl.q (v := Value.bool true) (q_assign rfl) ?_
            refine Wl.done ?_
            refine Wx.go ?_
            refine Wc.ret ?_
            refine Wx.fin1 rfl (.inl rfl) (fun w hs => ?_)
            exact ⟨(), trivial, rfl, (st_drop (st_drop (st_drop (st_pull [0, 0, 0] hs))))⟩
          ·
            have hg0 : (gn 0 (takeList s 0)) = 0 := gn_bad hok
            refine Wl.q (v := Value.bool true) (q_neq (r := false) rfl rfl (decide_eq_false hok)) ?_
            refine Wl.done ?_
            refine Wx.go ?_
            refine Wc.yes rfl ?_
            refine Wc.seq ?_
            refine Wc.region ?_
            refine Wl.q (v := Value.pointer (some ⟨r, 0, none⟩)) (q_move rfl) ?_
            refine Wl.e (e_call (F := (pt xb 44 ([Value.int .i64 kind, Value.int .i64 (((gv 0 (takeList s 0)) : Nat) : Int), Value.string (⟨#[]⟩)])) :: (isW q []) :: F) (args := [Value.pointer (some ⟨r, 0, none⟩)]) Try.call17 rfl (at_c W0 r s (gn 0 (takeList s 0)))) (fun _ _ => ?_)
            refine Wl.imp (L' := (pt r 59 [Value.bool true, Value.string s, Value.int .i64 (((gn 0 (takeList s 0)) : Nat) : Int)]) :: (pt xb 44 ([Value.int .i64 kind, Value.int .i64 (((gv 0 (takeList s 0)) : Nat) : Int), Value.string (⟨#[]⟩)])) :: (isW q []) :: F) (fun _ h => h) ?_
            refine Wl.q (v := Value.bool true) (q_eql (r := true) rfl rfl (decide_eq_true (by omega))) ?_
            refine Wl.q (v := Value.bool true) (q_move rfl) ?_
            refine Wl.e (e_call (F := (pt r 59 [Value.bool true, Value.string s, Value.int .i64 (((gn 0 (takeList s 0)) : Nat) : Int)]) :: (pt xb 44 ([Value.int .i64 kind, Value.int .i64 (((gv 0 (takeList s 0)) : Nat) : Int), Value.string (⟨#[]⟩)])) :: (isW q []) :: F) (args := []) Try.call13 rfl (alive_c W0)) (fun _ _ => ?_)
            refine Wl.imp (L' := (pt r 59 [Value.bool true, Value.string s, Value.int .i64 (((gn 0 (takeList s 0)) : Nat) : Int)]) :: (pt xb 44 ([Value.int .i64 kind, Value.int .i64 (((gv 0 (takeList s 0)) : Nat) : Int), Value.string (⟨#[]⟩)])) :: (isW q []) :: F) (fun _ h => h) ?_
            refine Wl.q (v := Value.bool true) (q_pick (t := true) rfl rfl) ?_
            refine Wl.q (v := Value.bool true) (q_assign rfl) ?_
            refine Wl.done ?_
            refine Wx.go ?_
            refine Wc.ret ?_
            refine Wx.thenRet ?_
            refine Wx.fin1 rfl (.inl rfl) (fun w hs => ?_)
            exact ⟨(), trivial, rfl, (st_drop (st_drop (st_drop (st_pull [0, 0, 0] hs))))⟩

end Go.Proofs.Ytlbanhhdoiidnaa
