import Derived.Test.YtkndmgfahghcjaaGreatStF
import Derived.Test.YtkndmgfahghcjaaGreatSLA
import Derived.Test.YtkndmgfahghcjaaGreatSLK
import Derived.Test.YtkndmgfahghcjaaGreatStKc
/- Contracts of the calls. -/
namespace Go.Proofs.YtkndmgfahghcjaaGreat
open Go Go.SL Go.St Go.Wr Go.RowKit
open Go.Dk (DS WF)
open Go.Jn (JS Ok openD_up)
set_option linter.unusedVariables false
set_option maxRecDepth 8000

open Go.Dk (beyondB beyond_le beyond_two)

open Go.Jn (half putD nPieces put_js put_big)
def stOk (T : AL) (l : List PairR) : Prop := chOk T l ∧ ¬ 6336 < (packP (allA (chgA T [] l).2)).1.size
instance (T : AL) (l : List PairR) : Decidable (stOk T l) := inferInstanceAs (Decidable (_ ∧ _))
def fewP (l : List PairR) : Prop := l.length ≤ 600000000 ∧ ((∀ p ∈ l, ¬ longP p) → l.length ≤ 600000)
def few2 (l : List PairR) : Prop := l.length ≤ 268435456 ∧ ((∀ p ∈ l, ¬ longP p) → l.length ≤ 262144)
theorem few_of {l : List PairR} {r : Int} (hr : 0 ≤ r ∧ r ≤ 262144) (h1 : 268435456 ≤ l.length → r = (l.length : Int)) (h2 : (∀ p ∈ l, ¬ longP p) → (l.length : Int) ≤ r) : few2 l :=
 ⟨Classical.byContradiction fun h => (by have := h1 (by omega); omega), fun h => by have := h2 h; omega⟩
theorem few2.append {l m : List PairR} (h : few2 l) (h' : few2 m) : fewP (l ++ m) :=
 ⟨by have := h.1; have := h'.1; rw [List.length_append]; omega, fun h0 => by
  have h1 := h.2 fun p hp => h0 p (List.mem_append_left _ hp)
  have h2 := h'.2 fun p hp => h0 p (List.mem_append_right _ hp)
  rw [List.length_append]; omega⟩
end Go.Proofs.YtkndmgfahghcjaaGreat

/- Contracts of the calls. -/
namespace Go.Proofs.YtkndmgfahghcjaaGreat
open Go Go.SL Go.St Go.Wr Go.RowKit
open Go.Dk (DS WF)
open Go.Jn (JS Ok openD_up)
set_option linter.unusedVariables false
set_option maxRecDepth 8000

open Go.Dk (beyondB beyond_le beyond_two)

theorem pairs_cells (l : List PairR) : (l.flatMap pairCells).all (·.oneCell') = true := by
 rw [List.all_eq_true]; intro x hx
 obtain ⟨p, hp, hq⟩ := List.mem_flatMap.1 hx
 unfold pairCells at hq
 simp only [List.mem_cons, List.not_mem_nil, or_false] at hq
 rcases hq with rfl | rfl | rfl <;> rfl
theorem few2_of {l : List PairR} {r : Int} {ns : List Int} (hb : beyondB ns = false) (hm : r ∈ ns) (h1 : 268435456 ≤ l.length → r = (l.length : Int)) (h2 : (∀ p ∈ l, ¬ longP p) → (l.length : Int) ≤ r) : few2 l := few_of (beyond_le hb r hm) h1 h2

end Go.Proofs.YtkndmgfahghcjaaGreat

/- Contracts of the calls. -/
namespace Go.Proofs.YtkndmgfahghcjaaGreat
open Go Go.SL Go.St Go.Wr Go.RowKit
open Go.Dk (DS WF)
open Go.Jn (JS Ok openD_up)
set_option linter.unusedVariables false
set_option maxRecDepth 8000

open Go.Dk (beyondB beyond_le beyond_two)

theorem packs_law (W0 : World) (vl : Value) (l : List PairR) (hl : Rd W0 vl l.length (l.flatMap pairCells)) (hlm : l.length ≤ 9223372036854775807) (hsz : ∀ p ∈ l, okP p) (tx : ByteArray) (htx : tx.size ≤ 9223372036854775807) :
  Con Tryz.prog W0 3 #[vl, Value.string tx] [] (X := Unit) (fun _ => True) (fun _ => .bool true) (fun _ => []) := by
 refine Con.of (args := [vl, Value.string tx]) Tryz.func3 rfl Tryz.ntmps3 rfl (fun F => ?_)
 show Wc _ W0 _ _ _ _ _ (F)
 refine Wc.seq (Wc.region (Wl.q (v := Value.bool false) (q_assign rfl) (Wl.done (Wx.go (Wc.seq (Wc.seq (Wc.region (Wl.q (v := vl) (q_move rfl) (Wl.e (e_call (F := F) (args := [vl]) Tryz.call11 rfl (size_c W0 vl l hl hlm)) (fun zs ⟨hzs, izs, jzs⟩ => Wl.imp (L' := F) (fun _ h => h) (Wl.e (e_buildSlice (cs := [Value.int .i64 zs]) se_58 zo_3 (by decide) (by decide) (by kernel_rfl)) (fun b1 _ => ?_))))))))))))
 refine Wl.imp (L' := (pt b1 3 [Value.int .i64 zs]) :: F) (fun _ h => h) (Wl.e (e_call (F := F) (args := [Value.slice (some ⟨b1, 0, none⟩) 1 1]) Tryz.call10 rfl (beyond_c W0 b1 ([zs] : List Int) (by simp) (by simp; omega))) (fun _ _ => Wl.imp (L' := (pt b1 3 [Value.int .i64 zs]) :: F) (fun _ h => h) (Wl.done (Wx.go ?_))))
 refine Wc.both (b := beyondB ([zs] : List Int)) rfl (fun hb2 => ?_) (fun hb2 => ?_)
 ·
  refine Wc.seq (Wc.region (Wl.q (v := Value.bool true) (q_assign rfl) (Wl.done (Wx.go (Wc.ret (Wx.thenRet (Wx.fin1 rfl (.inl rfl) (fun w hs => ?_))))))))
  exact ⟨(), trivial, rfl, (st_drop (st_pull [0] hs))⟩
 ·
  have hf : few2 l := few2_of hb2 (by simp) izs jzs
  refine Wc.skip (Wx.go (Wc.seq (Wc.region (Wl.e (e_buildSlice0 se_22) (fun b3 _ => Wl.imp (L' := (sl 44 3 (Value.slice (some ⟨b3, 0, none⟩) 0 0) 0 []) :: (pt b1 3 [Value.int .i64 zs]) :: F) (fun _ h => h) (Wl.q (v := vl) (q_move rfl) (Wl.e (e_append_rdk (i := 0) (m := l.length) (news := (l.flatMap pairCells)) Tryz.underlying22 sz_44 by_44 zo_44 rfl rfl rfl rfl hl (flat_len3P l) (pairs_cells l) (by simp only [maxLen]; have := hf.1; omega) (by have := hf.1; omega)) (fun v2 _ => Wl.imp (L' := (sl 44 3 v2 (0 + l.length) ([] ++ (l.flatMap pairCells))) :: (pt b1 3 [Value.int .i64 zs]) :: F) (fun _ h => h) (Wl.q (v := v2) (q_assign rfl) (Wl.done (Wx.go ?_)))))))))))
  refine Wc.seq (Wc.region (Wl.imp (L' := (sl 44 3 v2 l.length (l.flatMap pairCells)) :: (pt b1 3 [Value.int .i64 zs]) :: F) (fun w hs => by rw [List.nil_append, Nat.zero_add] at hs; exact hs) (Wl.q (v := v2) (q_move rfl) (Wl.e (e_call (F := (pt b1 3 [Value.int .i64 zs]) :: F) (args := [v2]) Tryz.call12 rfl (pack_sl W0 v2 l hlm hsz)) (fun _ _ => Wl.imp (L' := (sl 44 3 v2 l.length (l.flatMap pairCells)) :: (pt b1 3 [Value.int .i64 zs]) :: F) (fun _ h => h) (Wl.q (v := Value.tuple #[Value.string ((packP l).1), Value.int .i64 ((packP l).2)]) (q_move rfl) (Wl.q (v := Value.string ((packP l).1)) (q_extract (i := 0) rfl rfl) (Wl.q (v := Value.int .i64 ((packP l).2)) (q_extract (i := 1) rfl rfl) (Wl.q (v := Value.string ((packP l).1)) (q_assign rfl) (Wl.q (v := Value.int .i64 ((packP l).2)) (q_assign rfl) (Wl.done ?_)))))))))))
  refine Wx.go (Wc.seq (Wc.region (Wl.q (v := vl) (q_move rfl) (Wl.e (e_call (F := (sl 44 3 v2 l.length (l.flatMap pairCells)) :: (pt b1 3 [Value.int .i64 zs]) :: F) (args := [vl]) Tryz.call13 rfl (refpack_ro W0 vl l hl hlm hsz)) (fun _ _ => Wl.imp (L' := (sl 44 3 v2 l.length (l.flatMap pairCells)) :: (pt b1 3 [Value.int .i64 zs]) :: F) (fun _ h => h) (Wl.q (v := Value.tuple #[Value.string ((packP l).1), Value.int .i64 ((packP l).2)]) (q_move rfl) (Wl.q (v := Value.string ((packP l).1)) (q_extract (i := 0) rfl rfl) (Wl.q (v := Value.int .i64 ((packP l).2)) (q_extract (i := 1) rfl rfl) (Wl.q (v := Value.string ((packP l).1)) (q_assign rfl) (Wl.q (v := Value.int .i64 ((packP l).2)) (q_assign rfl) (Wl.done ?_)))))))))))
  refine Wx.go (Wc.seq (Wc.region (Wl.q (v := Value.string tx) (q_move rfl) (Wl.e (e_call (F := (sl 44 3 v2 l.length (l.flatMap pairCells)) :: (pt b1 3 [Value.int .i64 zs]) :: F) (args := [Value.string tx]) Tryz.call14 rfl (unpack_w W0 tx htx)) (fun ua _ => Wl.imp (L' := (sl 44 3 ua ((unpackL tx).length) ((unpackL tx).flatMap pairCells)) :: (sl 44 3 v2 l.length (l.flatMap pairCells)) :: (pt b1 3 [Value.int .i64 zs]) :: F) (fun _ h => h) (Wl.q (v := Value.tuple #[ua, Value.int .i64 (unpackE tx)]) (q_move rfl) (Wl.q (v := ua) (q_extract (i := 0) rfl rfl) (Wl.q (v := Value.int .i64 (unpackE tx)) (q_extract (i := 1) rfl rfl) (Wl.q (v := ua) (q_assign rfl) (Wl.q (v := Value.int .i64 (unpackE tx)) (q_assign rfl) (Wl.done ?_)))))))))))
  refine Wx.go (Wc.seq (Wc.region (Wl.q (v := Value.string tx) (q_move rfl) (Wl.e (e_call (F := (sl 44 3 ua ((unpackL tx).length) ((unpackL tx).flatMap pairCells)) :: (sl 44 3 v2 l.length (l.flatMap pairCells)) :: (pt b1 3 [Value.int .i64 zs]) :: F) (args := [Value.string tx]) Tryz.call15 rfl (refunpack_w W0 tx htx)) (fun ub _ => Wl.imp (L' := (sl 44 3 ub ((unpackL tx).length) ((unpackL tx).flatMap pairCells)) :: (sl 44 3 ua ((unpackL tx).length) ((unpackL tx).flatMap pairCells)) :: (sl 44 3 v2 l.length (l.flatMap pairCells)) :: (pt b1 3 [Value.int .i64 zs]) :: F) (fun _ h => h) (Wl.q (v := Value.tuple #[ub, Value.int .i64 (unpackE tx)]) (q_move rfl) (Wl.q (v := ub) (q_extract (i := 0) rfl rfl) (Wl.q (v := Value.int .i64 (unpackE tx)) (q_extract (i := 1) rfl rfl) (Wl.q (v := ub) (q_assign rfl) (Wl.q (v := Value.int .i64 (unpackE tx)) (q_assign rfl) (Wl.done ?_)))))))))))
  refine Wx.go (Wc.seq (Wc.region (Wl.q (v := Value.string ((packP l).1)) (q_move rfl) (Wl.q (v := Value.string ((packP l).1)) (q_move rfl) (Wl.q (v := Value.bool true) (q_eql_str (r := true) rfl rfl (text_true (rfl))) (Wl.q (v := Value.bool true) (q_move rfl) (Wl.q (v := Value.int .i64 ((packP l).2)) (q_move rfl) (Wl.q (v := Value.int .i64 ((packP l).2)) (q_move rfl) (Wl.q (v := Value.bool true) (q_eql (r := true) rfl rfl (decide_eq_true (rfl))) (Wl.q (v := Value.bool true) (q_pick (t := true) rfl rfl) (Wl.q (v := Value.bool true) (q_move rfl) ?_)))))))))))
  refine Wl.q (v := v2) (q_move rfl) (Wl.q (v := vl) (q_move rfl) (Wl.imp (L' := (sl 44 3 v2 l.length (l.flatMap pairCells)) :: (sl 44 3 ub ((unpackL tx).length) ((unpackL tx).flatMap pairCells)) :: (sl 44 3 ua ((unpackL tx).length) ((unpackL tx).flatMap pairCells)) :: (pt b1 3 [Value.int .i64 zs]) :: F) (fun _ h => st_pull [2] h) (Wl.e (e_call (F := (sl 44 3 ub ((unpackL tx).length) ((unpackL tx).flatMap pairCells)) :: (sl 44 3 ua ((unpackL tx).length) ((unpackL tx).flatMap pairCells)) :: (pt b1 3 [Value.int .i64 zs]) :: F) (args := [v2, vl]) Tryz.call16 rfl (Con.eqs (val' := fun _ => .bool true) (post' := fun _ => [sl 44 3 v2 l.length (l.flatMap pairCells)]) (same_sr W0 v2 l vl l hl hlm hlm hsz hsz) (fun _ => by rw [decide_eq_true rfl]) (fun _ => rfl))) (fun _ _ => Wl.imp (L' := (sl 44 3 v2 l.length (l.flatMap pairCells)) :: (sl 44 3 ub ((unpackL tx).length) ((unpackL tx).flatMap pairCells)) :: (sl 44 3 ua ((unpackL tx).length) ((unpackL tx).flatMap pairCells)) :: (pt b1 3 [Value.int .i64 zs]) :: F) (fun _ h => h) (Wl.q (v := Value.bool true) (q_pick (t := true) rfl rfl) (Wl.q (v := Value.bool true) (q_move rfl) (Wl.q (v := ua) (q_move rfl) (Wl.q (v := ub) (q_move rfl) (Wl.imp (L' := (sl 44 3 ua ((unpackL tx).length) ((unpackL tx).flatMap pairCells)) :: (sl 44 3 ub ((unpackL tx).length) ((unpackL tx).flatMap pairCells)) :: (sl 44 3 v2 l.length (l.flatMap pairCells)) :: (pt b1 3 [Value.int .i64 zs]) :: F) (fun _ h => st_pull [2, 1] h) (Wl.e (e_call (F := (sl 44 3 v2 l.length (l.flatMap pairCells)) :: (pt b1 3 [Value.int .i64 zs]) :: F) (args := [ua, ub]) Tryz.call16 rfl (Con.eqs (val' := fun _ => .bool true) (post' := fun _ => [sl 44 3 ua ((unpackL tx).length) ((unpackL tx).flatMap pairCells), sl 44 3 ub ((unpackL tx).length) ((unpackL tx).flatMap pairCells)]) (same_ss W0 ua (unpackL tx) ub (unpackL tx) (Nat.le_trans unpack_sz.1 (by decide)) (Nat.le_trans unpack_sz.1 (by decide)) unpack_sz' unpack_sz') (fun _ => by rw [decide_eq_true rfl]) (fun _ => rfl))) (fun _ _ => Wl.imp (L' := (sl 44 3 ua ((unpackL tx).length) ((unpackL tx).flatMap pairCells)) :: (sl 44 3 ub ((unpackL tx).length) ((unpackL tx).flatMap pairCells)) :: (sl 44 3 v2 l.length (l.flatMap pairCells)) :: (pt b1 3 [Value.int .i64 zs]) :: F) (fun _ h => h) ?_)))))))))))
  refine Wl.q (v := Value.bool true) (q_pick (t := true) rfl rfl) (Wl.q (v := Value.bool true) (q_move rfl) (Wl.q (v := Value.int .i64 (unpackE tx)) (q_move rfl) (Wl.q (v := Value.int .i64 (unpackE tx)) (q_move rfl) (Wl.q (v := Value.bool true) (q_eql (r := true) rfl rfl (decide_eq_true (rfl))) (Wl.q (v := Value.bool true) (q_pick (t := true) rfl rfl) (Wl.q (v := Value.bool true) (q_move rfl) (Wl.e (e_call (F := (sl 44 3 ua ((unpackL tx).length) ((unpackL tx).flatMap pairCells)) :: (sl 44 3 ub ((unpackL tx).length) ((unpackL tx).flatMap pairCells)) :: (sl 44 3 v2 l.length (l.flatMap pairCells)) :: (pt b1 3 [Value.int .i64 zs]) :: F) (args := []) Tryz.call17 rfl (alive_c07 W0)) (fun _ _ => Wl.imp (L' := (sl 44 3 ua ((unpackL tx).length) ((unpackL tx).flatMap pairCells)) :: (sl 44 3 ub ((unpackL tx).length) ((unpackL tx).flatMap pairCells)) :: (sl 44 3 v2 l.length (l.flatMap pairCells)) :: (pt b1 3 [Value.int .i64 zs]) :: F) (fun _ h => h) (Wl.q (v := Value.bool true) (q_pick (t := true) rfl rfl) (Wl.q (v := Value.bool true) (q_assign rfl) (Wl.done ?_)))))))))))
  refine Wx.go (Wc.ret (Wx.fin1 rfl (.inl rfl) (fun w hs => ?_)))
  exact ⟨(), trivial, rfl, (st_drop (st_drop (st_drop (st_drop (st_pull [0, 0, 0, 0] hs)))))⟩

end Go.Proofs.YtkndmgfahghcjaaGreat

