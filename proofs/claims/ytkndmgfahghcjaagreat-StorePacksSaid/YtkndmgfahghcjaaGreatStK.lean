import Derived.Test.YtkndmgfahghcjaaGreatStF
import Derived.Test.YtkndmgfahghcjaaGreatStU
import Derived.Test.YtkndmgfahghcjaaGreatWrH
import Derived.Test.YtkndmgfahghcjaaGreatWrI
import Derived.Test.YtkndmgfahghcjaaGreatSLA
/- Contracts of the calls. -/
namespace Go.Proofs.YtkndmgfahghcjaaGreat
open Go Go.SL Go.St Go.Wr Go.RowKit
open Go.Dk (DS WF)
open Go.Jn (JS Ok openD_up)
set_option linter.unusedVariables false
set_option maxRecDepth 8000
theorem fo_67_1 : fieldOff Tryz.prog 67 1 = some 1 := by kernel_rfl
theorem fo_67_0 : fieldOff Tryz.prog 67 0 = some 0 := by kernel_rfl
def isO (q : Nat) (l : List UInt8) : HP := ex fun sv => grp [pt q 67 [sv, .int .i64 0], sl 5 1 sv l.length (l.map u8v)]
theorem isO_mk {W0 w : World} {L : List HP} {q : Nat} {sv : Value} {l : List UInt8} (h : st W0 w (pt q 67 [sv, .int .i64 0] :: sl 5 1 sv l.length (l.map u8v) :: L)) : st W0 w (isO q l :: L) := st_ex.2 ⟨sv, st_grp.2 h⟩
theorem con_o {P : Program} {W0 : World} {f : FuncId} {args : Array Value} {q : Nat} {l : List UInt8} {pre : List HP} {X : Type} {φ : X → Prop} {val : X → Value} {post : X → List HP}
  (h : ∀ sv, Con P W0 f args (pt q 67 [sv, .int .i64 0] :: sl 5 1 sv l.length (l.map u8v) :: pre) φ val post) : Con P W0 f args (isO q l :: pre) φ val post := fun w F hs => by
 obtain ⟨sv, hs⟩ := st_ex.1 hs
 have hs := st_grp.1 hs
 exact h sv w F hs

theorem oput_o (W0 : World) (q : Nat) (l x : List UInt8) (sv : Value) (hl : l.length + x.length < 100000000000000) :
  Con Tryz.prog W0 62 #[Value.pointer (some ⟨q, 0, none⟩), Value.string (ba x), Value.int .i64 0] [pt q 67 [sv, Value.int .i64 0], sl 5 1 sv l.length (l.map u8v)] (X := Value) (fun _ => True) (fun _ => .tuple #[]) (fun v => [pt q 67 [v, Value.int .i64 0], sl 5 1 v ((l ++ x).length) ((l ++ x).map u8v)]) := by
 refine Con.of (args := [Value.pointer (some ⟨q, 0, none⟩), Value.string (ba x), Value.int .i64 0]) Tryz.func62 rfl Tryz.ntmps62 rfl (fun F => ?_)
 show Wc _ W0 _ _ _ _ _ ((pt q 67 [sv, Value.int .i64 0]) :: (sl 5 1 sv l.length (l.map u8v)) :: F)
 refine Wc.seq (Wc.seq (Wc.region (Wl.q (v := Value.pointer (some ⟨q, 0, none⟩)) (q_move rfl) (Wl.q (v := Value.pointer (some ⟨q, 0, none⟩)) (q_nil_ptr rfl) (Wl.q (v := Value.pointer (some ⟨q, 1, none⟩)) (q_field (m := 1) fo_67_1 rfl rfl) (Wl.q (v := Value.int .i64 0) (q_load sc_25 rfl (.cel (i := 0) rfl rfl)) (Wl.q (v := Value.bool true) (q_eql (r := true) rfl rfl (decide_eq_true (by decide))) (Wl.q (v := Value.bool true) (q_move rfl) (Wl.q (v := Value.int .i64 0) (q_move rfl) (Wl.q (v := Value.bool false) (q_neq (r := true) rfl rfl (decide_eq_true (by decide))) (Wl.q (v := Value.bool false) (q_pick (t := true) rfl rfl) ?_)))))))))))
 refine Wl.done (Wx.go (Wc.no rfl (Wc.skip (Wx.go (Wc.region (Wl.q (v := Value.pointer (some ⟨q, 0, none⟩)) (q_move rfl) (Wl.q (v := Value.pointer (some ⟨q, 0, none⟩)) (q_move rfl) (Wl.q (v := Value.pointer (some ⟨q, 0, none⟩)) (q_nil_ptr rfl) (Wl.q (v := Value.pointer (some ⟨q, 0, none⟩)) (q_field (m := 0) fo_67_0 rfl rfl) (Wl.q (v := sv) (q_load sc_65 rfl (.cel (i := 0) rfl rfl)) (Wl.q (v := Value.string (ba x)) (q_move rfl) ?_)))))))))))
 refine Wl.e (e_appendStr (i := 1) (s := (ba x)) Tryz.underlying65 Tryz.underlying9 sz_5 by_5 zo_5 rfl rfl rfl (by rw [ba_size]; simp only [maxLen]; omega) (by rw [ba_size]; omega)) (fun v3 _ => Wl.imp (L' := (pt q 67 [sv, Value.int .i64 0]) :: (sl 5 1 v3 (l.length + (ba x).size) ((l.map u8v) ++ Lib.strCells (ba x))) :: F) (fun _ h => h) (Wl.q (v := Value.pointer (some ⟨q, 0, none⟩)) (q_nil_ptr rfl) (Wl.q (v := Value.pointer (some ⟨q, 0, none⟩)) (q_field (m := 0) fo_67_0 rfl rfl) (Wl.e (e_store (i := 0) (v := v3) sz_65 rfl rfl (fun _ h => sl_one (i := 1) h rfl) rfl (by simp)) (fun _ _ => Wl.imp (L' := (pt q 67 [v3, Value.int .i64 0]) :: (sl 5 1 v3 (l.length + (ba x).size) ((l.map u8v) ++ Lib.strCells (ba x))) :: F) (fun _ h => h) (Wl.done (Wx.fin0 rfl (.inr rfl) (fun w hs => ?_))))))))
 exact ⟨v3, trivial, rfl, by rw [List.length_append, List.map_append, ← ba_size]; exact hs⟩

theorem oput_c (W0 : World) (q : Nat) (l : List UInt8) (x : List UInt8) (hl : l.length + x.length < 100000000000000) :
  Con Tryz.prog W0 62 #[Value.pointer (some ⟨q, 0, none⟩), Value.string (ba x), Value.int .i64 0] [isO q l] (X := Value) (fun _ => True) (fun _ => .tuple #[]) (fun _ => [isO q (l ++ x)]) :=
 con_o fun sv => Con.post (oput_o W0 q l x sv hl) (fun _ _ _ h => isO_mk h)

theorem olist_c (W0 : World) (q : Nat) (l : List UInt8) (n : Int) (hn : (listW n).1 = 0) (hl : l.length + (listW n).2.length < 100000000000000) :
  Con Tryz.prog W0 36 #[Value.pointer (some ⟨q, 0, none⟩), Value.int .i64 n] [isO q l] (X := Unit) (fun _ => True) (fun _ => .tuple #[]) (fun _ => [isO q (l ++ (listW n).2)]) := by
 refine Con.of (args := [Value.pointer (some ⟨q, 0, none⟩), Value.int .i64 n]) Tryz.func36 rfl Tryz.ntmps36 rfl (fun F => ?_)
 show Wc _ W0 _ _ _ _ _ ((isO q l) :: F)
 refine Wc.region (Wl.q (v := Value.pointer (some ⟨q, 0, none⟩)) (q_move rfl) (Wl.q (v := Value.int .i64 n) (q_move rfl) (Wl.e (e_call (F := (isO q l) :: F) (args := [Value.string (⟨#[]⟩), Value.int .i64 n]) Tryz.call63 rfl (Con.eqs (val' := fun _ => .tuple #[.string (ba (listW n).2), .int .i64 0]) (post' := fun _ => []) (reflist_c W0 n) (fun _ => by rw [hn]) (fun _ => rfl))) (fun _ _ => Wl.imp (L' := (isO q l) :: F) (fun _ h => h) (Wl.q (v := Value.string (ba (listW n).2)) (q_extract (i := 0) rfl rfl) (Wl.q (v := Value.int .i64 0) (q_extract (i := 1) rfl rfl) (Wl.e (e_call (F := F) (args := [Value.pointer (some ⟨q, 0, none⟩), Value.string (ba (listW n).2), Value.int .i64 0]) Tryz.call62 rfl (oput_c W0 q l ((listW n).2) hl)) (fun _ _ => Wl.imp (L' := (isO q (l ++ (listW n).2)) :: F) (fun _ h => h) (Wl.done (Wx.fin0 rfl (.inr rfl) (fun w hs => ?_)))))))))))
 exact ⟨(), trivial, rfl, hs⟩

theorem otext_c (W0 : World) (q : Nat) (l : List UInt8) (s : ByteArray) (hn : (textW s).1 = 0) (hl : l.length + (textW s).2.length < 100000000000000) :
  Con Tryz.prog W0 38 #[Value.pointer (some ⟨q, 0, none⟩), Value.string s] [isO q l] (X := Unit) (fun _ => True) (fun _ => .tuple #[]) (fun _ => [isO q (l ++ (textW s).2)]) := by
 refine Con.of (args := [Value.pointer (some ⟨q, 0, none⟩), Value.string s]) Tryz.func38 rfl Tryz.ntmps38 rfl (fun F => ?_)
 show Wc _ W0 _ _ _ _ _ ((isO q l) :: F)
 refine Wc.region (Wl.q (v := Value.pointer (some ⟨q, 0, none⟩)) (q_move rfl) (Wl.q (v := Value.string s) (q_move rfl) (Wl.e (e_call (F := (isO q l) :: F) (args := [Value.string (⟨#[]⟩), Value.string s]) Tryz.call64 rfl (Con.eqs (val' := fun _ => .tuple #[.string (ba (textW s).2), .int .i64 0]) (post' := fun _ => []) (reftext_c W0 s) (fun _ => by rw [hn]) (fun _ => rfl))) (fun _ _ => Wl.imp (L' := (isO q l) :: F) (fun _ h => h) (Wl.q (v := Value.string (ba (textW s).2)) (q_extract (i := 0) rfl rfl) (Wl.q (v := Value.int .i64 0) (q_extract (i := 1) rfl rfl) (Wl.e (e_call (F := F) (args := [Value.pointer (some ⟨q, 0, none⟩), Value.string (ba (textW s).2), Value.int .i64 0]) Tryz.call62 rfl (oput_c W0 q l ((textW s).2) hl)) (fun _ _ => Wl.imp (L' := (isO q (l ++ (textW s).2)) :: F) (fun _ h => h) (Wl.done (Wx.fin0 rfl (.inr rfl) (fun w hs => ?_)))))))))))
 exact ⟨(), trivial, rfl, hs⟩

theorem obytes_blk (W0 : World) (q : Nat) (l : List UInt8) (b cap : Nat) :
  Con Tryz.prog W0 39 #[Value.pointer (some ⟨q, 0, none⟩)] [slp 5 1 b cap (l.map u8v), pt q 67 [Value.slice (some ⟨b, 0, none⟩) l.length cap, Value.int .i64 0]] (X := Unit) (fun _ => True) (fun _ => .string ⟨l.toArray⟩) (fun _ => [slp 5 1 b cap (l.map u8v), pt q 67 [Value.slice (some ⟨b, 0, none⟩) l.length cap, Value.int .i64 0]]) := by
 refine Con.of (args := [Value.pointer (some ⟨q, 0, none⟩)]) Tryz.func39 rfl Tryz.ntmps39 rfl (fun F => ?_)
 show Wc _ W0 _ _ _ _ _ ((slp 5 1 b cap (l.map u8v)) :: (pt q 67 [Value.slice (some ⟨b, 0, none⟩) l.length cap, Value.int .i64 0]) :: F)
 refine Wc.seq (Wc.region (Wl.q (v := Value.string (⟨#[]⟩)) (q_assign rfl) (Wl.done (Wx.go (Wc.seq (Wc.region (Wl.q (v := Value.pointer (some ⟨q, 0, none⟩)) (q_move rfl) (Wl.q (v := Value.pointer (some ⟨q, 0, none⟩)) (q_nil_ptr rfl) (Wl.q (v := Value.pointer (some ⟨q, 0, none⟩)) (q_field (m := 0) fo_67_0 rfl rfl) (Wl.q (v := Value.slice (some ⟨b, 0, none⟩) l.length cap) (q_load sc_65 rfl (.cel (i := 1) rfl rfl)) (Wl.q (v := Value.string (⟨(l).toArray⟩)) (q_str_of (l := l) Tryz.underlying65 Tryz.underlying5 Tryz.underlying9 rfl rfl (fun j u hj => .row (i := 0) rfl (by rw [Nat.zero_add]; exact hj))) ?_)))))))))))
 refine Wl.q (v := Value.string (⟨(l).toArray⟩)) (q_assign rfl) (Wl.done (Wx.go (Wc.ret (Wx.fin1 rfl (.inl rfl) (fun w hs => ?_)))))
 exact ⟨(), trivial, rfl, hs⟩

theorem obytes_nil (W0 : World) (q : Nat) (l : List UInt8) (hnil : l = []) :
  Con Tryz.prog W0 39 #[Value.pointer (some ⟨q, 0, none⟩)] [pt q 67 [Value.slice none 0 0, Value.int .i64 0]] (X := Unit) (fun _ => True) (fun _ => .string ⟨l.toArray⟩) (fun _ => [pt q 67 [Value.slice none 0 0, Value.int .i64 0]]) := by
 refine Con.of (args := [Value.pointer (some ⟨q, 0, none⟩)]) Tryz.func39 rfl Tryz.ntmps39 rfl (fun F => ?_)
 show Wc _ W0 _ _ _ _ _ ((pt q 67 [Value.slice none 0 0, Value.int .i64 0]) :: F)
 refine Wc.seq (Wc.region (Wl.q (v := Value.string (⟨#[]⟩)) (q_assign rfl) (Wl.done (Wx.go (Wc.seq (Wc.region (Wl.q (v := Value.pointer (some ⟨q, 0, none⟩)) (q_move rfl) (Wl.q (v := Value.pointer (some ⟨q, 0, none⟩)) (q_nil_ptr rfl) (Wl.q (v := Value.pointer (some ⟨q, 0, none⟩)) (q_field (m := 0) fo_67_0 rfl rfl) (Wl.q (v := Value.slice none 0 0) (q_load sc_65 rfl (.cel (i := 0) rfl rfl)) (Wl.q (v := Value.string ByteArray.empty) (q_str_nil Tryz.underlying65 Tryz.underlying5 Tryz.underlying9 rfl) ?_)))))))))))
 refine Wl.q (v := Value.string ByteArray.empty) (q_assign rfl) (Wl.done (Wx.go (Wc.ret (Wx.fin1 rfl (.inl rfl) (fun w hs => ?_)))))
 subst hnil
 exact ⟨(), trivial, rfl, hs⟩

theorem obytes_c (W0 : World) (q : Nat) (l : List UInt8) :
    Con Tryz.prog W0 39 #[Value.pointer (some ⟨q, 0, none⟩)] [isO q l] (X := Unit) (fun _ => True) (fun _ => .string ⟨l.toArray⟩) (fun _ => [isO q l]) := by
  refine con_o fun sv => Con.pull (pre := [sl 5 1 sv l.length (l.map u8v), pt q 67 [sv, Value.int .i64 0]]) [1] (fun _ => rfl) (Con.sl (fun e1 e2 e3 => ?_) (fun b cap e1 e2 e3 => ?_))
  · subst e1; have e4 := List.eq_nil_of_length_eq_zero e2
    exact Con.post (obytes_nil W0 q l e4) (fun _ w F h => isO_mk (by rw [e2, e3]; exact st_swap (st_sl_nil h)))
  · subst e1
    exact Con.post (obytes_blk W0 q l b cap) (fun _ w F h => isO_mk (st_swap (st_sl_mk e3 e2 h)))

theorem long_c (W0 : World) (on ot : ByteArray) (og : Bool) :
  Con Tryz.prog W0 37 #[Value.agg #[Value.string on, Value.string ot, Value.bool og]] [] (X := Unit) (fun _ => True) (fun _ => .bool (decide (longP ⟨on, ot, og⟩))) (fun _ => []) := by
 refine Con.of (args := [Value.agg #[Value.string on, Value.string ot, Value.bool og]]) Tryz.func37 rfl Tryz.ntmps37 rfl (fun F => ?_)
 show Wc _ W0 _ _ _ _ _ (F)
 refine Wc.seq (Wc.region (Wl.e (e_box (x := .tmp 0) (vs := [Value.string on, Value.string ot, Value.bool og]) rfl) (fun b1 _ => Wl.imp (L' := (pt b1 44 [Value.string on, Value.string ot, Value.bool og]) :: F) (fun _ h => h) (Wl.q (v := Value.bool false) (q_assign rfl) (Wl.done (Wx.go (Wc.seq (Wc.region (Wl.q (v := Value.pointer (some ⟨b1, 0, none⟩)) (q_field (m := 0) fo_44_0 rfl rfl) (Wl.q (v := Value.string on) (q_load sc_9 rfl (.cel (i := 0) rfl rfl)) (Wl.q (v := Value.int .i64 ((on.size : Nat) : Int)) (q_len_str Tryz.underlying9 rfl) ?_)))))))))))
 by_cases hn1 : ((on.size : Nat) : Int) > 65536
 ·
  refine Wl.q (v := Value.bool true) (q_gtr (r := true) rfl rfl (decide_eq_true hn1)) (Wl.q (v := Value.bool true) (q_move rfl) (Wl.no (Wl.no (Wl.no (Wl.no (Wl.q (v := Value.bool true) (q_pick (t := true) rfl rfl) (Wl.q (v := Value.bool true) (q_assign rfl) (Wl.done (Wx.go (Wc.ret (Wx.fin1 rfl (.inl rfl) (fun w hs => ?_))))))))))))
  exact ⟨(), trivial, by rw [decide_eq_true (show longP ⟨on, ot, og⟩ from .inl (by show 65536 < on.size; omega))]; rfl, (st_drop (st_pull [0] hs))⟩
 ·
  refine Wl.q (v := Value.bool false) (q_gtr (r := false) rfl rfl (decide_eq_false hn1)) (Wl.q (v := Value.bool false) (q_move rfl) (Wl.q (v := Value.pointer (some ⟨b1, 1, none⟩)) (q_field (m := 1) fo_44_1 rfl rfl) (Wl.q (v := Value.string ot) (q_load sc_9 rfl (.cel (i := 0) rfl rfl)) (Wl.q (v := Value.int .i64 ((ot.size : Nat) : Int)) (q_len_str Tryz.underlying9 rfl) ?_))))
  by_cases hn2 : ((ot.size : Nat) : Int) > 65536
  ·
   refine Wl.q (v := Value.bool true) (q_gtr (r := true) rfl rfl (decide_eq_true hn2)) (Wl.q (v := Value.bool true) (q_pick (t := false) rfl rfl) (Wl.q (v := Value.bool true) (q_assign rfl) (Wl.done (Wx.go (Wc.ret (Wx.fin1 rfl (.inl rfl) (fun w hs => ?_)))))))
   exact ⟨(), trivial, by rw [decide_eq_true (show longP ⟨on, ot, og⟩ from .inr (by show 65536 < ot.size; omega))]; rfl, (st_drop (st_pull [0] hs))⟩
  ·
   refine Wl.q (v := Value.bool false) (q_gtr (r := false) rfl rfl (decide_eq_false hn2)) (Wl.q (v := Value.bool false) (q_pick (t := false) rfl rfl) (Wl.q (v := Value.bool false) (q_assign rfl) (Wl.done (Wx.go (Wc.ret (Wx.fin1 rfl (.inl rfl) (fun w hs => ?_)))))))
   exact ⟨(), trivial, by rw [decide_eq_false (show ¬ longP ⟨on, ot, og⟩ from (by unfold longP; simp only; omega))]; rfl, (st_drop (st_pull [0] hs))⟩

end Go.Proofs.YtkndmgfahghcjaaGreat

