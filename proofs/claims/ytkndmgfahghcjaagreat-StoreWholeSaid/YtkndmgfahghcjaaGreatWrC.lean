import Derived.Test.YtkndmgfahghcjaaGreatWrL
import Derived.Test.YtkndmgfahghcjaaGreatSLD
/- Contracts of the calls. -/
namespace Go.Proofs.YtkndmgfahghcjaaGreat
open Go Go.SL Go.Wr Go.RowKit
open Go.Dk (beyondF beyondB beyond_step beyond_le beyond_one beyond_two)
set_option linter.unusedVariables false
set_option maxRecDepth 8000
theorem fo_96_0 : fieldOff Tryz.prog 96 0 = some 0 := by kernel_rfl
theorem zo_96 : zeroOf Tryz.prog 96 = some (Value.agg #[Value.bool false, Value.slice none 0 0]) := by kernel_rfl
theorem fo_96_1 : fieldOff Tryz.prog 96 1 = some 1 := by kernel_rfl
def isW (q : Nat) (l : List UInt8) : HP := ex fun sv => grp [pt q 96 [.bool true, sv], sl 5 1 sv l.length (l.map u8v)]
theorem isW_mk {W0 w : World} {L : List HP} {q : Nat} {sv : Value} {l : List UInt8} (h : st W0 w (pt q 96 [.bool true, sv] :: sl 5 1 sv l.length (l.map u8v) :: L)) : st W0 w (isW q l :: L) := st_ex.2 ⟨sv, st_grp.2 h⟩
theorem Con.wr {P : Program} {W0 : World} {f : FuncId} {args : Array Value} {q : Nat} {l : List UInt8} {pre : List HP} {X : Type} {φ : X → Prop} {val : X → Value} {post : X → List HP}
  (h : ∀ sv, Con P W0 f args (pt q 96 [.bool true, sv] :: sl 5 1 sv l.length (l.map u8v) :: pre) φ val post) : Con P W0 f args (isW q l :: pre) φ val post := fun w F hs => by
 obtain ⟨sv, hs⟩ := st_ex.1 hs
 have hs := st_grp.1 hs
 exact h sv w F hs

theorem wthere_yes (W0 : World) (q : Nat) (sv : Value) :
  Con Tryz.prog W0 60 #[Value.pointer (some ⟨q, 0, none⟩)] [pt q 96 [Value.bool true, sv]] (X := Unit) (fun _ => True) (fun _ => .bool true) (fun _ => [pt q 96 [Value.bool true, sv]]) := by
 refine Con.of (args := [Value.pointer (some ⟨q, 0, none⟩)]) Tryz.func60 rfl Tryz.ntmps60 rfl (fun F => ?_)
 show Wc _ W0 _ _ _ _ _ ((pt q 96 [Value.bool true, sv]) :: F)
 refine Wc.seq (Wc.region (Wl.q (v := Value.bool false) (q_assign rfl) (Wl.done (Wx.go (Wc.seq (Wc.region (Wl.q (v := Value.pointer (some ⟨q, 0, none⟩)) (q_move rfl) (Wl.q (v := Value.bool true) (q_neq_nil (r := false) rfl rfl Tryz.underlying59 rfl) (Wl.q (v := Value.bool true) (q_move rfl) (Wl.q (v := Value.pointer (some ⟨q, 0, none⟩)) (q_move rfl) (Wl.q (v := Value.pointer (some ⟨q, 0, none⟩)) (q_nil_ptr rfl) ?_)))))))))))
 refine Wl.q (v := Value.pointer (some ⟨q, 0, none⟩)) (q_field (m := 0) fo_96_0 rfl rfl) (Wl.q (v := Value.bool true) (q_load sc_4 rfl (.cel (i := 0) rfl rfl)) (Wl.q (v := Value.bool true) (q_pick (t := true) rfl rfl) (Wl.q (v := Value.bool true) (q_assign rfl) (Wl.done (Wx.go (Wc.ret (Wx.fin1 rfl (.inl rfl) (fun w hs => ?_))))))))
 exact ⟨(), trivial, rfl, hs⟩

theorem wnew_c (W0 : World)  :
  Con Tryz.prog W0 32 #[] [] (X := Nat) (fun _ => True) (fun q => .pointer (some ⟨q, 0, none⟩)) (fun q => [isW q []]) := by
 refine Con.of (args := []) Tryz.func32 rfl Tryz.ntmps32 rfl (fun F => ?_)
 show Wc _ W0 _ _ _ _ _ (F)
 refine Wc.seq (Wc.region (Wl.q (v := Value.pointer none) (q_assign rfl) (Wl.done (Wx.go (Wc.seq (Wc.region (Wl.q (v := Value.agg #[Value.bool true, Value.slice none 0 0]) (q_build (pl := [(0, 1), (1, 1)]) Tryz.underlying96 zo_96 (by kernel_rfl) (by kernel_rfl)) (Wl.e (e_box (x := .tmp 1) (vs := [Value.bool true, Value.slice none 0 0]) rfl) (fun q _ => Wl.imp (L' := (pt q 96 [Value.bool true, Value.slice none 0 0]) :: F) (fun _ h => h) (Wl.q (v := Value.pointer (some ⟨q, 0, none⟩)) (q_assign rfl) (Wl.done ?_)))))))))))
 refine Wx.go (Wc.ret (Wx.fin1 rfl (.inl rfl) (fun w hs => ?_)))
 exact ⟨q, trivial, rfl, isW_mk (st_swap (st_sl_nil hs))⟩

set_option maxRecDepth 4000 in
theorem wnumber_o (W0 : World) (q : Nat) (l : List UInt8) (n : Int) (sv : Value) (h1 : -9223372036854775808 ≤ n) (h2 : n ≤ 9223372036854775807) (hl : l.length < 100000000000000) :
    Con Tryz.prog W0 61 #[Value.pointer (some ⟨q, 0, none⟩), Value.int .i64 n] [pt q 96 [Value.bool true, sv], sl 5 1 sv l.length (l.map u8v)] (X := Value) (fun _ => True) (fun _ => .int .i64 0) (fun v => [pt q 96 [Value.bool true, v], sl 5 1 v ((l ++ enc (zz n)).length) ((l ++ enc (zz n)).map u8v)]) := by
  refine Con.of (args := [Value.pointer (some ⟨q, 0, none⟩), Value.int .i64 n]) Tryz.func61 rfl Tryz.ntmps61 rfl (fun F => ?_)
  show Wc _ W0 _ _ _ _ _ ((pt q 96 [Value.bool true, sv]) :: (sl 5 1 sv l.length (l.map u8v)) :: F)
  refine Wc.seq (Wc.region (Wl.q (v := Value.int .i64 0) (q_assign rfl) (Wl.done (Wx.go (Wc.seq (Wc.seq (Wc.region (Wl.q (v := Value.pointer (some ⟨q, 0, none⟩)) (q_move rfl) (Wl.e (e_call (F := (sl 5 1 sv l.length (l.map u8v)) :: F) (args := [Value.pointer (some ⟨q, 0, none⟩)]) Tryz.call60 rfl (wthere_yes W0 q (sv))) (fun _ _ => Wl.imp (L' := (pt q 96 [Value.bool true, sv]) :: (sl 5 1 sv l.length (l.map u8v)) :: F) (fun _ h => h) (Wl.q (v := Value.bool false) (q_not rfl rfl) ?_)))))))))))
  refine Wl.done (Wx.go (Wc.no rfl (Wc.skip (Wx.go (Wc.seq (Wc.region (Wl.q (v := Value.int .i64 n) (q_move rfl) (Wl.q (v := Value.int .u64 (IntKind.u64.wrap n)) (q_conv_int (c := (IntKind.u64.wrap n)) Tryz.underlying125 (by rw [Tryz.underlying2]; rfl) rfl rfl) (Wl.q (v := Value.int .u64 (IntKind.u64.wrap (IntKind.u64.wrap n * 2 ^ min (Int.toNat 1) IntKind.u64.bits))) (q_shl (c := (IntKind.u64.wrap (IntKind.u64.wrap n * 2 ^ min (Int.toNat 1) IntKind.u64.bits))) rfl rfl (by decide) rfl) (Wl.q (v := Value.int .i64 n) (q_move rfl) (Wl.q (v := Value.int .i64 (if 0 ≤ n then (0 : Int) else -1)) (q_shr (c := (if 0 ≤ n then (0 : Int) else -1)) rfl rfl (by decide) (sh63 h1 h2)) ?_)))))))))))
  refine Wl.q (v := Value.int .u64 (IntKind.u64.wrap (if 0 ≤ n then (0 : Int) else -1))) (q_conv_int (c := (IntKind.u64.wrap (if 0 ≤ n then (0 : Int) else -1))) Tryz.underlying125 (by rw [Tryz.underlying2]; rfl) rfl rfl) (Wl.q (v := Value.int .u64 ((zz n : Nat) : Int)) (q_xor (c := ((zz n : Nat) : Int)) rfl rfl (zzcode h1 h2)) (Wl.q (v := Value.int .u64 ((zz n : Nat) : Int)) (q_assign rfl) (Wl.done (Wx.go (Wc.seq (Wc.block ?_))))))
  refine Wc.loop (X := Nat × Value × List UInt8) (fun (z, v, m) E => E 5 = Value.int .u64 ((z : Nat) : Int) ∧ E 0 = Value.pointer (some ⟨q, 0, none⟩) ∧ m ++ enc z = l ++ enc (zz n) ∧ z < 18446744073709551616) (fun (z, v, m) => (pt q 96 [Value.bool true, v]) :: (sl 5 1 v m.length (m.map u8v)) :: F) (fun (z, v, m) => z) (zz n, sv, l) ?_ ?_ ?_
  · exact ⟨rfl, rfl, rfl, (zz_lt h1 h2)⟩
  · exact fun w hs => hs
  · rintro ⟨z, v, m⟩ E2 ⟨hE5_0, hE0_0, hp0, hz⟩
    dsimp only at *
    have hml : m.length ≤ l.length + 10 := by have e := congrArg List.length hp0; have e2 := enc_len_le 9 (zz n) (Nat.lt_trans (zz_lt h1 h2) (by decide)); have e3 := enc_ne z; simp only [List.length_append] at e; omega
    refine Wc.seq (Wc.seq (Wc.region (Wl.q (v := Value.int .u64 ((z : Nat) : Int)) (q_move hE5_0) ?_)))
    by_cases hgt : ((z : Nat) : Int) > 127
    ·
      refine Wl.q (v := Value.bool true) (q_gtr (r := true) rfl rfl (decide_eq_true hgt)) (Wl.done (Wx.go (Wc.yes rfl (Wc.skip (Wx.go (Wc.seq (Wc.block (Wc.region (Wl.q (v := Value.pointer (some ⟨q, 0, none⟩)) (q_move hE0_0) (Wl.q (v := Value.pointer (some ⟨q, 0, none⟩)) (q_move hE0_0) (Wl.q (v := Value.pointer (some ⟨q, 0, none⟩)) (q_nil_ptr rfl) ?_)))))))))))
      refine Wl.q (v := Value.pointer (some ⟨q, 1, none⟩)) (q_field (m := 1) fo_96_1 rfl rfl) (Wl.q (v := v) (q_load sc_65 rfl (.cel (i := 0) rfl rfl)) (Wl.q (v := Value.int .u64 ((z : Nat) : Int)) (q_move hE5_0) (Wl.q (v := Value.int .u8 ((z % 256 : Nat) : Int)) (q_conv_int (c := ((z % 256 : Nat) : Int)) Tryz.underlying5 (by rw [Tryz.underlying125]; rfl) rfl (conv8 z)) (Wl.q (v := Value.int .u8 ((z % 128 + 128 : Nat) : Int)) (q_or (c := ((z % 128 + 128 : Nat) : Int)) rfl rfl (or128 z)) (Wl.e (e_buildSlice (cs := [Value.int .u8 ((z % 128 + 128 : Nat) : Int)]) se_65 zo_5 (by decide) (by decide) (by kernel_rfl)) (fun b3 _ => Wl.imp (L' := (pt b3 5 [Value.int .u8 ((z % 128 + 128 : Nat) : Int)]) :: (pt q 96 [Value.bool true, v]) :: (sl 5 1 v m.length (m.map u8v)) :: F) (fun _ h => h) (Wl.e (e_append (i := 2) (k := 1) (m := 1) (off := 0) (news := [Value.int .u8 ((z % 128 + 128 : Nat) : Int)]) Tryz.underlying65 sz_5 by_5 zo_5 rfl rfl rfl rfl rfl (Has.of_pt (i := 0) rfl rfl) rfl (by decide) (by simp only [maxLen]; omega) (by omega)) (fun v2 _ => Wl.imp (L' := (pt b3 5 [Value.int .u8 ((z % 128 + 128 : Nat) : Int)]) :: (pt q 96 [Value.bool true, v]) :: (sl 5 1 v2 (m.length + 1) ((m.map u8v) ++ [Value.int .u8 ((z % 128 + 128 : Nat) : Int)])) :: F) (fun _ h => h) (Wl.q (v := Value.pointer (some ⟨q, 0, none⟩)) (q_nil_ptr rfl) (Wl.q (v := Value.pointer (some ⟨q, 1, none⟩)) (q_field (m := 1) fo_96_1 rfl rfl) (Wl.e (e_store (i := 1) (v := v2) sz_65 rfl rfl (fun _ h => sl_one (i := 2) h rfl) rfl (by simp)) (fun _ _ => ?_))))))))))))
      refine Wl.imp (L' := (pt b3 5 [Value.int .u8 ((z % 128 + 128 : Nat) : Int)]) :: (pt q 96 [Value.bool true, v2]) :: (sl 5 1 v2 (m.length + 1) ((m.map u8v) ++ [Value.int .u8 ((z % 128 + 128 : Nat) : Int)])) :: F) (fun _ h => h) (Wl.done (Wx.blockEnd (Wx.go (Wc.region (Wl.q (v := Value.int .u64 ((z : Nat) : Int)) (q_move hE5_0) (Wl.q (v := Value.int .u64 ((z / 128 : Nat) : Int)) (q_shr (c := ((z / 128 : Nat) : Int)) rfl rfl (by decide) (shr7 z)) (Wl.q (v := Value.int .u64 ((z / 128 : Nat) : Int)) (q_assign rfl) (Wl.done ?_))))))))
      refine Wx.at (z / 128, v2, m ++ [UInt8.ofNat (z % 128 + 128)]) ⟨(by simp only; omega), rfl, hE0_0, (by rw [← hp0, enc_ge (show ¬ z < 128 by omega), List.append_assoc]; rfl), (by simp only; omega)⟩ (fun w hs => by simp only [List.length_append, List.length_singleton, u8_snoc m (show z % 128 + 128 < 256 by omega)]; exact (st_drop (st_pull [0] hs)))
    ·
      refine Wl.q (v := Value.bool false) (q_gtr (r := false) rfl rfl (decide_eq_false hgt)) (Wl.done (Wx.go (Wc.no rfl (Wc.exit (Wx.thenExit (Wx.thenExit (Wx.out (Wx.go (Wc.seq (Wc.region (Wl.q (v := Value.pointer (some ⟨q, 0, none⟩)) (q_move hE0_0) ?_)))))))))))
      refine Wl.q (v := Value.pointer (some ⟨q, 0, none⟩)) (q_move hE0_0) (Wl.q (v := Value.pointer (some ⟨q, 0, none⟩)) (q_nil_ptr rfl) (Wl.q (v := Value.pointer (some ⟨q, 1, none⟩)) (q_field (m := 1) fo_96_1 rfl rfl) (Wl.q (v := v) (q_load sc_65 rfl (.cel (i := 0) rfl rfl)) (Wl.q (v := Value.int .u64 ((z : Nat) : Int)) (q_move hE5_0) (Wl.q (v := Value.int .u8 ((z : Nat) : Int)) (q_conv_int (c := ((z : Nat) : Int)) Tryz.underlying5 (by rw [Tryz.underlying125]; rfl) rfl (by rw [conv8]; omega)) (Wl.e (e_buildSlice (cs := [Value.int .u8 ((z : Nat) : Int)]) se_65 zo_5 (by decide) (by decide) (by kernel_rfl)) (fun b4 _ => Wl.imp (L' := (pt b4 5 [Value.int .u8 ((z : Nat) : Int)]) :: (pt q 96 [Value.bool true, v]) :: (sl 5 1 v m.length (m.map u8v)) :: F) (fun _ h => h) (Wl.e (e_append (i := 2) (k := 1) (m := 1) (off := 0) (news := [Value.int .u8 ((z : Nat) : Int)]) Tryz.underlying65 sz_5 by_5 zo_5 rfl rfl rfl rfl rfl (Has.of_pt (i := 0) rfl rfl) rfl (by decide) (by simp only [maxLen]; omega) (by omega)) (fun v3 _ => Wl.imp (L' := (pt b4 5 [Value.int .u8 ((z : Nat) : Int)]) :: (pt q 96 [Value.bool true, v]) :: (sl 5 1 v3 (m.length + 1) ((m.map u8v) ++ [Value.int .u8 ((z : Nat) : Int)])) :: F) (fun _ h => h) (Wl.q (v := Value.pointer (some ⟨q, 0, none⟩)) (q_nil_ptr rfl) (Wl.q (v := Value.pointer (some ⟨q, 1, none⟩)) (q_field (m := 1) fo_96_1 rfl rfl) ?_)))))))))))
      refine Wl.e (e_store (i := 1) (v := v3) sz_65 rfl rfl (fun _ h => sl_one (i := 2) h rfl) rfl (by simp)) (fun _ _ => Wl.imp (L' := (pt b4 5 [Value.int .u8 ((z : Nat) : Int)]) :: (pt q 96 [Value.bool true, v3]) :: (sl 5 1 v3 (m.length + 1) ((m.map u8v) ++ [Value.int .u8 ((z : Nat) : Int)])) :: F) (fun _ h => h) (Wl.done (Wx.go (Wc.seq (Wc.region (Wl.q (v := Value.int .i64 0) (q_assign rfl) (Wl.done (Wx.go (Wc.ret (Wx.fin1 rfl (.inl rfl) (fun w hs => ?_)))))))))))
      have hz2 : z < 128 := by omega
      have e : m ++ [UInt8.ofNat z] = l ++ enc (zz n) := by rw [← hp0, enc_lt hz2]
      exact ⟨v3, trivial, rfl, by rw [← e]; simp only [List.length_append, List.length_singleton, u8_snoc m (show z < 256 by omega)]; exact (st_drop (st_pull [0] hs))⟩

theorem wbytes_blk (W0 : World) (q : Nat) (l : List UInt8) (b cap : Nat) :
  Con Tryz.prog W0 35 #[Value.pointer (some ⟨q, 0, none⟩)] [slp 5 1 b cap (l.map u8v), pt q 96 [Value.bool true, Value.slice (some ⟨b, 0, none⟩) l.length cap]] (X := Unit) (fun _ => True) (fun _ => .string ⟨l.toArray⟩) (fun _ => [slp 5 1 b cap (l.map u8v), pt q 96 [Value.bool true, Value.slice (some ⟨b, 0, none⟩) l.length cap]]) := by
 refine Con.of (args := [Value.pointer (some ⟨q, 0, none⟩)]) Tryz.func35 rfl Tryz.ntmps35 rfl (fun F => ?_)
 show Wc _ W0 _ _ _ _ _ ((slp 5 1 b cap (l.map u8v)) :: (pt q 96 [Value.bool true, Value.slice (some ⟨b, 0, none⟩) l.length cap]) :: F)
 refine Wc.seq (Wc.region (Wl.q (v := Value.string (⟨#[]⟩)) (q_assign rfl) (Wl.done (Wx.go (Wc.seq (Wc.seq (Wc.region (Wl.q (v := Value.pointer (some ⟨q, 0, none⟩)) (q_move rfl) (Wl.imp (L' := (pt q 96 [Value.bool true, Value.slice (some ⟨b, 0, none⟩) l.length cap]) :: (slp 5 1 b cap (l.map u8v)) :: F) (fun _ h => st_pull [1] h) (Wl.e (e_call (F := (slp 5 1 b cap (l.map u8v)) :: F) (args := [Value.pointer (some ⟨q, 0, none⟩)]) Tryz.call60 rfl (wthere_yes W0 q (Value.slice (some ⟨b, 0, none⟩) l.length cap))) (fun _ _ => Wl.imp (L' := (pt q 96 [Value.bool true, Value.slice (some ⟨b, 0, none⟩) l.length cap]) :: (slp 5 1 b cap (l.map u8v)) :: F) (fun _ h => h) ?_)))))))))))
 refine Wl.q (v := Value.bool false) (q_not rfl rfl) (Wl.done (Wx.go (Wc.no rfl (Wc.skip (Wx.go (Wc.seq (Wc.region (Wl.q (v := Value.pointer (some ⟨q, 0, none⟩)) (q_move rfl) (Wl.q (v := Value.pointer (some ⟨q, 0, none⟩)) (q_nil_ptr rfl) (Wl.q (v := Value.pointer (some ⟨q, 1, none⟩)) (q_field (m := 1) fo_96_1 rfl rfl) (Wl.q (v := Value.slice (some ⟨b, 0, none⟩) l.length cap) (q_load sc_65 rfl (.cel (i := 0) rfl rfl)) ?_)))))))))))
 refine Wl.q (v := Value.string (⟨(l).toArray⟩)) (q_str_of (l := l) Tryz.underlying65 Tryz.underlying5 Tryz.underlying9 rfl rfl (fun j u hj => .row (i := 1) rfl (by rw [Nat.zero_add]; exact hj))) (Wl.q (v := Value.string (⟨(l).toArray⟩)) (q_assign rfl) (Wl.done (Wx.go (Wc.ret (Wx.fin1 rfl (.inl rfl) (fun w hs => ?_))))))
 exact ⟨(), trivial, rfl, (st_pull [1, 0] (hs))⟩

theorem wbytes_nil (W0 : World) (q : Nat) (l : List UInt8) (hnil : l = []) :
  Con Tryz.prog W0 35 #[Value.pointer (some ⟨q, 0, none⟩)] [pt q 96 [Value.bool true, Value.slice none 0 0]] (X := Unit) (fun _ => True) (fun _ => .string ⟨l.toArray⟩) (fun _ => [pt q 96 [Value.bool true, Value.slice none 0 0]]) := by
 refine Con.of (args := [Value.pointer (some ⟨q, 0, none⟩)]) Tryz.func35 rfl Tryz.ntmps35 rfl (fun F => ?_)
 show Wc _ W0 _ _ _ _ _ ((pt q 96 [Value.bool true, Value.slice none 0 0]) :: F)
 refine Wc.seq (Wc.region (Wl.q (v := Value.string (⟨#[]⟩)) (q_assign rfl) (Wl.done (Wx.go (Wc.seq (Wc.seq (Wc.region (Wl.q (v := Value.pointer (some ⟨q, 0, none⟩)) (q_move rfl) (Wl.e (e_call (F := F) (args := [Value.pointer (some ⟨q, 0, none⟩)]) Tryz.call60 rfl (wthere_yes W0 q (Value.slice none 0 0))) (fun _ _ => Wl.imp (L' := (pt q 96 [Value.bool true, Value.slice none 0 0]) :: F) (fun _ h => h) (Wl.q (v := Value.bool false) (q_not rfl rfl) ?_)))))))))))
 refine Wl.done (Wx.go (Wc.no rfl (Wc.skip (Wx.go (Wc.seq (Wc.region (Wl.q (v := Value.pointer (some ⟨q, 0, none⟩)) (q_move rfl) (Wl.q (v := Value.pointer (some ⟨q, 0, none⟩)) (q_nil_ptr rfl) (Wl.q (v := Value.pointer (some ⟨q, 1, none⟩)) (q_field (m := 1) fo_96_1 rfl rfl) (Wl.q (v := Value.slice none 0 0) (q_load sc_65 rfl (.cel (i := 0) rfl rfl)) (Wl.q (v := Value.string ByteArray.empty) (q_str_nil Tryz.underlying65 Tryz.underlying5 Tryz.underlying9 rfl) ?_)))))))))))
 refine Wl.q (v := Value.string ByteArray.empty) (q_assign rfl) (Wl.done (Wx.go (Wc.ret (Wx.fin1 rfl (.inl rfl) (fun w hs => ?_)))))
 subst hnil
 exact ⟨(), trivial, rfl, hs⟩

theorem wbytes_c (W0 : World) (q : Nat) (l : List UInt8) :
    Con Tryz.prog W0 35 #[Value.pointer (some ⟨q, 0, none⟩)] [isW q l] (X := Unit) (fun _ => True) (fun _ => .string ⟨l.toArray⟩) (fun _ => [isW q l]) := by
  refine Con.wr fun sv => Con.pull (pre := [sl 5 1 sv l.length (l.map u8v), pt q 96 [Value.bool true, sv]]) [1] (fun _ => rfl) (Con.sl (fun e1 e2 e3 => ?_) (fun b cap e1 e2 e3 => ?_))
  · subst e1; have e4 := List.eq_nil_of_length_eq_zero e2
    exact Con.post (wbytes_nil W0 q l e4) (fun _ w F h => isW_mk (by rw [e2, e3]; exact st_swap (st_sl_nil h)))
  · subst e1
    exact Con.post (wbytes_blk W0 q l b cap) (fun _ w F h => isW_mk (st_swap (st_sl_mk e3 e2 h)))

theorem wtext_big (W0 : World) (q : Nat) (l : List UInt8) (s : ByteArray) (sv : Value) (hs : 65536 < s.size) :
  Con Tryz.prog W0 34 #[Value.pointer (some ⟨q, 0, none⟩), Value.string s] [pt q 96 [Value.bool true, sv], sl 5 1 sv l.length (l.map u8v)] (X := Unit) (fun _ => True) (fun _ => .int .i64 3) (fun _ => [pt q 96 [Value.bool true, sv], sl 5 1 sv l.length (l.map u8v)]) := by
 refine Con.of (args := [Value.pointer (some ⟨q, 0, none⟩), Value.string s]) Tryz.func34 rfl Tryz.ntmps34 rfl (fun F => ?_)
 show Wc _ W0 _ _ _ _ _ ((pt q 96 [Value.bool true, sv]) :: (sl 5 1 sv l.length (l.map u8v)) :: F)
 refine Wc.seq (Wc.region (Wl.q (v := Value.int .i64 0) (q_assign rfl) (Wl.done (Wx.go (Wc.seq (Wc.block (Wc.seq (Wc.region (Wl.q (v := Value.pointer (some ⟨q, 0, none⟩)) (q_move rfl) (Wl.e (e_call (F := (sl 5 1 sv l.length (l.map u8v)) :: F) (args := [Value.pointer (some ⟨q, 0, none⟩)]) Tryz.call60 rfl (wthere_yes W0 q (sv))) (fun _ _ => Wl.imp (L' := (pt q 96 [Value.bool true, sv]) :: (sl 5 1 sv l.length (l.map u8v)) :: F) (fun _ h => h) ?_)))))))))))
 refine Wl.q (v := Value.bool false) (q_not rfl rfl) (Wl.q (v := Value.bool false) (q_assign rfl) (Wl.done (Wx.go (Wc.no rfl (Wc.seq (Wc.region (Wl.q (v := Value.string s) (q_move rfl) (Wl.q (v := Value.int .i64 ((s.size : Nat) : Int)) (q_len_str Tryz.underlying9 rfl) (Wl.q (v := Value.bool true) (q_gtr (r := true) rfl rfl (decide_eq_true (by omega))) (Wl.q (v := Value.bool true) (q_assign rfl) (Wl.done ?_)))))))))))
 refine Wx.go (Wc.yes rfl (Wc.seq (Wc.region (Wl.q (v := Value.int .i64 3) (q_assign rfl) (Wl.done (Wx.go (Wc.ret (Wx.blockRet (Wx.thenRet (Wx.fin1 rfl (.inl rfl) (fun w hs => ?_)))))))))))
 exact ⟨(), trivial, rfl, hs⟩

theorem wtext_o (W0 : World) (q : Nat) (l : List UInt8) (s : ByteArray) (sv : Value) (hs : s.size ≤ 65536) (hl : l.length < 100000000000000) :
  Con Tryz.prog W0 34 #[Value.pointer (some ⟨q, 0, none⟩), Value.string s] [pt q 96 [Value.bool true, sv], sl 5 1 sv l.length (l.map u8v)] (X := Value) (fun _ => True) (fun _ => .int .i64 0) (fun v => [pt q 96 [Value.bool true, v], sl 5 1 v ((l ++ enc (zz (s.size : Int)) ++ s.data.toList).length) ((l ++ enc (zz (s.size : Int)) ++ s.data.toList).map u8v)]) := by
 refine Con.of (args := [Value.pointer (some ⟨q, 0, none⟩), Value.string s]) Tryz.func34 rfl Tryz.ntmps34 rfl (fun F => ?_)
 have hel : (enc (zz (s.size : Int))).length ≤ 10 := enc_len_le 9 _ (Nat.lt_trans (zz_lt (by omega) (by omega)) (by decide))
 show Wc _ W0 _ _ _ _ _ ((pt q 96 [Value.bool true, sv]) :: (sl 5 1 sv l.length (l.map u8v)) :: F)
 refine Wc.seq (Wc.region (Wl.q (v := Value.int .i64 0) (q_assign rfl) (Wl.done (Wx.go (Wc.seq (Wc.block (Wc.seq (Wc.region (Wl.q (v := Value.pointer (some ⟨q, 0, none⟩)) (q_move rfl) (Wl.e (e_call (F := (sl 5 1 sv l.length (l.map u8v)) :: F) (args := [Value.pointer (some ⟨q, 0, none⟩)]) Tryz.call60 rfl (wthere_yes W0 q (sv))) (fun _ _ => Wl.imp (L' := (pt q 96 [Value.bool true, sv]) :: (sl 5 1 sv l.length (l.map u8v)) :: F) (fun _ h => h) ?_)))))))))))
 refine Wl.q (v := Value.bool false) (q_not rfl rfl) (Wl.q (v := Value.bool false) (q_assign rfl) (Wl.done (Wx.go (Wc.no rfl (Wc.seq (Wc.region (Wl.q (v := Value.string s) (q_move rfl) (Wl.q (v := Value.int .i64 ((s.size : Nat) : Int)) (q_len_str Tryz.underlying9 rfl) (Wl.q (v := Value.bool false) (q_gtr (r := false) rfl rfl (decide_eq_false (by omega))) (Wl.q (v := Value.bool false) (q_assign rfl) (Wl.done ?_)))))))))))
 refine Wx.go (Wc.no rfl (Wc.skip (Wx.blockEnd (Wx.go (Wc.seq (Wc.region (Wl.q (v := Value.pointer (some ⟨q, 0, none⟩)) (q_move rfl) (Wl.q (v := Value.string s) (q_move rfl) (Wl.q (v := Value.int .i64 ((s.size : Nat) : Int)) (q_len_str Tryz.underlying9 rfl) (Wl.e (e_call (F := F) (args := [Value.pointer (some ⟨q, 0, none⟩), Value.int .i64 ((s.size : Nat) : Int)]) Tryz.call61 rfl (wnumber_o W0 q l ((s.size : Nat) : Int) sv (by omega) (by omega) hl)) (fun v1 _ => Wl.imp (L' := (pt q 96 [Value.bool true, v1]) :: (sl 5 1 v1 ((l ++ enc (zz ((s.size : Nat) : Int))).length) ((l ++ enc (zz ((s.size : Nat) : Int))).map u8v)) :: F) (fun _ h => h) ?_)))))))))))
 refine Wl.done (Wx.go (Wc.seq (Wc.region (Wl.q (v := Value.pointer (some ⟨q, 0, none⟩)) (q_move rfl) (Wl.q (v := Value.pointer (some ⟨q, 0, none⟩)) (q_move rfl) (Wl.q (v := Value.pointer (some ⟨q, 0, none⟩)) (q_nil_ptr rfl) (Wl.q (v := Value.pointer (some ⟨q, 1, none⟩)) (q_field (m := 1) fo_96_1 rfl rfl) (Wl.q (v := v1) (q_load sc_65 rfl (.cel (i := 0) rfl rfl)) (Wl.q (v := Value.string s) (q_move rfl) (Wl.e (e_appendStr (i := 1) (s := s) Tryz.underlying65 Tryz.underlying9 sz_5 by_5 zo_5 rfl rfl rfl (by have := hel; simp only [maxLen, List.length_append] at *; omega) (by have := hel; simp only [List.length_append] at *; omega)) (fun v3 _ => Wl.imp (L' := (pt q 96 [Value.bool true, v1]) :: (sl 5 1 v3 (((l ++ enc (zz ((s.size : Nat) : Int))).length) + s.size) (((l ++ enc (zz ((s.size : Nat) : Int))).map u8v) ++ Lib.strCells s)) :: F) (fun _ h => h) ?_)))))))))))
 refine Wl.q (v := Value.pointer (some ⟨q, 0, none⟩)) (q_nil_ptr rfl) (Wl.q (v := Value.pointer (some ⟨q, 1, none⟩)) (q_field (m := 1) fo_96_1 rfl rfl) (Wl.e (e_store (i := 0) (v := v3) sz_65 rfl rfl (fun _ h => sl_one (i := 1) h rfl) rfl (by simp)) (fun _ _ => Wl.imp (L' := (pt q 96 [Value.bool true, v3]) :: (sl 5 1 v3 (((l ++ enc (zz ((s.size : Nat) : Int))).length) + s.size) (((l ++ enc (zz ((s.size : Nat) : Int))).map u8v) ++ Lib.strCells s)) :: F) (fun _ h => h) (Wl.done (Wx.go (Wc.seq (Wc.region (Wl.q (v := Value.int .i64 0) (q_assign rfl) (Wl.done (Wx.go (Wc.ret ?_)))))))))))
 refine Wx.fin1 rfl (.inl rfl) (fun w hs => ?_)
 exact ⟨v3, trivial, rfl, by rw [show (l ++ enc (zz (s.size : Int)) ++ s.data.toList).length = (l ++ enc (zz (s.size : Int))).length + s.size from by simp; omega, List.map_append (l₂ := s.data.toList)]; exact hs⟩

end Go.Proofs.YtkndmgfahghcjaaGreat

