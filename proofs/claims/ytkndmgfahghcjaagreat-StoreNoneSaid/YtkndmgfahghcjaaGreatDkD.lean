import Derived.Test.YtkndmgfahghcjaaGreatDkC
import Derived.Test.YtkndmgfahghcjaaGreatDkL
/- Contracts of the calls. -/
namespace Go.Proofs.YtkndmgfahghcjaaGreat
open Go Go.SL Go.Dk Go.RowKit
set_option linter.unusedVariables false
set_option maxRecDepth 8000
theorem by_122 : (Tryz.prog.info? 122).map (·.bytes) = some 24 := by kernel_rfl
theorem write1 (W0 : World) (p bs : Nat) (secs : List ByteArray) (since : List (Nat × ByteArray)) (hsince : since.length < 1099511627776) (count : Nat) (mv sv : Value) (b3 b4 b5 a : Nat) (s : ByteArray) :
  Con Tryz.prog W0 119 #[Value.pointer (some ⟨b3, 0, none⟩), Value.pointer (some ⟨b4, 0, none⟩), Value.pointer (some ⟨b5, 0, none⟩)] [pt p 82 [Value.slice (some ⟨bs, 0, none⟩) secs.length secs.length, sv, Value.bool false, Value.int .i64 ((count : Nat) : Int), mv], sl 122 2 sv since.length (flat since), pt b3 33 [Value.pointer (some ⟨p, 0, none⟩)], pt b4 3 [Value.int .i64 ((a : Nat) : Int)], pt b5 9 [Value.string s]] (X := Value) (fun _ => True) (fun _ => .tuple #[]) (fun v2 => [pt p 82 [Value.slice (some ⟨bs, 0, none⟩) secs.length secs.length, v2, Value.bool false, Value.int .i64 ((count : Nat) : Int), mv], sl 122 2 v2 ((since ++ [(a, s)]).length) (flat (since ++ [(a, s)])), pt b3 33 [Value.pointer (some ⟨p, 0, none⟩)], pt b4 3 [Value.int .i64 ((a : Nat) : Int)], pt b5 9 [Value.string s]]) := by
 refine Con.of (args := [Value.pointer (some ⟨b3, 0, none⟩), Value.pointer (some ⟨b4, 0, none⟩), Value.pointer (some ⟨b5, 0, none⟩)]) Tryz.func119 rfl Tryz.ntmps119 rfl (fun F => ?_)
 show Wc _ W0 _ _ _ _ _ ((pt p 82 [Value.slice (some ⟨bs, 0, none⟩) secs.length secs.length, sv, Value.bool false, Value.int .i64 ((count : Nat) : Int), mv]) :: (sl 122 2 sv since.length (flat since)) :: (pt b3 33 [Value.pointer (some ⟨p, 0, none⟩)]) :: (pt b4 3 [Value.int .i64 ((a : Nat) : Int)]) :: (pt b5 9 [Value.string s]) :: F)
 refine Wc.drawsS [12] ((pt p 82 [Value.slice (some ⟨bs, 0, none⟩) secs.length secs.length, sv, Value.bool false, Value.int .i64 ((count : Nat) : Int), mv]) :: (pt b3 33 [Value.pointer (some ⟨p, 0, none⟩)]) :: (pt b4 3 [Value.int .i64 ((a : Nat) : Int)]) :: (pt b5 9 [Value.string s]) :: []) (by kernel_rfl) ?_
 refine Wr.take (v := Value.pointer (some ⟨p, 0, none⟩)) 0 rfl (by kernel_rfl) (fun _ h => st_take [0, 1, 1, 1] h) (.inl ⟨rfl, q_load sc_33 rfl (.cel (i := 1) rfl rfl)⟩) ?_
 refine Wr.take (v := Value.pointer (some ⟨p, 0, none⟩)) 1 rfl (by kernel_rfl) (fun _ h => st_take [0, 1, 1, 1] h) (.inl ⟨rfl, q_load sc_33 rfl (.cel (i := 1) rfl rfl)⟩) ?_
 refine Wr.pure (v := Value.pointer (some ⟨p, 0, none⟩)) 2 rfl (by kernel_rfl) (.inr (fun _ h => st_take [0, 1, 1, 1] h)) (.inl ⟨rfl, fun _ => q_nil_ptr rfl⟩) ?_
 refine Wr.pure (v := Value.pointer (some ⟨p, 1, none⟩)) 3 rfl (by kernel_rfl) (.inr (fun _ h => st_take [0, 1, 1, 1] h)) (.inl ⟨rfl, fun _ => q_field (m := 1) fo_82_1 rfl rfl⟩) ?_
 refine Wr.take (v := sv) 4 rfl (by kernel_rfl) (fun _ h => st_take [0, 1, 1, 1] h) (.inl ⟨rfl, q_load sc_80 rfl (.cel (i := 0) rfl rfl)⟩) ?_
 refine Wr.take (v := Value.int .i64 ((a : Nat) : Int)) 5 rfl (by kernel_rfl) (fun _ h => st_take [0, 1, 1, 1] h) (.inl ⟨rfl, q_load sc_3 rfl (.cel (i := 2) rfl rfl)⟩) ?_
 refine Wr.take (v := Value.string s) 6 rfl (by kernel_rfl) (fun _ h => st_take [0, 1, 1, 1] h) (.inl ⟨rfl, q_load sc_9 rfl (.cel (i := 3) rfl rfl)⟩) ?_
 refine Wr.pure (v := Value.agg #[Value.int .i64 ((a : Nat) : Int), Value.string s]) 7 rfl (by kernel_rfl) (.inr (fun _ h => st_take [0, 1, 1, 1] h)) (.inl ⟨rfl, fun _ => q_build (pl := [(0, 1), (1, 1)]) Tryz.underlying122 zo_122 (by kernel_rfl) (by kernel_rfl)⟩) ?_
 refine Wr.e 8 (by kernel_rfl) rfl (e_buildSlice (cs := [Value.int .i64 ((a : Nat) : Int), Value.string s]) se_80 zo_122 (by decide) (by decide) (by kernel_rfl)) (.inr fun _ _ _ h => st_take [1, 2, 2, 2] h) (fun b1 _ => ?_)
 refine Wr.imp (L' := (pt b1 122 [Value.int .i64 ((a : Nat) : Int), Value.string s]) :: (pt p 82 [Value.slice (some ⟨bs, 0, none⟩) secs.length secs.length, sv, Value.bool false, Value.int .i64 ((count : Nat) : Int), mv]) :: (sl 122 2 sv since.length (flat since)) :: (pt b3 33 [Value.pointer (some ⟨p, 0, none⟩)]) :: (pt b4 3 [Value.int .i64 ((a : Nat) : Int)]) :: (pt b5 9 [Value.string s]) :: F) (fun _ h => h) ?_
 refine Wr.more (S' := (pt b1 122 [Value.int .i64 ((a : Nat) : Int), Value.string s]) :: (pt p 82 [Value.slice (some ⟨bs, 0, none⟩) secs.length secs.length, sv, Value.bool false, Value.int .i64 ((count : Nat) : Int), mv]) :: (pt b3 33 [Value.pointer (some ⟨p, 0, none⟩)]) :: (pt b4 3 [Value.int .i64 ((a : Nat) : Int)]) :: (pt b5 9 [Value.string s]) :: []) (fun _ h => st_drop h) ?_
 refine Wr.e 9 (by kernel_rfl) rfl (e_append (i := 2) (k := 2) (m := 1) (off := 0) (news := [Value.int .i64 ((a : Nat) : Int), Value.string s]) Tryz.underlying80 sz_122 by_122 zo_122 rfl rfl rfl rfl rfl (Has.of_pt (i := 0) rfl rfl) rfl (by decide) (by simp only [maxLen]; omega) (by omega)) (.inr fun _ _ _ h => st_take [0, 0, 1, 1, 1] h) (fun v2 _ => ?_)
 refine Wr.imp (L' := (pt b1 122 [Value.int .i64 ((a : Nat) : Int), Value.string s]) :: (pt p 82 [Value.slice (some ⟨bs, 0, none⟩) secs.length secs.length, sv, Value.bool false, Value.int .i64 ((count : Nat) : Int), mv]) :: (sl 122 2 v2 (since.length + 1) ((flat since) ++ [Value.int .i64 ((a : Nat) : Int), Value.string s])) :: (pt b3 33 [Value.pointer (some ⟨p, 0, none⟩)]) :: (pt b4 3 [Value.int .i64 ((a : Nat) : Int)]) :: (pt b5 9 [Value.string s]) :: F) (fun _ h => h) ?_
 refine Wr.pure (v := Value.pointer (some ⟨p, 0, none⟩)) 10 rfl (by kernel_rfl) (.inr (fun _ h => st_take [0, 0, 1, 1, 1] h)) (.inl ⟨rfl, fun _ => q_nil_ptr rfl⟩) ?_
 refine Wr.pure (v := Value.pointer (some ⟨p, 1, none⟩)) 11 rfl (by kernel_rfl) (.inr (fun _ h => st_take [0, 0, 1, 1, 1] h)) (.inl ⟨rfl, fun _ => q_field (m := 1) fo_82_1 rfl rfl⟩) ?_
 refine Wr.e 12 (by kernel_rfl) rfl (e_store (i := 1) (v := v2) sz_80 rfl rfl (fun _ h => sl_one (i := 2) h rfl) rfl (by simp)) (.inl (by kernel_rfl)) (fun _ _ => ?_)
 refine Wr.imp (L' := (pt b1 122 [Value.int .i64 ((a : Nat) : Int), Value.string s]) :: (pt p 82 [Value.slice (some ⟨bs, 0, none⟩) secs.length secs.length, v2, Value.bool false, Value.int .i64 ((count : Nat) : Int), mv]) :: (sl 122 2 v2 (since.length + 1) ((flat since) ++ [Value.int .i64 ((a : Nat) : Int), Value.string s])) :: (pt b3 33 [Value.pointer (some ⟨p, 0, none⟩)]) :: (pt b4 3 [Value.int .i64 ((a : Nat) : Int)]) :: (pt b5 9 [Value.string s]) :: F) (fun _ h => h) ?_
 refine Wr.rebaseS [] ((pt b1 122 [Value.int .i64 ((a : Nat) : Int), Value.string s]) :: (pt p 82 [Value.slice (some ⟨bs, 0, none⟩) secs.length secs.length, v2, Value.bool false, Value.int .i64 ((count : Nat) : Int), mv]) :: (sl 122 2 v2 (since.length + 1) ((flat since) ++ [Value.int .i64 ((a : Nat) : Int), Value.string s])) :: (pt b3 33 [Value.pointer (some ⟨p, 0, none⟩)]) :: (pt b4 3 [Value.int .i64 ((a : Nat) : Int)]) :: (pt b5 9 [Value.string s]) :: []) (by kernel_rfl) ?_
 refine Wr.done (by kernel_rfl) ?_
 refine Wx.fin0 rfl (.inr rfl) (fun w hs => ?_)
 exact ⟨v2, trivial, rfl, by rw [flat_snoc, List.length_append]; exact st_drop hs⟩

theorem sync1_blk (W0 : World) (p bs : Nat) (secs : List ByteArray) (since : List (Nat × ByteArray)) (count : Nat) (mv : Value) (b1 : Nat) (hw : WFl secs since) (hsince : since.length < 1099511627776) (b cap : Nat) (hcap : since.length ≤ cap) :
    Con Tryz.prog W0 120 #[Value.pointer (some ⟨b1, 0, none⟩)] [slp 122 2 b cap (flat since), pt p 82 [Value.slice (some ⟨bs, 0, none⟩) secs.length secs.length, Value.slice (some ⟨b, 0, none⟩) since.length cap, Value.bool false, Value.int .i64 ((count : Nat) : Int), mv], pt bs 9 (secs.map Value.string), pt b1 33 [Value.pointer (some ⟨p, 0, none⟩)]] (X := Unit) (fun _ => True) (fun _ => .tuple #[]) (fun _ => [pt p 82 [Value.slice (some ⟨bs, 0, none⟩) secs.length secs.length, Value.slice none 0 0, Value.bool false, Value.int .i64 ((count : Nat) : Int), mv], pt bs 9 ((syncL secs since).map Value.string), pt b1 33 [Value.pointer (some ⟨p, 0, none⟩)]]) := by
  refine Con.of (args := [Value.pointer (some ⟨b1, 0, none⟩)]) Tryz.func120 rfl Tryz.ntmps120 rfl (fun F => ?_)
  show Wc _ W0 _ _ _ _ _ ((slp 122 2 b cap (flat since)) :: (pt p 82 [Value.slice (some ⟨bs, 0, none⟩) secs.length secs.length, Value.slice (some ⟨b, 0, none⟩) since.length cap, Value.bool false, Value.int .i64 ((count : Nat) : Int), mv]) :: (pt bs 9 (secs.map Value.string)) :: (pt b1 33 [Value.pointer (some ⟨p, 0, none⟩)]) :: F)
  refine Wc.seq ?_
  refine Wc.seq ?_
  refine Wc.region ?_
  refine Wl.q (v := Value.pointer (some ⟨p, 0, none⟩)) (q_load sc_33 rfl (.cel (i := 3) rfl rfl)) ?_
  refine Wl.q (v := Value.pointer (some ⟨p, 0, none⟩)) (q_nil_ptr rfl) ?_
  refine Wl.q (v := Value.pointer (some ⟨p, 1, none⟩)) (q_field (m := 1) fo_82_1 rfl rfl) ?_
  refine Wl.q (v := Value.slice (some ⟨b, 0, none⟩) since.length cap) (q_load sc_80 rfl (.cel (i := 1) rfl rfl)) ?_
  refine Wl.q (v := Value.int .i64 ((since.length : Nat) : Int)) (q_len_slice Tryz.underlying80 rfl) ?_
  refine Wl.q (v := Value.int .i64 0) (q_move rfl) ?_
  refine Wl.done ?_
  refine Wx.go ?_
  refine Wc.block ?_
  refine Wc.loop (X := Nat × List ByteArray) (fun (k, ss) E => E 8 = Value.int .i64 ((k : Nat) : Int) ∧ E 0 = Value.pointer (some ⟨b1, 0, none⟩) ∧ E 6 = Value.slice (some ⟨b, 0, none⟩) since.length cap ∧ E 7 = Value.int .i64 ((since.length : Nat) : Int) ∧ syncL ss (since.drop k) = syncL secs since ∧ ss.length = secs.length ∧ k ≤ since.length) (fun (k, ss) => (slp 122 2 b cap (flat since)) :: (pt p 82 [Value.slice (some ⟨bs, 0, none⟩) secs.length secs.length, Value.slice (some ⟨b, 0, none⟩) since.length cap, Value.bool false, Value.int .i64 ((count : Nat) : Int), mv]) :: (pt bs 9 (ss.map Value.string)) :: (pt b1 33 [Value.pointer (some ⟨p, 0, none⟩)]) :: F) (fun (k, ss) => since.length - k) (0, secs) ?_ ?_ ?_
  · exact ⟨rfl, rfl, rfl, rfl, rfl, rfl, (by omega)⟩
  · exact fun w hs => hs
  · rintro ⟨k, ss⟩ E2 ⟨hE8_0, hE0_0, hE6_0, hE7_0, hp0, hp1, hp3⟩
    dsimp only at *
    refine Wc.seq ?_
    refine Wc.region ?_
    by_cases hlt : ((k : Nat) : Int) < ((since.length : Nat) : Int)
    ·
      obtain ⟨⟨a, s⟩, hget⟩ : ∃ q, since[k]? = some q := ⟨since[k]'(by omega), by simp [List.getElem?_eq_getElem (show k < since.length by omega)]⟩
      have hmem := List.mem_of_getElem? hget
      have ha : a < ss.length := by have := hw.at_ _ hmem; simp only at this; omega
      refine Wl.q (v := Value.bool true) (q_lss (r := true) hE8_0 hE7_0 (decide_eq_true hlt)) ?_
      refine Wl.done ?_
      refine Wx.go ?_
      refine Wc.seq ?_
      refine Wc.yes rfl ?_
      refine Wc.skip ?_
      refine Wx.go ?_
      refine Wc.seq ?_
      refine Wc.block ?_
      refine Wc.seq ?_
      refine Wc.region ?_
      refine Wl.q (v := Value.pointer (some ⟨b, k * 2, none⟩)) (q_idx (m := k * 2) se_80 hE6_0 hE8_0 (by omega) (by omega) (by simp)) ?_
      refine Wl.q (v := Value.agg #[Value.int .i64 ((a : Nat) : Int), Value.string s]) (q_loadAgg (vs := [Value.int .i64 ((a : Nat) : Int), Value.string s]) ag_122 rfl (flat_has (i := 0) rfl hget)) ?_
      refine Wl.e (e_alloc (vs := [Value.int .i64 0, Value.string (⟨#[]⟩)]) zo_122 rfl) (fun b3 _ => ?_)
      refine Wl.imp (L' := (pt b3 122 ([Value.int .i64 0, Value.string (⟨#[]⟩)])) :: (slp 122 2 b cap (flat since)) :: (pt p 82 [Value.slice (some ⟨bs, 0, none⟩) secs.length secs.length, Value.slice (some ⟨b, 0, none⟩) since.length cap, Value.bool false, Value.int .i64 ((count : Nat) : Int), mv]) :: (pt bs 9 (ss.map Value.string)) :: (pt b1 33 [Value.pointer (some ⟨p, 0, none⟩)]) :: F) (fun _ h => h) ?_
      refine Wl.e (e_storeAgg (i := 0) (vs := [Value.int .i64 ((a : Nat) : Int), Value.string s]) (c' := [Value.int .i64 ((a : Nat) : Int), Value.string s]) sz_122 rfl rfl rfl rfl (by simp) rfl) (fun _ _ => ?_)
      refine Wl.imp (L' := (pt b3 122 [Value.int .i64 ((a : Nat) : Int), Value.string s]) :: (slp 122 2 b cap (flat since)) :: (pt p 82 [Value.slice (some ⟨bs, 0, none⟩) secs.length secs.length, Value.slice (some ⟨b, 0, none⟩) since.length cap, Value.bool false, Value.int .i64 ((count : Nat) : Int), mv]) :: (pt bs 9 (ss.map Value.string)) :: (pt b1 33 [Value.pointer (some ⟨p, 0, none⟩)]) :: F) (fun _ h => h) ?_
      refine Wl.done ?_
      refine Wx.go ?_
      refine Wc.drawsS [9] ((pt b3 122 [Value.int .i64 ((a : Nat) : Int), Value.string s]) :: (slp 122 2 b cap (flat since)) :: (pt p 82 [Value.slice (some ⟨bs, 0, none⟩) secs.length secs.length, Value.slice (some ⟨b, 0, none⟩) since.length cap, Value.bool false, Value.int .i64 ((count : Nat) : Int), mv]) :: (pt bs 9 (ss.map Value.string)) :: (pt b1 33 [Value.pointer (some ⟨p, 0, none⟩)]) :: []) (by kernel_rfl) ?_
      refine Wr.take (v := Value.pointer (some ⟨p, 0, none⟩)) 0 rfl (by kernel_rfl) (fun _ h => st_take [0, 0, 0, 0, 0] h) (.inl ⟨rfl, q_load sc_33 hE0_0 (.cel (i := 4) rfl rfl)⟩) ?_
      refine Wr.pure (v := Value.pointer (some ⟨p, 0, none⟩)) 1 rfl (by kernel_rfl) (.inr (fun _ h => st_take [0, 0, 0, 0, 0] h)) (.inl ⟨rfl, fun _ => q_nil_ptr rfl⟩) ?_
      refine Wr.pure (v := Value.pointer (some ⟨p, 0, none⟩)) 2 rfl (by kernel_rfl) (.inr (fun _ h => st_take [0, 0, 0, 0, 0] h)) (.inl ⟨rfl, fun _ => q_field (m := 0) fo_82_0 rfl rfl⟩) ?_
      refine Wr.take (v := Value.slice (some ⟨bs, 0, none⟩) secs.length secs.length) 3 rfl (by kernel_rfl) (fun _ h => st_take [0, 0, 0, 0, 0] h) (.inl ⟨rfl, q_load sc_50 rfl (.cel (i := 2) rfl rfl)⟩) ?_
      refine Wr.pure (v := Value.pointer (some ⟨b3, 0, none⟩)) 4 rfl (by kernel_rfl) (.inr (fun _ h => st_take [0, 0, 0, 0, 0] h)) (.inl ⟨rfl, fun _ => q_field (m := 0) fo_122_0 rfl rfl⟩) ?_
      refine Wr.take (v := Value.int .i64 ((a : Nat) : Int)) 5 rfl (by kernel_rfl) (fun _ h => st_take [0, 0, 0, 0, 0] h) (.inl ⟨rfl, q_load sc_3 rfl (.cel (i := 0) rfl rfl)⟩) ?_
      refine Wr.pure (v := Value.pointer (some ⟨b3, 1, none⟩)) 6 rfl (by kernel_rfl) (.inr (fun _ h => st_take [0, 0, 0, 0, 0] h)) (.inl ⟨rfl, fun _ => q_field (m := 1) fo_122_1 rfl rfl⟩) ?_
      refine Wr.take (v := Value.string s) 7 rfl (by kernel_rfl) (fun _ h => st_take [0, 0, 0, 0, 0] h) (.inl ⟨rfl, q_load sc_9 rfl (.cel (i := 0) rfl rfl)⟩) ?_
      refine Wr.pure (v := Value.pointer (some ⟨bs, a, none⟩)) 8 rfl (by kernel_rfl) (.inr (fun _ h => st_take [0, 0, 0, 0, 0] h)) (.inl ⟨rfl, fun _ => q_idx (m := a) se_50 rfl rfl (by omega) (by omega) (by simp)⟩) ?_
      refine Wr.e 9 (by kernel_rfl) rfl (e_store (i := 3) (v := Value.string s) sz_9 rfl rfl (fun _ _ => rfl) rfl (by simpa using ha)) (.inl (by kernel_rfl)) (fun _ _ => ?_)
      refine Wr.imp (L' := (pt b3 122 [Value.int .i64 ((a : Nat) : Int), Value.string s]) :: (slp 122 2 b cap (flat since)) :: (pt p 82 [Value.slice (some ⟨bs, 0, none⟩) secs.length secs.length, Value.slice (some ⟨b, 0, none⟩) since.length cap, Value.bool false, Value.int .i64 ((count : Nat) : Int), mv]) :: (pt bs 9 ((ss.set a s).map Value.string)) :: (pt b1 33 [Value.pointer (some ⟨p, 0, none⟩)]) :: F) (fun _ h => by rw [List.map_set]; exact h) ?_
      refine Wr.rebaseS [] ((pt b3 122 [Value.int .i64 ((a : Nat) : Int), Value.string s]) :: (slp 122 2 b cap (flat since)) :: (pt p 82 [Value.slice (some ⟨bs, 0, none⟩) secs.length secs.length, Value.slice (some ⟨b, 0, none⟩) since.length cap, Value.bool false, Value.int .i64 ((count : Nat) : Int), mv]) :: (pt bs 9 ((ss.set a s).map Value.string)) :: (pt b1 33 [Value.pointer (some ⟨p, 0, none⟩)]) :: []) (by kernel_rfl) ?_
      refine Wr.done (by kernel_rfl) ?_
      refine Wx.blockEnd ?_
      refine Wx.go ?_
      refine Wc.region ?_
      refine Wl.q (v := Value.int .i64 ((k + 1 : Nat) : Int)) (q_add (c := ((k + 1 : Nat) : Int)) hE8_0 rfl (by rw [wrap_i64] <;> omega)) ?_
      refine Wl.q (v := Value.int .i64 ((k + 1 : Nat) : Int)) (q_move rfl) ?_
      refine Wl.done ?_
      refine Wx.at (k + 1, ss.set a s) ⟨(by simp only; omega), rfl, hE0_0, hE6_0, hE7_0, (by rw [← hp0, sync_step hget]), (by simpa using hp1), (by omega)⟩ (fun w hs => st_drop hs)
    ·
      refine Wl.q (v := Value.bool false) (q_lss (r := false) hE8_0 hE7_0 (decide_eq_false hlt)) ?_
      refine Wl.done ?_
      refine Wx.go ?_
      refine Wc.seq ?_
      refine Wc.no rfl ?_
      refine Wc.exit ?_
      refine Wx.thenExit ?_
      refine Wx.thenExit ?_
      refine Wx.out ?_
      refine Wx.go ?_
      refine Wc.region ?_
      refine Wl.q (v := Value.pointer (some ⟨p, 0, none⟩)) (q_load sc_33 hE0_0 (.cel (i := 3) rfl rfl)) ?_
      refine Wl.q (v := Value.pointer (some ⟨p, 0, none⟩)) (q_nil_ptr rfl) ?_
      refine Wl.q (v := Value.pointer (some ⟨p, 1, none⟩)) (q_field (m := 1) fo_82_1 rfl rfl) ?_
      refine Wl.e (e_store (i := 1) (v := Value.slice none 0 0) sz_80 rfl rfl (fun _ _ => rfl) rfl (by simp)) (fun _ _ => ?_)
      refine Wl.imp (L' := (slp 122 2 b cap (flat since)) :: (pt p 82 [Value.slice (some ⟨bs, 0, none⟩) secs.length secs.length, Value.slice none 0 0, Value.bool false, Value.int .i64 ((count : Nat) : Int), mv]) :: (pt bs 9 (ss.map Value.string)) :: (pt b1 33 [Value.pointer (some ⟨p, 0, none⟩)]) :: F) (fun _ h => h) ?_
      refine Wl.done ?_
      refine Wx.fin0 rfl (.inr rfl) (fun w hs => ?_)
      have hend : k = since.length := by omega
      rw [hend, List.drop_length] at hp0
      simp only [syncL] at hp0
      rw [← hp0]
      exact ⟨(), trivial, rfl, st_drop hs⟩

theorem sync1_nil (W0 : World) (p bs : Nat) (secs : List ByteArray) (since : List (Nat × ByteArray)) (count : Nat) (mv : Value) (b1 : Nat) (hw : WFl secs since) (hsince : since.length < 1099511627776) (hnil : since = []) :
    Con Tryz.prog W0 120 #[Value.pointer (some ⟨b1, 0, none⟩)] [pt p 82 [Value.slice (some ⟨bs, 0, none⟩) secs.length secs.length, Value.slice none 0 0, Value.bool false, Value.int .i64 ((count : Nat) : Int), mv], pt bs 9 (secs.map Value.string), pt b1 33 [Value.pointer (some ⟨p, 0, none⟩)]] (X := Unit) (fun _ => True) (fun _ => .tuple #[]) (fun _ => [pt p 82 [Value.slice (some ⟨bs, 0, none⟩) secs.length secs.length, Value.slice none 0 0, Value.bool false, Value.int .i64 ((count : Nat) : Int), mv], pt bs 9 ((syncL secs since).map Value.string), pt b1 33 [Value.pointer (some ⟨p, 0, none⟩)]]) := by
  refine Con.of (args := [Value.pointer (some ⟨b1, 0, none⟩)]) Tryz.func120 rfl Tryz.ntmps120 rfl (fun F => ?_)
  show Wc _ W0 _ _ _ _ _ ((pt p 82 [Value.slice (some ⟨bs, 0, none⟩) secs.length secs.length, Value.slice none 0 0, Value.bool false, Value.int .i64 ((count : Nat) : Int), mv]) :: (pt bs 9 (secs.map Value.string)) :: (pt b1 33 [Value.pointer (some ⟨p, 0, none⟩)]) :: F)
  refine Wc.seq ?_
  refine Wc.seq ?_
  refine Wc.region ?_
  refine Wl.q (v := Value.pointer (some ⟨p, 0, none⟩)) (q_load sc_33 rfl (.cel (i := 2) rfl rfl)) ?_
  refine Wl.q (v := Value.pointer (some ⟨p, 0, none⟩)) (q_nil_ptr rfl) ?_
  refine Wl.q (v := Value.pointer (some ⟨p, 1, none⟩)) (q_field (m := 1) fo_82_1 rfl rfl) ?_
  refine Wl.q (v := Value.slice none 0 0) (q_load sc_80 rfl (.cel (i := 0) rfl rfl)) ?_
  refine Wl.q (v := Value.int .i64 0) (q_len_slice Tryz.underlying80 rfl) ?_
  refine Wl.q (v := Value.int .i64 0) (q_move rfl) ?_
  refine Wl.done ?_
  refine Wx.go ?_
  refine Wc.block ?_
  refine Wc.loop (X := Nat × List ByteArray) (fun (k, ss) E => E 8 = Value.int .i64 ((k : Nat) : Int) ∧ E 0 = Value.pointer (some ⟨b1, 0, none⟩) ∧ E 6 = Value.slice none 0 0 ∧ E 7 = Value.int .i64 0 ∧ syncL ss (since.drop k) = syncL secs since ∧ ss.length = secs.length ∧ k ≤ since.length) (fun (k, ss) => (pt p 82 [Value.slice (some ⟨bs, 0, none⟩) secs.length secs.length, Value.slice none 0 0, Value.bool false, Value.int .i64 ((count : Nat) : Int), mv]) :: (pt bs 9 (ss.map Value.string)) :: (pt b1 33 [Value.pointer (some ⟨p, 0, none⟩)]) :: F) (fun (k, ss) => since.length - k) (0, secs) ?_ ?_ ?_
  · exact ⟨rfl, rfl, rfl, rfl, rfl, rfl, (by omega)⟩
  · exact fun w hs => hs
  · rintro ⟨k, ss⟩ E2 ⟨hE8_0, hE0_0, hE6_0, hE7_0, hp0, hp1, hp3⟩
    dsimp only at *
    have hsl : since.length = 0 := by rw [hnil]; rfl
    refine Wc.seq ?_
    refine Wc.region ?_
    by_cases hlt : ((k : Nat) : Int) < 0
    ·
      exfalso; omega
    ·
      refine Wl.q (v := Value.bool false) (q_lss (r := false) hE8_0 hE7_0 (decide_eq_false hlt)) ?_
      refine Wl.done ?_
      refine Wx.go ?_
      refine Wc.seq ?_
      refine Wc.no rfl ?_
      refine Wc.exit ?_
      refine Wx.thenExit ?_
      refine Wx.thenExit ?_
      refine Wx.out ?_
      refine Wx.go ?_
      refine Wc.region ?_
      refine Wl.q (v := Value.pointer (some ⟨p, 0, none⟩)) (q_load sc_33 hE0_0 (.cel (i := 2) rfl rfl)) ?_
      refine Wl.q (v := Value.pointer (some ⟨p, 0, none⟩)) (q_nil_ptr rfl) ?_
      refine Wl.q (v := Value.pointer (some ⟨p, 1, none⟩)) (q_field (m := 1) fo_82_1 rfl rfl) ?_
      refine Wl.e (e_store (i := 0) (v := Value.slice none 0 0) sz_80 rfl rfl (fun _ _ => rfl) rfl (by simp)) (fun _ _ => ?_)
      refine Wl.imp (L' := (pt p 82 [Value.slice (some ⟨bs, 0, none⟩) secs.length secs.length, Value.slice none 0 0, Value.bool false, Value.int .i64 ((count : Nat) : Int), mv]) :: (pt bs 9 (ss.map Value.string)) :: (pt b1 33 [Value.pointer (some ⟨p, 0, none⟩)]) :: F) (fun _ h => h) ?_
      refine Wl.done ?_
      refine Wx.fin0 rfl (.inr rfl) (fun w hs => ?_)
      have hend : k = since.length := by omega
      rw [hend, List.drop_length] at hp0
      simp only [syncL] at hp0
      rw [← hp0]
      exact ⟨(), trivial, rfl, hs⟩

theorem sync1_c (W0 : World) (p bs : Nat) (secs : List ByteArray) (since : List (Nat × ByteArray)) (count : Nat) (mv : Value) (b1 : Nat) (hw : WFl secs since) (hsince : since.length < 1099511627776) (sv : Value) :
  Con Tryz.prog W0 120 #[Value.pointer (some ⟨b1, 0, none⟩)] [sl 122 2 sv since.length (flat since), pt p 82 [Value.slice (some ⟨bs, 0, none⟩) secs.length secs.length, sv, Value.bool false, Value.int .i64 ((count : Nat) : Int), mv], pt bs 9 (secs.map Value.string), pt b1 33 [Value.pointer (some ⟨p, 0, none⟩)]] (X := Unit) (fun _ => True) (fun _ => .tuple #[]) (fun _ => [pt p 82 [Value.slice (some ⟨bs, 0, none⟩) secs.length secs.length, Value.slice none 0 0, Value.bool false, Value.int .i64 ((count : Nat) : Int), mv], pt bs 9 ((syncL secs since).map Value.string), pt b1 33 [Value.pointer (some ⟨p, 0, none⟩)]]) := by
 refine Con.sl (fun e1 e2 e3 => ?_) (fun b cap e1 e2 e3 => ?_)
 · subst e1; exact sync1_nil W0 p bs secs since count mv b1 hw hsince (List.eq_nil_of_length_eq_zero e2)
 · subst e1; exact sync1_blk W0 p bs secs since count mv b1 hw hsince b cap e2

theorem up_up (W0 : World) (p : Nat) (secs : List ByteArray) (since : List (Nat × ByteArray)) (count : Nat) (cut : Option (Nat × Int)) :
  Con Tryz.prog W0 29 #[Value.pointer (some ⟨p, 0, none⟩)] [isDisk p (⟨secs, since, false, count, cut⟩ : DS)] (X := Unit) (fun _ => True) (fun _ => Value.bool true) (fun _ => [isDisk p (⟨secs, since, false, count, cut⟩ : DS)]) := by
 refine Con.disk (fun bs sv fn us vs => ?_)
 refine Con.of (args := [Value.pointer (some ⟨p, 0, none⟩)]) Tryz.func29 rfl Tryz.ntmps29 rfl (fun F => ?_)
 show Wc _ W0 _ _ _ _ _ ((pt p 82 [Value.slice (some ⟨bs, 0, none⟩) secs.length secs.length, sv, Value.bool false, Value.int .i64 ((count : Nat) : Int), .func fn us vs]) :: (pt bs 9 (secs.map Value.string)) :: (sl 122 2 sv since.length (flat since)) :: (mayR p (Value.func fn us vs) cut) :: F)
 refine Wc.seq ?_
 refine Wc.region ?_
 refine Wl.q (v := Value.bool false) (q_assign rfl) ?_
 refine Wl.done ?_
 refine Wx.go ?_
 refine Wc.seq ?_
 refine Wc.region ?_
 refine Wl.q (v := Value.pointer (some ⟨p, 0, none⟩)) (q_move rfl) ?_
 refine Wl.e (e_call (F := (pt bs 9 (secs.map Value.string)) :: (sl 122 2 sv since.length (flat since)) :: (mayR p (Value.func fn us vs) cut) :: F) (args := [Value.pointer (some ⟨p, 0, none⟩)]) Tryz.call58 rfl (there_yes W0 p (Value.slice (some ⟨bs, 0, none⟩) secs.length secs.length) (sv) (Value.bool false) (Value.int .i64 ((count : Nat) : Int)) fn us vs)) (fun _ _ => ?_)
 refine Wl.imp (L' := (pt p 82 [Value.slice (some ⟨bs, 0, none⟩) secs.length secs.length, sv, Value.bool false, Value.int .i64 ((count : Nat) : Int), .func fn us vs]) :: (pt bs 9 (secs.map Value.string)) :: (sl 122 2 sv since.length (flat since)) :: (mayR p (Value.func fn us vs) cut) :: F) (fun _ h => h) ?_
 refine Wl.q (v := Value.bool true) (q_move rfl) ?_
 refine Wl.q (v := Value.pointer (some ⟨p, 0, none⟩)) (q_move rfl) ?_
 refine Wl.q (v := Value.pointer (some ⟨p, 0, none⟩)) (q_nil_ptr rfl) ?_
 refine Wl.q (v := Value.pointer (some ⟨p, 2, none⟩)) (q_field (m := 2) fo_82_2 rfl rfl) ?_
 refine Wl.q (v := Value.bool false) (q_load sc_4 rfl (.cel (i := 0) rfl rfl)) ?_
 refine Wl.q (v := Value.bool true) (q_not rfl rfl) ?_
 refine Wl.q (v := Value.bool true) (q_pick (t := true) rfl rfl) ?_
 refine Wl.q (v := Value.bool true) (q_assign rfl) ?_
 refine Wl.done ?_
 refine Wx.go ?_
 refine Wc.ret ?_
 refine Wx.fin1 rfl (.inl rfl) (fun w hs => ?_)
 exact ⟨(), trivial, rfl, isDisk_mk rfl hs⟩

theorem up_down (W0 : World) (p : Nat) (secs : List ByteArray) (since : List (Nat × ByteArray)) (count : Nat) (cut : Option (Nat × Int)) :
  Con Tryz.prog W0 29 #[Value.pointer (some ⟨p, 0, none⟩)] [isDisk p (⟨secs, since, true, count, cut⟩ : DS)] (X := Unit) (fun _ => True) (fun _ => Value.bool false) (fun _ => [isDisk p (⟨secs, since, true, count, cut⟩ : DS)]) := by
 refine Con.disk (fun bs sv fn us vs => ?_)
 refine Con.of (args := [Value.pointer (some ⟨p, 0, none⟩)]) Tryz.func29 rfl Tryz.ntmps29 rfl (fun F => ?_)
 show Wc _ W0 _ _ _ _ _ ((pt p 82 [Value.slice (some ⟨bs, 0, none⟩) secs.length secs.length, sv, Value.bool true, Value.int .i64 ((count : Nat) : Int), .func fn us vs]) :: (pt bs 9 (secs.map Value.string)) :: (sl 122 2 sv since.length (flat since)) :: (mayR p (Value.func fn us vs) cut) :: F)
 refine Wc.seq ?_
 refine Wc.region ?_
 refine Wl.q (v := Value.bool false) (q_assign rfl) ?_
 refine Wl.done ?_
 refine Wx.go ?_
 refine Wc.seq ?_
 refine Wc.region ?_
 refine Wl.q (v := Value.pointer (some ⟨p, 0, none⟩)) (q_move rfl) ?_
 refine Wl.e (e_call (F := (pt bs 9 (secs.map Value.string)) :: (sl 122 2 sv since.length (flat since)) :: (mayR p (Value.func fn us vs) cut) :: F) (args := [Value.pointer (some ⟨p, 0, none⟩)]) Tryz.call58 rfl (there_yes W0 p (Value.slice (some ⟨bs, 0, none⟩) secs.length secs.length) (sv) (Value.bool true) (Value.int .i64 ((count : Nat) : Int)) fn us vs)) (fun _ _ => ?_)
 refine Wl.imp (L' := (pt p 82 [Value.slice (some ⟨bs, 0, none⟩) secs.length secs.length, sv, Value.bool true, Value.int .i64 ((count : Nat) : Int), .func fn us vs]) :: (pt bs 9 (secs.map Value.string)) :: (sl 122 2 sv since.length (flat since)) :: (mayR p (Value.func fn us vs) cut) :: F) (fun _ h => h) ?_
 refine Wl.q (v := Value.bool true) (q_move rfl) ?_
 refine Wl.q (v := Value.pointer (some ⟨p, 0, none⟩)) (q_move rfl) ?_
 refine Wl.q (v := Value.pointer (some ⟨p, 0, none⟩)) (q_nil_ptr rfl) ?_
 refine Wl.q (v := Value.pointer (some ⟨p, 2, none⟩)) (q_field (m := 2) fo_82_2 rfl rfl) ?_
 refine Wl.q (v := Value.bool true) (q_load sc_4 rfl (.cel (i := 0) rfl rfl)) ?_
 refine Wl.q (v := Value.bool false) (q_not rfl rfl) ?_
 refine Wl.q (v := Value.bool false) (q_pick (t := true) rfl rfl) ?_
 refine Wl.q (v := Value.bool false) (q_assign rfl) ?_
 refine Wl.done ?_
 refine Wx.go ?_
 refine Wc.ret ?_
 refine Wx.fin1 rfl (.inl rfl) (fun w hs => ?_)
 exact ⟨(), trivial, rfl, isDisk_mk rfl hs⟩





theorem len_down (W0 : World) (p : Nat) (secs : List ByteArray) (since : List (Nat × ByteArray)) (count : Nat) (cut : Option (Nat × Int)) :
  Con Tryz.prog W0 73 #[Value.pointer (some ⟨p, 0, none⟩)] [isDisk p (⟨secs, since, true, count, cut⟩ : DS)] (X := Unit) (fun _ => True) (fun _ => Value.int .i64 (secs.length : Int)) (fun _ => [isDisk p (⟨secs, since, true, count, cut⟩ : DS)]) := by
 refine Con.disk (fun bs sv fn us vs => ?_)
 refine Con.of (args := [Value.pointer (some ⟨p, 0, none⟩)]) Tryz.func73 rfl Tryz.ntmps73 rfl (fun F => ?_)
 show Wc _ W0 _ _ _ _ _ ((pt p 82 [Value.slice (some ⟨bs, 0, none⟩) secs.length secs.length, sv, Value.bool true, Value.int .i64 ((count : Nat) : Int), .func fn us vs]) :: (pt bs 9 (secs.map Value.string)) :: (sl 122 2 sv since.length (flat since)) :: (mayR p (Value.func fn us vs) cut) :: F)
 refine Wc.seq ?_
 refine Wc.region ?_
 refine Wl.q (v := Value.int .i64 0) (q_assign rfl) ?_
 refine Wl.done ?_
 refine Wx.go ?_
 refine Wc.seq ?_
 refine Wc.seq ?_
 refine Wc.region ?_
 refine Wl.q (v := Value.pointer (some ⟨p, 0, none⟩)) (q_move rfl) ?_
 refine Wl.e (e_call (F := (pt bs 9 (secs.map Value.string)) :: (sl 122 2 sv since.length (flat since)) :: (mayR p (Value.func fn us vs) cut) :: F) (args := [Value.pointer (some ⟨p, 0, none⟩)]) Tryz.call58 rfl (there_yes W0 p (Value.slice (some ⟨bs, 0, none⟩) secs.length secs.length) (sv) (Value.bool true) (Value.int .i64 ((count : Nat) : Int)) fn us vs)) (fun _ _ => ?_)
 refine Wl.imp (L' := (pt p 82 [Value.slice (some ⟨bs, 0, none⟩) secs.length secs.length, sv, Value.bool true, Value.int .i64 ((count : Nat) : Int), .func fn us vs]) :: (pt bs 9 (secs.map Value.string)) :: (sl 122 2 sv since.length (flat since)) :: (mayR p (Value.func fn us vs) cut) :: F) (fun _ h => h) ?_
 refine Wl.q (v := Value.bool false) (q_not rfl rfl) ?_
 refine Wl.done ?_
 refine Wx.go ?_
 refine Wc.no rfl ?_
 refine Wc.skip ?_
 refine Wx.go ?_
 refine Wc.seq ?_
 refine Wc.region ?_
 refine Wl.q (v := Value.pointer (some ⟨p, 0, none⟩)) (q_move rfl) ?_
 refine Wl.q (v := Value.pointer (some ⟨p, 0, none⟩)) (q_nil_ptr rfl) ?_
 refine Wl.q (v := Value.pointer (some ⟨p, 0, none⟩)) (q_field (m := 0) fo_82_0 rfl rfl) ?_
 refine Wl.q (v := Value.slice (some ⟨bs, 0, none⟩) secs.length secs.length) (q_load sc_50 rfl (.cel (i := 0) rfl rfl)) ?_
 refine Wl.q (v := Value.int .i64 ((secs.length : Nat) : Int)) (q_len_slice Tryz.underlying50 rfl) ?_
 refine Wl.q (v := Value.int .i64 ((secs.length : Nat) : Int)) (q_assign rfl) ?_
 refine Wl.done ?_
 refine Wx.go ?_
 refine Wc.ret ?_
 refine Wx.fin1 rfl (.inl rfl) (fun w hs => ?_)
 exact ⟨(), trivial, rfl, isDisk_mk rfl hs⟩

theorem len_up (W0 : World) (p : Nat) (secs : List ByteArray) (since : List (Nat × ByteArray)) (count : Nat) (cut : Option (Nat × Int)) :
  Con Tryz.prog W0 73 #[Value.pointer (some ⟨p, 0, none⟩)] [isDisk p (⟨secs, since, false, count, cut⟩ : DS)] (X := Unit) (fun _ => True) (fun _ => Value.int .i64 (secs.length : Int)) (fun _ => [isDisk p (⟨secs, since, false, count, cut⟩ : DS)]) := by
 refine Con.disk (fun bs sv fn us vs => ?_)
 refine Con.of (args := [Value.pointer (some ⟨p, 0, none⟩)]) Tryz.func73 rfl Tryz.ntmps73 rfl (fun F => ?_)
 show Wc _ W0 _ _ _ _ _ ((pt p 82 [Value.slice (some ⟨bs, 0, none⟩) secs.length secs.length, sv, Value.bool false, Value.int .i64 ((count : Nat) : Int), .func fn us vs]) :: (pt bs 9 (secs.map Value.string)) :: (sl 122 2 sv since.length (flat since)) :: (mayR p (Value.func fn us vs) cut) :: F)
 refine Wc.seq ?_
 refine Wc.region ?_
 refine Wl.q (v := Value.int .i64 0) (q_assign rfl) ?_
 refine Wl.done ?_
 refine Wx.go ?_
 refine Wc.seq ?_
 refine Wc.seq ?_
 refine Wc.region ?_
 refine Wl.q (v := Value.pointer (some ⟨p, 0, none⟩)) (q_move rfl) ?_
 refine Wl.e (e_call (F := (pt bs 9 (secs.map Value.string)) :: (sl 122 2 sv since.length (flat since)) :: (mayR p (Value.func fn us vs) cut) :: F) (args := [Value.pointer (some ⟨p, 0, none⟩)]) Tryz.call58 rfl (there_yes W0 p (Value.slice (some ⟨bs, 0, none⟩) secs.length secs.length) (sv) (Value.bool false) (Value.int .i64 ((count : Nat) : Int)) fn us vs)) (fun _ _ => ?_)
 refine Wl.imp (L' := (pt p 82 [Value.slice (some ⟨bs, 0, none⟩) secs.length secs.length, sv, Value.bool false, Value.int .i64 ((count : Nat) : Int), .func fn us vs]) :: (pt bs 9 (secs.map Value.string)) :: (sl 122 2 sv since.length (flat since)) :: (mayR p (Value.func fn us vs) cut) :: F) (fun _ h => h) ?_
 refine Wl.q (v := Value.bool false) (q_not rfl rfl) ?_
 refine Wl.done ?_
 refine Wx.go ?_
 refine Wc.no rfl ?_
 refine Wc.skip ?_
 refine Wx.go ?_
 refine Wc.seq ?_
 refine Wc.region ?_
 refine Wl.q (v := Value.pointer (some ⟨p, 0, none⟩)) (q_move rfl) ?_
 refine Wl.q (v := Value.pointer (some ⟨p, 0, none⟩)) (q_nil_ptr rfl) ?_
 refine Wl.q (v := Value.pointer (some ⟨p, 0, none⟩)) (q_field (m := 0) fo_82_0 rfl rfl) ?_
 refine Wl.q (v := Value.slice (some ⟨bs, 0, none⟩) secs.length secs.length) (q_load sc_50 rfl (.cel (i := 0) rfl rfl)) ?_
 refine Wl.q (v := Value.int .i64 ((secs.length : Nat) : Int)) (q_len_slice Tryz.underlying50 rfl) ?_
 refine Wl.q (v := Value.int .i64 ((secs.length : Nat) : Int)) (q_assign rfl) ?_
 refine Wl.done ?_
 refine Wx.go ?_
 refine Wc.ret ?_
 refine Wx.fin1 rfl (.inl rfl) (fun w hs => ?_)
 exact ⟨(), trivial, rfl, isDisk_mk rfl hs⟩

theorem up_c (W0 : World) (p : Nat) (d : DS) :
  Con Tryz.prog W0 29 #[Value.pointer (some ⟨p, 0, none⟩)] [isDisk p d] (X := Unit) (fun _ => True) (fun _ => Value.bool (!d.down)) (fun _ => [isDisk p d]) := by
 obtain ⟨secs, since, down, count, cut⟩ := d
 cases down
 · exact up_up W0 p secs since count cut
 · exact up_down W0 p secs since count cut



theorem len_c (W0 : World) (p : Nat) (d : DS) :
  Con Tryz.prog W0 73 #[Value.pointer (some ⟨p, 0, none⟩)] [isDisk p d] (X := Unit) (fun _ => True) (fun _ => Value.int .i64 (d.secs.length : Int)) (fun _ => [isDisk p d]) := by
 obtain ⟨secs, since, down, count, cut⟩ := d
 cases down
 · exact len_up W0 p secs since count cut
 · exact len_down W0 p secs since count cut

theorem write1_g (W0 : World) (p bs : Nat) (secs : List ByteArray) (since : List (Nat × ByteArray)) (hsince : since.length < 1099511627776) (count : Nat) (mv sv : Value) (b3 b4 b5 a : Nat) (s : ByteArray) :
  Con Tryz.prog W0 119 #[Value.pointer (some ⟨b3, 0, none⟩), Value.pointer (some ⟨b4, 0, none⟩), Value.pointer (some ⟨b5, 0, none⟩)] [pt p 82 [Value.slice (some ⟨bs, 0, none⟩) secs.length secs.length, sv, Value.bool false, Value.int .i64 ((count : Nat) : Int), mv], grp [sl 122 2 sv since.length (flat since), pt b3 33 [Value.pointer (some ⟨p, 0, none⟩)], pt b4 3 [Value.int .i64 ((a : Nat) : Int)], pt b5 9 [Value.string s]]] (X := Value) (fun _ => True) (fun _ => .tuple #[]) (fun v2 => [pt p 82 [Value.slice (some ⟨bs, 0, none⟩) secs.length secs.length, v2, Value.bool false, Value.int .i64 ((count : Nat) : Int), mv], sl 122 2 v2 ((since ++ [(a, s)]).length) (flat (since ++ [(a, s)])), pt b3 33 [Value.pointer (some ⟨p, 0, none⟩)], pt b4 3 [Value.int .i64 ((a : Nat) : Int)], pt b5 9 [Value.string s]]) :=
 Con.grpAt (write1 W0 p bs secs since hsince count mv sv b3 b4 b5 a s)

theorem sync1_g (W0 : World) (p bs : Nat) (secs : List ByteArray) (since : List (Nat × ByteArray)) (count : Nat) (mv : Value) (b1 : Nat) (hw : WFl secs since) (hsince : since.length < 1099511627776) (sv : Value) :
  Con Tryz.prog W0 120 #[Value.pointer (some ⟨b1, 0, none⟩)] [pt p 82 [Value.slice (some ⟨bs, 0, none⟩) secs.length secs.length, sv, Value.bool false, Value.int .i64 ((count : Nat) : Int), mv], grp [sl 122 2 sv since.length (flat since), pt bs 9 (secs.map Value.string), pt b1 33 [Value.pointer (some ⟨p, 0, none⟩)]]] (X := Unit) (fun _ => True) (fun _ => .tuple #[]) (fun _ => [pt p 82 [Value.slice (some ⟨bs, 0, none⟩) secs.length secs.length, Value.slice none 0 0, Value.bool false, Value.int .i64 ((count : Nat) : Int), mv], pt bs 9 ((syncL secs since).map Value.string), pt b1 33 [Value.pointer (some ⟨p, 0, none⟩)]]) :=
 Con.grpAt (Con.pull [1] (fun _ => rfl) (sync1_c W0 p bs secs since count mv b1 hw hsince sv))

theorem write_down (W0 : World) (p : Nat) (secs : List ByteArray) (since : List (Nat × ByteArray)) (count : Nat) (cut : Option (Nat × Int)) (at_ : Int) (s : ByteArray) :
  Con Tryz.prog W0 100 #[Value.pointer (some ⟨p, 0, none⟩), Value.int .i64 at_, Value.string s] [isDisk p (⟨secs, since, true, count, cut⟩ : DS)] (X := Unit) (fun _ => True) (fun _ => Value.int .i64 (DS.write (⟨secs, since, true, count, cut⟩ : DS) at_ s).1) (fun _ => [isDisk p (DS.write (⟨secs, since, true, count, cut⟩ : DS) at_ s).2]) := by
 refine Con.disk (fun bs sv fn us vs => ?_)
 refine Con.of (args := [Value.pointer (some ⟨p, 0, none⟩), Value.int .i64 at_, Value.string s]) Tryz.func100 rfl Tryz.ntmps100 rfl (fun F => ?_)
 show Wc _ W0 _ _ _ _ _ ((pt p 82 [Value.slice (some ⟨bs, 0, none⟩) secs.length secs.length, sv, Value.bool true, Value.int .i64 ((count : Nat) : Int), .func fn us vs]) :: (pt bs 9 (secs.map Value.string)) :: (sl 122 2 sv since.length (flat since)) :: (mayR p (Value.func fn us vs) cut) :: F)
 refine Wc.seq ?_
 refine Wc.region ?_
 refine Wl.e (e_box (x := .tmp 0) (vs := [Value.pointer (some ⟨p, 0, none⟩)]) rfl) (fun b3 _ => ?_)
 refine Wl.imp (L' := (pt b3 33 [Value.pointer (some ⟨p, 0, none⟩)]) :: (pt p 82 [Value.slice (some ⟨bs, 0, none⟩) secs.length secs.length, sv, Value.bool true, Value.int .i64 ((count : Nat) : Int), .func fn us vs]) :: (pt bs 9 (secs.map Value.string)) :: (sl 122 2 sv since.length (flat since)) :: (mayR p (Value.func fn us vs) cut) :: F) (fun _ h => h) ?_
 refine Wl.e (e_box (x := .tmp 1) (vs := [Value.int .i64 at_]) rfl) (fun b4 _ => ?_)
 refine Wl.imp (L' := (pt b4 3 [Value.int .i64 at_]) :: (pt b3 33 [Value.pointer (some ⟨p, 0, none⟩)]) :: (pt p 82 [Value.slice (some ⟨bs, 0, none⟩) secs.length secs.length, sv, Value.bool true, Value.int .i64 ((count : Nat) : Int), .func fn us vs]) :: (pt bs 9 (secs.map Value.string)) :: (sl 122 2 sv since.length (flat since)) :: (mayR p (Value.func fn us vs) cut) :: F) (fun _ h => h) ?_
 refine Wl.e (e_box (x := .tmp 2) (vs := [Value.string s]) rfl) (fun b5 _ => ?_)
 refine Wl.imp (L' := (pt b5 9 [Value.string s]) :: (pt b4 3 [Value.int .i64 at_]) :: (pt b3 33 [Value.pointer (some ⟨p, 0, none⟩)]) :: (pt p 82 [Value.slice (some ⟨bs, 0, none⟩) secs.length secs.length, sv, Value.bool true, Value.int .i64 ((count : Nat) : Int), .func fn us vs]) :: (pt bs 9 (secs.map Value.string)) :: (sl 122 2 sv since.length (flat since)) :: (mayR p (Value.func fn us vs) cut) :: F) (fun _ h => h) ?_
 refine Wl.q (v := Value.int .i64 0) (q_assign rfl) ?_
 refine Wl.done ?_
 refine Wx.go ?_
 refine Wc.seq ?_
 refine Wc.seq ?_
 refine Wc.region ?_
 refine Wl.q (v := Value.pointer (some ⟨p, 0, none⟩)) (q_load sc_33 rfl (.cel (i := 2) rfl rfl)) ?_
 refine Wl.imp (L' := (pt p 82 [Value.slice (some ⟨bs, 0, none⟩) secs.length secs.length, sv, Value.bool true, Value.int .i64 ((count : Nat) : Int), .func fn us vs]) :: (pt b5 9 [Value.string s]) :: (pt b4 3 [Value.int .i64 at_]) :: (pt b3 33 [Value.pointer (some ⟨p, 0, none⟩)]) :: (pt bs 9 (secs.map Value.string)) :: (sl 122 2 sv since.length (flat since)) :: (mayR p (Value.func fn us vs) cut) :: F) (fun _ h => st_pull [3] h) ?_
 refine Wl.e (e_call (F := (pt b5 9 [Value.string s]) :: (pt b4 3 [Value.int .i64 at_]) :: (pt b3 33 [Value.pointer (some ⟨p, 0, none⟩)]) :: (pt bs 9 (secs.map Value.string)) :: (sl 122 2 sv since.length (flat since)) :: (mayR p (Value.func fn us vs) cut) :: F) (args := [Value.pointer (some ⟨p, 0, none⟩)]) Tryz.call56 rfl (state_down W0 p (Value.slice (some ⟨bs, 0, none⟩) secs.length secs.length) (sv) (Value.int .i64 ((count : Nat) : Int)) fn us vs)) (fun _ _ => ?_)
 refine Wl.imp (L' := (pt p 82 [Value.slice (some ⟨bs, 0, none⟩) secs.length secs.length, sv, Value.bool true, Value.int .i64 ((count : Nat) : Int), .func fn us vs]) :: (pt b5 9 [Value.string s]) :: (pt b4 3 [Value.int .i64 at_]) :: (pt b3 33 [Value.pointer (some ⟨p, 0, none⟩)]) :: (pt bs 9 (secs.map Value.string)) :: (sl 122 2 sv since.length (flat since)) :: (mayR p (Value.func fn us vs) cut) :: F) (fun _ h => h) ?_
 refine Wl.q (v := Value.int .i64 6) (q_assign rfl) ?_
 refine Wl.done ?_
 refine Wx.go ?_
 refine Wc.seq ?_
 refine Wc.region ?_
 refine Wl.q (v := Value.int .i64 6) (q_move rfl) ?_
 refine Wl.q (v := Value.bool true) (q_neq (r := false) rfl rfl (decide_eq_false (by decide))) ?_
 refine Wl.done ?_
 refine Wx.go ?_
 refine Wc.yes rfl ?_
 refine Wc.seq ?_
 refine Wc.region ?_
 refine Wl.q (v := Value.int .i64 6) (q_move rfl) ?_
 refine Wl.q (v := Value.int .i64 6) (q_assign rfl) ?_
 refine Wl.done ?_
 refine Wx.go ?_
 refine Wc.ret ?_
 refine Wx.thenRet ?_
 refine Wx.fin1 rfl (.inl rfl) (fun w hs => ?_)
 have e : DS.write ⟨secs, since, true, count, cut⟩ at_ s = (6, ⟨secs, since, true, count, cut⟩) := rfl
 rw [e]
 exact ⟨(), trivial, rfl, isDisk_mk rfl (st_drop (st_drop (st_drop (st_pull [1, 1, 1] hs))))⟩

theorem write_alw (W0 : World) (p : Nat) (secs : List ByteArray) (since : List (Nat × ByteArray)) (count : Nat) (at_ : Int) (s : ByteArray) (hw : WFl secs since) (hsince : since.length < 1099511627776) (hcount : count < 4611686018427387904) :
  Con Tryz.prog W0 100 #[Value.pointer (some ⟨p, 0, none⟩), Value.int .i64 at_, Value.string s] [isDisk p (⟨secs, since, false, count, none⟩ : DS)] (X := Unit) (fun _ => True) (fun _ => Value.int .i64 (DS.write (⟨secs, since, false, count, none⟩ : DS) at_ s).1) (fun _ => [isDisk p (DS.write (⟨secs, since, false, count, none⟩ : DS) at_ s).2]) := by
 refine Con.alw rfl (fun bs sv => ?_)
 refine Con.of (args := [Value.pointer (some ⟨p, 0, none⟩), Value.int .i64 at_, Value.string s]) Tryz.func100 rfl Tryz.ntmps100 rfl (fun F => ?_)
 show Wc _ W0 _ _ _ _ _ ((pt p 82 ([Value.slice (some ⟨bs, 0, none⟩) secs.length secs.length, sv, Value.bool false, Value.int .i64 ((count : Nat) : Int), Value.func (.func 47) #[Value.pointer (some ⟨p, 0, none⟩)] #[]])) :: (pt bs 9 (secs.map Value.string)) :: (sl 122 2 sv since.length (flat since)) :: F)
 refine Wc.seq ?_
 refine Wc.region ?_
 refine Wl.e (e_box (x := .tmp 0) (vs := [Value.pointer (some ⟨p, 0, none⟩)]) rfl) (fun b3 _ => ?_)
 refine Wl.imp (L' := (pt b3 33 [Value.pointer (some ⟨p, 0, none⟩)]) :: (pt p 82 ([Value.slice (some ⟨bs, 0, none⟩) secs.length secs.length, sv, Value.bool false, Value.int .i64 ((count : Nat) : Int), Value.func (.func 47) #[Value.pointer (some ⟨p, 0, none⟩)] #[]])) :: (pt bs 9 (secs.map Value.string)) :: (sl 122 2 sv since.length (flat since)) :: F) (fun _ h => h) ?_
 refine Wl.e (e_box (x := .tmp 1) (vs := [Value.int .i64 at_]) rfl) (fun b4 _ => ?_)
 refine Wl.imp (L' := (pt b4 3 [Value.int .i64 at_]) :: (pt b3 33 [Value.pointer (some ⟨p, 0, none⟩)]) :: (pt p 82 ([Value.slice (some ⟨bs, 0, none⟩) secs.length secs.length, sv, Value.bool false, Value.int .i64 ((count : Nat) : Int), Value.func (.func 47) #[Value.pointer (some ⟨p, 0, none⟩)] #[]])) :: (pt bs 9 (secs.map Value.string)) :: (sl 122 2 sv since.length (flat since)) :: F) (fun _ h => h) ?_
 refine Wl.e (e_box (x := .tmp 2) (vs := [Value.string s]) rfl) (fun b5 _ => ?_)
 refine Wl.imp (L' := (pt b5 9 [Value.string s]) :: (pt b4 3 [Value.int .i64 at_]) :: (pt b3 33 [Value.pointer (some ⟨p, 0, none⟩)]) :: (pt p 82 ([Value.slice (some ⟨bs, 0, none⟩) secs.length secs.length, sv, Value.bool false, Value.int .i64 ((count : Nat) : Int), Value.func (.func 47) #[Value.pointer (some ⟨p, 0, none⟩)] #[]])) :: (pt bs 9 (secs.map Value.string)) :: (sl 122 2 sv since.length (flat since)) :: F) (fun _ h => h) ?_
 refine Wl.q (v := Value.int .i64 0) (q_assign rfl) ?_
 refine Wl.done ?_
 refine Wx.go ?_
 refine Wc.seq ?_
 refine Wc.seq ?_
 refine Wc.region ?_
 refine Wl.q (v := Value.pointer (some ⟨p, 0, none⟩)) (q_load sc_33 rfl (.cel (i := 2) rfl rfl)) ?_
 refine Wl.imp (L' := (pt p 82 ([Value.slice (some ⟨bs, 0, none⟩) secs.length secs.length, sv, Value.bool false, Value.int .i64 ((count : Nat) : Int), Value.func (.func 47) #[Value.pointer (some ⟨p, 0, none⟩)] #[]])) :: (pt b5 9 [Value.string s]) :: (pt b4 3 [Value.int .i64 at_]) :: (pt b3 33 [Value.pointer (some ⟨p, 0, none⟩)]) :: (pt bs 9 (secs.map Value.string)) :: (sl 122 2 sv since.length (flat since)) :: F) (fun _ h => st_pull [3] h) ?_
 refine Wl.e (e_call (F := (pt b5 9 [Value.string s]) :: (pt b4 3 [Value.int .i64 at_]) :: (pt b3 33 [Value.pointer (some ⟨p, 0, none⟩)]) :: (pt bs 9 (secs.map Value.string)) :: (sl 122 2 sv since.length (flat since)) :: F) (args := [Value.pointer (some ⟨p, 0, none⟩)]) Tryz.call56 rfl (state_up W0 p (Value.slice (some ⟨bs, 0, none⟩) secs.length secs.length) (sv) (Value.int .i64 ((count : Nat) : Int)) (.func 47) #[Value.pointer (some ⟨p, 0, none⟩)] #[])) (fun _ _ => ?_)
 refine Wl.imp (L' := (pt p 82 ([Value.slice (some ⟨bs, 0, none⟩) secs.length secs.length, sv, Value.bool false, Value.int .i64 ((count : Nat) : Int), Value.func (.func 47) #[Value.pointer (some ⟨p, 0, none⟩)] #[]])) :: (pt b5 9 [Value.string s]) :: (pt b4 3 [Value.int .i64 at_]) :: (pt b3 33 [Value.pointer (some ⟨p, 0, none⟩)]) :: (pt bs 9 (secs.map Value.string)) :: (sl 122 2 sv since.length (flat since)) :: F) (fun _ h => h) ?_
 refine Wl.q (v := Value.int .i64 0) (q_assign rfl) ?_
 refine Wl.done ?_
 refine Wx.go ?_
 refine Wc.seq ?_
 refine Wc.region ?_
 refine Wl.q (v := Value.int .i64 0) (q_move rfl) ?_
 refine Wl.q (v := Value.bool false) (q_neq (r := true) rfl rfl (decide_eq_true (by decide))) ?_
 refine Wl.done ?_
 refine Wx.go ?_
 refine Wc.no rfl ?_
 refine Wc.skip ?_
 refine Wx.go ?_
 refine Wc.seq ?_
 refine Wc.seq ?_
 refine Wc.drawsS [] ((pt p 82 ([Value.slice (some ⟨bs, 0, none⟩) secs.length secs.length, sv, Value.bool false, Value.int .i64 ((count : Nat) : Int), Value.func (.func 47) #[Value.pointer (some ⟨p, 0, none⟩)] #[]])) :: (pt b5 9 [Value.string s]) :: (pt b4 3 [Value.int .i64 at_]) :: (pt b3 33 [Value.pointer (some ⟨p, 0, none⟩)]) :: (pt bs 9 (secs.map Value.string)) :: (sl 122 2 sv since.length (flat since)) :: []) (by kernel_rfl) ?_
 refine Wr.take (v := Value.int .i64 at_) 0 rfl (by kernel_rfl) (fun _ h => st_take [0, 0, 0, 0, 0, 0] h) (.inl ⟨rfl, q_load sc_3 rfl (.cel (i := 2) rfl rfl)⟩) ?_
 by_cases hneg : at_ < 0
 ·
  refine Wr.pure (v := Value.bool true) 1 rfl (by kernel_rfl) (.inr (fun _ h => st_take [0, 0, 0, 0, 0, 0] h)) (.inl ⟨rfl, fun _ => q_lss (r := true) rfl rfl (decide_eq_true hneg)⟩) ?_
  refine Wr.pure (v := Value.bool true) 2 rfl (by kernel_rfl) (.inr (fun _ h => st_take [0, 0, 0, 0, 0, 0] h)) (.inl ⟨rfl, fun _ => q_move rfl⟩) ?_
  refine Wr.pure (v := undef) 3 rfl (by kernel_rfl) (.inr (fun _ h => st_take [0, 0, 0, 0, 0, 0] h)) (.inr ⟨rfl, rfl⟩) ?_
  refine Wr.pure (v := undef) 4 rfl (by kernel_rfl) (.inr (fun _ h => st_take [0, 0, 0, 0, 0, 0] h)) (.inr ⟨rfl, rfl⟩) ?_
  refine Wr.pure (v := undef) 5 rfl (by kernel_rfl) (.inr (fun _ h => st_take [0, 0, 0, 0, 0, 0] h)) (.inr ⟨rfl, rfl⟩) ?_
  refine Wr.pure (v := undef) 6 rfl (by kernel_rfl) (.inr (fun _ h => st_take [0, 0, 0, 0, 0, 0] h)) (.inr ⟨rfl, rfl⟩) ?_
  refine Wr.pure (v := undef) 7 rfl (by kernel_rfl) (.inr (fun _ h => st_take [0, 0, 0, 0, 0, 0] h)) (.inr ⟨rfl, rfl⟩) ?_
  refine Wr.pure (v := undef) 8 rfl (by kernel_rfl) (.inr (fun _ h => st_take [0, 0, 0, 0, 0, 0] h)) (.inr ⟨rfl, rfl⟩) ?_
  refine Wr.pure (v := undef) 9 rfl (by kernel_rfl) (.inr (fun _ h => st_take [0, 0, 0, 0, 0, 0] h)) (.inr ⟨rfl, rfl⟩) ?_
  refine Wr.pure (v := Value.bool true) 10 rfl (by kernel_rfl) (.inr (fun _ h => st_take [0, 0, 0, 0, 0, 0] h)) (.inl ⟨rfl, fun _ => q_pick (t := true) rfl rfl⟩) ?_
  refine Wr.pure (v := Value.bool true) 11 rfl (by kernel_rfl) (.inr (fun _ h => st_take [0, 0, 0, 0, 0, 0] h)) (.inl ⟨rfl, fun _ => q_move rfl⟩) ?_
  refine Wr.pure (v := undef) 12 rfl (by kernel_rfl) (.inr (fun _ h => st_take [0, 0, 0, 0, 0, 0] h)) (.inr ⟨rfl, rfl⟩) ?_
  refine Wr.pure (v := undef) 13 rfl (by kernel_rfl) (.inr (fun _ h => st_take [0, 0, 0, 0, 0, 0] h)) (.inr ⟨rfl, rfl⟩) ?_
  refine Wr.pure (v := undef) 14 rfl (by kernel_rfl) (.inr (fun _ h => st_take [0, 0, 0, 0, 0, 0] h)) (.inr ⟨rfl, rfl⟩) ?_
  refine Wr.pure (v := Value.bool true) 15 rfl (by kernel_rfl) (.inr (fun _ h => st_take [0, 0, 0, 0, 0, 0] h)) (.inl ⟨rfl, fun _ => q_pick (t := true) rfl rfl⟩) ?_
  refine Wr.done (by kernel_rfl) ?_
  refine Wx.go ?_
  refine Wc.yes rfl ?_
  refine Wc.seq ?_
  refine Wc.region ?_
  refine Wl.q (v := Value.int .i64 1) (q_assign rfl) ?_
  refine Wl.done ?_
  refine Wx.go ?_
  refine Wc.ret ?_
  refine Wx.thenRet ?_
  refine Wx.fin1 rfl (.inl rfl) (fun w hs => ?_)
  have e : DS.write ⟨secs, since, false, count, none⟩ at_ s = (1, ⟨secs, since, false, count, none⟩) := write_bad rfl (by first | exact .inl hneg | exact .inr (.inl hge) | exact .inr (.inr hsz))
  rw [e]
  exact ⟨(), trivial, rfl, isDisk_mk rfl (st_pull [1, 1, 1] (mayR_none (st_drop (st_drop (st_drop (st_pull [1, 1, 1] hs))))))⟩
 ·
  obtain ⟨a, rfl⟩ := Int.eq_ofNat_of_zero_le (Int.not_lt.1 hneg)
  refine Wr.pure (v := Value.bool false) 1 rfl (by kernel_rfl) (.inr (fun _ h => st_take [0, 0, 0, 0, 0, 0] h)) (.inl ⟨rfl, fun _ => q_lss (r := false) rfl rfl (decide_eq_false hneg)⟩) ?_
  refine Wr.pure (v := Value.bool false) 2 rfl (by kernel_rfl) (.inr (fun _ h => st_take [0, 0, 0, 0, 0, 0] h)) (.inl ⟨rfl, fun _ => q_move rfl⟩) ?_
  refine Wr.take (v := Value.int .i64 ((a : Nat) : Int)) 3 rfl (by kernel_rfl) (fun _ h => st_take [0, 0, 0, 0, 0, 0] h) (.inl ⟨rfl, q_load sc_3 rfl (.cel (i := 2) rfl rfl)⟩) ?_
  refine Wr.take (v := Value.pointer (some ⟨p, 0, none⟩)) 4 rfl (by kernel_rfl) (fun _ h => st_take [0, 0, 0, 0, 0, 0] h) (.inl ⟨rfl, q_load sc_33 rfl (.cel (i := 3) rfl rfl)⟩) ?_
  refine Wr.pure (v := Value.pointer (some ⟨p, 0, none⟩)) 5 rfl (by kernel_rfl) (.inr (fun _ h => st_take [0, 0, 0, 0, 0, 0] h)) (.inl ⟨rfl, fun _ => q_nil_ptr rfl⟩) ?_
  refine Wr.pure (v := Value.pointer (some ⟨p, 0, none⟩)) 6 rfl (by kernel_rfl) (.inr (fun _ h => st_take [0, 0, 0, 0, 0, 0] h)) (.inl ⟨rfl, fun _ => q_field (m := 0) fo_82_0 rfl rfl⟩) ?_
  refine Wr.take (v := Value.slice (some ⟨bs, 0, none⟩) secs.length secs.length) 7 rfl (by kernel_rfl) (fun _ h => st_take [0, 0, 0, 0, 0, 0] h) (.inl ⟨rfl, q_load sc_50 rfl (.cel (i := 0) rfl rfl)⟩) ?_
  refine Wr.take (v := Value.int .i64 ((secs.length : Nat) : Int)) 8 rfl (by kernel_rfl) (fun _ h => st_take [0, 0, 0, 0, 0, 0] h) (.inl ⟨rfl, q_len_slice Tryz.underlying50 rfl⟩) ?_
  by_cases hge : ((a : Nat) : Int) ≥ ((secs.length : Nat) : Int)
  ·
   refine Wr.pure (v := Value.bool true) 9 rfl (by kernel_rfl) (.inr (fun _ h => st_take [0, 0, 0, 0, 0, 0] h)) (.inl ⟨rfl, fun _ => q_geq (r := true) rfl rfl (decide_eq_true hge)⟩) ?_
   refine Wr.pure (v := Value.bool true) 10 rfl (by kernel_rfl) (.inr (fun _ h => st_take [0, 0, 0, 0, 0, 0] h)) (.inl ⟨rfl, fun _ => q_pick (t := false) rfl rfl⟩) ?_
   refine Wr.pure (v := Value.bool true) 11 rfl (by kernel_rfl) (.inr (fun _ h => st_take [0, 0, 0, 0, 0, 0] h)) (.inl ⟨rfl, fun _ => q_move rfl⟩) ?_
   refine Wr.pure (v := undef) 12 rfl (by kernel_rfl) (.inr (fun _ h => st_take [0, 0, 0, 0, 0, 0] h)) (.inr ⟨rfl, rfl⟩) ?_
   refine Wr.pure (v := undef) 13 rfl (by kernel_rfl) (.inr (fun _ h => st_take [0, 0, 0, 0, 0, 0] h)) (.inr ⟨rfl, rfl⟩) ?_
   refine Wr.pure (v := undef) 14 rfl (by kernel_rfl) (.inr (fun _ h => st_take [0, 0, 0, 0, 0, 0] h)) (.inr ⟨rfl, rfl⟩) ?_
   refine Wr.pure (v := Value.bool true) 15 rfl (by kernel_rfl) (.inr (fun _ h => st_take [0, 0, 0, 0, 0, 0] h)) (.inl ⟨rfl, fun _ => q_pick (t := true) rfl rfl⟩) ?_
   refine Wr.done (by kernel_rfl) ?_
   refine Wx.go ?_
   refine Wc.yes rfl ?_
   refine Wc.seq ?_
   refine Wc.region ?_
   refine Wl.q (v := Value.int .i64 1) (q_assign rfl) ?_
   refine Wl.done ?_
   refine Wx.go ?_
   refine Wc.ret ?_
   refine Wx.thenRet ?_
   refine Wx.fin1 rfl (.inl rfl) (fun w hs => ?_)
   have e : DS.write ⟨secs, since, false, count, none⟩ ((a : Nat) : Int) s = (1, ⟨secs, since, false, count, none⟩) := write_bad rfl (by first | exact .inl hneg | exact .inr (.inl hge) | exact .inr (.inr hsz))
   rw [e]
   exact ⟨(), trivial, rfl, isDisk_mk rfl (st_pull [1, 1, 1] (mayR_none (st_drop (st_drop (st_drop (st_pull [1, 1, 1] hs))))))⟩
  ·
   refine Wr.pure (v := Value.bool false) 9 rfl (by kernel_rfl) (.inr (fun _ h => st_take [0, 0, 0, 0, 0, 0] h)) (.inl ⟨rfl, fun _ => q_geq (r := false) rfl rfl (decide_eq_false hge)⟩) ?_
   refine Wr.pure (v := Value.bool false) 10 rfl (by kernel_rfl) (.inr (fun _ h => st_take [0, 0, 0, 0, 0, 0] h)) (.inl ⟨rfl, fun _ => q_pick (t := false) rfl rfl⟩) ?_
   refine Wr.pure (v := Value.bool false) 11 rfl (by kernel_rfl) (.inr (fun _ h => st_take [0, 0, 0, 0, 0, 0] h)) (.inl ⟨rfl, fun _ => q_move rfl⟩) ?_
   refine Wr.take (v := Value.string s) 12 rfl (by kernel_rfl) (fun _ h => st_take [0, 0, 0, 0, 0, 0] h) (.inl ⟨rfl, q_load sc_9 rfl (.cel (i := 1) rfl rfl)⟩) ?_
   refine Wr.take (v := Value.int .i64 ((s.size : Nat) : Int)) 13 rfl (by kernel_rfl) (fun _ h => st_take [0, 0, 0, 0, 0, 0] h) (.inl ⟨rfl, q_len_str Tryz.underlying9 rfl⟩) ?_
   by_cases hsz : ((s.size : Nat) : Int) = 64
   ·
    refine Wr.pure (v := Value.bool false) 14 rfl (by kernel_rfl) (.inr (fun _ h => st_take [0, 0, 0, 0, 0, 0] h)) (.inl ⟨rfl, fun _ => q_neq (r := true) rfl rfl (decide_eq_true hsz)⟩) ?_
    refine Wr.pure (v := Value.bool false) 15 rfl (by kernel_rfl) (.inr (fun _ h => st_take [0, 0, 0, 0, 0, 0] h)) (.inl ⟨rfl, fun _ => q_pick (t := false) rfl rfl⟩) ?_
    refine Wr.done (by kernel_rfl) ?_
    refine Wx.go ?_
    refine Wc.no rfl ?_
    refine Wc.skip ?_
    refine Wx.go ?_
    refine Wc.seq ?_
    refine Wc.region ?_
    refine Wl.q (v := Value.pointer (some ⟨p, 0, none⟩)) (q_load sc_33 rfl (.cel (i := 3) rfl rfl)) ?_
    refine Wl.q (v := Value.func (.func 119) #[] #[Value.pointer (some ⟨b3, 0, none⟩), Value.pointer (some ⟨b4, 0, none⟩), Value.pointer (some ⟨b5, 0, none⟩)]) (q_makeFunc (us := []) (vs := [Value.pointer (some ⟨b3, 0, none⟩), Value.pointer (some ⟨b4, 0, none⟩), Value.pointer (some ⟨b5, 0, none⟩)]) rfl rfl) ?_
    refine Wl.imp (L' := (pt p 82 ([Value.slice (some ⟨bs, 0, none⟩) secs.length secs.length, sv, Value.bool false, Value.int .i64 ((count : Nat) : Int), Value.func (.func 47) #[Value.pointer (some ⟨p, 0, none⟩)] #[]])) :: (sl 122 2 sv since.length (flat since)) :: (pt b3 33 [Value.pointer (some ⟨p, 0, none⟩)]) :: (pt b4 3 [Value.int .i64 ((a : Nat) : Int)]) :: (pt b5 9 [Value.string s]) :: (pt bs 9 (secs.map Value.string)) :: F) (fun _ h => st_pull [0, 4, 2, 1, 0] h) ?_
    refine Wl.imp (L' := (pt p 82 ([Value.slice (some ⟨bs, 0, none⟩) secs.length secs.length, sv, Value.bool false, Value.int .i64 ((count : Nat) : Int), Value.func (.func 47) #[Value.pointer (some ⟨p, 0, none⟩)] #[]])) :: (grp [sl 122 2 sv since.length (flat since), pt b3 33 [Value.pointer (some ⟨p, 0, none⟩)], pt b4 3 [Value.int .i64 ((a : Nat) : Int)], pt b5 9 [Value.string s]]) :: (pt bs 9 (secs.map Value.string)) :: F) (fun _ h => st_grpAt h) ?_
    refine Wl.e (e_call (F := (pt bs 9 (secs.map Value.string)) :: F) (args := [Value.pointer (some ⟨p, 0, none⟩), Value.func (.func 119) #[] #[Value.pointer (some ⟨b3, 0, none⟩), Value.pointer (some ⟨b4, 0, none⟩), Value.pointer (some ⟨b5, 0, none⟩)]]) Tryz.call118 rfl (do_alw W0 p (Value.slice (some ⟨bs, 0, none⟩) secs.length secs.length) sv count hcount 119 Tryz.call119 [Value.pointer (some ⟨b3, 0, none⟩), Value.pointer (some ⟨b4, 0, none⟩), Value.pointer (some ⟨b5, 0, none⟩)] [sl 122 2 sv since.length (flat since), pt b3 33 [Value.pointer (some ⟨p, 0, none⟩)], pt b4 3 [Value.int .i64 ((a : Nat) : Int)], pt b5 9 [Value.string s]] (fun v2 => [pt p 82 ([Value.slice (some ⟨bs, 0, none⟩) secs.length secs.length, v2, Value.bool false, Value.int .i64 (((count + 1) : Nat) : Int), Value.func (.func 47) #[Value.pointer (some ⟨p, 0, none⟩)] #[]]), sl 122 2 v2 ((since ++ [(a, s)]).length) (flat (since ++ [(a, s)])), pt b3 33 [Value.pointer (some ⟨p, 0, none⟩)], pt b4 3 [Value.int .i64 ((a : Nat) : Int)], pt b5 9 [Value.string s]])  (write1_g W0 p bs secs since hsince (count + 1) (Value.func (.func 47) #[Value.pointer (some ⟨p, 0, none⟩)] #[]) sv b3 b4 b5 a s))) (fun v2 _ => ?_)
    refine Wl.imp (L' := (pt p 82 ([Value.slice (some ⟨bs, 0, none⟩) secs.length secs.length, v2, Value.bool false, Value.int .i64 (((count + 1) : Nat) : Int), Value.func (.func 47) #[Value.pointer (some ⟨p, 0, none⟩)] #[]])) :: (sl 122 2 v2 ((since ++ [(a, s)]).length) (flat (since ++ [(a, s)]))) :: (pt b3 33 [Value.pointer (some ⟨p, 0, none⟩)]) :: (pt b4 3 [Value.int .i64 ((a : Nat) : Int)]) :: (pt b5 9 [Value.string s]) :: (pt bs 9 (secs.map Value.string)) :: F) (fun _ h => st_grp.1 h) ?_
    refine Wl.q (v := Value.int .i64 0) (q_assign rfl) ?_
    refine Wl.done ?_
    refine Wx.go ?_
    refine Wc.ret ?_
    refine Wx.fin1 rfl (.inl rfl) (fun w hs => ?_)
    have e : DS.write ⟨secs, since, false, count, none⟩ ((a : Nat) : Int) s = (0, ⟨secs, since ++ [(a, s)], false, count + 1, none⟩) := by rw [write_ok rfl hge hsz]; rfl
    rw [e]
    exact ⟨(), trivial, rfl, isDisk_mk rfl (st_pull [1, 1, 1] (mayR_none (st_pull [0, 1, 0] (st_drop (st_drop (st_drop (st_pull [2, 2, 2] hs)))))))⟩
   ·
    refine Wr.pure (v := Value.bool true) 14 rfl (by kernel_rfl) (.inr (fun _ h => st_take [0, 0, 0, 0, 0, 0] h)) (.inl ⟨rfl, fun _ => q_neq (r := false) rfl rfl (decide_eq_false hsz)⟩) ?_
    refine Wr.pure (v := Value.bool true) 15 rfl (by kernel_rfl) (.inr (fun _ h => st_take [0, 0, 0, 0, 0, 0] h)) (.inl ⟨rfl, fun _ => q_pick (t := false) rfl rfl⟩) ?_
    refine Wr.done (by kernel_rfl) ?_
    refine Wx.go ?_
    refine Wc.yes rfl ?_
    refine Wc.seq ?_
    refine Wc.region ?_
    refine Wl.q (v := Value.int .i64 1) (q_assign rfl) ?_
    refine Wl.done ?_
    refine Wx.go ?_
    refine Wc.ret ?_
    refine Wx.thenRet ?_
    refine Wx.fin1 rfl (.inl rfl) (fun w hs => ?_)
    have e : DS.write ⟨secs, since, false, count, none⟩ ((a : Nat) : Int) s = (1, ⟨secs, since, false, count, none⟩) := write_bad rfl (by first | exact .inl hneg | exact .inr (.inl hge) | exact .inr (.inr hsz))
    rw [e]
    exact ⟨(), trivial, rfl, isDisk_mk rfl (st_pull [1, 1, 1] (mayR_none (st_drop (st_drop (st_drop (st_pull [1, 1, 1] hs))))))⟩

theorem write_cutS (W0 : World) (p : Nat) (secs : List ByteArray) (since : List (Nat × ByteArray)) (count : Nat) (n : Nat) (bits : Int) (at_ : Int) (s : ByteArray) (hw : WFl secs since) (hsince : since.length < 1099511627776) (hcount : count < 4611686018427387904) (hn : n < 9223372036854775807) :
  Con Tryz.prog W0 100 #[Value.pointer (some ⟨p, 0, none⟩), Value.int .i64 at_, Value.string s] [isDisk p (⟨secs, since, false, count, (some (n + 1, bits))⟩ : DS)] (X := Unit) (fun _ => True) (fun _ => Value.int .i64 (DS.write (⟨secs, since, false, count, (some (n + 1, bits))⟩ : DS) at_ s).1) (fun _ => [isDisk p (DS.write (⟨secs, since, false, count, (some (n + 1, bits))⟩ : DS) at_ s).2]) := by
 refine Con.cutd rfl (fun bs sv c => ?_)
 refine Con.of (args := [Value.pointer (some ⟨p, 0, none⟩), Value.int .i64 at_, Value.string s]) Tryz.func100 rfl Tryz.ntmps100 rfl (fun F => ?_)
 show Wc _ W0 _ _ _ _ _ ((pt p 82 ([Value.slice (some ⟨bs, 0, none⟩) secs.length secs.length, sv, Value.bool false, Value.int .i64 ((count : Nat) : Int), Value.func (.func 57) #[Value.pointer (some ⟨c, 0, none⟩)] #[]])) :: (pt bs 9 (secs.map Value.string)) :: (sl 122 2 sv since.length (flat since)) :: (pt c 93 [Value.pointer (some ⟨p, 0, none⟩), Value.int .i64 (((n + 1) : Nat) : Int), Value.int .i64 bits]) :: F)
 refine Wc.seq ?_
 refine Wc.region ?_
 refine Wl.e (e_box (x := .tmp 0) (vs := [Value.pointer (some ⟨p, 0, none⟩)]) rfl) (fun b3 _ => ?_)
 refine Wl.imp (L' := (pt b3 33 [Value.pointer (some ⟨p, 0, none⟩)]) :: (pt p 82 ([Value.slice (some ⟨bs, 0, none⟩) secs.length secs.length, sv, Value.bool false, Value.int .i64 ((count : Nat) : Int), Value.func (.func 57) #[Value.pointer (some ⟨c, 0, none⟩)] #[]])) :: (pt bs 9 (secs.map Value.string)) :: (sl 122 2 sv since.length (flat since)) :: (pt c 93 [Value.pointer (some ⟨p, 0, none⟩), Value.int .i64 (((n + 1) : Nat) : Int), Value.int .i64 bits]) :: F) (fun _ h => h) ?_
 refine Wl.e (e_box (x := .tmp 1) (vs := [Value.int .i64 at_]) rfl) (fun b4 _ => ?_)
 refine Wl.imp (L' := (pt b4 3 [Value.int .i64 at_]) :: (pt b3 33 [Value.pointer (some ⟨p, 0, none⟩)]) :: (pt p 82 ([Value.slice (some ⟨bs, 0, none⟩) secs.length secs.length, sv, Value.bool false, Value.int .i64 ((count : Nat) : Int), Value.func (.func 57) #[Value.pointer (some ⟨c, 0, none⟩)] #[]])) :: (pt bs 9 (secs.map Value.string)) :: (sl 122 2 sv since.length (flat since)) :: (pt c 93 [Value.pointer (some ⟨p, 0, none⟩), Value.int .i64 (((n + 1) : Nat) : Int), Value.int .i64 bits]) :: F) (fun _ h => h) ?_
 refine Wl.e (e_box (x := .tmp 2) (vs := [Value.string s]) rfl) (fun b5 _ => ?_)
 refine Wl.imp (L' := (pt b5 9 [Value.string s]) :: (pt b4 3 [Value.int .i64 at_]) :: (pt b3 33 [Value.pointer (some ⟨p, 0, none⟩)]) :: (pt p 82 ([Value.slice (some ⟨bs, 0, none⟩) secs.length secs.length, sv, Value.bool false, Value.int .i64 ((count : Nat) : Int), Value.func (.func 57) #[Value.pointer (some ⟨c, 0, none⟩)] #[]])) :: (pt bs 9 (secs.map Value.string)) :: (sl 122 2 sv since.length (flat since)) :: (pt c 93 [Value.pointer (some ⟨p, 0, none⟩), Value.int .i64 (((n + 1) : Nat) : Int), Value.int .i64 bits]) :: F) (fun _ h => h) ?_
 refine Wl.q (v := Value.int .i64 0) (q_assign rfl) ?_
 refine Wl.done ?_
 refine Wx.go ?_
 refine Wc.seq ?_
 refine Wc.seq ?_
 refine Wc.region ?_
 refine Wl.q (v := Value.pointer (some ⟨p, 0, none⟩)) (q_load sc_33 rfl (.cel (i := 2) rfl rfl)) ?_
 refine Wl.imp (L' := (pt p 82 ([Value.slice (some ⟨bs, 0, none⟩) secs.length secs.length, sv, Value.bool false, Value.int .i64 ((count : Nat) : Int), Value.func (.func 57) #[Value.pointer (some ⟨c, 0, none⟩)] #[]])) :: (pt b5 9 [Value.string s]) :: (pt b4 3 [Value.int .i64 at_]) :: (pt b3 33 [Value.pointer (some ⟨p, 0, none⟩)]) :: (pt bs 9 (secs.map Value.string)) :: (sl 122 2 sv since.length (flat since)) :: (pt c 93 [Value.pointer (some ⟨p, 0, none⟩), Value.int .i64 (((n + 1) : Nat) : Int), Value.int .i64 bits]) :: F) (fun _ h => st_pull [3] h) ?_
 refine Wl.e (e_call (F := (pt b5 9 [Value.string s]) :: (pt b4 3 [Value.int .i64 at_]) :: (pt b3 33 [Value.pointer (some ⟨p, 0, none⟩)]) :: (pt bs 9 (secs.map Value.string)) :: (sl 122 2 sv since.length (flat since)) :: (pt c 93 [Value.pointer (some ⟨p, 0, none⟩), Value.int .i64 (((n + 1) : Nat) : Int), Value.int .i64 bits]) :: F) (args := [Value.pointer (some ⟨p, 0, none⟩)]) Tryz.call56 rfl (state_up W0 p (Value.slice (some ⟨bs, 0, none⟩) secs.length secs.length) (sv) (Value.int .i64 ((count : Nat) : Int)) (.func 57) #[Value.pointer (some ⟨c, 0, none⟩)] #[])) (fun _ _ => ?_)
 refine Wl.imp (L' := (pt p 82 ([Value.slice (some ⟨bs, 0, none⟩) secs.length secs.length, sv, Value.bool false, Value.int .i64 ((count : Nat) : Int), Value.func (.func 57) #[Value.pointer (some ⟨c, 0, none⟩)] #[]])) :: (pt b5 9 [Value.string s]) :: (pt b4 3 [Value.int .i64 at_]) :: (pt b3 33 [Value.pointer (some ⟨p, 0, none⟩)]) :: (pt bs 9 (secs.map Value.string)) :: (sl 122 2 sv since.length (flat since)) :: (pt c 93 [Value.pointer (some ⟨p, 0, none⟩), Value.int .i64 (((n + 1) : Nat) : Int), Value.int .i64 bits]) :: F) (fun _ h => h) ?_
 refine Wl.q (v := Value.int .i64 0) (q_assign rfl) ?_
 refine Wl.done ?_
 refine Wx.go ?_
 refine Wc.seq ?_
 refine Wc.region ?_
 refine Wl.q (v := Value.int .i64 0) (q_move rfl) ?_
 refine Wl.q (v := Value.bool false) (q_neq (r := true) rfl rfl (decide_eq_true (by decide))) ?_
 refine Wl.done ?_
 refine Wx.go ?_
 refine Wc.no rfl ?_
 refine Wc.skip ?_
 refine Wx.go ?_
 refine Wc.seq ?_
 refine Wc.seq ?_
 refine Wc.drawsS [] ((pt p 82 ([Value.slice (some ⟨bs, 0, none⟩) secs.length secs.length, sv, Value.bool false, Value.int .i64 ((count : Nat) : Int), Value.func (.func 57) #[Value.pointer (some ⟨c, 0, none⟩)] #[]])) :: (pt b5 9 [Value.string s]) :: (pt b4 3 [Value.int .i64 at_]) :: (pt b3 33 [Value.pointer (some ⟨p, 0, none⟩)]) :: (pt bs 9 (secs.map Value.string)) :: (sl 122 2 sv since.length (flat since)) :: (pt c 93 [Value.pointer (some ⟨p, 0, none⟩), Value.int .i64 (((n + 1) : Nat) : Int), Value.int .i64 bits]) :: []) (by kernel_rfl) ?_
 refine Wr.take (v := Value.int .i64 at_) 0 rfl (by kernel_rfl) (fun _ h => st_take [0, 0, 0, 0, 0, 0, 0] h) (.inl ⟨rfl, q_load sc_3 rfl (.cel (i := 2) rfl rfl)⟩) ?_
 by_cases hneg : at_ < 0
 ·
  refine Wr.pure (v := Value.bool true) 1 rfl (by kernel_rfl) (.inr (fun _ h => st_take [0, 0, 0, 0, 0, 0, 0] h)) (.inl ⟨rfl, fun _ => q_lss (r := true) rfl rfl (decide_eq_true hneg)⟩) ?_
  refine Wr.pure (v := Value.bool true) 2 rfl (by kernel_rfl) (.inr (fun _ h => st_take [0, 0, 0, 0, 0, 0, 0] h)) (.inl ⟨rfl, fun _ => q_move rfl⟩) ?_
  refine Wr.pure (v := undef) 3 rfl (by kernel_rfl) (.inr (fun _ h => st_take [0, 0, 0, 0, 0, 0, 0] h)) (.inr ⟨rfl, rfl⟩) ?_
  refine Wr.pure (v := undef) 4 rfl (by kernel_rfl) (.inr (fun _ h => st_take [0, 0, 0, 0, 0, 0, 0] h)) (.inr ⟨rfl, rfl⟩) ?_
  refine Wr.pure (v := undef) 5 rfl (by kernel_rfl) (.inr (fun _ h => st_take [0, 0, 0, 0, 0, 0, 0] h)) (.inr ⟨rfl, rfl⟩) ?_
  refine Wr.pure (v := undef) 6 rfl (by kernel_rfl) (.inr (fun _ h => st_take [0, 0, 0, 0, 0, 0, 0] h)) (.inr ⟨rfl, rfl⟩) ?_
  refine Wr.pure (v := undef) 7 rfl (by kernel_rfl) (.inr (fun _ h => st_take [0, 0, 0, 0, 0, 0, 0] h)) (.inr ⟨rfl, rfl⟩) ?_
  refine Wr.pure (v := undef) 8 rfl (by kernel_rfl) (.inr (fun _ h => st_take [0, 0, 0, 0, 0, 0, 0] h)) (.inr ⟨rfl, rfl⟩) ?_
  refine Wr.pure (v := undef) 9 rfl (by kernel_rfl) (.inr (fun _ h => st_take [0, 0, 0, 0, 0, 0, 0] h)) (.inr ⟨rfl, rfl⟩) ?_
  refine Wr.pure (v := Value.bool true) 10 rfl (by kernel_rfl) (.inr (fun _ h => st_take [0, 0, 0, 0, 0, 0, 0] h)) (.inl ⟨rfl, fun _ => q_pick (t := true) rfl rfl⟩) ?_
  refine Wr.pure (v := Value.bool true) 11 rfl (by kernel_rfl) (.inr (fun _ h => st_take [0, 0, 0, 0, 0, 0, 0] h)) (.inl ⟨rfl, fun _ => q_move rfl⟩) ?_
  refine Wr.pure (v := undef) 12 rfl (by kernel_rfl) (.inr (fun _ h => st_take [0, 0, 0, 0, 0, 0, 0] h)) (.inr ⟨rfl, rfl⟩) ?_
  refine Wr.pure (v := undef) 13 rfl (by kernel_rfl) (.inr (fun _ h => st_take [0, 0, 0, 0, 0, 0, 0] h)) (.inr ⟨rfl, rfl⟩) ?_
  refine Wr.pure (v := undef) 14 rfl (by kernel_rfl) (.inr (fun _ h => st_take [0, 0, 0, 0, 0, 0, 0] h)) (.inr ⟨rfl, rfl⟩) ?_
  refine Wr.pure (v := Value.bool true) 15 rfl (by kernel_rfl) (.inr (fun _ h => st_take [0, 0, 0, 0, 0, 0, 0] h)) (.inl ⟨rfl, fun _ => q_pick (t := true) rfl rfl⟩) ?_
  refine Wr.done (by kernel_rfl) ?_
  refine Wx.go ?_
  refine Wc.yes rfl ?_
  refine Wc.seq ?_
  refine Wc.region ?_
  refine Wl.q (v := Value.int .i64 1) (q_assign rfl) ?_
  refine Wl.done ?_
  refine Wx.go ?_
  refine Wc.ret ?_
  refine Wx.thenRet ?_
  refine Wx.fin1 rfl (.inl rfl) (fun w hs => ?_)
  have e : DS.write ⟨secs, since, false, count, (some (n + 1, bits))⟩ at_ s = (1, ⟨secs, since, false, count, (some (n + 1, bits))⟩) := write_bad rfl (by first | exact .inl hneg | exact .inr (.inl hge) | exact .inr (.inr hsz))
  rw [e]
  exact ⟨(), trivial, rfl, isDisk_mk rfl (st_pull [1, 1, 1] (mayR_some (st_pull [3, 0, 0, 0] (st_drop (st_drop (st_drop (st_pull [1, 1, 1] hs)))))))⟩
 ·
  obtain ⟨a, rfl⟩ := Int.eq_ofNat_of_zero_le (Int.not_lt.1 hneg)
  refine Wr.pure (v := Value.bool false) 1 rfl (by kernel_rfl) (.inr (fun _ h => st_take [0, 0, 0, 0, 0, 0, 0] h)) (.inl ⟨rfl, fun _ => q_lss (r := false) rfl rfl (decide_eq_false hneg)⟩) ?_
  refine Wr.pure (v := Value.bool false) 2 rfl (by kernel_rfl) (.inr (fun _ h => st_take [0, 0, 0, 0, 0, 0, 0] h)) (.inl ⟨rfl, fun _ => q_move rfl⟩) ?_
  refine Wr.take (v := Value.int .i64 ((a : Nat) : Int)) 3 rfl (by kernel_rfl) (fun _ h => st_take [0, 0, 0, 0, 0, 0, 0] h) (.inl ⟨rfl, q_load sc_3 rfl (.cel (i := 2) rfl rfl)⟩) ?_
  refine Wr.take (v := Value.pointer (some ⟨p, 0, none⟩)) 4 rfl (by kernel_rfl) (fun _ h => st_take [0, 0, 0, 0, 0, 0, 0] h) (.inl ⟨rfl, q_load sc_33 rfl (.cel (i := 3) rfl rfl)⟩) ?_
  refine Wr.pure (v := Value.pointer (some ⟨p, 0, none⟩)) 5 rfl (by kernel_rfl) (.inr (fun _ h => st_take [0, 0, 0, 0, 0, 0, 0] h)) (.inl ⟨rfl, fun _ => q_nil_ptr rfl⟩) ?_
  refine Wr.pure (v := Value.pointer (some ⟨p, 0, none⟩)) 6 rfl (by kernel_rfl) (.inr (fun _ h => st_take [0, 0, 0, 0, 0, 0, 0] h)) (.inl ⟨rfl, fun _ => q_field (m := 0) fo_82_0 rfl rfl⟩) ?_
  refine Wr.take (v := Value.slice (some ⟨bs, 0, none⟩) secs.length secs.length) 7 rfl (by kernel_rfl) (fun _ h => st_take [0, 0, 0, 0, 0, 0, 0] h) (.inl ⟨rfl, q_load sc_50 rfl (.cel (i := 0) rfl rfl)⟩) ?_
  refine Wr.take (v := Value.int .i64 ((secs.length : Nat) : Int)) 8 rfl (by kernel_rfl) (fun _ h => st_take [0, 0, 0, 0, 0, 0, 0] h) (.inl ⟨rfl, q_len_slice Tryz.underlying50 rfl⟩) ?_
  by_cases hge : ((a : Nat) : Int) ≥ ((secs.length : Nat) : Int)
  ·
   refine Wr.pure (v := Value.bool true) 9 rfl (by kernel_rfl) (.inr (fun _ h => st_take [0, 0, 0, 0, 0, 0, 0] h)) (.inl ⟨rfl, fun _ => q_geq (r := true) rfl rfl (decide_eq_true hge)⟩) ?_
   refine Wr.pure (v := Value.bool true) 10 rfl (by kernel_rfl) (.inr (fun _ h => st_take [0, 0, 0, 0, 0, 0, 0] h)) (.inl ⟨rfl, fun _ => q_pick (t := false) rfl rfl⟩) ?_
   refine Wr.pure (v := Value.bool true) 11 rfl (by kernel_rfl) (.inr (fun _ h => st_take [0, 0, 0, 0, 0, 0, 0] h)) (.inl ⟨rfl, fun _ => q_move rfl⟩) ?_
   refine Wr.pure (v := undef) 12 rfl (by kernel_rfl) (.inr (fun _ h => st_take [0, 0, 0, 0, 0, 0, 0] h)) (.inr ⟨rfl, rfl⟩) ?_
   refine Wr.pure (v := undef) 13 rfl (by kernel_rfl) (.inr (fun _ h => st_take [0, 0, 0, 0, 0, 0, 0] h)) (.inr ⟨rfl, rfl⟩) ?_
   refine Wr.pure (v := undef) 14 rfl (by kernel_rfl) (.inr (fun _ h => st_take [0, 0, 0, 0, 0, 0, 0] h)) (.inr ⟨rfl, rfl⟩) ?_
   refine Wr.pure (v := Value.bool true) 15 rfl (by kernel_rfl) (.inr (fun _ h => st_take [0, 0, 0, 0, 0, 0, 0] h)) (.inl ⟨rfl, fun _ => q_pick (t := true) rfl rfl⟩) ?_
   refine Wr.done (by kernel_rfl) ?_
   refine Wx.go ?_
   refine Wc.yes rfl ?_
   refine Wc.seq ?_
   refine Wc.region ?_
   refine Wl.q (v := Value.int .i64 1) (q_assign rfl) ?_
   refine Wl.done ?_
   refine Wx.go ?_
   refine Wc.ret ?_
   refine Wx.thenRet ?_
   refine Wx.fin1 rfl (.inl rfl) (fun w hs => ?_)
   have e : DS.write ⟨secs, since, false, count, (some (n + 1, bits))⟩ ((a : Nat) : Int) s = (1, ⟨secs, since, false, count, (some (n + 1, bits))⟩) := write_bad rfl (by first | exact .inl hneg | exact .inr (.inl hge) | exact .inr (.inr hsz))
   rw [e]
   exact ⟨(), trivial, rfl, isDisk_mk rfl (st_pull [1, 1, 1] (mayR_some (st_pull [3, 0, 0, 0] (st_drop (st_drop (st_drop (st_pull [1, 1, 1] hs)))))))⟩
  ·
   refine Wr.pure (v := Value.bool false) 9 rfl (by kernel_rfl) (.inr (fun _ h => st_take [0, 0, 0, 0, 0, 0, 0] h)) (.inl ⟨rfl, fun _ => q_geq (r := false) rfl rfl (decide_eq_false hge)⟩) ?_
   refine Wr.pure (v := Value.bool false) 10 rfl (by kernel_rfl) (.inr (fun _ h => st_take [0, 0, 0, 0, 0, 0, 0] h)) (.inl ⟨rfl, fun _ => q_pick (t := false) rfl rfl⟩) ?_
   refine Wr.pure (v := Value.bool false) 11 rfl (by kernel_rfl) (.inr (fun _ h => st_take [0, 0, 0, 0, 0, 0, 0] h)) (.inl ⟨rfl, fun _ => q_move rfl⟩) ?_
   refine Wr.take (v := Value.string s) 12 rfl (by kernel_rfl) (fun _ h => st_take [0, 0, 0, 0, 0, 0, 0] h) (.inl ⟨rfl, q_load sc_9 rfl (.cel (i := 1) rfl rfl)⟩) ?_
   refine Wr.take (v := Value.int .i64 ((s.size : Nat) : Int)) 13 rfl (by kernel_rfl) (fun _ h => st_take [0, 0, 0, 0, 0, 0, 0] h) (.inl ⟨rfl, q_len_str Tryz.underlying9 rfl⟩) ?_
   by_cases hsz : ((s.size : Nat) : Int) = 64
   ·
    refine Wr.pure (v := Value.bool false) 14 rfl (by kernel_rfl) (.inr (fun _ h => st_take [0, 0, 0, 0, 0, 0, 0] h)) (.inl ⟨rfl, fun _ => q_neq (r := true) rfl rfl (decide_eq_true hsz)⟩) ?_
    refine Wr.pure (v := Value.bool false) 15 rfl (by kernel_rfl) (.inr (fun _ h => st_take [0, 0, 0, 0, 0, 0, 0] h)) (.inl ⟨rfl, fun _ => q_pick (t := false) rfl rfl⟩) ?_
    refine Wr.done (by kernel_rfl) ?_
    refine Wx.go ?_
    refine Wc.no rfl ?_
    refine Wc.skip ?_
    refine Wx.go ?_
    refine Wc.seq ?_
    refine Wc.region ?_
    refine Wl.q (v := Value.pointer (some ⟨p, 0, none⟩)) (q_load sc_33 rfl (.cel (i := 3) rfl rfl)) ?_
    refine Wl.q (v := Value.func (.func 119) #[] #[Value.pointer (some ⟨b3, 0, none⟩), Value.pointer (some ⟨b4, 0, none⟩), Value.pointer (some ⟨b5, 0, none⟩)]) (q_makeFunc (us := []) (vs := [Value.pointer (some ⟨b3, 0, none⟩), Value.pointer (some ⟨b4, 0, none⟩), Value.pointer (some ⟨b5, 0, none⟩)]) rfl rfl) ?_
    refine Wl.imp (L' := (pt p 82 ([Value.slice (some ⟨bs, 0, none⟩) secs.length secs.length, sv, Value.bool false, Value.int .i64 ((count : Nat) : Int), Value.func (.func 57) #[Value.pointer (some ⟨c, 0, none⟩)] #[]])) :: (sl 122 2 sv since.length (flat since)) :: (pt b3 33 [Value.pointer (some ⟨p, 0, none⟩)]) :: (pt b4 3 [Value.int .i64 ((a : Nat) : Int)]) :: (pt b5 9 [Value.string s]) :: (pt bs 9 (secs.map Value.string)) :: (pt c 93 [Value.pointer (some ⟨p, 0, none⟩), Value.int .i64 (((n + 1) : Nat) : Int), Value.int .i64 bits]) :: F) (fun _ h => st_pull [0, 4, 2, 1, 0] h) ?_
    refine Wl.imp (L' := (pt p 82 ([Value.slice (some ⟨bs, 0, none⟩) secs.length secs.length, sv, Value.bool false, Value.int .i64 ((count : Nat) : Int), Value.func (.func 57) #[Value.pointer (some ⟨c, 0, none⟩)] #[]])) :: (grp [sl 122 2 sv since.length (flat since), pt b3 33 [Value.pointer (some ⟨p, 0, none⟩)], pt b4 3 [Value.int .i64 ((a : Nat) : Int)], pt b5 9 [Value.string s]]) :: (pt bs 9 (secs.map Value.string)) :: (pt c 93 [Value.pointer (some ⟨p, 0, none⟩), Value.int .i64 (((n + 1) : Nat) : Int), Value.int .i64 bits]) :: F) (fun _ h => st_grpAt h) ?_
    refine Wl.imp (L' := (pt p 82 ([Value.slice (some ⟨bs, 0, none⟩) secs.length secs.length, sv, Value.bool false, Value.int .i64 ((count : Nat) : Int), Value.func (.func 57) #[Value.pointer (some ⟨c, 0, none⟩)] #[]])) :: (grp [sl 122 2 sv since.length (flat since), pt b3 33 [Value.pointer (some ⟨p, 0, none⟩)], pt b4 3 [Value.int .i64 ((a : Nat) : Int)], pt b5 9 [Value.string s]]) :: (pt c 93 [Value.pointer (some ⟨p, 0, none⟩), Value.int .i64 (((n + 1) : Nat) : Int), Value.int .i64 bits]) :: (pt bs 9 (secs.map Value.string)) :: F) (fun _ h => st_pull [0, 0, 1] h) ?_
    refine Wl.e (e_call (F := (pt bs 9 (secs.map Value.string)) :: F) (args := [Value.pointer (some ⟨p, 0, none⟩), Value.func (.func 119) #[] #[Value.pointer (some ⟨b3, 0, none⟩), Value.pointer (some ⟨b4, 0, none⟩), Value.pointer (some ⟨b5, 0, none⟩)]]) Tryz.call118 rfl (do_cutS W0 p (Value.slice (some ⟨bs, 0, none⟩) secs.length secs.length) sv count hcount 119 Tryz.call119 [Value.pointer (some ⟨b3, 0, none⟩), Value.pointer (some ⟨b4, 0, none⟩), Value.pointer (some ⟨b5, 0, none⟩)] [sl 122 2 sv since.length (flat since), pt b3 33 [Value.pointer (some ⟨p, 0, none⟩)], pt b4 3 [Value.int .i64 ((a : Nat) : Int)], pt b5 9 [Value.string s]] (fun v2 => [pt p 82 ([Value.slice (some ⟨bs, 0, none⟩) secs.length secs.length, v2, Value.bool false, Value.int .i64 (((count + 1) : Nat) : Int), Value.func (.func 57) #[Value.pointer (some ⟨c, 0, none⟩)] #[]]), sl 122 2 v2 ((since ++ [(a, s)]).length) (flat (since ++ [(a, s)])), pt b3 33 [Value.pointer (some ⟨p, 0, none⟩)], pt b4 3 [Value.int .i64 ((a : Nat) : Int)], pt b5 9 [Value.string s]])  c n bits hn (write1_g W0 p bs secs since hsince (count + 1) (Value.func (.func 57) #[Value.pointer (some ⟨c, 0, none⟩)] #[]) sv b3 b4 b5 a s))) (fun v2 _ => ?_)
    refine Wl.imp (L' := (pt p 82 ([Value.slice (some ⟨bs, 0, none⟩) secs.length secs.length, v2, Value.bool false, Value.int .i64 (((count + 1) : Nat) : Int), Value.func (.func 57) #[Value.pointer (some ⟨c, 0, none⟩)] #[]])) :: (sl 122 2 v2 ((since ++ [(a, s)]).length) (flat (since ++ [(a, s)]))) :: (pt b3 33 [Value.pointer (some ⟨p, 0, none⟩)]) :: (pt b4 3 [Value.int .i64 ((a : Nat) : Int)]) :: (pt b5 9 [Value.string s]) :: (pt c 93 [Value.pointer (some ⟨p, 0, none⟩), Value.int .i64 ((n : Nat) : Int), Value.int .i64 bits]) :: (pt bs 9 (secs.map Value.string)) :: F) (fun _ h => st_grp.1 h) ?_
    refine Wl.q (v := Value.int .i64 0) (q_assign rfl) ?_
    refine Wl.done ?_
    refine Wx.go ?_
    refine Wc.ret ?_
    refine Wx.fin1 rfl (.inl rfl) (fun w hs => ?_)
    have e : DS.write ⟨secs, since, false, count, (some (n + 1, bits))⟩ ((a : Nat) : Int) s = (0, ⟨secs, since ++ [(a, s)], false, count + 1, (some (n, bits))⟩) := by rw [write_ok rfl hge hsz]; rfl
    rw [e]
    exact ⟨(), trivial, rfl, isDisk_mk rfl (st_pull [1, 1, 1] (mayR_some (st_pull [2, 0, 1, 0] (st_drop (st_drop (st_drop (st_pull [2, 2, 2] hs)))))))⟩
   ·
    refine Wr.pure (v := Value.bool true) 14 rfl (by kernel_rfl) (.inr (fun _ h => st_take [0, 0, 0, 0, 0, 0, 0] h)) (.inl ⟨rfl, fun _ => q_neq (r := false) rfl rfl (decide_eq_false hsz)⟩) ?_
    refine Wr.pure (v := Value.bool true) 15 rfl (by kernel_rfl) (.inr (fun _ h => st_take [0, 0, 0, 0, 0, 0, 0] h)) (.inl ⟨rfl, fun _ => q_pick (t := false) rfl rfl⟩) ?_
    refine Wr.done (by kernel_rfl) ?_
    refine Wx.go ?_
    refine Wc.yes rfl ?_
    refine Wc.seq ?_
    refine Wc.region ?_
    refine Wl.q (v := Value.int .i64 1) (q_assign rfl) ?_
    refine Wl.done ?_
    refine Wx.go ?_
    refine Wc.ret ?_
    refine Wx.thenRet ?_
    refine Wx.fin1 rfl (.inl rfl) (fun w hs => ?_)
    have e : DS.write ⟨secs, since, false, count, (some (n + 1, bits))⟩ ((a : Nat) : Int) s = (1, ⟨secs, since, false, count, (some (n + 1, bits))⟩) := write_bad rfl (by first | exact .inl hneg | exact .inr (.inl hge) | exact .inr (.inr hsz))
    rw [e]
    exact ⟨(), trivial, rfl, isDisk_mk rfl (st_pull [1, 1, 1] (mayR_some (st_pull [3, 0, 0, 0] (st_drop (st_drop (st_drop (st_pull [1, 1, 1] hs)))))))⟩

theorem write_cut0 (W0 : World) (p : Nat) (secs : List ByteArray) (since : List (Nat × ByteArray)) (count : Nat) (bits : Int) (at_ : Int) (s : ByteArray) (hw : WFl secs since) (hsince : since.length < 1099511627776) (hcount : count < 4611686018427387904) :
  Con Tryz.prog W0 100 #[Value.pointer (some ⟨p, 0, none⟩), Value.int .i64 at_, Value.string s] [isDisk p (⟨secs, since, false, count, (some (0, bits))⟩ : DS)] (X := Unit) (fun _ => True) (fun _ => Value.int .i64 (DS.write (⟨secs, since, false, count, (some (0, bits))⟩ : DS) at_ s).1) (fun _ => [isDisk p (DS.write (⟨secs, since, false, count, (some (0, bits))⟩ : DS) at_ s).2]) := by
 refine Con.cutd (n := 0) rfl (fun bs sv c => ?_)
 refine Con.of (args := [Value.pointer (some ⟨p, 0, none⟩), Value.int .i64 at_, Value.string s]) Tryz.func100 rfl Tryz.ntmps100 rfl (fun F => ?_)
 show Wc _ W0 _ _ _ _ _ ((pt p 82 ([Value.slice (some ⟨bs, 0, none⟩) secs.length secs.length, sv, Value.bool false, Value.int .i64 ((count : Nat) : Int), Value.func (.func 57) #[Value.pointer (some ⟨c, 0, none⟩)] #[]])) :: (pt bs 9 (secs.map Value.string)) :: (sl 122 2 sv since.length (flat since)) :: (pt c 93 [Value.pointer (some ⟨p, 0, none⟩), Value.int .i64 0, Value.int .i64 bits]) :: F)
 refine Wc.seq ?_
 refine Wc.region ?_
 refine Wl.e (e_box (x := .tmp 0) (vs := [Value.pointer (some ⟨p, 0, none⟩)]) rfl) (fun b3 _ => ?_)
 refine Wl.imp (L' := (pt b3 33 [Value.pointer (some ⟨p, 0, none⟩)]) :: (pt p 82 ([Value.slice (some ⟨bs, 0, none⟩) secs.length secs.length, sv, Value.bool false, Value.int .i64 ((count : Nat) : Int), Value.func (.func 57) #[Value.pointer (some ⟨c, 0, none⟩)] #[]])) :: (pt bs 9 (secs.map Value.string)) :: (sl 122 2 sv since.length (flat since)) :: (pt c 93 [Value.pointer (some ⟨p, 0, none⟩), Value.int .i64 0, Value.int .i64 bits]) :: F) (fun _ h => h) ?_
 refine Wl.e (e_box (x := .tmp 1) (vs := [Value.int .i64 at_]) rfl) (fun b4 _ => ?_)
 refine Wl.imp (L' := (pt b4 3 [Value.int .i64 at_]) :: (pt b3 33 [Value.pointer (some ⟨p, 0, none⟩)]) :: (pt p 82 ([Value.slice (some ⟨bs, 0, none⟩) secs.length secs.length, sv, Value.bool false, Value.int .i64 ((count : Nat) : Int), Value.func (.func 57) #[Value.pointer (some ⟨c, 0, none⟩)] #[]])) :: (pt bs 9 (secs.map Value.string)) :: (sl 122 2 sv since.length (flat since)) :: (pt c 93 [Value.pointer (some ⟨p, 0, none⟩), Value.int .i64 0, Value.int .i64 bits]) :: F) (fun _ h => h) ?_
 refine Wl.e (e_box (x := .tmp 2) (vs := [Value.string s]) rfl) (fun b5 _ => ?_)
 refine Wl.imp (L' := (pt b5 9 [Value.string s]) :: (pt b4 3 [Value.int .i64 at_]) :: (pt b3 33 [Value.pointer (some ⟨p, 0, none⟩)]) :: (pt p 82 ([Value.slice (some ⟨bs, 0, none⟩) secs.length secs.length, sv, Value.bool false, Value.int .i64 ((count : Nat) : Int), Value.func (.func 57) #[Value.pointer (some ⟨c, 0, none⟩)] #[]])) :: (pt bs 9 (secs.map Value.string)) :: (sl 122 2 sv since.length (flat since)) :: (pt c 93 [Value.pointer (some ⟨p, 0, none⟩), Value.int .i64 0, Value.int .i64 bits]) :: F) (fun _ h => h) ?_
 refine Wl.q (v := Value.int .i64 0) (q_assign rfl) ?_
 refine Wl.done ?_
 refine Wx.go ?_
 refine Wc.seq ?_
 refine Wc.seq ?_
 refine Wc.region ?_
 refine Wl.q (v := Value.pointer (some ⟨p, 0, none⟩)) (q_load sc_33 rfl (.cel (i := 2) rfl rfl)) ?_
 refine Wl.imp (L' := (pt p 82 ([Value.slice (some ⟨bs, 0, none⟩) secs.length secs.length, sv, Value.bool false, Value.int .i64 ((count : Nat) : Int), Value.func (.func 57) #[Value.pointer (some ⟨c, 0, none⟩)] #[]])) :: (pt b5 9 [Value.string s]) :: (pt b4 3 [Value.int .i64 at_]) :: (pt b3 33 [Value.pointer (some ⟨p, 0, none⟩)]) :: (pt bs 9 (secs.map Value.string)) :: (sl 122 2 sv since.length (flat since)) :: (pt c 93 [Value.pointer (some ⟨p, 0, none⟩), Value.int .i64 0, Value.int .i64 bits]) :: F) (fun _ h => st_pull [3] h) ?_
 refine Wl.e (e_call (F := (pt b5 9 [Value.string s]) :: (pt b4 3 [Value.int .i64 at_]) :: (pt b3 33 [Value.pointer (some ⟨p, 0, none⟩)]) :: (pt bs 9 (secs.map Value.string)) :: (sl 122 2 sv since.length (flat since)) :: (pt c 93 [Value.pointer (some ⟨p, 0, none⟩), Value.int .i64 0, Value.int .i64 bits]) :: F) (args := [Value.pointer (some ⟨p, 0, none⟩)]) Tryz.call56 rfl (state_up W0 p (Value.slice (some ⟨bs, 0, none⟩) secs.length secs.length) (sv) (Value.int .i64 ((count : Nat) : Int)) (.func 57) #[Value.pointer (some ⟨c, 0, none⟩)] #[])) (fun _ _ => ?_)
 refine Wl.imp (L' := (pt p 82 ([Value.slice (some ⟨bs, 0, none⟩) secs.length secs.length, sv, Value.bool false, Value.int .i64 ((count : Nat) : Int), Value.func (.func 57) #[Value.pointer (some ⟨c, 0, none⟩)] #[]])) :: (pt b5 9 [Value.string s]) :: (pt b4 3 [Value.int .i64 at_]) :: (pt b3 33 [Value.pointer (some ⟨p, 0, none⟩)]) :: (pt bs 9 (secs.map Value.string)) :: (sl 122 2 sv since.length (flat since)) :: (pt c 93 [Value.pointer (some ⟨p, 0, none⟩), Value.int .i64 0, Value.int .i64 bits]) :: F) (fun _ h => h) ?_
 refine Wl.q (v := Value.int .i64 0) (q_assign rfl) ?_
 refine Wl.done ?_
 refine Wx.go ?_
 refine Wc.seq ?_
 refine Wc.region ?_
 refine Wl.q (v := Value.int .i64 0) (q_move rfl) ?_
 refine Wl.q (v := Value.bool false) (q_neq (r := true) rfl rfl (decide_eq_true (by decide))) ?_
 refine Wl.done ?_
 refine Wx.go ?_
 refine Wc.no rfl ?_
 refine Wc.skip ?_
 refine Wx.go ?_
 refine Wc.seq ?_
 refine Wc.seq ?_
 refine Wc.drawsS [] ((pt p 82 ([Value.slice (some ⟨bs, 0, none⟩) secs.length secs.length, sv, Value.bool false, Value.int .i64 ((count : Nat) : Int), Value.func (.func 57) #[Value.pointer (some ⟨c, 0, none⟩)] #[]])) :: (pt b5 9 [Value.string s]) :: (pt b4 3 [Value.int .i64 at_]) :: (pt b3 33 [Value.pointer (some ⟨p, 0, none⟩)]) :: (pt bs 9 (secs.map Value.string)) :: (sl 122 2 sv since.length (flat since)) :: (pt c 93 [Value.pointer (some ⟨p, 0, none⟩), Value.int .i64 0, Value.int .i64 bits]) :: []) (by kernel_rfl) ?_
 refine Wr.take (v := Value.int .i64 at_) 0 rfl (by kernel_rfl) (fun _ h => st_take [0, 0, 0, 0, 0, 0, 0] h) (.inl ⟨rfl, q_load sc_3 rfl (.cel (i := 2) rfl rfl)⟩) ?_
 by_cases hneg : at_ < 0
 ·
  refine Wr.pure (v := Value.bool true) 1 rfl (by kernel_rfl) (.inr (fun _ h => st_take [0, 0, 0, 0, 0, 0, 0] h)) (.inl ⟨rfl, fun _ => q_lss (r := true) rfl rfl (decide_eq_true hneg)⟩) ?_
  refine Wr.pure (v := Value.bool true) 2 rfl (by kernel_rfl) (.inr (fun _ h => st_take [0, 0, 0, 0, 0, 0, 0] h)) (.inl ⟨rfl, fun _ => q_move rfl⟩) ?_
  refine Wr.pure (v := undef) 3 rfl (by kernel_rfl) (.inr (fun _ h => st_take [0, 0, 0, 0, 0, 0, 0] h)) (.inr ⟨rfl, rfl⟩) ?_
  refine Wr.pure (v := undef) 4 rfl (by kernel_rfl) (.inr (fun _ h => st_take [0, 0, 0, 0, 0, 0, 0] h)) (.inr ⟨rfl, rfl⟩) ?_
  refine Wr.pure (v := undef) 5 rfl (by kernel_rfl) (.inr (fun _ h => st_take [0, 0, 0, 0, 0, 0, 0] h)) (.inr ⟨rfl, rfl⟩) ?_
  refine Wr.pure (v := undef) 6 rfl (by kernel_rfl) (.inr (fun _ h => st_take [0, 0, 0, 0, 0, 0, 0] h)) (.inr ⟨rfl, rfl⟩) ?_
  refine Wr.pure (v := undef) 7 rfl (by kernel_rfl) (.inr (fun _ h => st_take [0, 0, 0, 0, 0, 0, 0] h)) (.inr ⟨rfl, rfl⟩) ?_
  refine Wr.pure (v := undef) 8 rfl (by kernel_rfl) (.inr (fun _ h => st_take [0, 0, 0, 0, 0, 0, 0] h)) (.inr ⟨rfl, rfl⟩) ?_
  refine Wr.pure (v := undef) 9 rfl (by kernel_rfl) (.inr (fun _ h => st_take [0, 0, 0, 0, 0, 0, 0] h)) (.inr ⟨rfl, rfl⟩) ?_
  refine Wr.pure (v := Value.bool true) 10 rfl (by kernel_rfl) (.inr (fun _ h => st_take [0, 0, 0, 0, 0, 0, 0] h)) (.inl ⟨rfl, fun _ => q_pick (t := true) rfl rfl⟩) ?_
  refine Wr.pure (v := Value.bool true) 11 rfl (by kernel_rfl) (.inr (fun _ h => st_take [0, 0, 0, 0, 0, 0, 0] h)) (.inl ⟨rfl, fun _ => q_move rfl⟩) ?_
  refine Wr.pure (v := undef) 12 rfl (by kernel_rfl) (.inr (fun _ h => st_take [0, 0, 0, 0, 0, 0, 0] h)) (.inr ⟨rfl, rfl⟩) ?_
  refine Wr.pure (v := undef) 13 rfl (by kernel_rfl) (.inr (fun _ h => st_take [0, 0, 0, 0, 0, 0, 0] h)) (.inr ⟨rfl, rfl⟩) ?_
  refine Wr.pure (v := undef) 14 rfl (by kernel_rfl) (.inr (fun _ h => st_take [0, 0, 0, 0, 0, 0, 0] h)) (.inr ⟨rfl, rfl⟩) ?_
  refine Wr.pure (v := Value.bool true) 15 rfl (by kernel_rfl) (.inr (fun _ h => st_take [0, 0, 0, 0, 0, 0, 0] h)) (.inl ⟨rfl, fun _ => q_pick (t := true) rfl rfl⟩) ?_
  refine Wr.done (by kernel_rfl) ?_
  refine Wx.go ?_
  refine Wc.yes rfl ?_
  refine Wc.seq ?_
  refine Wc.region ?_
  refine Wl.q (v := Value.int .i64 1) (q_assign rfl) ?_
  refine Wl.done ?_
  refine Wx.go ?_
  refine Wc.ret ?_
  refine Wx.thenRet ?_
  refine Wx.fin1 rfl (.inl rfl) (fun w hs => ?_)
  have e : DS.write ⟨secs, since, false, count, (some (0, bits))⟩ at_ s = (1, ⟨secs, since, false, count, (some (0, bits))⟩) := write_bad rfl (by first | exact .inl hneg | exact .inr (.inl hge) | exact .inr (.inr hsz))
  rw [e]
  exact ⟨(), trivial, rfl, isDisk_mk rfl (st_pull [1, 1, 1] (mayR_some (n := 0) (st_pull [3, 0, 0, 0] (st_drop (st_drop (st_drop (st_pull [1, 1, 1] hs)))))))⟩
 ·
  obtain ⟨a, rfl⟩ := Int.eq_ofNat_of_zero_le (Int.not_lt.1 hneg)
  refine Wr.pure (v := Value.bool false) 1 rfl (by kernel_rfl) (.inr (fun _ h => st_take [0, 0, 0, 0, 0, 0, 0] h)) (.inl ⟨rfl, fun _ => q_lss (r := false) rfl rfl (decide_eq_false hneg)⟩) ?_
  refine Wr.pure (v := Value.bool false) 2 rfl (by kernel_rfl) (.inr (fun _ h => st_take [0, 0, 0, 0, 0, 0, 0] h)) (.inl ⟨rfl, fun _ => q_move rfl⟩) ?_
  refine Wr.take (v := Value.int .i64 ((a : Nat) : Int)) 3 rfl (by kernel_rfl) (fun _ h => st_take [0, 0, 0, 0, 0, 0, 0] h) (.inl ⟨rfl, q_load sc_3 rfl (.cel (i := 2) rfl rfl)⟩) ?_
  refine Wr.take (v := Value.pointer (some ⟨p, 0, none⟩)) 4 rfl (by kernel_rfl) (fun _ h => st_take [0, 0, 0, 0, 0, 0, 0] h) (.inl ⟨rfl, q_load sc_33 rfl (.cel (i := 3) rfl rfl)⟩) ?_
  refine Wr.pure (v := Value.pointer (some ⟨p, 0, none⟩)) 5 rfl (by kernel_rfl) (.inr (fun _ h => st_take [0, 0, 0, 0, 0, 0, 0] h)) (.inl ⟨rfl, fun _ => q_nil_ptr rfl⟩) ?_
  refine Wr.pure (v := Value.pointer (some ⟨p, 0, none⟩)) 6 rfl (by kernel_rfl) (.inr (fun _ h => st_take [0, 0, 0, 0, 0, 0, 0] h)) (.inl ⟨rfl, fun _ => q_field (m := 0) fo_82_0 rfl rfl⟩) ?_
  refine Wr.take (v := Value.slice (some ⟨bs, 0, none⟩) secs.length secs.length) 7 rfl (by kernel_rfl) (fun _ h => st_take [0, 0, 0, 0, 0, 0, 0] h) (.inl ⟨rfl, q_load sc_50 rfl (.cel (i := 0) rfl rfl)⟩) ?_
  refine Wr.take (v := Value.int .i64 ((secs.length : Nat) : Int)) 8 rfl (by kernel_rfl) (fun _ h => st_take [0, 0, 0, 0, 0, 0, 0] h) (.inl ⟨rfl, q_len_slice Tryz.underlying50 rfl⟩) ?_
  by_cases hge : ((a : Nat) : Int) ≥ ((secs.length : Nat) : Int)
  ·
   refine Wr.pure (v := Value.bool true) 9 rfl (by kernel_rfl) (.inr (fun _ h => st_take [0, 0, 0, 0, 0, 0, 0] h)) (.inl ⟨rfl, fun _ => q_geq (r := true) rfl rfl (decide_eq_true hge)⟩) ?_
   refine Wr.pure (v := Value.bool true) 10 rfl (by kernel_rfl) (.inr (fun _ h => st_take [0, 0, 0, 0, 0, 0, 0] h)) (.inl ⟨rfl, fun _ => q_pick (t := false) rfl rfl⟩) ?_
   refine Wr.pure (v := Value.bool true) 11 rfl (by kernel_rfl) (.inr (fun _ h => st_take [0, 0, 0, 0, 0, 0, 0] h)) (.inl ⟨rfl, fun _ => q_move rfl⟩) ?_
   refine Wr.pure (v := undef) 12 rfl (by kernel_rfl) (.inr (fun _ h => st_take [0, 0, 0, 0, 0, 0, 0] h)) (.inr ⟨rfl, rfl⟩) ?_
   refine Wr.pure (v := undef) 13 rfl (by kernel_rfl) (.inr (fun _ h => st_take [0, 0, 0, 0, 0, 0, 0] h)) (.inr ⟨rfl, rfl⟩) ?_
   refine Wr.pure (v := undef) 14 rfl (by kernel_rfl) (.inr (fun _ h => st_take [0, 0, 0, 0, 0, 0, 0] h)) (.inr ⟨rfl, rfl⟩) ?_
   refine Wr.pure (v := Value.bool true) 15 rfl (by kernel_rfl) (.inr (fun _ h => st_take [0, 0, 0, 0, 0, 0, 0] h)) (.inl ⟨rfl, fun _ => q_pick (t := true) rfl rfl⟩) ?_
   refine Wr.done (by kernel_rfl) ?_
   refine Wx.go ?_
   refine Wc.yes rfl ?_
   refine Wc.seq ?_
   refine Wc.region ?_
   refine Wl.q (v := Value.int .i64 1) (q_assign rfl) ?_
   refine Wl.done ?_
   refine Wx.go ?_
   refine Wc.ret ?_
   refine Wx.thenRet ?_
   refine Wx.fin1 rfl (.inl rfl) (fun w hs => ?_)
   have e : DS.write ⟨secs, since, false, count, (some (0, bits))⟩ ((a : Nat) : Int) s = (1, ⟨secs, since, false, count, (some (0, bits))⟩) := write_bad rfl (by first | exact .inl hneg | exact .inr (.inl hge) | exact .inr (.inr hsz))
   rw [e]
   exact ⟨(), trivial, rfl, isDisk_mk rfl (st_pull [1, 1, 1] (mayR_some (n := 0) (st_pull [3, 0, 0, 0] (st_drop (st_drop (st_drop (st_pull [1, 1, 1] hs)))))))⟩
  ·
   refine Wr.pure (v := Value.bool false) 9 rfl (by kernel_rfl) (.inr (fun _ h => st_take [0, 0, 0, 0, 0, 0, 0] h)) (.inl ⟨rfl, fun _ => q_geq (r := false) rfl rfl (decide_eq_false hge)⟩) ?_
   refine Wr.pure (v := Value.bool false) 10 rfl (by kernel_rfl) (.inr (fun _ h => st_take [0, 0, 0, 0, 0, 0, 0] h)) (.inl ⟨rfl, fun _ => q_pick (t := false) rfl rfl⟩) ?_
   refine Wr.pure (v := Value.bool false) 11 rfl (by kernel_rfl) (.inr (fun _ h => st_take [0, 0, 0, 0, 0, 0, 0] h)) (.inl ⟨rfl, fun _ => q_move rfl⟩) ?_
   refine Wr.take (v := Value.string s) 12 rfl (by kernel_rfl) (fun _ h => st_take [0, 0, 0, 0, 0, 0, 0] h) (.inl ⟨rfl, q_load sc_9 rfl (.cel (i := 1) rfl rfl)⟩) ?_
   refine Wr.take (v := Value.int .i64 ((s.size : Nat) : Int)) 13 rfl (by kernel_rfl) (fun _ h => st_take [0, 0, 0, 0, 0, 0, 0] h) (.inl ⟨rfl, q_len_str Tryz.underlying9 rfl⟩) ?_
   by_cases hsz : ((s.size : Nat) : Int) = 64
   ·
    refine Wr.pure (v := Value.bool false) 14 rfl (by kernel_rfl) (.inr (fun _ h => st_take [0, 0, 0, 0, 0, 0, 0] h)) (.inl ⟨rfl, fun _ => q_neq (r := true) rfl rfl (decide_eq_true hsz)⟩) ?_
    refine Wr.pure (v := Value.bool false) 15 rfl (by kernel_rfl) (.inr (fun _ h => st_take [0, 0, 0, 0, 0, 0, 0] h)) (.inl ⟨rfl, fun _ => q_pick (t := false) rfl rfl⟩) ?_
    refine Wr.done (by kernel_rfl) ?_
    refine Wx.go ?_
    refine Wc.no rfl ?_
    refine Wc.skip ?_
    refine Wx.go ?_
    refine Wc.seq ?_
    refine Wc.region ?_
    refine Wl.q (v := Value.pointer (some ⟨p, 0, none⟩)) (q_load sc_33 rfl (.cel (i := 3) rfl rfl)) ?_
    refine Wl.q (v := Value.func (.func 119) #[] #[Value.pointer (some ⟨b3, 0, none⟩), Value.pointer (some ⟨b4, 0, none⟩), Value.pointer (some ⟨b5, 0, none⟩)]) (q_makeFunc (us := []) (vs := [Value.pointer (some ⟨b3, 0, none⟩), Value.pointer (some ⟨b4, 0, none⟩), Value.pointer (some ⟨b5, 0, none⟩)]) rfl rfl) ?_
    refine Wl.imp (L' := (pt c 93 [Value.pointer (some ⟨p, 0, none⟩), Value.int .i64 0, Value.int .i64 bits]) :: (sl 122 2 sv since.length (flat since)) :: (pt p 82 ([Value.slice (some ⟨bs, 0, none⟩) secs.length secs.length, sv, Value.bool false, Value.int .i64 ((count : Nat) : Int), Value.func (.func 57) #[Value.pointer (some ⟨c, 0, none⟩)] #[]])) :: (pt bs 9 (secs.map Value.string)) :: (pt b5 9 [Value.string s]) :: (pt b4 3 [Value.int .i64 ((a : Nat) : Int)]) :: (pt b3 33 [Value.pointer (some ⟨p, 0, none⟩)]) :: F) (fun _ h => st_pull [6, 5, 0, 3] h) ?_
    refine Wl.e (e_call (F := (pt b5 9 [Value.string s]) :: (pt b4 3 [Value.int .i64 ((a : Nat) : Int)]) :: (pt b3 33 [Value.pointer (some ⟨p, 0, none⟩)]) :: F) (args := [Value.pointer (some ⟨p, 0, none⟩), Value.func (.func 119) #[] #[Value.pointer (some ⟨b3, 0, none⟩), Value.pointer (some ⟨b4, 0, none⟩), Value.pointer (some ⟨b5, 0, none⟩)]]) Tryz.call118 rfl (do_cut0 W0 p bs secs since count bits hw c sv (Value.func (.func 119) #[] #[Value.pointer (some ⟨b3, 0, none⟩), Value.pointer (some ⟨b4, 0, none⟩), Value.pointer (some ⟨b5, 0, none⟩)]))) (fun _ _ => ?_)
    refine Wl.imp (L' := (pt p 82 ([Value.slice (some ⟨bs, 0, none⟩) secs.length secs.length, Value.slice none 0 0, Value.bool true, Value.int .i64 ((count : Nat) : Int), Value.func (.func 47) #[Value.pointer (some ⟨p, 0, none⟩)] #[]])) :: (pt bs 9 ((fallL secs (since.take 31) bits).map Value.string)) :: (pt b5 9 [Value.string s]) :: (pt b4 3 [Value.int .i64 ((a : Nat) : Int)]) :: (pt b3 33 [Value.pointer (some ⟨p, 0, none⟩)]) :: F) (fun _ h => h) ?_
    refine Wl.q (v := Value.int .i64 6) (q_assign rfl) ?_
    refine Wl.done ?_
    refine Wx.go ?_
    refine Wc.ret ?_
    refine Wx.fin1 rfl (.inl rfl) (fun w hs => ?_)
    have e : DS.write ⟨secs, since, false, count, (some (0, bits))⟩ ((a : Nat) : Int) s = (6, ⟨fallL secs (since.take 31) bits, [], true, count, none⟩) := by rw [write_ok rfl hge hsz]; rfl
    rw [e]
    exact ⟨(), trivial, rfl, isDisk_mk (fallL_length _ _ _).symm (st_pull [2, 2] (st_sl_nil (mayR_none (st_drop (st_drop (st_drop (st_pull [2, 2, 2] hs)))))))⟩
   ·
    refine Wr.pure (v := Value.bool true) 14 rfl (by kernel_rfl) (.inr (fun _ h => st_take [0, 0, 0, 0, 0, 0, 0] h)) (.inl ⟨rfl, fun _ => q_neq (r := false) rfl rfl (decide_eq_false hsz)⟩) ?_
    refine Wr.pure (v := Value.bool true) 15 rfl (by kernel_rfl) (.inr (fun _ h => st_take [0, 0, 0, 0, 0, 0, 0] h)) (.inl ⟨rfl, fun _ => q_pick (t := false) rfl rfl⟩) ?_
    refine Wr.done (by kernel_rfl) ?_
    refine Wx.go ?_
    refine Wc.yes rfl ?_
    refine Wc.seq ?_
    refine Wc.region ?_
    refine Wl.q (v := Value.int .i64 1) (q_assign rfl) ?_
    refine Wl.done ?_
    refine Wx.go ?_
    refine Wc.ret ?_
    refine Wx.thenRet ?_
    refine Wx.fin1 rfl (.inl rfl) (fun w hs => ?_)
    have e : DS.write ⟨secs, since, false, count, (some (0, bits))⟩ ((a : Nat) : Int) s = (1, ⟨secs, since, false, count, (some (0, bits))⟩) := write_bad rfl (by first | exact .inl hneg | exact .inr (.inl hge) | exact .inr (.inr hsz))
    rw [e]
    exact ⟨(), trivial, rfl, isDisk_mk rfl (st_pull [1, 1, 1] (mayR_some (n := 0) (st_pull [3, 0, 0, 0] (st_drop (st_drop (st_drop (st_pull [1, 1, 1] hs)))))))⟩

theorem sync_down (W0 : World) (p : Nat) (secs : List ByteArray) (since : List (Nat × ByteArray)) (count : Nat) (cut : Option (Nat × Int)) :
  Con Tryz.prog W0 101 #[Value.pointer (some ⟨p, 0, none⟩)] [isDisk p (⟨secs, since, true, count, cut⟩ : DS)] (X := Unit) (fun _ => True) (fun _ => Value.int .i64 (DS.sync (⟨secs, since, true, count, cut⟩ : DS)).1) (fun _ => [isDisk p (DS.sync (⟨secs, since, true, count, cut⟩ : DS)).2]) := by
 refine Con.disk (fun bs sv fn us vs => ?_)
 refine Con.of (args := [Value.pointer (some ⟨p, 0, none⟩)]) Tryz.func101 rfl Tryz.ntmps101 rfl (fun F => ?_)
 show Wc _ W0 _ _ _ _ _ ((pt p 82 [Value.slice (some ⟨bs, 0, none⟩) secs.length secs.length, sv, Value.bool true, Value.int .i64 ((count : Nat) : Int), .func fn us vs]) :: (pt bs 9 (secs.map Value.string)) :: (sl 122 2 sv since.length (flat since)) :: (mayR p (Value.func fn us vs) cut) :: F)
 refine Wc.seq ?_
 refine Wc.region ?_
 refine Wl.e (e_box (x := .tmp 0) (vs := [Value.pointer (some ⟨p, 0, none⟩)]) rfl) (fun b1 _ => ?_)
 refine Wl.imp (L' := (pt b1 33 [Value.pointer (some ⟨p, 0, none⟩)]) :: (pt p 82 [Value.slice (some ⟨bs, 0, none⟩) secs.length secs.length, sv, Value.bool true, Value.int .i64 ((count : Nat) : Int), .func fn us vs]) :: (pt bs 9 (secs.map Value.string)) :: (sl 122 2 sv since.length (flat since)) :: (mayR p (Value.func fn us vs) cut) :: F) (fun _ h => h) ?_
 refine Wl.q (v := Value.int .i64 0) (q_assign rfl) ?_
 refine Wl.done ?_
 refine Wx.go ?_
 refine Wc.seq ?_
 refine Wc.seq ?_
 refine Wc.region ?_
 refine Wl.q (v := Value.pointer (some ⟨p, 0, none⟩)) (q_load sc_33 rfl (.cel (i := 0) rfl rfl)) ?_
 refine Wl.imp (L' := (pt p 82 [Value.slice (some ⟨bs, 0, none⟩) secs.length secs.length, sv, Value.bool true, Value.int .i64 ((count : Nat) : Int), .func fn us vs]) :: (pt b1 33 [Value.pointer (some ⟨p, 0, none⟩)]) :: (pt bs 9 (secs.map Value.string)) :: (sl 122 2 sv since.length (flat since)) :: (mayR p (Value.func fn us vs) cut) :: F) (fun _ h => st_pull [1] h) ?_
 refine Wl.e (e_call (F := (pt b1 33 [Value.pointer (some ⟨p, 0, none⟩)]) :: (pt bs 9 (secs.map Value.string)) :: (sl 122 2 sv since.length (flat since)) :: (mayR p (Value.func fn us vs) cut) :: F) (args := [Value.pointer (some ⟨p, 0, none⟩)]) Tryz.call56 rfl (state_down W0 p (Value.slice (some ⟨bs, 0, none⟩) secs.length secs.length) (sv) (Value.int .i64 ((count : Nat) : Int)) fn us vs)) (fun _ _ => ?_)
 refine Wl.imp (L' := (pt p 82 [Value.slice (some ⟨bs, 0, none⟩) secs.length secs.length, sv, Value.bool true, Value.int .i64 ((count : Nat) : Int), .func fn us vs]) :: (pt b1 33 [Value.pointer (some ⟨p, 0, none⟩)]) :: (pt bs 9 (secs.map Value.string)) :: (sl 122 2 sv since.length (flat since)) :: (mayR p (Value.func fn us vs) cut) :: F) (fun _ h => h) ?_
 refine Wl.q (v := Value.int .i64 6) (q_assign rfl) ?_
 refine Wl.done ?_
 refine Wx.go ?_
 refine Wc.seq ?_
 refine Wc.region ?_
 refine Wl.q (v := Value.int .i64 6) (q_move rfl) ?_
 refine Wl.q (v := Value.bool true) (q_neq (r := false) rfl rfl (decide_eq_false (by decide))) ?_
 refine Wl.done ?_
 refine Wx.go ?_
 refine Wc.yes rfl ?_
 refine Wc.seq ?_
 refine Wc.region ?_
 refine Wl.q (v := Value.int .i64 6) (q_move rfl) ?_
 refine Wl.q (v := Value.int .i64 6) (q_assign rfl) ?_
 refine Wl.done ?_
 refine Wx.go ?_
 refine Wc.ret ?_
 refine Wx.thenRet ?_
 refine Wx.fin1 rfl (.inl rfl) (fun w hs => ?_)
 have e : DS.sync ⟨secs, since, true, count, cut⟩ = (6, ⟨secs, since, true, count, cut⟩) := rfl
 rw [e]
 exact ⟨(), trivial, rfl, isDisk_mk rfl (st_drop (st_pull [1] hs))⟩

theorem sync_alw (W0 : World) (p : Nat) (secs : List ByteArray) (since : List (Nat × ByteArray)) (count : Nat) (hw : WFl secs since) (hsince : since.length < 1099511627776) (hcount : count < 4611686018427387904) :
  Con Tryz.prog W0 101 #[Value.pointer (some ⟨p, 0, none⟩)] [isDisk p (⟨secs, since, false, count, none⟩ : DS)] (X := Unit) (fun _ => True) (fun _ => Value.int .i64 (DS.sync (⟨secs, since, false, count, none⟩ : DS)).1) (fun _ => [isDisk p (DS.sync (⟨secs, since, false, count, none⟩ : DS)).2]) := by
 refine Con.alw rfl (fun bs sv => ?_)
 refine Con.of (args := [Value.pointer (some ⟨p, 0, none⟩)]) Tryz.func101 rfl Tryz.ntmps101 rfl (fun F => ?_)
 show Wc _ W0 _ _ _ _ _ ((pt p 82 ([Value.slice (some ⟨bs, 0, none⟩) secs.length secs.length, sv, Value.bool false, Value.int .i64 ((count : Nat) : Int), Value.func (.func 47) #[Value.pointer (some ⟨p, 0, none⟩)] #[]])) :: (pt bs 9 (secs.map Value.string)) :: (sl 122 2 sv since.length (flat since)) :: F)
 refine Wc.seq ?_
 refine Wc.region ?_
 refine Wl.e (e_box (x := .tmp 0) (vs := [Value.pointer (some ⟨p, 0, none⟩)]) rfl) (fun b1 _ => ?_)
 refine Wl.imp (L' := (pt b1 33 [Value.pointer (some ⟨p, 0, none⟩)]) :: (pt p 82 ([Value.slice (some ⟨bs, 0, none⟩) secs.length secs.length, sv, Value.bool false, Value.int .i64 ((count : Nat) : Int), Value.func (.func 47) #[Value.pointer (some ⟨p, 0, none⟩)] #[]])) :: (pt bs 9 (secs.map Value.string)) :: (sl 122 2 sv since.length (flat since)) :: F) (fun _ h => h) ?_
 refine Wl.q (v := Value.int .i64 0) (q_assign rfl) ?_
 refine Wl.done ?_
 refine Wx.go ?_
 refine Wc.seq ?_
 refine Wc.seq ?_
 refine Wc.region ?_
 refine Wl.q (v := Value.pointer (some ⟨p, 0, none⟩)) (q_load sc_33 rfl (.cel (i := 0) rfl rfl)) ?_
 refine Wl.imp (L' := (pt p 82 ([Value.slice (some ⟨bs, 0, none⟩) secs.length secs.length, sv, Value.bool false, Value.int .i64 ((count : Nat) : Int), Value.func (.func 47) #[Value.pointer (some ⟨p, 0, none⟩)] #[]])) :: (pt b1 33 [Value.pointer (some ⟨p, 0, none⟩)]) :: (pt bs 9 (secs.map Value.string)) :: (sl 122 2 sv since.length (flat since)) :: F) (fun _ h => st_pull [1] h) ?_
 refine Wl.e (e_call (F := (pt b1 33 [Value.pointer (some ⟨p, 0, none⟩)]) :: (pt bs 9 (secs.map Value.string)) :: (sl 122 2 sv since.length (flat since)) :: F) (args := [Value.pointer (some ⟨p, 0, none⟩)]) Tryz.call56 rfl (state_up W0 p (Value.slice (some ⟨bs, 0, none⟩) secs.length secs.length) (sv) (Value.int .i64 ((count : Nat) : Int)) (.func 47) #[Value.pointer (some ⟨p, 0, none⟩)] #[])) (fun _ _ => ?_)
 refine Wl.imp (L' := (pt p 82 ([Value.slice (some ⟨bs, 0, none⟩) secs.length secs.length, sv, Value.bool false, Value.int .i64 ((count : Nat) : Int), Value.func (.func 47) #[Value.pointer (some ⟨p, 0, none⟩)] #[]])) :: (pt b1 33 [Value.pointer (some ⟨p, 0, none⟩)]) :: (pt bs 9 (secs.map Value.string)) :: (sl 122 2 sv since.length (flat since)) :: F) (fun _ h => h) ?_
 refine Wl.q (v := Value.int .i64 0) (q_assign rfl) ?_
 refine Wl.done ?_
 refine Wx.go ?_
 refine Wc.seq ?_
 refine Wc.region ?_
 refine Wl.q (v := Value.int .i64 0) (q_move rfl) ?_
 refine Wl.q (v := Value.bool false) (q_neq (r := true) rfl rfl (decide_eq_true (by decide))) ?_
 refine Wl.done ?_
 refine Wx.go ?_
 refine Wc.no rfl ?_
 refine Wc.skip ?_
 refine Wx.go ?_
 refine Wc.seq ?_
 refine Wc.region ?_
 refine Wl.q (v := Value.pointer (some ⟨p, 0, none⟩)) (q_load sc_33 rfl (.cel (i := 1) rfl rfl)) ?_
 refine Wl.q (v := Value.func (.func 120) #[] #[Value.pointer (some ⟨b1, 0, none⟩)]) (q_makeFunc (us := []) (vs := [Value.pointer (some ⟨b1, 0, none⟩)]) rfl rfl) ?_
 refine Wl.imp (L' := (pt p 82 ([Value.slice (some ⟨bs, 0, none⟩) secs.length secs.length, sv, Value.bool false, Value.int .i64 ((count : Nat) : Int), Value.func (.func 47) #[Value.pointer (some ⟨p, 0, none⟩)] #[]])) :: (sl 122 2 sv since.length (flat since)) :: (pt bs 9 (secs.map Value.string)) :: (pt b1 33 [Value.pointer (some ⟨p, 0, none⟩)]) :: F) (fun _ h => st_pull [0, 2, 1, 0] h) ?_
 refine Wl.imp (L' := (pt p 82 ([Value.slice (some ⟨bs, 0, none⟩) secs.length secs.length, sv, Value.bool false, Value.int .i64 ((count : Nat) : Int), Value.func (.func 47) #[Value.pointer (some ⟨p, 0, none⟩)] #[]])) :: (grp [sl 122 2 sv since.length (flat since), pt bs 9 (secs.map Value.string), pt b1 33 [Value.pointer (some ⟨p, 0, none⟩)]]) :: F) (fun _ h => st_grpAt h) ?_
 refine Wl.e (e_call (F := F) (args := [Value.pointer (some ⟨p, 0, none⟩), Value.func (.func 120) #[] #[Value.pointer (some ⟨b1, 0, none⟩)]]) Tryz.call118 rfl (do_alw W0 p (Value.slice (some ⟨bs, 0, none⟩) secs.length secs.length) sv count hcount 120 Tryz.call120 [Value.pointer (some ⟨b1, 0, none⟩)] [sl 122 2 sv since.length (flat since), pt bs 9 (secs.map Value.string), pt b1 33 [Value.pointer (some ⟨p, 0, none⟩)]] (fun _ => [pt p 82 ([Value.slice (some ⟨bs, 0, none⟩) secs.length secs.length, Value.slice none 0 0, Value.bool false, Value.int .i64 (((count + 1) : Nat) : Int), Value.func (.func 47) #[Value.pointer (some ⟨p, 0, none⟩)] #[]]), pt bs 9 ((syncL secs since).map Value.string), pt b1 33 [Value.pointer (some ⟨p, 0, none⟩)]])  (sync1_g W0 p bs secs since (count + 1) (Value.func (.func 47) #[Value.pointer (some ⟨p, 0, none⟩)] #[]) b1 hw hsince sv))) (fun u _ => ?_)
 refine Wl.imp (L' := (pt p 82 ([Value.slice (some ⟨bs, 0, none⟩) secs.length secs.length, Value.slice none 0 0, Value.bool false, Value.int .i64 (((count + 1) : Nat) : Int), Value.func (.func 47) #[Value.pointer (some ⟨p, 0, none⟩)] #[]])) :: (pt bs 9 ((syncL secs since).map Value.string)) :: (pt b1 33 [Value.pointer (some ⟨p, 0, none⟩)]) :: F) (fun _ h => st_grp.1 h) ?_
 refine Wl.q (v := Value.int .i64 0) (q_assign rfl) ?_
 refine Wl.done ?_
 refine Wx.go ?_
 refine Wc.ret ?_
 refine Wx.fin1 rfl (.inl rfl) (fun w hs => ?_)
 have e : DS.sync ⟨secs, since, false, count, none⟩ = (0, ⟨syncL secs since, [], false, count + 1, none⟩) := rfl
 rw [e]
 exact ⟨(), trivial, rfl, isDisk_mk (syncL_length _ _).symm (st_pull [2, 2] (st_sl_nil (mayR_none (st_drop (st_pull [2] hs)))))⟩

theorem sync_cutS (W0 : World) (p : Nat) (secs : List ByteArray) (since : List (Nat × ByteArray)) (count : Nat) (n : Nat) (bits : Int) (hw : WFl secs since) (hsince : since.length < 1099511627776) (hcount : count < 4611686018427387904) (hn : n < 9223372036854775807) :
  Con Tryz.prog W0 101 #[Value.pointer (some ⟨p, 0, none⟩)] [isDisk p (⟨secs, since, false, count, (some (n + 1, bits))⟩ : DS)] (X := Unit) (fun _ => True) (fun _ => Value.int .i64 (DS.sync (⟨secs, since, false, count, (some (n + 1, bits))⟩ : DS)).1) (fun _ => [isDisk p (DS.sync (⟨secs, since, false, count, (some (n + 1, bits))⟩ : DS)).2]) := by
 refine Con.cutd rfl (fun bs sv c => ?_)
 refine Con.of (args := [Value.pointer (some ⟨p, 0, none⟩)]) Tryz.func101 rfl Tryz.ntmps101 rfl (fun F => ?_)
 show Wc _ W0 _ _ _ _ _ ((pt p 82 ([Value.slice (some ⟨bs, 0, none⟩) secs.length secs.length, sv, Value.bool false, Value.int .i64 ((count : Nat) : Int), Value.func (.func 57) #[Value.pointer (some ⟨c, 0, none⟩)] #[]])) :: (pt bs 9 (secs.map Value.string)) :: (sl 122 2 sv since.length (flat since)) :: (pt c 93 [Value.pointer (some ⟨p, 0, none⟩), Value.int .i64 (((n + 1) : Nat) : Int), Value.int .i64 bits]) :: F)
 refine Wc.seq ?_
 refine Wc.region ?_
 refine Wl.e (e_box (x := .tmp 0) (vs := [Value.pointer (some ⟨p, 0, none⟩)]) rfl) (fun b1 _ => ?_)
 refine Wl.imp (L' := (pt b1 33 [Value.pointer (some ⟨p, 0, none⟩)]) :: (pt p 82 ([Value.slice (some ⟨bs, 0, none⟩) secs.length secs.length, sv, Value.bool false, Value.int .i64 ((count : Nat) : Int), Value.func (.func 57) #[Value.pointer (some ⟨c, 0, none⟩)] #[]])) :: (pt bs 9 (secs.map Value.string)) :: (sl 122 2 sv since.length (flat since)) :: (pt c 93 [Value.pointer (some ⟨p, 0, none⟩), Value.int .i64 (((n + 1) : Nat) : Int), Value.int .i64 bits]) :: F) (fun _ h => h) ?_
 refine Wl.q (v := Value.int .i64 0) (q_assign rfl) ?_
 refine Wl.done ?_
 refine Wx.go ?_
 refine Wc.seq ?_
 refine Wc.seq ?_
 refine Wc.region ?_
 refine Wl.q (v := Value.pointer (some ⟨p, 0, none⟩)) (q_load sc_33 rfl (.cel (i := 0) rfl rfl)) ?_
 refine Wl.imp (L' := (pt p 82 ([Value.slice (some ⟨bs, 0, none⟩) secs.length secs.length, sv, Value.bool false, Value.int .i64 ((count : Nat) : Int), Value.func (.func 57) #[Value.pointer (some ⟨c, 0, none⟩)] #[]])) :: (pt b1 33 [Value.pointer (some ⟨p, 0, none⟩)]) :: (pt bs 9 (secs.map Value.string)) :: (sl 122 2 sv since.length (flat since)) :: (pt c 93 [Value.pointer (some ⟨p, 0, none⟩), Value.int .i64 (((n + 1) : Nat) : Int), Value.int .i64 bits]) :: F) (fun _ h => st_pull [1] h) ?_
 refine Wl.e (e_call (F := (pt b1 33 [Value.pointer (some ⟨p, 0, none⟩)]) :: (pt bs 9 (secs.map Value.string)) :: (sl 122 2 sv since.length (flat since)) :: (pt c 93 [Value.pointer (some ⟨p, 0, none⟩), Value.int .i64 (((n + 1) : Nat) : Int), Value.int .i64 bits]) :: F) (args := [Value.pointer (some ⟨p, 0, none⟩)]) Tryz.call56 rfl (state_up W0 p (Value.slice (some ⟨bs, 0, none⟩) secs.length secs.length) (sv) (Value.int .i64 ((count : Nat) : Int)) (.func 57) #[Value.pointer (some ⟨c, 0, none⟩)] #[])) (fun _ _ => ?_)
 refine Wl.imp (L' := (pt p 82 ([Value.slice (some ⟨bs, 0, none⟩) secs.length secs.length, sv, Value.bool false, Value.int .i64 ((count : Nat) : Int), Value.func (.func 57) #[Value.pointer (some ⟨c, 0, none⟩)] #[]])) :: (pt b1 33 [Value.pointer (some ⟨p, 0, none⟩)]) :: (pt bs 9 (secs.map Value.string)) :: (sl 122 2 sv since.length (flat since)) :: (pt c 93 [Value.pointer (some ⟨p, 0, none⟩), Value.int .i64 (((n + 1) : Nat) : Int), Value.int .i64 bits]) :: F) (fun _ h => h) ?_
 refine Wl.q (v := Value.int .i64 0) (q_assign rfl) ?_
 refine Wl.done ?_
 refine Wx.go ?_
 refine Wc.seq ?_
 refine Wc.region ?_
 refine Wl.q (v := Value.int .i64 0) (q_move rfl) ?_
 refine Wl.q (v := Value.bool false) (q_neq (r := true) rfl rfl (decide_eq_true (by decide))) ?_
 refine Wl.done ?_
 refine Wx.go ?_
 refine Wc.no rfl ?_
 refine Wc.skip ?_
 refine Wx.go ?_
 refine Wc.seq ?_
 refine Wc.region ?_
 refine Wl.q (v := Value.pointer (some ⟨p, 0, none⟩)) (q_load sc_33 rfl (.cel (i := 1) rfl rfl)) ?_
 refine Wl.q (v := Value.func (.func 120) #[] #[Value.pointer (some ⟨b1, 0, none⟩)]) (q_makeFunc (us := []) (vs := [Value.pointer (some ⟨b1, 0, none⟩)]) rfl rfl) ?_
 refine Wl.imp (L' := (pt p 82 ([Value.slice (some ⟨bs, 0, none⟩) secs.length secs.length, sv, Value.bool false, Value.int .i64 ((count : Nat) : Int), Value.func (.func 57) #[Value.pointer (some ⟨c, 0, none⟩)] #[]])) :: (sl 122 2 sv since.length (flat since)) :: (pt bs 9 (secs.map Value.string)) :: (pt b1 33 [Value.pointer (some ⟨p, 0, none⟩)]) :: (pt c 93 [Value.pointer (some ⟨p, 0, none⟩), Value.int .i64 (((n + 1) : Nat) : Int), Value.int .i64 bits]) :: F) (fun _ h => st_pull [0, 2, 1, 0] h) ?_
 refine Wl.imp (L' := (pt p 82 ([Value.slice (some ⟨bs, 0, none⟩) secs.length secs.length, sv, Value.bool false, Value.int .i64 ((count : Nat) : Int), Value.func (.func 57) #[Value.pointer (some ⟨c, 0, none⟩)] #[]])) :: (grp [sl 122 2 sv since.length (flat since), pt bs 9 (secs.map Value.string), pt b1 33 [Value.pointer (some ⟨p, 0, none⟩)]]) :: (pt c 93 [Value.pointer (some ⟨p, 0, none⟩), Value.int .i64 (((n + 1) : Nat) : Int), Value.int .i64 bits]) :: F) (fun _ h => st_grpAt h) ?_
 refine Wl.e (e_call (F := F) (args := [Value.pointer (some ⟨p, 0, none⟩), Value.func (.func 120) #[] #[Value.pointer (some ⟨b1, 0, none⟩)]]) Tryz.call118 rfl (do_cutS W0 p (Value.slice (some ⟨bs, 0, none⟩) secs.length secs.length) sv count hcount 120 Tryz.call120 [Value.pointer (some ⟨b1, 0, none⟩)] [sl 122 2 sv since.length (flat since), pt bs 9 (secs.map Value.string), pt b1 33 [Value.pointer (some ⟨p, 0, none⟩)]] (fun _ => [pt p 82 ([Value.slice (some ⟨bs, 0, none⟩) secs.length secs.length, Value.slice none 0 0, Value.bool false, Value.int .i64 (((count + 1) : Nat) : Int), Value.func (.func 57) #[Value.pointer (some ⟨c, 0, none⟩)] #[]]), pt bs 9 ((syncL secs since).map Value.string), pt b1 33 [Value.pointer (some ⟨p, 0, none⟩)]])  c n bits hn (sync1_g W0 p bs secs since (count + 1) (Value.func (.func 57) #[Value.pointer (some ⟨c, 0, none⟩)] #[]) b1 hw hsince sv))) (fun u _ => ?_)
 refine Wl.imp (L' := (pt p 82 ([Value.slice (some ⟨bs, 0, none⟩) secs.length secs.length, Value.slice none 0 0, Value.bool false, Value.int .i64 (((count + 1) : Nat) : Int), Value.func (.func 57) #[Value.pointer (some ⟨c, 0, none⟩)] #[]])) :: (pt bs 9 ((syncL secs since).map Value.string)) :: (pt b1 33 [Value.pointer (some ⟨p, 0, none⟩)]) :: (pt c 93 [Value.pointer (some ⟨p, 0, none⟩), Value.int .i64 ((n : Nat) : Int), Value.int .i64 bits]) :: F) (fun _ h => st_grp.1 h) ?_
 refine Wl.q (v := Value.int .i64 0) (q_assign rfl) ?_
 refine Wl.done ?_
 refine Wx.go ?_
 refine Wc.ret ?_
 refine Wx.fin1 rfl (.inl rfl) (fun w hs => ?_)
 have e : DS.sync ⟨secs, since, false, count, (some (n + 1, bits))⟩ = (0, ⟨syncL secs since, [], false, count + 1, (some (n, bits))⟩) := rfl
 rw [e]
 exact ⟨(), trivial, rfl, isDisk_mk (syncL_length _ _).symm (st_pull [2, 2] (st_sl_nil (mayR_some (st_pull [2, 0, 0] (st_drop (st_pull [2] hs))))))⟩

theorem sync_cut0 (W0 : World) (p : Nat) (secs : List ByteArray) (since : List (Nat × ByteArray)) (count : Nat) (bits : Int) (hw : WFl secs since) (hsince : since.length < 1099511627776) (hcount : count < 4611686018427387904) :
  Con Tryz.prog W0 101 #[Value.pointer (some ⟨p, 0, none⟩)] [isDisk p (⟨secs, since, false, count, (some (0, bits))⟩ : DS)] (X := Unit) (fun _ => True) (fun _ => Value.int .i64 (DS.sync (⟨secs, since, false, count, (some (0, bits))⟩ : DS)).1) (fun _ => [isDisk p (DS.sync (⟨secs, since, false, count, (some (0, bits))⟩ : DS)).2]) := by
 refine Con.cutd (n := 0) rfl (fun bs sv c => ?_)
 refine Con.of (args := [Value.pointer (some ⟨p, 0, none⟩)]) Tryz.func101 rfl Tryz.ntmps101 rfl (fun F => ?_)
 show Wc _ W0 _ _ _ _ _ ((pt p 82 ([Value.slice (some ⟨bs, 0, none⟩) secs.length secs.length, sv, Value.bool false, Value.int .i64 ((count : Nat) : Int), Value.func (.func 57) #[Value.pointer (some ⟨c, 0, none⟩)] #[]])) :: (pt bs 9 (secs.map Value.string)) :: (sl 122 2 sv since.length (flat since)) :: (pt c 93 [Value.pointer (some ⟨p, 0, none⟩), Value.int .i64 0, Value.int .i64 bits]) :: F)
 refine Wc.seq ?_
 refine Wc.region ?_
 refine Wl.e (e_box (x := .tmp 0) (vs := [Value.pointer (some ⟨p, 0, none⟩)]) rfl) (fun b1 _ => ?_)
 refine Wl.imp (L' := (pt b1 33 [Value.pointer (some ⟨p, 0, none⟩)]) :: (pt p 82 ([Value.slice (some ⟨bs, 0, none⟩) secs.length secs.length, sv, Value.bool false, Value.int .i64 ((count : Nat) : Int), Value.func (.func 57) #[Value.pointer (some ⟨c, 0, none⟩)] #[]])) :: (pt bs 9 (secs.map Value.string)) :: (sl 122 2 sv since.length (flat since)) :: (pt c 93 [Value.pointer (some ⟨p, 0, none⟩), Value.int .i64 0, Value.int .i64 bits]) :: F) (fun _ h => h) ?_
 refine Wl.q (v := Value.int .i64 0) (q_assign rfl) ?_
 refine Wl.done ?_
 refine Wx.go ?_
 refine Wc.seq ?_
 refine Wc.seq ?_
 refine Wc.region ?_
 refine Wl.q (v := Value.pointer (some ⟨p, 0, none⟩)) (q_load sc_33 rfl (.cel (i := 0) rfl rfl)) ?_
 refine Wl.imp (L' := (pt p 82 ([Value.slice (some ⟨bs, 0, none⟩) secs.length secs.length, sv, Value.bool false, Value.int .i64 ((count : Nat) : Int), Value.func (.func 57) #[Value.pointer (some ⟨c, 0, none⟩)] #[]])) :: (pt b1 33 [Value.pointer (some ⟨p, 0, none⟩)]) :: (pt bs 9 (secs.map Value.string)) :: (sl 122 2 sv since.length (flat since)) :: (pt c 93 [Value.pointer (some ⟨p, 0, none⟩), Value.int .i64 0, Value.int .i64 bits]) :: F) (fun _ h => st_pull [1] h) ?_
 refine Wl.e (e_call (F := (pt b1 33 [Value.pointer (some ⟨p, 0, none⟩)]) :: (pt bs 9 (secs.map Value.string)) :: (sl 122 2 sv since.length (flat since)) :: (pt c 93 [Value.pointer (some ⟨p, 0, none⟩), Value.int .i64 0, Value.int .i64 bits]) :: F) (args := [Value.pointer (some ⟨p, 0, none⟩)]) Tryz.call56 rfl (state_up W0 p (Value.slice (some ⟨bs, 0, none⟩) secs.length secs.length) (sv) (Value.int .i64 ((count : Nat) : Int)) (.func 57) #[Value.pointer (some ⟨c, 0, none⟩)] #[])) (fun _ _ => ?_)
 refine Wl.imp (L' := (pt p 82 ([Value.slice (some ⟨bs, 0, none⟩) secs.length secs.length, sv, Value.bool false, Value.int .i64 ((count : Nat) : Int), Value.func (.func 57) #[Value.pointer (some ⟨c, 0, none⟩)] #[]])) :: (pt b1 33 [Value.pointer (some ⟨p, 0, none⟩)]) :: (pt bs 9 (secs.map Value.string)) :: (sl 122 2 sv since.length (flat since)) :: (pt c 93 [Value.pointer (some ⟨p, 0, none⟩), Value.int .i64 0, Value.int .i64 bits]) :: F) (fun _ h => h) ?_
 refine Wl.q (v := Value.int .i64 0) (q_assign rfl) ?_
 refine Wl.done ?_
 refine Wx.go ?_
 refine Wc.seq ?_
 refine Wc.region ?_
 refine Wl.q (v := Value.int .i64 0) (q_move rfl) ?_
 refine Wl.q (v := Value.bool false) (q_neq (r := true) rfl rfl (decide_eq_true (by decide))) ?_
 refine Wl.done ?_
 refine Wx.go ?_
 refine Wc.no rfl ?_
 refine Wc.skip ?_
 refine Wx.go ?_
 refine Wc.seq ?_
 refine Wc.region ?_
 refine Wl.q (v := Value.pointer (some ⟨p, 0, none⟩)) (q_load sc_33 rfl (.cel (i := 1) rfl rfl)) ?_
 refine Wl.q (v := Value.func (.func 120) #[] #[Value.pointer (some ⟨b1, 0, none⟩)]) (q_makeFunc (us := []) (vs := [Value.pointer (some ⟨b1, 0, none⟩)]) rfl rfl) ?_
 refine Wl.imp (L' := (pt c 93 [Value.pointer (some ⟨p, 0, none⟩), Value.int .i64 0, Value.int .i64 bits]) :: (sl 122 2 sv since.length (flat since)) :: (pt p 82 ([Value.slice (some ⟨bs, 0, none⟩) secs.length secs.length, sv, Value.bool false, Value.int .i64 ((count : Nat) : Int), Value.func (.func 57) #[Value.pointer (some ⟨c, 0, none⟩)] #[]])) :: (pt bs 9 (secs.map Value.string)) :: (pt b1 33 [Value.pointer (some ⟨p, 0, none⟩)]) :: F) (fun _ h => st_pull [4, 3, 0, 1] h) ?_
 refine Wl.e (e_call (F := (pt b1 33 [Value.pointer (some ⟨p, 0, none⟩)]) :: F) (args := [Value.pointer (some ⟨p, 0, none⟩), Value.func (.func 120) #[] #[Value.pointer (some ⟨b1, 0, none⟩)]]) Tryz.call118 rfl (do_cut0 W0 p bs secs since count bits hw c sv (Value.func (.func 120) #[] #[Value.pointer (some ⟨b1, 0, none⟩)]))) (fun _ _ => ?_)
 refine Wl.imp (L' := (pt p 82 ([Value.slice (some ⟨bs, 0, none⟩) secs.length secs.length, Value.slice none 0 0, Value.bool true, Value.int .i64 ((count : Nat) : Int), Value.func (.func 47) #[Value.pointer (some ⟨p, 0, none⟩)] #[]])) :: (pt bs 9 ((fallL secs (since.take 31) bits).map Value.string)) :: (pt b1 33 [Value.pointer (some ⟨p, 0, none⟩)]) :: F) (fun _ h => h) ?_
 refine Wl.q (v := Value.int .i64 6) (q_assign rfl) ?_
 refine Wl.done ?_
 refine Wx.go ?_
 refine Wc.ret ?_
 refine Wx.fin1 rfl (.inl rfl) (fun w hs => ?_)
 have e : DS.sync ⟨secs, since, false, count, (some (0, bits))⟩ = (6, ⟨fallL secs (since.take 31) bits, [], true, count, none⟩) := rfl
 rw [e]
 exact ⟨(), trivial, rfl, isDisk_mk (fallL_length _ _ _).symm (st_pull [2, 2] (st_sl_nil (mayR_none (st_drop (st_pull [2] hs)))))⟩

end Go.Proofs.YtkndmgfahghcjaaGreat

