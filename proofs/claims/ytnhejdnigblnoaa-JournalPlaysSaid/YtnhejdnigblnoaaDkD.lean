/- Contracts of the calls. -/
import Derived.Test.YtnhejdnigblnoaaDkC
import Derived.Test.YtnhejdnigblnoaaDkL
namespace Go.Proofs.Ytnhejdnigblnoaa
open Go Go.SL Go.Dk Go.RowKit
set_option linter.unusedVariables false
set_option maxRecDepth 8000
theorem by_86 : (Try.prog.info? 86).map (·.bytes) = some 24 := by kernel_rfl
theorem zo_75 : zeroOf Try.prog 75 = some (Value.agg #[Value.pointer none, Value.int .i64 0, Value.int .i64 0]) := by kernel_rfl
theorem write1 (W0 : World) (p bs : Nat) (secs : List ByteArray) (since : List (Nat × ByteArray)) (hsince : since.length < 1099511627776) (count : Nat) (mv sv : Value) (b3 b4 b5 a : Nat) (s : ByteArray) :
  Con Try.prog W0 68 #[Value.pointer (some ⟨b3, 0, none⟩), Value.pointer (some ⟨b4, 0, none⟩), Value.pointer (some ⟨b5, 0, none⟩)] [pt p 37 [Value.slice (some ⟨bs, 0, none⟩) secs.length secs.length, sv, Value.bool false, Value.int .i64 ((count : Nat) : Int), mv], sl 86 2 sv since.length (flat since), pt b3 23 [Value.pointer (some ⟨p, 0, none⟩)], pt b4 3 [Value.int .i64 ((a : Nat) : Int)], pt b5 9 [Value.string s]] (X := Value) (fun _ => True) (fun _ => .tuple #[]) (fun v2 => [pt p 37 [Value.slice (some ⟨bs, 0, none⟩) secs.length secs.length, v2, Value.bool false, Value.int .i64 ((count : Nat) : Int), mv], sl 86 2 v2 ((since ++ [(a, s)]).length) (flat (since ++ [(a, s)])), pt b3 23 [Value.pointer (some ⟨p, 0, none⟩)], pt b4 3 [Value.int .i64 ((a : Nat) : Int)], pt b5 9 [Value.string s]]) := by
 refine Con.of (args := [Value.pointer (some ⟨b3, 0, none⟩), Value.pointer (some ⟨b4, 0, none⟩), Value.pointer (some ⟨b5, 0, none⟩)]) Try.func68 rfl Try.ntmps68 rfl (fun F => ?_)
 show Wc _ W0 _ _ _ _ _ ((pt p 37 [Value.slice (some ⟨bs, 0, none⟩) secs.length secs.length, sv, Value.bool false, Value.int .i64 ((count : Nat) : Int), mv]) :: (sl 86 2 sv since.length (flat since)) :: (pt b3 23 [Value.pointer (some ⟨p, 0, none⟩)]) :: (pt b4 3 [Value.int .i64 ((a : Nat) : Int)]) :: (pt b5 9 [Value.string s]) :: F)
 refine Wc.drawsS [12] ((pt p 37 [Value.slice (some ⟨bs, 0, none⟩) secs.length secs.length, sv, Value.bool false, Value.int .i64 ((count : Nat) : Int), mv]) :: (pt b3 23 [Value.pointer (some ⟨p, 0, none⟩)]) :: (pt b4 3 [Value.int .i64 ((a : Nat) : Int)]) :: (pt b5 9 [Value.string s]) :: []) (by kernel_rfl) ?_
 refine Wr.take (v := Value.pointer (some ⟨p, 0, none⟩)) 0 rfl (by kernel_rfl) (fun _ h => st_take [0, 1, 1, 1] h) (.inl ⟨rfl, q_load sc_23 rfl (.cel (i := 1) rfl rfl)⟩) ?_
 refine Wr.take (v := Value.pointer (some ⟨p, 0, none⟩)) 1 rfl (by kernel_rfl) (fun _ h => st_take [0, 1, 1, 1] h) (.inl ⟨rfl, q_load sc_23 rfl (.cel (i := 1) rfl rfl)⟩) ?_
 refine Wr.pure (v := Value.pointer (some ⟨p, 0, none⟩)) 2 rfl (by kernel_rfl) (.inr (fun _ h => st_take [0, 1, 1, 1] h)) (.inl ⟨rfl, fun _ => q_nil_ptr rfl⟩) ?_
 refine Wr.pure (v := Value.pointer (some ⟨p, 1, none⟩)) 3 rfl (by kernel_rfl) (.inr (fun _ h => st_take [0, 1, 1, 1] h)) (.inl ⟨rfl, fun _ => q_field (m := 1) fo_37_1 rfl rfl⟩) ?_
 refine Wr.take (v := sv) 4 rfl (by kernel_rfl) (fun _ h => st_take [0, 1, 1, 1] h) (.inl ⟨rfl, q_load sc_34 rfl (.cel (i := 0) rfl rfl)⟩) ?_
 refine Wr.take (v := Value.int .i64 ((a : Nat) : Int)) 5 rfl (by kernel_rfl) (fun _ h => st_take [0, 1, 1, 1] h) (.inl ⟨rfl, q_load sc_3 rfl (.cel (i := 2) rfl rfl)⟩) ?_
 refine Wr.take (v := Value.string s) 6 rfl (by kernel_rfl) (fun _ h => st_take [0, 1, 1, 1] h) (.inl ⟨rfl, q_load sc_9 rfl (.cel (i := 3) rfl rfl)⟩) ?_
 refine Wr.pure (v := Value.agg #[Value.int .i64 ((a : Nat) : Int), Value.string s]) 7 rfl (by kernel_rfl) (.inr (fun _ h => st_take [0, 1, 1, 1] h)) (.inl ⟨rfl, fun _ => q_build (pl := [(0, 1), (1, 1)]) Try.underlying86 zo_86 (by kernel_rfl) (by kernel_rfl)⟩) ?_
 refine Wr.e 8 (by kernel_rfl) rfl (e_buildSlice (cs := [Value.int .i64 ((a : Nat) : Int), Value.string s]) se_34 zo_86 (by decide) (by decide) (by kernel_rfl)) (.inr fun _ _ _ h => st_take [1, 2, 2, 2] h) (fun b1 _ => ?_)
 refine Wr.imp (L' := (pt b1 86 [Value.int .i64 ((a : Nat) : Int), Value.string s]) :: (pt p 37 [Value.slice (some ⟨bs, 0, none⟩) secs.length secs.length, sv, Value.bool false, Value.int .i64 ((count : Nat) : Int), mv]) :: (sl 86 2 sv since.length (flat since)) :: (pt b3 23 [Value.pointer (some ⟨p, 0, none⟩)]) :: (pt b4 3 [Value.int .i64 ((a : Nat) : Int)]) :: (pt b5 9 [Value.string s]) :: F) (fun _ h => h) ?_
 refine Wr.more (S' := (pt b1 86 [Value.int .i64 ((a : Nat) : Int), Value.string s]) :: (pt p 37 [Value.slice (some ⟨bs, 0, none⟩) secs.length secs.length, sv, Value.bool false, Value.int .i64 ((count : Nat) : Int), mv]) :: (pt b3 23 [Value.pointer (some ⟨p, 0, none⟩)]) :: (pt b4 3 [Value.int .i64 ((a : Nat) : Int)]) :: (pt b5 9 [Value.string s]) :: []) (fun _ h => st_drop h) ?_
 refine Wr.e 9 (by kernel_rfl) rfl (e_append (i := 2) (k := 2) (m := 1) (off := 0) (news := [Value.int .i64 ((a : Nat) : Int), Value.string s]) Try.underlying34 sz_86 by_86 zo_86 rfl rfl rfl rfl rfl (Has.of_pt (i := 0) rfl rfl) rfl (by decide) (by simp only [maxLen]; omega) (by omega)) (.inr fun _ _ _ h => st_take [0, 0, 1, 1, 1] h) (fun v2 _ => ?_)
 refine Wr.imp (L' := (pt b1 86 [Value.int .i64 ((a : Nat) : Int), Value.string s]) :: (pt p 37 [Value.slice (some ⟨bs, 0, none⟩) secs.length secs.length, sv, Value.bool false, Value.int .i64 ((count : Nat) : Int), mv]) :: (sl 86 2 v2 (since.length + 1) ((flat since) ++ [Value.int .i64 ((a : Nat) : Int), Value.string s])) :: (pt b3 23 [Value.pointer (some ⟨p, 0, none⟩)]) :: (pt b4 3 [Value.int .i64 ((a : Nat) : Int)]) :: (pt b5 9 [Value.string s]) :: F) (fun _ h => h) ?_
 refine Wr.pure (v := Value.pointer (some ⟨p, 0, none⟩)) 10 rfl (by kernel_rfl) (.inr (fun _ h => st_take [0, 0, 1, 1, 1] h)) (.inl ⟨rfl, fun _ => q_nil_ptr rfl⟩) ?_
 refine Wr.pure (v := Value.pointer (some ⟨p, 1, none⟩)) 11 rfl (by kernel_rfl) (.inr (fun _ h => st_take [0, 0, 1, 1, 1] h)) (.inl ⟨rfl, fun _ => q_field (m := 1) fo_37_1 rfl rfl⟩) ?_
 refine Wr.e 12 (by kernel_rfl) rfl (e_store (i := 1) (v := v2) sz_34 rfl rfl (fun _ h => sl_one (i := 2) h rfl) rfl (by simp)) (.inl (by kernel_rfl)) (fun _ _ => ?_)
 refine Wr.imp (L' := (pt b1 86 [Value.int .i64 ((a : Nat) : Int), Value.string s]) :: (pt p 37 [Value.slice (some ⟨bs, 0, none⟩) secs.length secs.length, v2, Value.bool false, Value.int .i64 ((count : Nat) : Int), mv]) :: (sl 86 2 v2 (since.length + 1) ((flat since) ++ [Value.int .i64 ((a : Nat) : Int), Value.string s])) :: (pt b3 23 [Value.pointer (some ⟨p, 0, none⟩)]) :: (pt b4 3 [Value.int .i64 ((a : Nat) : Int)]) :: (pt b5 9 [Value.string s]) :: F) (fun _ h => h) ?_
 refine Wr.rebaseS [] ((pt b1 86 [Value.int .i64 ((a : Nat) : Int), Value.string s]) :: (pt p 37 [Value.slice (some ⟨bs, 0, none⟩) secs.length secs.length, v2, Value.bool false, Value.int .i64 ((count : Nat) : Int), mv]) :: (sl 86 2 v2 (since.length + 1) ((flat since) ++ [Value.int .i64 ((a : Nat) : Int), Value.string s])) :: (pt b3 23 [Value.pointer (some ⟨p, 0, none⟩)]) :: (pt b4 3 [Value.int .i64 ((a : Nat) : Int)]) :: (pt b5 9 [Value.string s]) :: []) (by kernel_rfl) ?_
 refine Wr.done (by kernel_rfl) ?_
 refine Wx.fin0 rfl (.inr rfl) (fun w hs => ?_)
 exact ⟨v2, trivial, rfl, by rw [flat_snoc, List.length_append]; exact st_drop hs⟩

theorem sync1_blk (W0 : World) (p bs : Nat) (secs : List ByteArray) (since : List (Nat × ByteArray)) (count : Nat) (mv : Value) (b1 : Nat) (hw : WFl secs since) (hsince : since.length < 1099511627776) (b cap : Nat) (hcap : since.length ≤ cap) :
    Con Try.prog W0 70 #[Value.pointer (some ⟨b1, 0, none⟩)] [slp 86 2 b cap (flat since), pt p 37 [Value.slice (some ⟨bs, 0, none⟩) secs.length secs.length, Value.slice (some ⟨b, 0, none⟩) since.length cap, Value.bool false, Value.int .i64 ((count : Nat) : Int), mv], pt bs 9 (secs.map Value.string), pt b1 23 [Value.pointer (some ⟨p, 0, none⟩)]] (X := Unit) (fun _ => True) (fun _ => .tuple #[]) (fun _ => [pt p 37 [Value.slice (some ⟨bs, 0, none⟩) secs.length secs.length, Value.slice none 0 0, Value.bool false, Value.int .i64 ((count : Nat) : Int), mv], pt bs 9 ((syncL secs since).map Value.string), pt b1 23 [Value.pointer (some ⟨p, 0, none⟩)]]) := by
  refine Con.of (args := [Value.pointer (some ⟨b1, 0, none⟩)]) Try.func70 rfl Try.ntmps70 rfl (fun F => ?_)
  show Wc _ W0 _ _ _ _ _ ((slp 86 2 b cap (flat since)) :: (pt p 37 [Value.slice (some ⟨bs, 0, none⟩) secs.length secs.length, Value.slice (some ⟨b, 0, none⟩) since.length cap, Value.bool false, Value.int .i64 ((count : Nat) : Int), mv]) :: (pt bs 9 (secs.map Value.string)) :: (pt b1 23 [Value.pointer (some ⟨p, 0, none⟩)]) :: F)
  refine Wc.seq ?_
  refine Wc.seq ?_
  refine Wc.region ?_
  refine Wl.q (v := Value.pointer (some ⟨p, 0, none⟩)) (q_load sc_23 rfl (.cel (i := 3) rfl rfl)) ?_
  refine Wl.q (v := Value.pointer (some ⟨p, 0, none⟩)) (q_nil_ptr rfl) ?_
  refine Wl.q (v := Value.pointer (some ⟨p, 1, none⟩)) (q_field (m := 1) fo_37_1 rfl rfl) ?_
  refine Wl.q (v := Value.slice (some ⟨b, 0, none⟩) since.length cap) (q_load sc_34 rfl (.cel (i := 1) rfl rfl)) ?_
  refine Wl.q (v := Value.int .i64 ((since.length : Nat) : Int)) (q_len_slice Try.underlying34 rfl) ?_
  refine Wl.q (v := Value.int .i64 0) (q_move rfl) ?_
  refine Wl.done ?_
  refine Wx.go ?_
  refine Wc.block ?_
  refine Wc.loop (X := Nat × List ByteArray) (fun (k, ss) E => E 8 = Value.int .i64 ((k : Nat) : Int) ∧ E 0 = Value.pointer (some ⟨b1, 0, none⟩) ∧ E 6 = Value.slice (some ⟨b, 0, none⟩) since.length cap ∧ E 7 = Value.int .i64 ((since.length : Nat) : Int) ∧ syncL ss (since.drop k) = syncL secs since ∧ ss.length = secs.length ∧ k ≤ since.length) (fun (k, ss) => (slp 86 2 b cap (flat since)) :: (pt p 37 [Value.slice (some ⟨bs, 0, none⟩) secs.length secs.length, Value.slice (some ⟨b, 0, none⟩) since.length cap, Value.bool false, Value.int .i64 ((count : Nat) : Int), mv]) :: (pt bs 9 (ss.map Value.string)) :: (pt b1 23 [Value.pointer (some ⟨p, 0, none⟩)]) :: F) (fun (k, ss) => since.length - k) (0, secs) ?_ ?_ ?_
  · exact ⟨rfl, rfl, rfl, rfl, rfl, rfl, (by omega)⟩
  · exact fun w hs => hs
  · rintro ⟨k, ss⟩ E2 ⟨hE8_0, hE0_0, hE6_0, hE7_0, hp0, hp1, hp3⟩
    dsimp only at *
    refine Wc.seq ?_
    refine Wc.region ?_
    by_cases hlt : ((k : Nat) : Int) < ((since.length : Nat) : Int)
    ·
      obtain ⟨⟨a, s⟩, hget⟩ : ∃ q, since[k]? = some q := ⟨since[k]'(by omega), by simp [List.getElem?_eq_getElem (show k < since.length by omega)]⟩
      have hmem := List.mem_of_getElem? hget
      have ha : a < ss.length := by have := hw.at_ _ hmem; simp only at this; omega
      refine Wl.q (v := Value.bool true) (q_lss (r := true) hE8_0 hE7_0 (decide_eq_true hlt)) ?_
      refine Wl.done ?_
      refine Wx.go ?_
      refine Wc.seq ?_
      refine Wc.yes rfl ?_
      refine Wc.skip ?_
      refine Wx.go ?_
      refine Wc.seq ?_
      refine Wc.block ?_
      refine Wc.seq ?_
      refine Wc.region ?_
      refine Wl.q (v := Value.pointer (some ⟨b, k * 2, none⟩)) (q_idx (m := k * 2) se_34 hE6_0 hE8_0 (by omega) (by omega) (by simp)) ?_
      refine Wl.q (v := Value.agg #[Value.int .i64 ((a : Nat) : Int), Value.string s]) (q_loadAgg (vs := [Value.int .i64 ((a : Nat) : Int), Value.string s]) ag_86 rfl (flat_has (i := 0) rfl hget)) ?_
      refine Wl.e (e_alloc (vs := [Value.int .i64 0, Value.string (⟨#[]⟩)]) zo_86 rfl) (fun b3 _ => ?_)
      refine Wl.imp (L' := (pt b3 86 ([Value.int .i64 0, Value.string (⟨#[]⟩)])) :: (slp 86 2 b cap (flat since)) :: (pt p 37 [Value.slice (some ⟨bs, 0, none⟩) secs.length secs.length, Value.slice (some ⟨b, 0, none⟩) since.length cap, Value.bool false, Value.int .i64 ((count : Nat) : Int), mv]) :: (pt bs 9 (ss.map Value.string)) :: (pt b1 23 [Value.pointer (some ⟨p, 0, none⟩)]) :: F) (fun _ h => h) ?_
      refine Wl.e (e_storeAgg (i := 0) (vs := [Value.int .i64 ((a : Nat) : Int), Value.string s]) (c' := [Value.int .i64 ((a : Nat) : Int), Value.string s]) sz_86 rfl rfl rfl rfl (by simp) rfl) (fun _ _ => ?_)
      refine Wl.imp (L' := (pt b3 86 [Value.int .i64 ((a : Nat) : Int), Value.string s]) :: (slp 86 2 b cap (flat since)) :: (pt p 37 [Value.slice (some ⟨bs, 0, none⟩) secs.length secs.length, Value.slice (some ⟨b, 0, none⟩) since.length cap, Value.bool false, Value.int .i64 ((count : Nat) : Int), mv]) :: (pt bs 9 (ss.map Value.string)) :: (pt b1 23 [Value.pointer (some ⟨p, 0, none⟩)]) :: F) (fun _ h => h) ?_
      refine Wl.done ?_
      refine Wx.go ?_
      refine Wc.drawsS [9] ((pt b3 86 [Value.int .i64 ((a : Nat) : Int), Value.string s]) :: (slp 86 2 b cap (flat since)) :: (pt p 37 [Value.slice (some ⟨bs, 0, none⟩) secs.length secs.length, Value.slice (some ⟨b, 0, none⟩) since.length cap, Value.bool false, Value.int .i64 ((count : Nat) : Int), mv]) :: (pt bs 9 (ss.map Value.string)) :: (pt b1 23 [Value.pointer (some ⟨p, 0, none⟩)]) :: []) (by kernel_rfl) ?_
      refine Wr.take (v := Value.pointer (some ⟨p, 0, none⟩)) 0 rfl (by kernel_rfl) (fun _ h => st_take [0, 0, 0, 0, 0] h) (.inl ⟨rfl, q_load sc_23 hE0_0 (.cel (i := 4) rfl rfl)⟩) ?_
      refine Wr.pure (v := Value.pointer (some ⟨p, 0, none⟩)) 1 rfl (by kernel_rfl) (.inr (fun _ h => st_take [0, 0, 0, 0, 0] h)) (.inl ⟨rfl, fun _ => q_nil_ptr rfl⟩) ?_
      refine Wr.pure (v := Value.pointer (some ⟨p, 0, none⟩)) 2 rfl (by kernel_rfl) (.inr (fun _ h => st_take [0, 0, 0, 0, 0] h)) (.inl ⟨rfl, fun _ => q_field (m := 0) fo_37_0 rfl rfl⟩) ?_
      refine Wr.take (v := Value.slice (some ⟨bs, 0, none⟩) secs.length secs.length) 3 rfl (by kernel_rfl) (fun _ h => st_take [0, 0, 0, 0, 0] h) (.inl ⟨rfl, q_load sc_33 rfl (.cel (i := 2) rfl rfl)⟩) ?_
      refine Wr.pure (v := Value.pointer (some ⟨b3, 0, none⟩)) 4 rfl (by kernel_rfl) (.inr (fun _ h => st_take [0, 0, 0, 0, 0] h)) (.inl ⟨rfl, fun _ => q_field (m := 0) fo_86_0 rfl rfl⟩) ?_
      refine Wr.take (v := Value.int .i64 ((a : Nat) : Int)) 5 rfl (by kernel_rfl) (fun _ h => st_take [0, 0, 0, 0, 0] h) (.inl ⟨rfl, q_load sc_3 rfl (.cel (i := 0) rfl rfl)⟩) ?_
      refine Wr.pure (v := Value.pointer (some ⟨b3, 1, none⟩)) 6 rfl (by kernel_rfl) (.inr (fun _ h => st_take [0, 0, 0, 0, 0] h)) (.inl ⟨rfl, fun _ => q_field (m := 1) fo_86_1 rfl rfl⟩) ?_
      refine Wr.take (v := Value.string s) 7 rfl (by kernel_rfl) (fun _ h => st_take [0, 0, 0, 0, 0] h) (.inl ⟨rfl, q_load sc_9 rfl (.cel (i := 0) rfl rfl)⟩) ?_
      refine Wr.pure (v := Value.pointer (some ⟨bs, a, none⟩)) 8 rfl (by kernel_rfl) (.inr (fun _ h => st_take [0, 0, 0, 0, 0] h)) (.inl ⟨rfl, fun _ => q_idx (m := a) se_33 rfl rfl (by omega) (by omega) (by simp)⟩) ?_
      refine Wr.e 9 (by kernel_rfl) rfl (e_store (i := 3) (v := Value.string s) sz_9 rfl rfl (fun _ _ => rfl) rfl (by simpa using ha)) (.inl (by kernel_rfl)) (fun _ _ => ?_)
      refine Wr.imp (L' := (pt b3 86 [Value.int .i64 ((a : Nat) : Int), Value.string s]) :: (slp 86 2 b cap (flat since)) :: (pt p 37 [Value.slice (some ⟨bs, 0, none⟩) secs.length secs.length, Value.slice (some ⟨b, 0, none⟩) since.length cap, Value.bool false, Value.int .i64 ((count : Nat) : Int), mv]) :: (pt bs 9 ((ss.set a s).map Value.string)) :: (pt b1 23 [Value.pointer (some ⟨p, 0, none⟩)]) :: F) (fun _ h => by rw [List.map_set]; exact h) ?_
      refine Wr.rebaseS [] ((pt b3 86 [Value.int .i64 ((a : Nat) : Int), Value.string s]) :: (slp 86 2 b cap (flat since)) :: (pt p 37 [Value.slice (some ⟨bs, 0, none⟩) secs.length secs.length, Value.slice (some ⟨b, 0, none⟩) since.length cap, Value.bool false, Value.int .i64 ((count : Nat) : Int), mv]) :: (pt bs 9 ((ss.set a s).map Value.string)) :: (pt b1 23 [Value.pointer (some ⟨p, 0, none⟩)]) :: []) (by kernel_rfl) ?_
      refine Wr.done (by kernel_rfl) ?_
      refine Wx.blockEnd ?_
      refine Wx.go ?_
      refine Wc.region ?_
      refine Wl.q (v := Value.int .i64 ((k + 1 : Nat) : Int)) (q_add (c := ((k + 1 : Nat) : Int)) hE8_0 rfl (by rw [wrap_i64] <;> omega)) ?_
      refine Wl.q (v := Value.int .i64 ((k + 1 : Nat) : Int)) (q_move rfl) ?_
      refine Wl.done ?_
      refine Wx.at (k + 1, ss.set a s) ⟨(by simp only; omega), rfl, hE0_0, hE6_0, hE7_0, (by rw [← hp0, sync_step hget]), (by simpa using hp1), (by omega)⟩ (fun w hs => st_drop hs)
    ·
      refine Wl.q (v := Value.bool false) (q_lss (r := false) hE8_0 hE7_0 (decide_eq_false hlt)) ?_
      refine Wl.done ?_
      refine Wx.go ?_
      refine Wc.seq ?_
      refine Wc.no rfl ?_
      refine Wc.exit ?_
      refine Wx.thenExit ?_
      refine Wx.thenExit ?_
      refine Wx.out ?_
      refine Wx.go ?_
      refine Wc.region ?_
      refine Wl.q (v := Value.pointer (some ⟨p, 0, none⟩)) (q_load sc_23 hE0_0 (.cel (i := 3) rfl rfl)) ?_
      refine Wl.q (v := Value.pointer (some ⟨p, 0, none⟩)) (q_nil_ptr rfl) ?_
      refine Wl.q (v := Value.pointer (some ⟨p, 1, none⟩)) (q_field (m := 1) fo_37_1 rfl rfl) ?_
      refine Wl.e (e_store (i := 1) (v := Value.slice none 0 0) sz_34 rfl rfl (fun _ _ => rfl) rfl (by simp)) (fun _ _ => ?_)
      refine Wl.imp (L' := (slp 86 2 b cap (flat since)) :: (pt p 37 [Value.slice (some ⟨bs, 0, none⟩) secs.length secs.length, Value.slice none 0 0, Value.bool false, Value.int .i64 ((count : Nat) : Int), mv]) :: (pt bs 9 (ss.map Value.string)) :: (pt b1 23 [Value.pointer (some ⟨p, 0, none⟩)]) :: F) (fun _ h => h) ?_
      refine Wl.done ?_
      refine Wx.fin0 rfl (.inr rfl) (fun w hs => ?_)
      have hend : k = since.length := by omega
      rw [hend, List.drop_length] at hp0
      simp only [syncL] at hp0
      rw [← hp0]
      exact ⟨(), trivial, rfl, st_drop hs⟩

theorem sync1_nil (W0 : World) (p bs : Nat) (secs : List ByteArray) (since : List (Nat × ByteArray)) (count : Nat) (mv : Value) (b1 : Nat) (hw : WFl secs since) (hsince : since.length < 1099511627776) (hnil : since = []) :
    Con Try.prog W0 70 #[Value.pointer (some ⟨b1, 0, none⟩)] [pt p 37 [Value.slice (some ⟨bs, 0, none⟩) secs.length secs.length, Value.slice none 0 0, Value.bool false, Value.int .i64 ((count : Nat) : Int), mv], pt bs 9 (secs.map Value.string), pt b1 23 [Value.pointer (some ⟨p, 0, none⟩)]] (X := Unit) (fun _ => True) (fun _ => .tuple #[]) (fun _ => [pt p 37 [Value.slice (some ⟨bs, 0, none⟩) secs.length secs.length, Value.slice none 0 0, Value.bool false, Value.int .i64 ((count : Nat) : Int), mv], pt bs 9 ((syncL secs since).map Value.string), pt b1 23 [Value.pointer (some ⟨p, 0, none⟩)]]) := by
  refine Con.of (args := [Value.pointer (some ⟨b1, 0, none⟩)]) Try.func70 rfl Try.ntmps70 rfl (fun F => ?_)
  show Wc _ W0 _ _ _ _ _ ((pt p 37 [Value.slice (some ⟨bs, 0, none⟩) secs.length secs.length, Value.slice none 0 0, Value.bool false, Value.int .i64 ((count : Nat) : Int), mv]) :: (pt bs 9 (secs.map Value.string)) :: (pt b1 23 [Value.pointer (some ⟨p, 0, none⟩)]) :: F)
  refine Wc.seq ?_
  refine Wc.seq ?_
  refine Wc.region ?_
  refine Wl.q (v := Value.pointer (some ⟨p, 0, none⟩)) (q_load sc_23 rfl (.cel (i := 2) rfl rfl)) ?_
  refine Wl.q (v := Value.pointer (some ⟨p, 0, none⟩)) (q_nil_ptr rfl) ?_
  refine Wl.q (v := Value.pointer (some ⟨p, 1, none⟩)) (q_field (m := 1) fo_37_1 rfl rfl) ?_
  refine Wl.q (v := Value.slice none 0 0) (q_load sc_34 rfl (.cel (i := 0) rfl rfl)) ?_
  refine Wl.q (v := Value.int .i64 0) (q_len_slice Try.underlying34 rfl) ?_
  refine Wl.q (v := Value.int .i64 0) (q_move rfl) ?_
  refine Wl.done ?_
  refine Wx.go ?_
  refine Wc.block ?_
  refine Wc.loop (X := Nat × List ByteArray) (fun (k, ss) E => E 8 = Value.int .i64 ((k : Nat) : Int) ∧ E 0 = Value.pointer (some ⟨b1, 0, none⟩) ∧ E 6 = Value.slice none 0 0 ∧ E 7 = Value.int .i64 0 ∧ syncL ss (since.drop k) = syncL secs since ∧ ss.length = secs.length ∧ k ≤ since.length) (fun (k, ss) => (pt p 37 [Value.slice (some ⟨bs, 0, none⟩) secs.length secs.length, Value.slice none 0 0, Value.bool false, Value.int .i64 ((count : Nat) : Int), mv]) :: (pt bs 9 (ss.map Value.string)) :: (pt b1 23 [Value.pointer (some ⟨p, 0, none⟩)]) :: F) (fun (k, ss) => since.length - k) (0, secs) ?_ ?_ ?_
  · exact ⟨rfl, rfl, rfl, rfl, rfl, rfl, (by omega)⟩
  · exact fun w hs => hs
  · rintro ⟨k, ss⟩ E2 ⟨hE8_0, hE0_0, hE6_0, hE7_0, hp0, hp1, hp3⟩
    dsimp only at *
    have hsl : since.length = 0 := by rw [hnil]; rfl
    refine Wc.seq ?_
    refine Wc.region ?_
    by_cases hlt : ((k : Nat) : Int) < 0
    ·
      exfalso; omega
    ·
      refine Wl.q (v := Value.bool false) (q_lss (r := false) hE8_0 hE7_0 (decide_eq_false hlt)) ?_
      refine Wl.done ?_
      refine Wx.go ?_
      refine Wc.seq ?_
      refine Wc.no rfl ?_
      refine Wc.exit ?_
      refine Wx.thenExit ?_
      refine Wx.thenExit ?_
      refine Wx.out ?_
      refine Wx.go ?_
      refine Wc.region ?_
      refine Wl.q (v := Value.pointer (some ⟨p, 0, none⟩)) (q_load sc_23 hE0_0 (.cel (i := 2) rfl rfl)) ?_
      refine Wl.q (v := Value.pointer (some ⟨p, 0, none⟩)) (q_nil_ptr rfl) ?_
      refine Wl.q (v := Value.pointer (some ⟨p, 1, none⟩)) (q_field (m := 1) fo_37_1 rfl rfl) ?_
      refine Wl.e (e_store (i := 0) (v := Value.slice none 0 0) sz_34 rfl rfl (fun _ _ => rfl) rfl (by simp)) (fun _ _ => ?_)
      refine Wl.imp (L' := (pt p 37 [Value.slice (some ⟨bs, 0, none⟩) secs.length secs.length, Value.slice none 0 0, Value.bool false, Value.int .i64 ((count : Nat) : Int), mv]) :: (pt bs 9 (ss.map Value.string)) :: (pt b1 23 [Value.pointer (some ⟨p, 0, none⟩)]) :: F) (fun _ h => h) ?_
      refine Wl.done ?_
      refine Wx.fin0 rfl (.inr rfl) (fun w hs => ?_)
      have hend : k = since.length := by omega
      rw [hend, List.drop_length] at hp0
      simp only [syncL] at hp0
      rw [← hp0]
      exact ⟨(), trivial, rfl, hs⟩

theorem sync1_c (W0 : World) (p bs : Nat) (secs : List ByteArray) (since : List (Nat × ByteArray)) (count : Nat) (mv : Value) (b1 : Nat) (hw : WFl secs since) (hsince : since.length < 1099511627776) (sv : Value) :
  Con Try.prog W0 70 #[Value.pointer (some ⟨b1, 0, none⟩)] [sl 86 2 sv since.length (flat since), pt p 37 [Value.slice (some ⟨bs, 0, none⟩) secs.length secs.length, sv, Value.bool false, Value.int .i64 ((count : Nat) : Int), mv], pt bs 9 (secs.map Value.string), pt b1 23 [Value.pointer (some ⟨p, 0, none⟩)]] (X := Unit) (fun _ => True) (fun _ => .tuple #[]) (fun _ => [pt p 37 [Value.slice (some ⟨bs, 0, none⟩) secs.length secs.length, Value.slice none 0 0, Value.bool false, Value.int .i64 ((count : Nat) : Int), mv], pt bs 9 ((syncL secs since).map Value.string), pt b1 23 [Value.pointer (some ⟨p, 0, none⟩)]]) := by
 refine Con.sl (fun e1 e2 e3 => ?_) (fun b cap e1 e2 e3 => ?_)
 · subst e1; exact sync1_nil W0 p bs secs since count mv b1 hw hsince (List.eq_nil_of_length_eq_zero e2)
 · subst e1; exact sync1_blk W0 p bs secs since count mv b1 hw hsince b cap e2

theorem crash_down (W0 : World) (p : Nat) (secs : List ByteArray) (since : List (Nat × ByteArray)) (count : Nat) (cut : Option (Nat × Int)) (bb : Int) :
  Con Try.prog W0 22 #[Value.pointer (some ⟨p, 0, none⟩), Value.int .i64 bb] [isDisk p (⟨secs, since, true, count, cut⟩ : DS)] (X := Unit) (fun _ => True) (fun _ => Value.int .i64 (DS.crash (⟨secs, since, true, count, cut⟩ : DS) bb).1) (fun _ => [isDisk p (DS.crash (⟨secs, since, true, count, cut⟩ : DS) bb).2]) := by
 refine Con.disk (fun bs sv fn us vs => ?_)
 refine Con.of (args := [Value.pointer (some ⟨p, 0, none⟩), Value.int .i64 bb]) Try.func22 rfl Try.ntmps22 rfl (fun F => ?_)
 show Wc _ W0 _ _ _ _ _ ((pt p 37 [Value.slice (some ⟨bs, 0, none⟩) secs.length secs.length, sv, Value.bool true, Value.int .i64 ((count : Nat) : Int), .func fn us vs]) :: (pt bs 9 (secs.map Value.string)) :: (sl 86 2 sv since.length (flat since)) :: (mayR p (Value.func fn us vs) cut) :: F)
 refine Wc.seq ?_
 refine Wc.region ?_
 refine Wl.q (v := Value.int .i64 0) (q_assign rfl) ?_
 refine Wl.done ?_
 refine Wx.go ?_
 refine Wc.seq ?_
 refine Wc.seq ?_
 refine Wc.region ?_
 refine Wl.q (v := Value.pointer (some ⟨p, 0, none⟩)) (q_move rfl) ?_
 refine Wl.e (e_call (F := (pt bs 9 (secs.map Value.string)) :: (sl 86 2 sv since.length (flat since)) :: (mayR p (Value.func fn us vs) cut) :: F) (args := [Value.pointer (some ⟨p, 0, none⟩)]) Try.call38 rfl (state_down W0 p (Value.slice (some ⟨bs, 0, none⟩) secs.length secs.length) (sv) (Value.int .i64 ((count : Nat) : Int)) fn us vs)) (fun _ _ => ?_)
 refine Wl.imp (L' := (pt p 37 [Value.slice (some ⟨bs, 0, none⟩) secs.length secs.length, sv, Value.bool true, Value.int .i64 ((count : Nat) : Int), .func fn us vs]) :: (pt bs 9 (secs.map Value.string)) :: (sl 86 2 sv since.length (flat since)) :: (mayR p (Value.func fn us vs) cut) :: F) (fun _ h => h) ?_
 refine Wl.q (v := Value.int .i64 6) (q_assign rfl) ?_
 refine Wl.done ?_
 refine Wx.go ?_
 refine Wc.seq ?_
 refine Wc.region ?_
 refine Wl.q (v := Value.int .i64 6) (q_move rfl) ?_
 refine Wl.q (v := Value.bool true) (q_neq (r := false) rfl rfl (decide_eq_false (by decide))) ?_
 refine Wl.done ?_
 refine Wx.go ?_
 refine Wc.yes rfl ?_
 refine Wc.seq ?_
 refine Wc.region ?_
 refine Wl.q (v := Value.int .i64 6) (q_move rfl) ?_
 refine Wl.q (v := Value.int .i64 6) (q_assign rfl) ?_
 refine Wl.done ?_
 refine Wx.go ?_
 refine Wc.ret ?_
 refine Wx.thenRet ?_
 refine Wx.fin1 rfl (.inl rfl) (fun w hs => ?_)
 have e : DS.crash ⟨secs, since, true, count, cut⟩ bb = (6, ⟨secs, since, true, count, cut⟩) := rfl
 rw [e]
 exact ⟨(), trivial, rfl, isDisk_mk rfl hs⟩

theorem crash_up (W0 : World) (p : Nat) (secs : List ByteArray) (since : List (Nat × ByteArray)) (count : Nat) (cut : Option (Nat × Int)) (bb : Int) (hw : WFl secs since) :
  Con Try.prog W0 22 #[Value.pointer (some ⟨p, 0, none⟩), Value.int .i64 bb] [isDisk p (⟨secs, since, false, count, cut⟩ : DS)] (X := Unit) (fun _ => True) (fun _ => Value.int .i64 (DS.crash (⟨secs, since, false, count, cut⟩ : DS) bb).1) (fun _ => [isDisk p (DS.crash (⟨secs, since, false, count, cut⟩ : DS) bb).2]) := by
 refine Con.disk (fun bs sv fn us vs => ?_)
 refine Con.of (args := [Value.pointer (some ⟨p, 0, none⟩), Value.int .i64 bb]) Try.func22 rfl Try.ntmps22 rfl (fun F => ?_)
 show Wc _ W0 _ _ _ _ _ ((pt p 37 [Value.slice (some ⟨bs, 0, none⟩) secs.length secs.length, sv, Value.bool false, Value.int .i64 ((count : Nat) : Int), .func fn us vs]) :: (pt bs 9 (secs.map Value.string)) :: (sl 86 2 sv since.length (flat since)) :: (mayR p (Value.func fn us vs) cut) :: F)
 refine Wc.seq ?_
 refine Wc.region ?_
 refine Wl.q (v := Value.int .i64 0) (q_assign rfl) ?_
 refine Wl.done ?_
 refine Wx.go ?_
 refine Wc.seq ?_
 refine Wc.seq ?_
 refine Wc.region ?_
 refine Wl.q (v := Value.pointer (some ⟨p, 0, none⟩)) (q_move rfl) ?_
 refine Wl.e (e_call (F := (pt bs 9 (secs.map Value.string)) :: (sl 86 2 sv since.length (flat since)) :: (mayR p (Value.func fn us vs) cut) :: F) (args := [Value.pointer (some ⟨p, 0, none⟩)]) Try.call38 rfl (state_up W0 p (Value.slice (some ⟨bs, 0, none⟩) secs.length secs.length) (sv) (Value.int .i64 ((count : Nat) : Int)) fn us vs)) (fun _ _ => ?_)
 refine Wl.imp (L' := (pt p 37 [Value.slice (some ⟨bs, 0, none⟩) secs.length secs.length, sv, Value.bool false, Value.int .i64 ((count : Nat) : Int), .func fn us vs]) :: (pt bs 9 (secs.map Value.string)) :: (sl 86 2 sv since.length (flat since)) :: (mayR p (Value.func fn us vs) cut) :: F) (fun _ h => h) ?_
 refine Wl.q (v := Value.int .i64 0) (q_assign rfl) ?_
 refine Wl.done ?_
 refine Wx.go ?_
 refine Wc.seq ?_
 refine Wc.region ?_
 refine Wl.q (v := Value.int .i64 0) (q_move rfl) ?_
 refine Wl.q (v := Value.bool false) (q_neq (r := true) rfl rfl (decide_eq_true (by decide))) ?_
 refine Wl.done ?_
 refine Wx.go ?_
 refine Wc.no rfl ?_
 refine Wc.skip ?_
 refine Wx.go ?_
 refine Wc.seq ?_
 refine Wc.region ?_
 refine Wl.q (v := Value.pointer (some ⟨p, 0, none⟩)) (q_move rfl) ?_
 refine Wl.q (v := Value.int .i64 bb) (q_move rfl) ?_
 refine Wl.imp (L' := (sl 86 2 sv since.length (flat since)) :: (pt p 37 [Value.slice (some ⟨bs, 0, none⟩) secs.length secs.length, sv, Value.bool false, Value.int .i64 ((count : Nat) : Int), .func fn us vs]) :: (pt bs 9 (secs.map Value.string)) :: (mayR p (Value.func fn us vs) cut) :: F) (fun _ h => st_pull [2, 0, 0] h) ?_
 refine Wl.e (e_call (F := (mayR p (Value.func fn us vs) cut) :: F) (args := [Value.pointer (some ⟨p, 0, none⟩), Value.int .i64 bb]) Try.call40 rfl (fall_c W0 p bs secs since false count (.func fn us vs) bb hw sv)) (fun _ _ => ?_)
 refine Wl.imp (L' := (pt p 37 ([Value.slice (some ⟨bs, 0, none⟩) secs.length secs.length, Value.slice none 0 0, Value.bool true, Value.int .i64 ((count : Nat) : Int), Value.func (.func 36) #[Value.pointer (some ⟨p, 0, none⟩)] #[]])) :: (pt bs 9 ((fallL secs (since.take 31) bb).map Value.string)) :: (mayR p (Value.func fn us vs) cut) :: F) (fun _ h => h) ?_
 refine Wl.done ?_
 refine Wx.go ?_
 refine Wc.seq ?_
 refine Wc.region ?_
 refine Wl.q (v := Value.int .i64 0) (q_assign rfl) ?_
 refine Wl.done ?_
 refine Wx.go ?_
 refine Wc.ret ?_
 refine Wx.fin1 rfl (.inl rfl) (fun w hs => ?_)
 have e : DS.crash ⟨secs, since, false, count, cut⟩ bb = (0, (⟨fallL secs (since.take 31) bb, [], true, count, none⟩ : DS)) := rfl
 rw [e]
 exact ⟨(), trivial, rfl, isDisk_mk (fallL_length _ _ _).symm (st_pull [2, 2] (st_sl_nil (mayR_none (st_drop (st_pull [2] hs)))))⟩

theorem start_down (W0 : World) (p : Nat) (secs : List ByteArray) (since : List (Nat × ByteArray)) (count : Nat) (cut : Option (Nat × Int)) :
  Con Try.prog W0 23 #[Value.pointer (some ⟨p, 0, none⟩)] [isDisk p (⟨secs, since, true, count, cut⟩ : DS)] (X := Unit) (fun _ => True) (fun _ => Value.int .i64 (DS.start (⟨secs, since, true, count, cut⟩ : DS) ).1) (fun _ => [isDisk p (DS.start (⟨secs, since, true, count, cut⟩ : DS) ).2]) := by
 refine Con.disk (fun bs sv fn us vs => ?_)
 refine Con.of (args := [Value.pointer (some ⟨p, 0, none⟩)]) Try.func23 rfl Try.ntmps23 rfl (fun F => ?_)
 show Wc _ W0 _ _ _ _ _ ((pt p 37 [Value.slice (some ⟨bs, 0, none⟩) secs.length secs.length, sv, Value.bool true, Value.int .i64 ((count : Nat) : Int), .func fn us vs]) :: (pt bs 9 (secs.map Value.string)) :: (sl 86 2 sv since.length (flat since)) :: (mayR p (Value.func fn us vs) cut) :: F)
 refine Wc.seq ?_
 refine Wc.region ?_
 refine Wl.q (v := Value.int .i64 0) (q_assign rfl) ?_
 refine Wl.done ?_
 refine Wx.go ?_
 refine Wc.seq ?_
 refine Wc.block ?_
 refine Wc.seq ?_
 refine Wc.region ?_
 refine Wl.q (v := Value.pointer (some ⟨p, 0, none⟩)) (q_move rfl) ?_
 refine Wl.e (e_call (F := (pt bs 9 (secs.map Value.string)) :: (sl 86 2 sv since.length (flat since)) :: (mayR p (Value.func fn us vs) cut) :: F) (args := [Value.pointer (some ⟨p, 0, none⟩)]) Try.call37 rfl (there_yes W0 p (Value.slice (some ⟨bs, 0, none⟩) secs.length secs.length) (sv) (Value.bool true) (Value.int .i64 ((count : Nat) : Int)) fn us vs)) (fun _ _ => ?_)
 refine Wl.imp (L' := (pt p 37 [Value.slice (some ⟨bs, 0, none⟩) secs.length secs.length, sv, Value.bool true, Value.int .i64 ((count : Nat) : Int), .func fn us vs]) :: (pt bs 9 (secs.map Value.string)) :: (sl 86 2 sv since.length (flat since)) :: (mayR p (Value.func fn us vs) cut) :: F) (fun _ h => h) ?_
 refine Wl.q (v := Value.bool false) (q_not rfl rfl) ?_
 refine Wl.q (v := Value.bool false) (q_assign rfl) ?_
 refine Wl.done ?_
 refine Wx.go ?_
 refine Wc.no rfl ?_
 refine Wc.seq ?_
 refine Wc.region ?_
 refine Wl.q (v := Value.pointer (some ⟨p, 0, none⟩)) (q_move rfl) ?_
 refine Wl.q (v := Value.pointer (some ⟨p, 0, none⟩)) (q_nil_ptr rfl) ?_
 refine Wl.q (v := Value.pointer (some ⟨p, 2, none⟩)) (q_field (m := 2) fo_37_2 rfl rfl) ?_
 refine Wl.q (v := Value.bool true) (q_load sc_4 rfl (.cel (i := 0) rfl rfl)) ?_
 refine Wl.q (v := Value.bool false) (q_not rfl rfl) ?_
 refine Wl.q (v := Value.bool false) (q_assign rfl) ?_
 refine Wl.done ?_
 refine Wx.go ?_
 refine Wc.no rfl ?_
 refine Wc.skip ?_
 refine Wx.blockEnd ?_
 refine Wx.go ?_
 refine Wc.seq ?_
 refine Wc.region ?_
 refine Wl.q (v := Value.pointer (some ⟨p, 0, none⟩)) (q_move rfl) ?_
 refine Wl.q (v := Value.pointer (some ⟨p, 0, none⟩)) (q_nil_ptr rfl) ?_
 refine Wl.q (v := Value.pointer (some ⟨p, 2, none⟩)) (q_field (m := 2) fo_37_2 rfl rfl) ?_
 refine Wl.e (e_store (i := 0) (v := Value.bool false) sz_4 rfl rfl (fun _ _ => rfl) rfl (by simp)) (fun _ _ => ?_)
 refine Wl.imp (L' := (pt p 37 [Value.slice (some ⟨bs, 0, none⟩) secs.length secs.length, sv, Value.bool false, Value.int .i64 ((count : Nat) : Int), .func fn us vs]) :: (pt bs 9 (secs.map Value.string)) :: (sl 86 2 sv since.length (flat since)) :: (mayR p (Value.func fn us vs) cut) :: F) (fun _ h => h) ?_
 refine Wl.done ?_
 refine Wx.go ?_
 refine Wc.seq ?_
 refine Wc.region ?_
 refine Wl.q (v := Value.int .i64 0) (q_assign rfl) ?_
 refine Wl.done ?_
 refine Wx.go ?_
 refine Wc.ret ?_
 refine Wx.fin1 rfl (.inl rfl) (fun w hs => ?_)
 have e : DS.start ⟨secs, since, true, count, cut⟩ = (0, ⟨secs, since, false, count, cut⟩) := rfl
 rw [e]
 exact ⟨(), trivial, rfl, isDisk_mk rfl hs⟩

theorem start_up (W0 : World) (p : Nat) (secs : List ByteArray) (since : List (Nat × ByteArray)) (count : Nat) (cut : Option (Nat × Int)) :
  Con Try.prog W0 23 #[Value.pointer (some ⟨p, 0, none⟩)] [isDisk p (⟨secs, since, false, count, cut⟩ : DS)] (X := Unit) (fun _ => True) (fun _ => Value.int .i64 (DS.start (⟨secs, since, false, count, cut⟩ : DS) ).1) (fun _ => [isDisk p (DS.start (⟨secs, since, false, count, cut⟩ : DS) ).2]) := by
 refine Con.disk (fun bs sv fn us vs => ?_)
 refine Con.of (args := [Value.pointer (some ⟨p, 0, none⟩)]) Try.func23 rfl Try.ntmps23 rfl (fun F => ?_)
 show Wc _ W0 _ _ _ _ _ ((pt p 37 [Value.slice (some ⟨bs, 0, none⟩) secs.length secs.length, sv, Value.bool false, Value.int .i64 ((count : Nat) : Int), .func fn us vs]) :: (pt bs 9 (secs.map Value.string)) :: (sl 86 2 sv since.length (flat since)) :: (mayR p (Value.func fn us vs) cut) :: F)
 refine Wc.seq ?_
 refine Wc.region ?_
 refine Wl.q (v := Value.int .i64 0) (q_assign rfl) ?_
 refine Wl.done ?_
 refine Wx.go ?_
 refine Wc.seq ?_
 refine Wc.block ?_
 refine Wc.seq ?_
 refine Wc.region ?_
 refine Wl.q (v := Value.pointer (some ⟨p, 0, none⟩)) (q_move rfl) ?_
 refine Wl.e (e_call (F := (pt bs 9 (secs.map Value.string)) :: (sl 86 2 sv since.length (flat since)) :: (mayR p (Value.func fn us vs) cut) :: F) (args := [Value.pointer (some ⟨p, 0, none⟩)]) Try.call37 rfl (there_yes W0 p (Value.slice (some ⟨bs, 0, none⟩) secs.length secs.length) (sv) (Value.bool false) (Value.int .i64 ((count : Nat) : Int)) fn us vs)) (fun _ _ => ?_)
 refine Wl.imp (L' := (pt p 37 [Value.slice (some ⟨bs, 0, none⟩) secs.length secs.length, sv, Value.bool false, Value.int .i64 ((count : Nat) : Int), .func fn us vs]) :: (pt bs 9 (secs.map Value.string)) :: (sl 86 2 sv since.length (flat since)) :: (mayR p (Value.func fn us vs) cut) :: F) (fun _ h => h) ?_
 refine Wl.q (v := Value.bool false) (q_not rfl rfl) ?_
 refine Wl.q (v := Value.bool false) (q_assign rfl) ?_
 refine Wl.done ?_
 refine Wx.go ?_
 refine Wc.no rfl ?_
 refine Wc.seq ?_
 refine Wc.region ?_
 refine Wl.q (v := Value.pointer (some ⟨p, 0, none⟩)) (q_move rfl) ?_
 refine Wl.q (v := Value.pointer (some ⟨p, 0, none⟩)) (q_nil_ptr rfl) ?_
 refine Wl.q (v := Value.pointer (some ⟨p, 2, none⟩)) (q_field (m := 2) fo_37_2 rfl rfl) ?_
 refine Wl.q (v := Value.bool false) (q_load sc_4 rfl (.cel (i := 0) rfl rfl)) ?_
 refine Wl.q (v := Value.bool true) (q_not rfl rfl) ?_
 refine Wl.q (v := Value.bool true) (q_assign rfl) ?_
 refine Wl.done ?_
 refine Wx.go ?_
 refine Wc.yes rfl ?_
 refine Wc.seq ?_
 refine Wc.region ?_
 refine Wl.q (v := Value.int .i64 8) (q_assign rfl) ?_
 refine Wl.done ?_
 refine Wx.go ?_
 refine Wc.ret ?_
 refine Wx.blockRet ?_
 refine Wx.thenRet ?_
 refine Wx.fin1 rfl (.inl rfl) (fun w hs => ?_)
 have e : DS.start ⟨secs, since, false, count, cut⟩ = (8, ⟨secs, since, false, count, cut⟩) := rfl
 rw [e]
 exact ⟨(), trivial, rfl, isDisk_mk rfl hs⟩

theorem up_up (W0 : World) (p : Nat) (secs : List ByteArray) (since : List (Nat × ByteArray)) (count : Nat) (cut : Option (Nat × Int)) :
  Con Try.prog W0 24 #[Value.pointer (some ⟨p, 0, none⟩)] [isDisk p (⟨secs, since, false, count, cut⟩ : DS)] (X := Unit) (fun _ => True) (fun _ => Value.bool true) (fun _ => [isDisk p (⟨secs, since, false, count, cut⟩ : DS)]) := by
 refine Con.disk (fun bs sv fn us vs => ?_)
 refine Con.of (args := [Value.pointer (some ⟨p, 0, none⟩)]) Try.func24 rfl Try.ntmps24 rfl (fun F => ?_)
 show Wc _ W0 _ _ _ _ _ ((pt p 37 [Value.slice (some ⟨bs, 0, none⟩) secs.length secs.length, sv, Value.bool false, Value.int .i64 ((count : Nat) : Int), .func fn us vs]) :: (pt bs 9 (secs.map Value.string)) :: (sl 86 2 sv since.length (flat since)) :: (mayR p (Value.func fn us vs) cut) :: F)
 refine Wc.seq ?_
 refine Wc.region ?_
 refine Wl.q (v := Value.bool false) (q_assign rfl) ?_
 refine Wl.done ?_
 refine Wx.go ?_
 refine Wc.seq ?_
 refine Wc.region ?_
 refine Wl.q (v := Value.pointer (some ⟨p, 0, none⟩)) (q_move rfl) ?_
 refine Wl.e (e_call (F := (pt bs 9 (secs.map Value.string)) :: (sl 86 2 sv since.length (flat since)) :: (mayR p (Value.func fn us vs) cut) :: F) (args := [Value.pointer (some ⟨p, 0, none⟩)]) Try.call37 rfl (there_yes W0 p (Value.slice (some ⟨bs, 0, none⟩) secs.length secs.length) (sv) (Value.bool false) (Value.int .i64 ((count : Nat) : Int)) fn us vs)) (fun _ _ => ?_)
 refine Wl.imp (L' := (pt p 37 [Value.slice (some ⟨bs, 0, none⟩) secs.length secs.length, sv, Value.bool false, Value.int .i64 ((count : Nat) : Int), .func fn us vs]) :: (pt bs 9 (secs.map Value.string)) :: (sl 86 2 sv since.length (flat since)) :: (mayR p (Value.func fn us vs) cut) :: F) (fun _ h => h) ?_
 refine Wl.q (v := Value.bool true) (q_move rfl) ?_
 refine Wl.q (v := Value.pointer (some ⟨p, 0, none⟩)) (q_move rfl) ?_
 refine Wl.q (v := Value.pointer (some ⟨p, 0, none⟩)) (q_nil_ptr rfl) ?_
 refine Wl.q (v := Value.pointer (some ⟨p, 2, none⟩)) (q_field (m := 2) fo_37_2 rfl rfl) ?_
 refine Wl.q (v := Value.bool false) (q_load sc_4 rfl (.cel (i := 0) rfl rfl)) ?_
 refine Wl.q (v := Value.bool true) (q_not rfl rfl) ?_
 refine Wl.q (v := Value.bool true) (q_pick (t := true) rfl rfl) ?_
 refine Wl.q (v := Value.bool true) (q_assign rfl) ?_
 refine Wl.done ?_
 refine Wx.go ?_
 refine Wc.ret ?_
 refine Wx.fin1 rfl (.inl rfl) (fun w hs => ?_)
 exact ⟨(), trivial, rfl, isDisk_mk rfl hs⟩

theorem up_down (W0 : World) (p : Nat) (secs : List ByteArray) (since : List (Nat × ByteArray)) (count : Nat) (cut : Option (Nat × Int)) :
  Con Try.prog W0 24 #[Value.pointer (some ⟨p, 0, none⟩)] [isDisk p (⟨secs, since, true, count, cut⟩ : DS)] (X := Unit) (fun _ => True) (fun _ => Value.bool false) (fun _ => [isDisk p (⟨secs, since, true, count, cut⟩ : DS)]) := by
 refine Con.disk (fun bs sv fn us vs => ?_)
 refine Con.of (args := [Value.pointer (some ⟨p, 0, none⟩)]) Try.func24 rfl Try.ntmps24 rfl (fun F => ?_)
 show Wc _ W0 _ _ _ _ _ ((pt p 37 [Value.slice (some ⟨bs, 0, none⟩) secs.length secs.length, sv, Value.bool true, Value.int .i64 ((count : Nat) : Int), .func fn us vs]) :: (pt bs 9 (secs.map Value.string)) :: (sl 86 2 sv since.length (flat since)) :: (mayR p (Value.func fn us vs) cut) :: F)
 refine Wc.seq ?_
 refine Wc.region ?_
 refine Wl.q (v := Value.bool false) (q_assign rfl) ?_
 refine Wl.done ?_
 refine Wx.go ?_
 refine Wc.seq ?_
 refine Wc.region ?_
 refine Wl.q (v := Value.pointer (some ⟨p, 0, none⟩)) (q_move rfl) ?_
 refine Wl.e (e_call (F := (pt bs 9 (secs.map Value.string)) :: (sl 86 2 sv since.length (flat since)) :: (mayR p (Value.func fn us vs) cut) :: F) (args := [Value.pointer (some ⟨p, 0, none⟩)]) Try.call37 rfl (there_yes W0 p (Value.slice (some ⟨bs, 0, none⟩) secs.length secs.length) (sv) (Value.bool true) (Value.int .i64 ((count : Nat) : Int)) fn us vs)) (fun _ _ => ?_)
 refine Wl.imp (L' := (pt p 37 [Value.slice (some ⟨bs, 0, none⟩) secs.length secs.length, sv, Value.bool true, Value.int .i64 ((count : Nat) : Int), .func fn us vs]) :: (pt bs 9 (secs.map Value.string)) :: (sl 86 2 sv since.length (flat since)) :: (mayR p (Value.func fn us vs) cut) :: F) (fun _ h => h) ?_
 refine Wl.q (v := Value.bool true) (q_move rfl) ?_
 refine Wl.q (v := Value.pointer (some ⟨p, 0, none⟩)) (q_move rfl) ?_
 refine Wl.q (v := Value.pointer (some ⟨p, 0, none⟩)) (q_nil_ptr rfl) ?_
 refine Wl.q (v := Value.pointer (some ⟨p, 2, none⟩)) (q_field (m := 2) fo_37_2 rfl rfl) ?_
 refine Wl.q (v := Value.bool true) (q_load sc_4 rfl (.cel (i := 0) rfl rfl)) ?_
 refine Wl.q (v := Value.bool false) (q_not rfl rfl) ?_
 refine Wl.q (v := Value.bool false) (q_pick (t := true) rfl rfl) ?_
 refine Wl.q (v := Value.bool false) (q_assign rfl) ?_
 refine Wl.done ?_
 refine Wx.go ?_
 refine Wc.ret ?_
 refine Wx.fin1 rfl (.inl rfl) (fun w hs => ?_)
 exact ⟨(), trivial, rfl, isDisk_mk rfl hs⟩

theorem count_down (W0 : World) (p : Nat) (secs : List ByteArray) (since : List (Nat × ByteArray)) (count : Nat) (cut : Option (Nat × Int)) :
  Con Try.prog W0 18 #[Value.pointer (some ⟨p, 0, none⟩)] [isDisk p (⟨secs, since, true, count, cut⟩ : DS)] (X := Unit) (fun _ => True) (fun _ => Value.int .i64 (count : Int)) (fun _ => [isDisk p (⟨secs, since, true, count, cut⟩ : DS)]) := by
 refine Con.disk (fun bs sv fn us vs => ?_)
 refine Con.of (args := [Value.pointer (some ⟨p, 0, none⟩)]) Try.func18 rfl Try.ntmps18 rfl (fun F => ?_)
 show Wc _ W0 _ _ _ _ _ ((pt p 37 [Value.slice (some ⟨bs, 0, none⟩) secs.length secs.length, sv, Value.bool true, Value.int .i64 ((count : Nat) : Int), .func fn us vs]) :: (pt bs 9 (secs.map Value.string)) :: (sl 86 2 sv since.length (flat since)) :: (mayR p (Value.func fn us vs) cut) :: F)
 refine Wc.seq ?_
 refine Wc.region ?_
 refine Wl.q (v := Value.int .i64 0) (q_assign rfl) ?_
 refine Wl.done ?_
 refine Wx.go ?_
 refine Wc.seq ?_
 refine Wc.seq ?_
 refine Wc.region ?_
 refine Wl.q (v := Value.pointer (some ⟨p, 0, none⟩)) (q_move rfl) ?_
 refine Wl.e (e_call (F := (pt bs 9 (secs.map Value.string)) :: (sl 86 2 sv since.length (flat since)) :: (mayR p (Value.func fn us vs) cut) :: F) (args := [Value.pointer (some ⟨p, 0, none⟩)]) Try.call37 rfl (there_yes W0 p (Value.slice (some ⟨bs, 0, none⟩) secs.length secs.length) (sv) (Value.bool true) (Value.int .i64 ((count : Nat) : Int)) fn us vs)) (fun _ _ => ?_)
 refine Wl.imp (L' := (pt p 37 [Value.slice (some ⟨bs, 0, none⟩) secs.length secs.length, sv, Value.bool true, Value.int .i64 ((count : Nat) : Int), .func fn us vs]) :: (pt bs 9 (secs.map Value.string)) :: (sl 86 2 sv since.length (flat since)) :: (mayR p (Value.func fn us vs) cut) :: F) (fun _ h => h) ?_
 refine Wl.q (v := Value.bool false) (q_not rfl rfl) ?_
 refine Wl.done ?_
 refine Wx.go ?_
 refine Wc.no rfl ?_
 refine Wc.skip ?_
 refine Wx.go ?_
 refine Wc.seq ?_
 refine Wc.region ?_
 refine Wl.q (v := Value.pointer (some ⟨p, 0, none⟩)) (q_move rfl) ?_
 refine Wl.q (v := Value.pointer (some ⟨p, 0, none⟩)) (q_nil_ptr rfl) ?_
 refine Wl.q (v := Value.pointer (some ⟨p, 3, none⟩)) (q_field (m := 3) fo_37_3 rfl rfl) ?_
 refine Wl.q (v := Value.int .i64 ((count : Nat) : Int)) (q_load sc_3 rfl (.cel (i := 0) rfl rfl)) ?_
 refine Wl.q (v := Value.int .i64 ((count : Nat) : Int)) (q_assign rfl) ?_
 refine Wl.done ?_
 refine Wx.go ?_
 refine Wc.ret ?_
 refine Wx.fin1 rfl (.inl rfl) (fun w hs => ?_)
 exact ⟨(), trivial, rfl, isDisk_mk rfl hs⟩

theorem count_up (W0 : World) (p : Nat) (secs : List ByteArray) (since : List (Nat × ByteArray)) (count : Nat) (cut : Option (Nat × Int)) :
  Con Try.prog W0 18 #[Value.pointer (some ⟨p, 0, none⟩)] [isDisk p (⟨secs, since, false, count, cut⟩ : DS)] (X := Unit) (fun _ => True) (fun _ => Value.int .i64 (count : Int)) (fun _ => [isDisk p (⟨secs, since, false, count, cut⟩ : DS)]) := by
 refine Con.disk (fun bs sv fn us vs => ?_)
 refine Con.of (args := [Value.pointer (some ⟨p, 0, none⟩)]) Try.func18 rfl Try.ntmps18 rfl (fun F => ?_)
 show Wc _ W0 _ _ _ _ _ ((pt p 37 [Value.slice (some ⟨bs, 0, none⟩) secs.length secs.length, sv, Value.bool false, Value.int .i64 ((count : Nat) : Int), .func fn us vs]) :: (pt bs 9 (secs.map Value.string)) :: (sl 86 2 sv since.length (flat since)) :: (mayR p (Value.func fn us vs) cut) :: F)
 refine Wc.seq ?_
 refine Wc.region ?_
 refine Wl.q (v := Value.int .i64 0) (q_assign rfl) ?_
 refine Wl.done ?_
 refine Wx.go ?_
 refine Wc.seq ?_
 refine Wc.seq ?_
 refine Wc.region ?_
 refine Wl.q (v := Value.pointer (some ⟨p, 0, none⟩)) (q_move rfl) ?_
 refine Wl.e (e_call (F := (pt bs 9 (secs.map Value.string)) :: (sl 86 2 sv since.length (flat since)) :: (mayR p (Value.func fn us vs) cut) :: F) (args := [Value.pointer (some ⟨p, 0, none⟩)]) Try.call37 rfl (there_yes W0 p (Value.slice (some ⟨bs, 0, none⟩) secs.length secs.length) (sv) (Value.bool false) (Value.int .i64 ((count : Nat) : Int)) fn us vs)) (fun _ _ => ?_)
 refine Wl.imp (L' := (pt p 37 [Value.slice (some ⟨bs, 0, none⟩) secs.length secs.length, sv, Value.bool false, Value.int .i64 ((count : Nat) : Int), .func fn us vs]) :: (pt bs 9 (secs.map Value.string)) :: (sl 86 2 sv since.length (flat since)) :: (mayR p (Value.func fn us vs) cut) :: F) (fun _ h => h) ?_
 refine Wl.q (v := Value.bool false) (q_not rfl rfl) ?_
 refine Wl.done ?_
 refine Wx.go ?_
 refine Wc.no rfl ?_
 refine Wc.skip ?_
 refine Wx.go ?_
 refine Wc.seq ?_
 refine Wc.region ?_
 refine Wl.q (v := Value.pointer (some ⟨p, 0, none⟩)) (q_move rfl) ?_
 refine Wl.q (v := Value.pointer (some ⟨p, 0, none⟩)) (q_nil_ptr rfl) ?_
 refine Wl.q (v := Value.pointer (some ⟨p, 3, none⟩)) (q_field (m := 3) fo_37_3 rfl rfl) ?_
 refine Wl.q (v := Value.int .i64 ((count : Nat) : Int)) (q_load sc_3 rfl (.cel (i := 0) rfl rfl)) ?_
 refine Wl.q (v := Value.int .i64 ((count : Nat) : Int)) (q_assign rfl) ?_
 refine Wl.done ?_
 refine Wx.go ?_
 refine Wc.ret ?_
 refine Wx.fin1 rfl (.inl rfl) (fun w hs => ?_)
 exact ⟨(), trivial, rfl, isDisk_mk rfl hs⟩

theorem len_down (W0 : World) (p : Nat) (secs : List ByteArray) (since : List (Nat × ByteArray)) (count : Nat) (cut : Option (Nat × Int)) :
  Con Try.prog W0 33 #[Value.pointer (some ⟨p, 0, none⟩)] [isDisk p (⟨secs, since, true, count, cut⟩ : DS)] (X := Unit) (fun _ => True) (fun _ => Value.int .i64 (secs.length : Int)) (fun _ => [isDisk p (⟨secs, since, true, count, cut⟩ : DS)]) := by
 refine Con.disk (fun bs sv fn us vs => ?_)
 refine Con.of (args := [Value.pointer (some ⟨p, 0, none⟩)]) Try.func33 rfl Try.ntmps33 rfl (fun F => ?_)
 show Wc _ W0 _ _ _ _ _ ((pt p 37 [Value.slice (some ⟨bs, 0, none⟩) secs.length secs.length, sv, Value.bool true, Value.int .i64 ((count : Nat) : Int), .func fn us vs]) :: (pt bs 9 (secs.map Value.string)) :: (sl 86 2 sv since.length (flat since)) :: (mayR p (Value.func fn us vs) cut) :: F)
 refine Wc.seq ?_
 refine Wc.region ?_
 refine Wl.q (v := Value.int .i64 0) (q_assign rfl) ?_
 refine Wl.done ?_
 refine Wx.go ?_
 refine Wc.seq ?_
 refine Wc.seq ?_
 refine Wc.region ?_
 refine Wl.q (v := Value.pointer (some ⟨p, 0, none⟩)) (q_move rfl) ?_
 refine Wl.e (e_call (F := (pt bs 9 (secs.map Value.string)) :: (sl 86 2 sv since.length (flat since)) :: (mayR p (Value.func fn us vs) cut) :: F) (args := [Value.pointer (some ⟨p, 0, none⟩)]) Try.call37 rfl (there_yes W0 p (Value.slice (some ⟨bs, 0, none⟩) secs.length secs.length) (sv) (Value.bool true) (Value.int .i64 ((count : Nat) : Int)) fn us vs)) (fun _ _ => ?_)
 refine Wl.imp (L' := (pt p 37 [Value.slice (some ⟨bs, 0, none⟩) secs.length secs.length, sv, Value.bool true, Value.int .i64 ((count : Nat) : Int), .func fn us vs]) :: (pt bs 9 (secs.map Value.string)) :: (sl 86 2 sv since.length (flat since)) :: (mayR p (Value.func fn us vs) cut) :: F) (fun _ h => h) ?_
 refine Wl.q (v := Value.bool false) (q_not rfl rfl) ?_
 refine Wl.done ?_
 refine Wx.go ?_
 refine Wc.no rfl ?_
 refine Wc.skip ?_
 refine Wx.go ?_
 refine Wc.seq ?_
 refine Wc.region ?_
 refine Wl.q (v := Value.pointer (some ⟨p, 0, none⟩)) (q_move rfl) ?_
 refine Wl.q (v := Value.pointer (some ⟨p, 0, none⟩)) (q_nil_ptr rfl) ?_
 refine Wl.q (v := Value.pointer (some ⟨p, 0, none⟩)) (q_field (m := 0) fo_37_0 rfl rfl) ?_
 refine Wl.q (v := Value.slice (some ⟨bs, 0, none⟩) secs.length secs.length) (q_load sc_33 rfl (.cel (i := 0) rfl rfl)) ?_
 refine Wl.q (v := Value.int .i64 ((secs.length : Nat) : Int)) (q_len_slice Try.underlying33 rfl) ?_
 refine Wl.q (v := Value.int .i64 ((secs.length : Nat) : Int)) (q_assign rfl) ?_
 refine Wl.done ?_
 refine Wx.go ?_
 refine Wc.ret ?_
 refine Wx.fin1 rfl (.inl rfl) (fun w hs => ?_)
 exact ⟨(), trivial, rfl, isDisk_mk rfl hs⟩

theorem len_up (W0 : World) (p : Nat) (secs : List ByteArray) (since : List (Nat × ByteArray)) (count : Nat) (cut : Option (Nat × Int)) :
  Con Try.prog W0 33 #[Value.pointer (some ⟨p, 0, none⟩)] [isDisk p (⟨secs, since, false, count, cut⟩ : DS)] (X := Unit) (fun _ => True) (fun _ => Value.int .i64 (secs.length : Int)) (fun _ => [isDisk p (⟨secs, since, false, count, cut⟩ : DS)]) := by
 refine Con.disk (fun bs sv fn us vs => ?_)
 refine Con.of (args := [Value.pointer (some ⟨p, 0, none⟩)]) Try.func33 rfl Try.ntmps33 rfl (fun F => ?_)
 show Wc _ W0 _ _ _ _ _ ((pt p 37 [Value.slice (some ⟨bs, 0, none⟩) secs.length secs.length, sv, Value.bool false, Value.int .i64 ((count : Nat) : Int), .func fn us vs]) :: (pt bs 9 (secs.map Value.string)) :: (sl 86 2 sv since.length (flat since)) :: (mayR p (Value.func fn us vs) cut) :: F)
 refine Wc.seq ?_
 refine Wc.region ?_
 refine Wl.q (v := Value.int .i64 0) (q_assign rfl) ?_
 refine Wl.done ?_
 refine Wx.go ?_
 refine Wc.seq ?_
 refine Wc.seq ?_
 refine Wc.region ?_
 refine Wl.q (v := Value.pointer (some ⟨p, 0, none⟩)) (q_move rfl) ?_
 refine Wl.e (e_call (F := (pt bs 9 (secs.map Value.string)) :: (sl 86 2 sv since.length (flat since)) :: (mayR p (Value.func fn us vs) cut) :: F) (args := [Value.pointer (some ⟨p, 0, none⟩)]) Try.call37 rfl (there_yes W0 p (Value.slice (some ⟨bs, 0, none⟩) secs.length secs.length) (sv) (Value.bool false) (Value.int .i64 ((count : Nat) : Int)) fn us vs)) (fun _ _ => ?_)
 refine Wl.imp (L' := (pt p 37 [Value.slice (some ⟨bs, 0, none⟩) secs.length secs.length, sv, Value.bool false, Value.int .i64 ((count : Nat) : Int), .func fn us vs]) :: (pt bs 9 (secs.map Value.string)) :: (sl 86 2 sv since.length (flat since)) :: (mayR p (Value.func fn us vs) cut) :: F) (fun _ h => h) ?_
 refine Wl.q (v := Value.bool false) (q_not rfl rfl) ?_
 refine Wl.done ?_
 refine Wx.go ?_
 refine Wc.no rfl ?_
 refine Wc.skip ?_
 refine Wx.go ?_
 refine Wc.seq ?_
 refine Wc.region ?_
 refine Wl.q (v := Value.pointer (some ⟨p, 0, none⟩)) (q_move rfl) ?_
 refine Wl.q (v := Value.pointer (some ⟨p, 0, none⟩)) (q_nil_ptr rfl) ?_
 refine Wl.q (v := Value.pointer (some ⟨p, 0, none⟩)) (q_field (m := 0) fo_37_0 rfl rfl) ?_
 refine Wl.q (v := Value.slice (some ⟨bs, 0, none⟩) secs.length secs.length) (q_load sc_33 rfl (.cel (i := 0) rfl rfl)) ?_
 refine Wl.q (v := Value.int .i64 ((secs.length : Nat) : Int)) (q_len_slice Try.underlying33 rfl) ?_
 refine Wl.q (v := Value.int .i64 ((secs.length : Nat) : Int)) (q_assign rfl) ?_
 refine Wl.done ?_
 refine Wx.go ?_
 refine Wc.ret ?_
 refine Wx.fin1 rfl (.inl rfl) (fun w hs => ?_)
 exact ⟨(), trivial, rfl, isDisk_mk rfl hs⟩

theorem cut_down (W0 : World) (p : Nat) (secs : List ByteArray) (since : List (Nat × ByteArray)) (count : Nat) (cut : Option (Nat × Int)) (n bb : Int) :
  Con Try.prog W0 21 #[Value.pointer (some ⟨p, 0, none⟩), Value.int .i64 n, Value.int .i64 bb] [isDisk p (⟨secs, since, true, count, cut⟩ : DS)] (X := Unit) (fun _ => True) (fun _ => Value.int .i64 (DS.cutTo (⟨secs, since, true, count, cut⟩ : DS) n bb).1) (fun _ => [isDisk p (DS.cutTo (⟨secs, since, true, count, cut⟩ : DS) n bb).2]) := by
 refine Con.disk (fun bs sv fn us vs => ?_)
 refine Con.of (args := [Value.pointer (some ⟨p, 0, none⟩), Value.int .i64 n, Value.int .i64 bb]) Try.func21 rfl Try.ntmps21 rfl (fun F => ?_)
 show Wc _ W0 _ _ _ _ _ ((pt p 37 [Value.slice (some ⟨bs, 0, none⟩) secs.length secs.length, sv, Value.bool true, Value.int .i64 ((count : Nat) : Int), .func fn us vs]) :: (pt bs 9 (secs.map Value.string)) :: (sl 86 2 sv since.length (flat since)) :: (mayR p (Value.func fn us vs) cut) :: F)
 refine Wc.seq ?_
 refine Wc.region ?_
 refine Wl.q (v := Value.int .i64 0) (q_assign rfl) ?_
 refine Wl.done ?_
 refine Wx.go ?_
 refine Wc.seq ?_
 refine Wc.seq ?_
 refine Wc.region ?_
 refine Wl.q (v := Value.pointer (some ⟨p, 0, none⟩)) (q_move rfl) ?_
 refine Wl.e (e_call (F := (pt bs 9 (secs.map Value.string)) :: (sl 86 2 sv since.length (flat since)) :: (mayR p (Value.func fn us vs) cut) :: F) (args := [Value.pointer (some ⟨p, 0, none⟩)]) Try.call38 rfl (state_down W0 p (Value.slice (some ⟨bs, 0, none⟩) secs.length secs.length) (sv) (Value.int .i64 ((count : Nat) : Int)) fn us vs)) (fun _ _ => ?_)
 refine Wl.imp (L' := (pt p 37 [Value.slice (some ⟨bs, 0, none⟩) secs.length secs.length, sv, Value.bool true, Value.int .i64 ((count : Nat) : Int), .func fn us vs]) :: (pt bs 9 (secs.map Value.string)) :: (sl 86 2 sv since.length (flat since)) :: (mayR p (Value.func fn us vs) cut) :: F) (fun _ h => h) ?_
 refine Wl.q (v := Value.int .i64 6) (q_assign rfl) ?_
 refine Wl.done ?_
 refine Wx.go ?_
 refine Wc.seq ?_
 refine Wc.region ?_
 refine Wl.q (v := Value.int .i64 6) (q_move rfl) ?_
 refine Wl.q (v := Value.bool true) (q_neq (r := false) rfl rfl (decide_eq_false (by decide))) ?_
 refine Wl.done ?_
 refine Wx.go ?_
 refine Wc.yes rfl ?_
 refine Wc.seq ?_
 refine Wc.region ?_
 refine Wl.q (v := Value.int .i64 6) (q_move rfl) ?_
 refine Wl.q (v := Value.int .i64 6) (q_assign rfl) ?_
 refine Wl.done ?_
 refine Wx.go ?_
 refine Wc.ret ?_
 refine Wx.thenRet ?_
 refine Wx.fin1 rfl (.inl rfl) (fun w hs => ?_)
 have e : DS.cutTo ⟨secs, since, true, count, cut⟩ n bb = (6, ⟨secs, since, true, count, cut⟩) := rfl
 rw [e]
 exact ⟨(), trivial, rfl, isDisk_mk rfl hs⟩

theorem cut_up (W0 : World) (p : Nat) (secs : List ByteArray) (since : List (Nat × ByteArray)) (count : Nat) (cut : Option (Nat × Int)) (n bb : Int) :
  Con Try.prog W0 21 #[Value.pointer (some ⟨p, 0, none⟩), Value.int .i64 n, Value.int .i64 bb] [isDisk p (⟨secs, since, false, count, cut⟩ : DS)] (X := Unit) (fun _ => True) (fun _ => Value.int .i64 (DS.cutTo (⟨secs, since, false, count, cut⟩ : DS) n bb).1) (fun _ => [isDisk p (DS.cutTo (⟨secs, since, false, count, cut⟩ : DS) n bb).2]) := by
 refine Con.disk (fun bs sv fn us vs => ?_)
 refine Con.of (args := [Value.pointer (some ⟨p, 0, none⟩), Value.int .i64 n, Value.int .i64 bb]) Try.func21 rfl Try.ntmps21 rfl (fun F => ?_)
 show Wc _ W0 _ _ _ _ _ ((pt p 37 [Value.slice (some ⟨bs, 0, none⟩) secs.length secs.length, sv, Value.bool false, Value.int .i64 ((count : Nat) : Int), .func fn us vs]) :: (pt bs 9 (secs.map Value.string)) :: (sl 86 2 sv since.length (flat since)) :: (mayR p (Value.func fn us vs) cut) :: F)
 refine Wc.seq ?_
 refine Wc.region ?_
 refine Wl.q (v := Value.int .i64 0) (q_assign rfl) ?_
 refine Wl.done ?_
 refine Wx.go ?_
 refine Wc.seq ?_
 refine Wc.seq ?_
 refine Wc.region ?_
 refine Wl.q (v := Value.pointer (some ⟨p, 0, none⟩)) (q_move rfl) ?_
 refine Wl.e (e_call (F := (pt bs 9 (secs.map Value.string)) :: (sl 86 2 sv since.length (flat since)) :: (mayR p (Value.func fn us vs) cut) :: F) (args := [Value.pointer (some ⟨p, 0, none⟩)]) Try.call38 rfl (state_up W0 p (Value.slice (some ⟨bs, 0, none⟩) secs.length secs.length) (sv) (Value.int .i64 ((count : Nat) : Int)) fn us vs)) (fun _ _ => ?_)
 refine Wl.imp (L' := (pt p 37 [Value.slice (some ⟨bs, 0, none⟩) secs.length secs.length, sv, Value.bool false, Value.int .i64 ((count : Nat) : Int), .func fn us vs]) :: (pt bs 9 (secs.map Value.string)) :: (sl 86 2 sv since.length (flat since)) :: (mayR p (Value.func fn us vs) cut) :: F) (fun _ h => h) ?_
 refine Wl.q (v := Value.int .i64 0) (q_assign rfl) ?_
 refine Wl.done ?_
 refine Wx.go ?_
 refine Wc.seq ?_
 refine Wc.region ?_
 refine Wl.q (v := Value.int .i64 0) (q_move rfl) ?_
 refine Wl.q (v := Value.bool false) (q_neq (r := true) rfl rfl (decide_eq_true (by decide))) ?_
 refine Wl.done ?_
 refine Wx.go ?_
 refine Wc.no rfl ?_
 refine Wc.skip ?_
 refine Wx.go ?_
 refine Wc.seq ?_
 refine Wc.seq ?_
 refine Wc.region ?_
 refine Wl.q (v := Value.int .i64 n) (q_move rfl) ?_
 by_cases hneg : n < 0
 ·
  refine Wl.q (v := Value.bool true) (q_lss (r := true) rfl rfl (decide_eq_true hneg)) ?_
  refine Wl.done ?_
  refine Wx.go ?_
  refine Wc.yes rfl ?_
  refine Wc.seq ?_
  refine Wc.region ?_
  refine Wl.q (v := Value.int .i64 1) (q_assign rfl) ?_
  refine Wl.done ?_
  refine Wx.go ?_
  refine Wc.ret ?_
  refine Wx.thenRet ?_
  refine Wx.fin1 rfl (.inl rfl) (fun w hs => ?_)
  have e : DS.cutTo ⟨secs, since, false, count, cut⟩ n bb = (1, ⟨secs, since, false, count, cut⟩) := by simp [DS.cutTo, hneg]
  rw [e]
  exact ⟨(), trivial, rfl, isDisk_mk rfl hs⟩
 ·
  obtain ⟨m, rfl⟩ := Int.eq_ofNat_of_zero_le (Int.not_lt.1 hneg)
  refine Wl.q (v := Value.bool false) (q_lss (r := false) rfl rfl (decide_eq_false hneg)) ?_
  refine Wl.done ?_
  refine Wx.go ?_
  refine Wc.no rfl ?_
  refine Wc.skip ?_
  refine Wx.go ?_
  refine Wc.seq ?_
  refine Wc.region ?_
  refine Wl.q (v := Value.pointer (some ⟨p, 0, none⟩)) (q_move rfl) ?_
  refine Wl.q (v := Value.pointer (some ⟨p, 0, none⟩)) (q_move rfl) ?_
  refine Wl.q (v := Value.int .i64 ((m : Nat) : Int)) (q_move rfl) ?_
  refine Wl.q (v := Value.int .i64 bb) (q_move rfl) ?_
  refine Wl.q (v := Value.agg #[Value.pointer (some ⟨p, 0, none⟩), Value.int .i64 ((m : Nat) : Int), Value.int .i64 bb]) (q_build (pl := [(0, 1), (1, 1), (2, 1)]) Try.underlying75 zo_75 (by kernel_rfl) (by kernel_rfl)) ?_
  refine Wl.e (e_box (x := .tmp 19) (vs := [Value.pointer (some ⟨p, 0, none⟩), Value.int .i64 ((m : Nat) : Int), Value.int .i64 bb]) rfl) (fun c _ => ?_)
  refine Wl.imp (L' := (pt c 75 [Value.pointer (some ⟨p, 0, none⟩), Value.int .i64 ((m : Nat) : Int), Value.int .i64 bb]) :: (pt p 37 [Value.slice (some ⟨bs, 0, none⟩) secs.length secs.length, sv, Value.bool false, Value.int .i64 ((count : Nat) : Int), .func fn us vs]) :: (pt bs 9 (secs.map Value.string)) :: (sl 86 2 sv since.length (flat since)) :: (mayR p (Value.func fn us vs) cut) :: F) (fun _ h => h) ?_
  refine Wl.q (v := Value.func (.func 39) #[Value.pointer (some ⟨c, 0, none⟩)] #[]) (q_makeFunc (us := [Value.pointer (some ⟨c, 0, none⟩)]) (vs := []) rfl rfl) ?_
  refine Wl.q (v := Value.pointer (some ⟨p, 0, none⟩)) (q_nil_ptr rfl) ?_
  refine Wl.q (v := Value.pointer (some ⟨p, 4, none⟩)) (q_field (m := 4) fo_37_4 rfl rfl) ?_
  refine Wl.e (e_store (i := 1) (v := Value.func (.func 39) #[Value.pointer (some ⟨c, 0, none⟩)] #[]) sz_35 rfl rfl (fun _ _ => rfl) rfl (by simp)) (fun _ _ => ?_)
  refine Wl.imp (L' := (pt c 75 [Value.pointer (some ⟨p, 0, none⟩), Value.int .i64 ((m : Nat) : Int), Value.int .i64 bb]) :: (pt p 37 ([Value.slice (some ⟨bs, 0, none⟩) secs.length secs.length, sv, Value.bool false, Value.int .i64 ((count : Nat) : Int), Value.func (.func 39) #[Value.pointer (some ⟨c, 0, none⟩)] #[]])) :: (pt bs 9 (secs.map Value.string)) :: (sl 86 2 sv since.length (flat since)) :: (mayR p (Value.func fn us vs) cut) :: F) (fun _ h => h) ?_
  refine Wl.done ?_
  refine Wx.go ?_
  refine Wc.seq ?_
  refine Wc.region ?_
  refine Wl.q (v := Value.int .i64 0) (q_assign rfl) ?_
  refine Wl.done ?_
  refine Wx.go ?_
  refine Wc.ret ?_
  refine Wx.fin1 rfl (.inl rfl) (fun w hs => ?_)
  have e : DS.cutTo ⟨secs, since, false, count, cut⟩ ((m : Nat) : Int) bb = (0, ⟨secs, since, false, count, some (m, bb)⟩) := by simp [DS.cutTo, hneg]
  rw [e]
  exact ⟨(), trivial, rfl, isDisk_mk rfl (st_pull [1, 1, 1] (mayR_some (st_pull [0] (st_pull [0, 0, 0, 0] (st_drop (st_pull [4] hs))))))⟩

theorem crash_c (W0 : World) (p : Nat) (d : DS) (bb : Int) (hw : WF d) :
  Con Try.prog W0 22 #[Value.pointer (some ⟨p, 0, none⟩), Value.int .i64 bb] [isDisk p d] (X := Unit) (fun _ => True) (fun _ => Value.int .i64 (d.crash bb).1) (fun _ => [isDisk p (d.crash bb).2]) := by
 obtain ⟨secs, since, down, count, cut⟩ := d
 cases down
 · exact crash_up W0 p secs since count cut bb hw.l
 · exact crash_down W0 p secs since count cut bb

theorem start_c (W0 : World) (p : Nat) (d : DS) :
  Con Try.prog W0 23 #[Value.pointer (some ⟨p, 0, none⟩)] [isDisk p d] (X := Unit) (fun _ => True) (fun _ => Value.int .i64 d.start.1) (fun _ => [isDisk p d.start.2]) := by
 obtain ⟨secs, since, down, count, cut⟩ := d
 cases down
 · exact start_up W0 p secs since count cut
 · exact start_down W0 p secs since count cut

theorem up_c (W0 : World) (p : Nat) (d : DS) :
  Con Try.prog W0 24 #[Value.pointer (some ⟨p, 0, none⟩)] [isDisk p d] (X := Unit) (fun _ => True) (fun _ => Value.bool (!d.down)) (fun _ => [isDisk p d]) := by
 obtain ⟨secs, since, down, count, cut⟩ := d
 cases down
 · exact up_up W0 p secs since count cut
 · exact up_down W0 p secs since count cut

theorem count_c (W0 : World) (p : Nat) (d : DS) :
  Con Try.prog W0 18 #[Value.pointer (some ⟨p, 0, none⟩)] [isDisk p d] (X := Unit) (fun _ => True) (fun _ => Value.int .i64 (d.count : Int)) (fun _ => [isDisk p d]) := by
 obtain ⟨secs, since, down, count, cut⟩ := d
 cases down
 · exact count_up W0 p secs since count cut
 · exact count_down W0 p secs since count cut

theorem len_c (W0 : World) (p : Nat) (d : DS) :
  Con Try.prog W0 33 #[Value.pointer (some ⟨p, 0, none⟩)] [isDisk p d] (X := Unit) (fun _ => True) (fun _ => Value.int .i64 (d.secs.length : Int)) (fun _ => [isDisk p d]) := by
 obtain ⟨secs, since, down, count, cut⟩ := d
 cases down
 · exact len_up W0 p secs since count cut
 · exact len_down W0 p secs since count cut

theorem cut_c (W0 : World) (p : Nat) (d : DS) (n bb : Int) :
  Con Try.prog W0 21 #[Value.pointer (some ⟨p, 0, none⟩), Value.int .i64 n, Value.int .i64 bb] [isDisk p d] (X := Unit) (fun _ => True) (fun _ => Value.int .i64 (d.cutTo n bb).1) (fun _ => [isDisk p (d.cutTo n bb).2]) := by
 obtain ⟨secs, since, down, count, cut⟩ := d
 cases down
 · exact cut_up W0 p secs since count cut n bb
 · exact cut_down W0 p secs since count cut n bb

theorem write1_g (W0 : World) (p bs : Nat) (secs : List ByteArray) (since : List (Nat × ByteArray)) (hsince : since.length < 1099511627776) (count : Nat) (mv sv : Value) (b3 b4 b5 a : Nat) (s : ByteArray) :
  Con Try.prog W0 68 #[Value.pointer (some ⟨b3, 0, none⟩), Value.pointer (some ⟨b4, 0, none⟩), Value.pointer (some ⟨b5, 0, none⟩)] [pt p 37 [Value.slice (some ⟨bs, 0, none⟩) secs.length secs.length, sv, Value.bool false, Value.int .i64 ((count : Nat) : Int), mv], grp [sl 86 2 sv since.length (flat since), pt b3 23 [Value.pointer (some ⟨p, 0, none⟩)], pt b4 3 [Value.int .i64 ((a : Nat) : Int)], pt b5 9 [Value.string s]]] (X := Value) (fun _ => True) (fun _ => .tuple #[]) (fun v2 => [pt p 37 [Value.slice (some ⟨bs, 0, none⟩) secs.length secs.length, v2, Value.bool false, Value.int .i64 ((count : Nat) : Int), mv], sl 86 2 v2 ((since ++ [(a, s)]).length) (flat (since ++ [(a, s)])), pt b3 23 [Value.pointer (some ⟨p, 0, none⟩)], pt b4 3 [Value.int .i64 ((a : Nat) : Int)], pt b5 9 [Value.string s]]) :=
 Con.grpAt (write1 W0 p bs secs since hsince count mv sv b3 b4 b5 a s)

theorem sync1_g (W0 : World) (p bs : Nat) (secs : List ByteArray) (since : List (Nat × ByteArray)) (count : Nat) (mv : Value) (b1 : Nat) (hw : WFl secs since) (hsince : since.length < 1099511627776) (sv : Value) :
  Con Try.prog W0 70 #[Value.pointer (some ⟨b1, 0, none⟩)] [pt p 37 [Value.slice (some ⟨bs, 0, none⟩) secs.length secs.length, sv, Value.bool false, Value.int .i64 ((count : Nat) : Int), mv], grp [sl 86 2 sv since.length (flat since), pt bs 9 (secs.map Value.string), pt b1 23 [Value.pointer (some ⟨p, 0, none⟩)]]] (X := Unit) (fun _ => True) (fun _ => .tuple #[]) (fun _ => [pt p 37 [Value.slice (some ⟨bs, 0, none⟩) secs.length secs.length, Value.slice none 0 0, Value.bool false, Value.int .i64 ((count : Nat) : Int), mv], pt bs 9 ((syncL secs since).map Value.string), pt b1 23 [Value.pointer (some ⟨p, 0, none⟩)]]) :=
 Con.grpAt (Con.pull [1] (fun _ => rfl) (sync1_c W0 p bs secs since count mv b1 hw hsince sv))

theorem write_down (W0 : World) (p : Nat) (secs : List ByteArray) (since : List (Nat × ByteArray)) (count : Nat) (cut : Option (Nat × Int)) (at_ : Int) (s : ByteArray) :
  Con Try.prog W0 49 #[Value.pointer (some ⟨p, 0, none⟩), Value.int .i64 at_, Value.string s] [isDisk p (⟨secs, since, true, count, cut⟩ : DS)] (X := Unit) (fun _ => True) (fun _ => Value.int .i64 (DS.write (⟨secs, since, true, count, cut⟩ : DS) at_ s).1) (fun _ => [isDisk p (DS.write (⟨secs, since, true, count, cut⟩ : DS) at_ s).2]) := by
 refine Con.disk (fun bs sv fn us vs => ?_)
 refine Con.of (args := [Value.pointer (some ⟨p, 0, none⟩), Value.int .i64 at_, Value.string s]) Try.func49 rfl Try.ntmps49 rfl (fun F => ?_)
 show Wc _ W0 _ _ _ _ _ ((pt p 37 [Value.slice (some ⟨bs, 0, none⟩) secs.length secs.length, sv, Value.bool true, Value.int .i64 ((count : Nat) : Int), .func fn us vs]) :: (pt bs 9 (secs.map Value.string)) :: (sl 86 2 sv since.length (flat since)) :: (mayR p (Value.func fn us vs) cut) :: F)
 refine Wc.seq ?_
 refine Wc.region ?_
 refine Wl.e (e_box (x := .tmp 0) (vs := [Value.pointer (some ⟨p, 0, none⟩)]) rfl) (fun b3 _ => ?_)
 refine Wl.imp (L' := (pt b3 23 [Value.pointer (some ⟨p, 0, none⟩)]) :: (pt p 37 [Value.slice (some ⟨bs, 0, none⟩) secs.length secs.length, sv, Value.bool true, Value.int .i64 ((count : Nat) : Int), .func fn us vs]) :: (pt bs 9 (secs.map Value.string)) :: (sl 86 2 sv since.length (flat since)) :: (mayR p (Value.func fn us vs) cut) :: F) (fun _ h => h) ?_
 refine Wl.e (e_box (x := .tmp 1) (vs := [Value.int .i64 at_]) rfl) (fun b4 _ => ?_)
 refine Wl.imp (L' := (pt b4 3 [Value.int .i64 at_]) :: (pt b3 23 [Value.pointer (some ⟨p, 0, none⟩)]) :: (pt p 37 [Value.slice (some ⟨bs, 0, none⟩) secs.length secs.length, sv, Value.bool true, Value.int .i64 ((count : Nat) : Int), .func fn us vs]) :: (pt bs 9 (secs.map Value.string)) :: (sl 86 2 sv since.length (flat since)) :: (mayR p (Value.func fn us vs) cut) :: F) (fun _ h => h) ?_
 refine Wl.e (e_box (x := .tmp 2) (vs := [Value.string s]) rfl) (fun b5 _ => ?_)
 refine Wl.imp (L' := (pt b5 9 [Value.string s]) :: (pt b4 3 [Value.int .i64 at_]) :: (pt b3 23 [Value.pointer (some ⟨p, 0, none⟩)]) :: (pt p 37 [Value.slice (some ⟨bs, 0, none⟩) secs.length secs.length, sv, Value.bool true, Value.int .i64 ((count : Nat) : Int), .func fn us vs]) :: (pt bs 9 (secs.map Value.string)) :: (sl 86 2 sv since.length (flat since)) :: (mayR p (Value.func fn us vs) cut) :: F) (fun _ h => h) ?_
 refine Wl.q (v := Value.int .i64 0) (q_assign rfl) ?_
 refine Wl.done ?_
 refine Wx.go ?_
 refine Wc.seq ?_
 refine Wc.seq ?_
 refine Wc.region ?_
 refine Wl.q (v := Value.pointer (some ⟨p, 0, none⟩)) (q_load sc_23 rfl (.cel (i := 2) rfl rfl)) ?_
 refine Wl.imp (L' := (pt p 37 [Value.slice (some ⟨bs, 0, none⟩) secs.length secs.length, sv, Value.bool true, Value.int .i64 ((count : Nat) : Int), .func fn us vs]) :: (pt b5 9 [Value.string s]) :: (pt b4 3 [Value.int .i64 at_]) :: (pt b3 23 [Value.pointer (some ⟨p, 0, none⟩)]) :: (pt bs 9 (secs.map Value.string)) :: (sl 86 2 sv since.length (flat since)) :: (mayR p (Value.func fn us vs) cut) :: F) (fun _ h => st_pull [3] h) ?_
 refine Wl.e (e_call (F := (pt b5 9 [Value.string s]) :: (pt b4 3 [Value.int .i64 at_]) :: (pt b3 23 [Value.pointer (some ⟨p, 0, none⟩)]) :: (pt bs 9 (secs.map Value.string)) :: (sl 86 2 sv since.length (flat since)) :: (mayR p (Value.func fn us vs) cut) :: F) (args := [Value.pointer (some ⟨p, 0, none⟩)]) Try.call38 rfl (state_down W0 p (Value.slice (some ⟨bs, 0, none⟩) secs.length secs.length) (sv) (Value.int .i64 ((count : Nat) : Int)) fn us vs)) (fun _ _ => ?_)
 refine Wl.imp (L' := (pt p 37 [Value.slice (some ⟨bs, 0, none⟩) secs.length secs.length, sv, Value.bool true, Value.int .i64 ((count : Nat) : Int), .func fn us vs]) :: (pt b5 9 [Value.string s]) :: (pt b4 3 [Value.int .i64 at_]) :: (pt b3 23 [Value.pointer (some ⟨p, 0, none⟩)]) :: (pt bs 9 (secs.map Value.string)) :: (sl 86 2 sv since.length (flat since)) :: (mayR p (Value.func fn us vs) cut) :: F) (fun _ h => h) ?_
 refine Wl.q (v := Value.int .i64 6) (q_assign rfl) ?_
 refine Wl.done ?_
 refine Wx.go ?_
 refine Wc.seq ?_
 refine Wc.region ?_
 refine Wl.q (v := Value.int .i64 6) (q_move rfl) ?_
 refine Wl.q (v := Value.bool true) (q_neq (r := false) rfl rfl (decide_eq_false (by decide))) ?_
 refine Wl.done ?_
 refine Wx.go ?_
 refine Wc.yes rfl ?_
 refine Wc.seq ?_
 refine Wc.region ?_
 refine Wl.q (v := Value.int .i64 6) (q_move rfl) ?_
 refine Wl.q (v := Value.int .i64 6) (q_assign rfl) ?_
 refine Wl.done ?_
 refine Wx.go ?_
 refine Wc.ret ?_
 refine Wx.thenRet ?_
 refine Wx.fin1 rfl (.inl rfl) (fun w hs => ?_)
 have e : DS.write ⟨secs, since, true, count, cut⟩ at_ s = (6, ⟨secs, since, true, count, cut⟩) := rfl
 rw [e]
 exact ⟨(), trivial, rfl, isDisk_mk rfl (st_drop (st_drop (st_drop (st_pull [1, 1, 1] hs))))⟩

theorem write_alw (W0 : World) (p : Nat) (secs : List ByteArray) (since : List (Nat × ByteArray)) (count : Nat) (at_ : Int) (s : ByteArray) (hw : WFl secs since) (hsince : since.length < 1099511627776) (hcount : count < 4611686018427387904) :
  Con Try.prog W0 49 #[Value.pointer (some ⟨p, 0, none⟩), Value.int .i64 at_, Value.string s] [isDisk p (⟨secs, since, false, count, none⟩ : DS)] (X := Unit) (fun _ => True) (fun _ => Value.int .i64 (DS.write (⟨secs, since, false, count, none⟩ : DS) at_ s).1) (fun _ => [isDisk p (DS.write (⟨secs, since, false, count, none⟩ : DS) at_ s).2]) := by
 refine Con.alw rfl (fun bs sv => ?_)
 refine Con.of (args := [Value.pointer (some ⟨p, 0, none⟩), Value.int .i64 at_, Value.string s]) Try.func49 rfl Try.ntmps49 rfl (fun F => ?_)
 show Wc _ W0 _ _ _ _ _ ((pt p 37 ([Value.slice (some ⟨bs, 0, none⟩) secs.length secs.length, sv, Value.bool false, Value.int .i64 ((count : Nat) : Int), Value.func (.func 36) #[Value.pointer (some ⟨p, 0, none⟩)] #[]])) :: (pt bs 9 (secs.map Value.string)) :: (sl 86 2 sv since.length (flat since)) :: F)
 refine Wc.seq ?_
 refine Wc.region ?_
 refine Wl.e (e_box (x := .tmp 0) (vs := [Value.pointer (some ⟨p, 0, none⟩)]) rfl) (fun b3 _ => ?_)
 refine Wl.imp (L' := (pt b3 23 [Value.pointer (some ⟨p, 0, none⟩)]) :: (pt p 37 ([Value.slice (some ⟨bs, 0, none⟩) secs.length secs.length, sv, Value.bool false, Value.int .i64 ((count : Nat) : Int), Value.func (.func 36) #[Value.pointer (some ⟨p, 0, none⟩)] #[]])) :: (pt bs 9 (secs.map Value.string)) :: (sl 86 2 sv since.length (flat since)) :: F) (fun _ h => h) ?_
 refine Wl.e (e_box (x := .tmp 1) (vs := [Value.int .i64 at_]) rfl) (fun b4 _ => ?_)
 refine Wl.imp (L' := (pt b4 3 [Value.int .i64 at_]) :: (pt b3 23 [Value.pointer (some ⟨p, 0, none⟩)]) :: (pt p 37 ([Value.slice (some ⟨bs, 0, none⟩) secs.length secs.length, sv, Value.bool false, Value.int .i64 ((count : Nat) : Int), Value.func (.func 36) #[Value.pointer (some ⟨p, 0, none⟩)] #[]])) :: (pt bs 9 (secs.map Value.string)) :: (sl 86 2 sv since.length (flat since)) :: F) (fun _ h => h) ?_
 refine Wl.e (e_box (x := .tmp 2) (vs := [Value.string s]) rfl) (fun b5 _ => ?_)
 refine Wl.imp (L' := (pt b5 9 [Value.string s]) :: (pt b4 3 [Value.int .i64 at_]) :: (pt b3 23 [Value.pointer (some ⟨p, 0, none⟩)]) :: (pt p 37 ([Value.slice (some ⟨bs, 0, none⟩) secs.length secs.length, sv, Value.bool false, Value.int .i64 ((count : Nat) : Int), Value.func (.func 36) #[Value.pointer (some ⟨p, 0, none⟩)] #[]])) :: (pt bs 9 (secs.map Value.string)) :: (sl 86 2 sv since.length (flat since)) :: F) (fun _ h => h) ?_
 refine Wl.q (v := Value.int .i64 0) (q_assign rfl) ?_
 refine Wl.done ?_
 refine Wx.go ?_
 refine Wc.seq ?_
 refine Wc.seq ?_
 refine Wc.region ?_
 refine Wl.q (v := Value.pointer (some ⟨p, 0, none⟩)) (q_load sc_23 rfl (.cel (i := 2) rfl rfl)) ?_
 refine Wl.imp (L' := (pt p 37 ([Value.slice (some ⟨bs, 0, none⟩) secs.length secs.length, sv, Value.bool false, Value.int .i64 ((count : Nat) : Int), Value.func (.func 36) #[Value.pointer (some ⟨p, 0, none⟩)] #[]])) :: (pt b5 9 [Value.string s]) :: (pt b4 3 [Value.int .i64 at_]) :: (pt b3 23 [Value.pointer (some ⟨p, 0, none⟩)]) :: (pt bs 9 (secs.map Value.string)) :: (sl 86 2 sv since.length (flat since)) :: F) (fun _ h => st_pull [3] h) ?_
 refine Wl.e (e_call (F := (pt b5 9 [Value.string s]) :: (pt b4 3 [Value.int .i64 at_]) :: (pt b3 23 [Value.pointer (some ⟨p, 0, none⟩)]) :: (pt bs 9 (secs.map Value.string)) :: (sl 86 2 sv since.length (flat since)) :: F) (args := [Value.pointer (some ⟨p, 0, none⟩)]) Try.call38 rfl (state_up W0 p (Value.slice (some ⟨bs, 0, none⟩) secs.length secs.length) (sv) (Value.int .i64 ((count : Nat) : Int)) (.func 36) #[Value.pointer (some ⟨p, 0, none⟩)] #[])) (fun _ _ => ?_)
 refine Wl.imp (L' := (pt p 37 ([Value.slice (some ⟨bs, 0, none⟩) secs.length secs.length, sv, Value.bool false, Value.int .i64 ((count : Nat) : Int), Value.func (.func 36) #[Value.pointer (some ⟨p, 0, none⟩)] #[]])) :: (pt b5 9 [Value.string s]) :: (pt b4 3 [Value.int .i64 at_]) :: (pt b3 23 [Value.pointer (some ⟨p, 0, none⟩)]) :: (pt bs 9 (secs.map Value.string)) :: (sl 86 2 sv since.length (flat since)) :: F) (fun _ h => h) ?_
 refine Wl.q (v := Value.int .i64 0) (q_assign rfl) ?_
 refine Wl.done ?_
 refine Wx.go ?_
 refine Wc.seq ?_
 refine Wc.region ?_
 refine Wl.q (v := Value.int .i64 0) (q_move rfl) ?_
 refine Wl.q (v := Value.bool false) (q_neq (r := true) rfl rfl (decide_eq_true (by decide))) ?_
 refine Wl.done ?_
 refine Wx.go ?_
 refine Wc.no rfl ?_
 refine Wc.skip ?_
 refine Wx.go ?_
 refine Wc.seq ?_
 refine Wc.seq ?_
 refine Wc.drawsS [] ((pt p 37 ([Value.slice (some ⟨bs, 0, none⟩) secs.length secs.length, sv, Value.bool false, Value.int .i64 ((count : Nat) : Int), Value.func (.func 36) #[Value.pointer (some ⟨p, 0, none⟩)] #[]])) :: (pt b5 9 [Value.string s]) :: (pt b4 3 [Value.int .i64 at_]) :: (pt b3 23 [Value.pointer (some ⟨p, 0, none⟩)]) :: (pt bs 9 (secs.map Value.string)) :: (sl 86 2 sv since.length (flat since)) :: []) (by kernel_rfl) ?_
 refine Wr.take (v := Value.int .i64 at_) 0 rfl (by kernel_rfl) (fun _ h => st_take [0, 0, 0, 0, 0, 0] h) (.inl ⟨rfl, q_load sc_3 rfl (.cel (i := 2) rfl rfl)⟩) ?_
 by_cases hneg : at_ < 0
 ·
  refine Wr.pure (v := Value.bool true) 1 rfl (by kernel_rfl) (.inr (fun _ h => st_take [0, 0, 0, 0, 0, 0] h)) (.inl ⟨rfl, fun _ => q_lss (r := true) rfl rfl (decide_eq_true hneg)⟩) ?_
  refine Wr.pure (v := Value.bool true) 2 rfl (by kernel_rfl) (.inr (fun _ h => st_take [0, 0, 0, 0, 0, 0] h)) (.inl ⟨rfl, fun _ => q_move rfl⟩) ?_
  refine Wr.pure (v := undef) 3 rfl (by kernel_rfl) (.inr (fun _ h => st_take [0, 0, 0, 0, 0, 0] h)) (.inr ⟨rfl, rfl⟩) ?_
  refine Wr.pure (v := undef) 4 rfl (by kernel_rfl) (.inr (fun _ h => st_take [0, 0, 0, 0, 0, 0] h)) (.inr ⟨rfl, rfl⟩) ?_
  refine Wr.pure (v := undef) 5 rfl (by kernel_rfl) (.inr (fun _ h => st_take [0, 0, 0, 0, 0, 0] h)) (.inr ⟨rfl, rfl⟩) ?_
  refine Wr.pure (v := undef) 6 rfl (by kernel_rfl) (.inr (fun _ h => st_take [0, 0, 0, 0, 0, 0] h)) (.inr ⟨rfl, rfl⟩) ?_
  refine Wr.pure (v := undef) 7 rfl (by kernel_rfl) (.inr (fun _ h => st_take [0, 0, 0, 0, 0, 0] h)) (.inr ⟨rfl, rfl⟩) ?_
  refine Wr.pure (v := undef) 8 rfl (by kernel_rfl) (.inr (fun _ h => st_take [0, 0, 0, 0, 0, 0] h)) (.inr ⟨rfl, rfl⟩) ?_
  refine Wr.pure (v := undef) 9 rfl (by kernel_rfl) (.inr (fun _ h => st_take [0, 0, 0, 0, 0, 0] h)) (.inr ⟨rfl, rfl⟩) ?_
  refine Wr.pure (v := Value.bool true) 10 rfl (by kernel_rfl) (.inr (fun _ h => st_take [0, 0, 0, 0, 0, 0] h)) (.inl ⟨rfl, fun _ => q_pick (t := true) rfl rfl⟩) ?_
  refine Wr.pure (v := Value.bool true) 11 rfl (by kernel_rfl) (.inr (fun _ h => st_take [0, 0, 0, 0, 0, 0] h)) (.inl ⟨rfl, fun _ => q_move rfl⟩) ?_
  refine Wr.pure (v := undef) 12 rfl (by kernel_rfl) (.inr (fun _ h => st_take [0, 0, 0, 0, 0, 0] h)) (.inr ⟨rfl, rfl⟩) ?_
  refine Wr.pure (v := undef) 13 rfl (by kernel_rfl) (.inr (fun _ h => st_take [0, 0, 0, 0, 0, 0] h)) (.inr ⟨rfl, rfl⟩) ?_
  refine Wr.pure (v := undef) 14 rfl (by kernel_rfl) (.inr (fun _ h => st_take [0, 0, 0, 0, 0, 0] h)) (.inr ⟨rfl, rfl⟩) ?_
  refine Wr.pure (v := Value.bool true) 15 rfl (by kernel_rfl) (.inr (fun _ h => st_take [0, 0, 0, 0, 0, 0] h)) (.inl ⟨rfl, fun _ => q_pick (t := true) rfl rfl⟩) ?_
  refine Wr.done (by kernel_rfl) ?_
  refine Wx.go ?_
  refine Wc.yes rfl ?_
  refine Wc.seq ?_
  refine Wc.region ?_
  refine Wl.q (v := Value.int .i64 1) (q_assign rfl) ?_
  refine Wl.done ?_
  refine Wx.go ?_
  refine Wc.ret ?_
  refine Wx.thenRet ?_
  refine Wx.fin1 rfl (.inl rfl) (fun w hs => ?_)
  have e : DS.write ⟨secs, since, false, count, none⟩ at_ s = (1, ⟨secs, since, false, count, none⟩) := write_bad rfl (by first | exact .inl hneg | exact .inr (.inl hge) | exact .inr (.inr hsz))
  rw [e]
  exact ⟨(), trivial, rfl, isDisk_mk rfl (st_pull [1, 1, 1] (mayR_none (st_drop (st_drop (st_drop (st_pull [1, 1, 1] hs))))))⟩
 ·
  obtain ⟨a, rfl⟩ := Int.eq_ofNat_of_zero_le (Int.not_lt.1 hneg)
  refine Wr.pure (v := Value.bool false) 1 rfl (by kernel_rfl) (.inr (fun _ h => st_take [0, 0, 0, 0, 0, 0] h)) (.inl ⟨rfl, fun _ => q_lss (r := false) rfl rfl (decide_eq_false hneg)⟩) ?_
  refine Wr.pure (v := Value.bool false) 2 rfl (by kernel_rfl) (.inr (fun _ h => st_take [0, 0, 0, 0, 0, 0] h)) (.inl ⟨rfl, fun _ => q_move rfl⟩) ?_
  refine Wr.take (v := Value.int .i64 ((a : Nat) : Int)) 3 rfl (by kernel_rfl) (fun _ h => st_take [0, 0, 0, 0, 0, 0] h) (.inl ⟨rfl, q_load sc_3 rfl (.cel (i := 2) rfl rfl)⟩) ?_
  refine Wr.take (v := Value.pointer (some ⟨p, 0, none⟩)) 4 rfl (by kernel_rfl) (fun _ h => st_take [0, 0, 0, 0, 0, 0] h) (.inl ⟨rfl, q_load sc_23 rfl (.cel (i := 3) rfl rfl)⟩) ?_
  refine Wr.pure (v := Value.pointer (some ⟨p, 0, none⟩)) 5 rfl (by kernel_rfl) (.inr (fun _ h => st_take [0, 0, 0, 0, 0, 0] h)) (.inl ⟨rfl, fun _ => q_nil_ptr rfl⟩) ?_
  refine Wr.pure (v := Value.pointer (some ⟨p, 0, none⟩)) 6 rfl (by kernel_rfl) (.inr (fun _ h => st_take [0, 0, 0, 0, 0, 0] h)) (.inl ⟨rfl, fun _ => q_field (m := 0) fo_37_0 rfl rfl⟩) ?_
  refine Wr.take (v := Value.slice (some ⟨bs, 0, none⟩) secs.length secs.length) 7 rfl (by kernel_rfl) (fun _ h => st_take [0, 0, 0, 0, 0, 0] h) (.inl ⟨rfl, q_load sc_33 rfl (.cel (i := 0) rfl rfl)⟩) ?_
  refine Wr.take (v := Value.int .i64 ((secs.length : Nat) : Int)) 8 rfl (by kernel_rfl) (fun _ h => st_take [0, 0, 0, 0, 0, 0] h) (.inl ⟨rfl, q_len_slice Try.underlying33 rfl⟩) ?_
  by_cases hge : ((a : Nat) : Int) ≥ ((secs.length : Nat) : Int)
  ·
   refine Wr.pure (v := Value.bool true) 9 rfl (by kernel_rfl) (.inr (fun _ h => st_take [0, 0, 0, 0, 0, 0] h)) (.inl ⟨rfl, fun _ => q_geq (r := true) rfl rfl (decide_eq_true hge)⟩) ?_
   refine Wr.pure (v := Value.bool true) 10 rfl (by kernel_rfl) (.inr (fun _ h => st_take [0, 0, 0, 0, 0, 0] h)) (.inl ⟨rfl, fun _ => q_pick (t := false) rfl rfl⟩) ?_
   refine Wr.pure (v := Value.bool true) 11 rfl (by kernel_rfl) (.inr (fun _ h => st_take [0, 0, 0, 0, 0, 0] h)) (.inl ⟨rfl, fun _ => q_move rfl⟩) ?_
   refine Wr.pure (v := undef) 12 rfl (by kernel_rfl) (.inr (fun _ h => st_take [0, 0, 0, 0, 0, 0] h)) (.inr ⟨rfl, rfl⟩) ?_
   refine Wr.pure (v := undef) 13 rfl (by kernel_rfl) (.inr (fun _ h => st_take [0, 0, 0, 0, 0, 0] h)) (.inr ⟨rfl, rfl⟩) ?_
   refine Wr.pure (v := undef) 14 rfl (by kernel_rfl) (.inr (fun _ h => st_take [0, 0, 0, 0, 0, 0] h)) (.inr ⟨rfl, rfl⟩) ?_
   refine Wr.pure (v := Value.bool true) 15 rfl (by kernel_rfl) (.inr (fun _ h => st_take [0, 0, 0, 0, 0, 0] h)) (.inl ⟨rfl, fun _ => q_pick (t := true) rfl rfl⟩) ?_
   refine Wr.done (by kernel_rfl) ?_
   refine Wx.go ?_
   refine Wc.yes rfl ?_
   refine Wc.seq ?_
   refine Wc.region ?_
   refine Wl.q (v := Value.int .i64 1) (q_assign rfl) ?_
   refine Wl.done ?_
   refine Wx.go ?_
   refine Wc.ret ?_
   refine Wx.thenRet ?_
   refine Wx.fin1 rfl (.inl rfl) (fun w hs => ?_)
   have e : DS.write ⟨secs, since, false, count, none⟩ ((a : Nat) : Int) s = (1, ⟨secs, since, false, count, none⟩) := write_bad rfl (by first | exact .inl hneg | exact .inr (.inl hge) | exact .inr (.inr hsz))
   rw [e]
   exact ⟨(), trivial, rfl, isDisk_mk rfl (st_pull [1, 1, 1] (mayR_none (st_drop (st_drop (st_drop (st_pull [1, 1, 1] hs))))))⟩
  ·
   refine Wr.pure (v := Value.bool false) 9 rfl (by kernel_rfl) (.inr (fun _ h => st_take [0, 0, 0, 0, 0, 0] h)) (.inl ⟨rfl, fun _ => q_geq (r := false) rfl rfl (decide_eq_false hge)⟩) ?_
   refine Wr.pure (v := Value.bool false) 10 rfl (by kernel_rfl) (.inr (fun _ h => st_take [0, 0, 0, 0, 0, 0] h)) (.inl ⟨rfl, fun _ => q_pick (t := false) rfl rfl⟩) ?_
   refine Wr.pure (v := Value.bool false) 11 rfl (by kernel_rfl) (.inr (fun _ h => st_take [0, 0, 0, 0, 0, 0] h)) (.inl ⟨rfl, fun _ => q_move rfl⟩) ?_
   refine Wr.take (v := Value.string s) 12 rfl (by kernel_rfl) (fun _ h => st_take [0, 0, 0, 0, 0, 0] h) (.inl ⟨rfl, q_load sc_9 rfl (.cel (i := 1) rfl rfl)⟩) ?_
   refine Wr.take (v := Value.int .i64 ((s.size : Nat) : Int)) 13 rfl (by kernel_rfl) (fun _ h => st_take [0, 0, 0, 0, 0, 0] h) (.inl ⟨rfl, q_len_str Try.underlying9 rfl⟩) ?_
   by_cases hsz : ((s.size : Nat) : Int) = 64
   ·
    refine Wr.pure (v := Value.bool false) 14 rfl (by kernel_rfl) (.inr (fun _ h => st_take [0, 0, 0, 0, 0, 0] h)) (.inl ⟨rfl, fun _ => q_neq (r := true) rfl rfl (decide_eq_true hsz)⟩) ?_
    refine Wr.pure (v := Value.bool false) 15 rfl (by kernel_rfl) (.inr (fun _ h => st_take [0, 0, 0, 0, 0, 0] h)) (.inl ⟨rfl, fun _ => q_pick (t := false) rfl rfl⟩) ?_
    refine Wr.done (by kernel_rfl) ?_
    refine Wx.go ?_
    refine Wc.no rfl ?_
    refine Wc.skip ?_
    refine Wx.go ?_
    refine Wc.seq ?_
    refine Wc.region ?_
    refine Wl.q (v := Value.pointer (some ⟨p, 0, none⟩)) (q_load sc_23 rfl (.cel (i := 3) rfl rfl)) ?_
    refine Wl.q (v := Value.func (.func 68) #[] #[Value.pointer (some ⟨b3, 0, none⟩), Value.pointer (some ⟨b4, 0, none⟩), Value.pointer (some ⟨b5, 0, none⟩)]) (q_makeFunc (us := []) (vs := [Value.pointer (some ⟨b3, 0, none⟩), Value.pointer (some ⟨b4, 0, none⟩), Value.pointer (some ⟨b5, 0, none⟩)]) rfl rfl) ?_
    refine Wl.imp (L' := (pt p 37 ([Value.slice (some ⟨bs, 0, none⟩) secs.length secs.length, sv, Value.bool false, Value.int .i64 ((count : Nat) : Int), Value.func (.func 36) #[Value.pointer (some ⟨p, 0, none⟩)] #[]])) :: (sl 86 2 sv since.length (flat since)) :: (pt b3 23 [Value.pointer (some ⟨p, 0, none⟩)]) :: (pt b4 3 [Value.int .i64 ((a : Nat) : Int)]) :: (pt b5 9 [Value.string s]) :: (pt bs 9 (secs.map Value.string)) :: F) (fun _ h => st_pull [0, 4, 2, 1, 0] h) ?_
    refine Wl.imp (L' := (pt p 37 ([Value.slice (some ⟨bs, 0, none⟩) secs.length secs.length, sv, Value.bool false, Value.int .i64 ((count : Nat) : Int), Value.func (.func 36) #[Value.pointer (some ⟨p, 0, none⟩)] #[]])) :: (grp [sl 86 2 sv since.length (flat since), pt b3 23 [Value.pointer (some ⟨p, 0, none⟩)], pt b4 3 [Value.int .i64 ((a : Nat) : Int)], pt b5 9 [Value.string s]]) :: (pt bs 9 (secs.map Value.string)) :: F) (fun _ h => st_grpAt h) ?_
    refine Wl.e (e_call (F := (pt bs 9 (secs.map Value.string)) :: F) (args := [Value.pointer (some ⟨p, 0, none⟩), Value.func (.func 68) #[] #[Value.pointer (some ⟨b3, 0, none⟩), Value.pointer (some ⟨b4, 0, none⟩), Value.pointer (some ⟨b5, 0, none⟩)]]) Try.call67 rfl (do_alw W0 p (Value.slice (some ⟨bs, 0, none⟩) secs.length secs.length) sv count hcount 68 Try.call68 [Value.pointer (some ⟨b3, 0, none⟩), Value.pointer (some ⟨b4, 0, none⟩), Value.pointer (some ⟨b5, 0, none⟩)] [sl 86 2 sv since.length (flat since), pt b3 23 [Value.pointer (some ⟨p, 0, none⟩)], pt b4 3 [Value.int .i64 ((a : Nat) : Int)], pt b5 9 [Value.string s]] (fun v2 => [pt p 37 ([Value.slice (some ⟨bs, 0, none⟩) secs.length secs.length, v2, Value.bool false, Value.int .i64 (((count + 1) : Nat) : Int), Value.func (.func 36) #[Value.pointer (some ⟨p, 0, none⟩)] #[]]), sl 86 2 v2 ((since ++ [(a, s)]).length) (flat (since ++ [(a, s)])), pt b3 23 [Value.pointer (some ⟨p, 0, none⟩)], pt b4 3 [Value.int .i64 ((a : Nat) : Int)], pt b5 9 [Value.string s]])  (write1_g W0 p bs secs since hsince (count + 1) (Value.func (.func 36) #[Value.pointer (some ⟨p, 0, none⟩)] #[]) sv b3 b4 b5 a s))) (fun v2 _ => ?_)
    refine Wl.imp (L' := (pt p 37 ([Value.slice (some ⟨bs, 0, none⟩) secs.length secs.length, v2, Value.bool false, Value.int .i64 (((count + 1) : Nat) : Int), Value.func (.func 36) #[Value.pointer (some ⟨p, 0, none⟩)] #[]])) :: (sl 86 2 v2 ((since ++ [(a, s)]).length) (flat (since ++ [(a, s)]))) :: (pt b3 23 [Value.pointer (some ⟨p, 0, none⟩)]) :: (pt b4 3 [Value.int .i64 ((a : Nat) : Int)]) :: (pt b5 9 [Value.string s]) :: (pt bs 9 (secs.map Value.string)) :: F) (fun _ h => st_grp.1 h) ?_
    refine Wl.q (v := Value.int .i64 0) (q_assign rfl) ?_
    refine Wl.done ?_
    refine Wx.go ?_
    refine Wc.ret ?_
    refine Wx.fin1 rfl (.inl rfl) (fun w hs => ?_)
    have e : DS.write ⟨secs, since, false, count, none⟩ ((a : Nat) : Int) s = (0, ⟨secs, since ++ [(a, s)], false, count + 1, none⟩) := by rw [write_ok rfl hge hsz]; rfl
    rw [e]
    exact ⟨(), trivial, rfl, isDisk_mk rfl (st_pull [1, 1, 1] (mayR_none (st_pull [0, 1, 0] (st_drop (st_drop (st_drop (st_pull [2, 2, 2] hs)))))))⟩
   ·
    refine Wr.pure (v := Value.bool true) 14 rfl (by kernel_rfl) (.inr (fun _ h => st_take [0, 0, 0, 0, 0, 0] h)) (.inl ⟨rfl, fun _ => q_neq (r := false) rfl rfl (decide_eq_false hsz)⟩) ?_
    refine Wr.pure (v := Value.bool true) 15 rfl (by kernel_rfl) (.inr (fun _ h => st_take [0, 0, 0, 0, 0, 0] h)) (.inl ⟨rfl, fun _ => q_pick (t := false) rfl rfl⟩) ?_
    refine Wr.done (by kernel_rfl) ?_
    refine Wx.go ?_
    refine Wc.yes rfl ?_
    refine Wc.seq ?_
    refine Wc.region ?_
    refine Wl.q (v := Value.int .i64 1) (q_assign rfl) ?_
    refine Wl.done ?_
    refine Wx.go ?_
    refine Wc.ret ?_
    refine Wx.thenRet ?_
    refine Wx.fin1 rfl (.inl rfl) (fun w hs => ?_)
    have e : DS.write ⟨secs, since, false, count, none⟩ ((a : Nat) : Int) s = (1, ⟨secs, since, false, count, none⟩) := write_bad rfl (by first | exact .inl hneg | exact .inr (.inl hge) | exact .inr (.inr hsz))
    rw [e]
    exact ⟨(), trivial, rfl, isDisk_mk rfl (st_pull [1, 1, 1] (mayR_none (st_drop (st_drop (st_drop (st_pull [1, 1, 1] hs))))))⟩

theorem write_cutS (W0 : World) (p : Nat) (secs : List ByteArray) (since : List (Nat × ByteArray)) (count : Nat) (n : Nat) (bits : Int) (at_ : Int) (s : ByteArray) (hw : WFl secs since) (hsince : since.length < 1099511627776) (hcount : count < 4611686018427387904) (hn : n < 9223372036854775807) :
  Con Try.prog W0 49 #[Value.pointer (some ⟨p, 0, none⟩), Value.int .i64 at_, Value.string s] [isDisk p (⟨secs, since, false, count, (some (n + 1, bits))⟩ : DS)] (X := Unit) (fun _ => True) (fun _ => Value.int .i64 (DS.write (⟨secs, since, false, count, (some (n + 1, bits))⟩ : DS) at_ s).1) (fun _ => [isDisk p (DS.write (⟨secs, since, false, count, (some (n + 1, bits))⟩ : DS) at_ s).2]) := by
 refine Con.cutd rfl (fun bs sv c => ?_)
 refine Con.of (args := [Value.pointer (some ⟨p, 0, none⟩), Value.int .i64 at_, Value.string s]) Try.func49 rfl Try.ntmps49 rfl (fun F => ?_)
 show Wc _ W0 _ _ _ _ _ ((pt p 37 ([Value.slice (some ⟨bs, 0, none⟩) secs.length secs.length, sv, Value.bool false, Value.int .i64 ((count : Nat) : Int), Value.func (.func 39) #[Value.pointer (some ⟨c, 0, none⟩)] #[]])) :: (pt bs 9 (secs.map Value.string)) :: (sl 86 2 sv since.length (flat since)) :: (pt c 75 [Value.pointer (some ⟨p, 0, none⟩), Value.int .i64 (((n + 1) : Nat) : Int), Value.int .i64 bits]) :: F)
 refine Wc.seq ?_
 refine Wc.region ?_
 refine Wl.e (e_box (x := .tmp 0) (vs := [Value.pointer (some ⟨p, 0, none⟩)]) rfl) (fun b3 _ => ?_)
 refine Wl.imp (L' := (pt b3 23 [Value.pointer (some ⟨p, 0, none⟩)]) :: (pt p 37 ([Value.slice (some ⟨bs, 0, none⟩) secs.length secs.length, sv, Value.bool false, Value.int .i64 ((count : Nat) : Int), Value.func (.func 39) #[Value.pointer (some ⟨c, 0, none⟩)] #[]])) :: (pt bs 9 (secs.map Value.string)) :: (sl 86 2 sv since.length (flat since)) :: (pt c 75 [Value.pointer (some ⟨p, 0, none⟩), Value.int .i64 (((n + 1) : Nat) : Int), Value.int .i64 bits]) :: F) (fun _ h => h) ?_
 refine Wl.e (e_box (x := .tmp 1) (vs := [Value.int .i64 at_]) rfl) (fun b4 _ => ?_)
 refine Wl.imp (L' := (pt b4 3 [Value.int .i64 at_]) :: (pt b3 23 [Value.pointer (some ⟨p, 0, none⟩)]) :: (pt p 37 ([Value.slice (some ⟨bs, 0, none⟩) secs.length secs.length, sv, Value.bool false, Value.int .i64 ((count : Nat) : Int), Value.func (.func 39) #[Value.pointer (some ⟨c, 0, none⟩)] #[]])) :: (pt bs 9 (secs.map Value.string)) :: (sl 86 2 sv since.length (flat since)) :: (pt c 75 [Value.pointer (some ⟨p, 0, none⟩), Value.int .i64 (((n + 1) : Nat) : Int), Value.int .i64 bits]) :: F) (fun _ h => h) ?_
 refine Wl.e (e_box (x := .tmp 2) (vs := [Value.string s]) rfl) (fun b5 _ => ?_)
 refine Wl.imp (L' := (pt b5 9 [Value.string s]) :: (pt b4 3 [Value.int .i64 at_]) :: (pt b3 23 [Value.pointer (some ⟨p, 0, none⟩)]) :: (pt p 37 ([Value.slice (some ⟨bs, 0, none⟩) secs.length secs.length, sv, Value.bool false, Value.int .i64 ((count : Nat) : Int), Value.func (.func 39) #[Value.pointer (some ⟨c, 0, none⟩)] #[]])) :: (pt bs 9 (secs.map Value.string)) :: (sl 86 2 sv since.length (flat since)) :: (pt c 75 [Value.pointer (some ⟨p, 0, none⟩), Value.int .i64 (((n + 1) : Nat) : Int), Value.int .i64 bits]) :: F) (fun _ h => h) ?_
 refine Wl.q (v := Value.int .i64 0) (q_assign rfl) ?_
 refine Wl.done ?_
 refine Wx.go ?_
 refine Wc.seq ?_
 refine Wc.seq ?_
 refine Wc.region ?_
 refine Wl.q (v := Value.pointer (some ⟨p, 0, none⟩)) (q_load sc_23 rfl (.cel (i := 2) rfl rfl)) ?_
 refine Wl.imp (L' := (pt p 37 ([Value.slice (some ⟨bs, 0, none⟩) secs.length secs.length, sv, Value.bool false, Value.int .i64 ((count : Nat) : Int), Value.func (.func 39) #[Value.pointer (some ⟨c, 0, none⟩)] #[]])) :: (pt b5 9 [Value.string s]) :: (pt b4 3 [Value.int .i64 at_]) :: (pt b3 23 [Value.pointer (some ⟨p, 0, none⟩)]) :: (pt bs 9 (secs.map Value.string)) :: (sl 86 2 sv since.length (flat since)) :: (pt c 75 [Value.pointer (some ⟨p, 0, none⟩), Value.int .i64 (((n + 1) : Nat) : Int), Value.int .i64 bits]) :: F) (fun _ h => st_pull [3] h) ?_
 refine Wl.e (e_call (F := (pt b5 9 [Value.string s]) :: (pt b4 3 [Value.int .i64 at_]) :: (pt b3 23 [Value.pointer (some ⟨p, 0, none⟩)]) :: (pt bs 9 (secs.map Value.string)) :: (sl 86 2 sv since.length (flat since)) :: (pt c 75 [Value.pointer (some ⟨p, 0, none⟩), Value.int .i64 (((n + 1) : Nat) : Int), Value.int .i64 bits]) :: F) (args := [Value.pointer (some ⟨p, 0, none⟩)]) Try.call38 rfl (state_up W0 p (Value.slice (some ⟨bs, 0, none⟩) secs.length secs.length) (sv) (Value.int .i64 ((count : Nat) : Int)) (.func 39) #[Value.pointer (some ⟨c, 0, none⟩)] #[])) (fun _ _ => ?_)
 refine Wl.imp (L' := (pt p 37 ([Value.slice (some ⟨bs, 0, none⟩) secs.length secs.length, sv, Value.bool false, Value.int .i64 ((count : Nat) : Int), Value.func (.func 39) #[Value.pointer (some ⟨c, 0, none⟩)] #[]])) :: (pt b5 9 [Value.string s]) :: (pt b4 3 [Value.int .i64 at_]) :: (pt b3 23 [Value.pointer (some ⟨p, 0, none⟩)]) :: (pt bs 9 (secs.map Value.string)) :: (sl 86 2 sv since.length (flat since)) :: (pt c 75 [Value.pointer (some ⟨p, 0, none⟩), Value.int .i64 (((n + 1) : Nat) : Int), Value.int .i64 bits]) :: F) (fun _ h => h) ?_
 refine Wl.q (v := Value.int .i64 0) (q_assign rfl) ?_
 refine Wl.done ?_
 refine Wx.go ?_
 refine Wc.seq ?_
 refine Wc.region ?_
 refine Wl.q (v := Value.int .i64 0) (q_move rfl) ?_
 refine Wl.q (v := Value.bool false) (q_neq (r := true) rfl rfl (decide_eq_true (by decide))) ?_
 refine Wl.done ?_
 refine Wx.go ?_
 refine Wc.no rfl ?_
 refine Wc.skip ?_
 refine Wx.go ?_
 refine Wc.seq ?_
 refine Wc.seq ?_
 refine Wc.drawsS [] ((pt p 37 ([Value.slice (some ⟨bs, 0, none⟩) secs.length secs.length, sv, Value.bool false, Value.int .i64 ((count : Nat) : Int), Value.func (.func 39) #[Value.pointer (some ⟨c, 0, none⟩)] #[]])) :: (pt b5 9 [Value.string s]) :: (pt b4 3 [Value.int .i64 at_]) :: (pt b3 23 [Value.pointer (some ⟨p, 0, none⟩)]) :: (pt bs 9 (secs.map Value.string)) :: (sl 86 2 sv since.length (flat since)) :: (pt c 75 [Value.pointer (some ⟨p, 0, none⟩), Value.int .i64 (((n + 1) : Nat) : Int), Value.int .i64 bits]) :: []) (by kernel_rfl) ?_
 refine Wr.take (v := Value.int .i64 at_) 0 rfl (by kernel_rfl) (fun _ h => st_take [0, 0, 0, 0, 0, 0, 0] h) (.inl ⟨rfl, q_load sc_3 rfl (.cel (i := 2) rfl rfl)⟩) ?_
 by_cases hneg : at_ < 0
 ·
  refine Wr.pure (v := Value.bool true) 1 rfl (by kernel_rfl) (.inr (fun _ h => st_take [0, 0, 0, 0, 0, 0, 0] h)) (.inl ⟨rfl, fun _ => q_lss (r := true) rfl rfl (decide_eq_true hneg)⟩) ?_
  refine Wr.pure (v := Value.bool true) 2 rfl (by kernel_rfl) (.inr (fun _ h => st_take [0, 0, 0, 0, 0, 0, 0] h)) (.inl ⟨rfl, fun _ => q_move rfl⟩) ?_
  refine Wr.pure (v := undef) 3 rfl (by kernel_rfl) (.inr (fun _ h => st_take [0, 0, 0, 0, 0, 0, 0] h)) (.inr ⟨rfl, rfl⟩) ?_
  refine Wr.pure (v := undef) 4 rfl (by kernel_rfl) (.inr (fun _ h => st_take [0, 0, 0, 0, 0, 0, 0] h)) (.inr ⟨rfl, rfl⟩) ?_
  refine Wr.pure (v := undef) 5 rfl (by kernel_rfl) (.inr (fun _ h => st_take [0, 0, 0, 0, 0, 0, 0] h)) (.inr ⟨rfl, rfl⟩) ?_
  refine Wr.pure (v := undef) 6 rfl (by kernel_rfl) (.inr (fun _ h => st_take [0, 0, 0, 0, 0, 0, 0] h)) (.inr ⟨rfl, rfl⟩) ?_
  refine Wr.pure (v := undef) 7 rfl (by kernel_rfl) (.inr (fun _ h => st_take [0, 0, 0, 0, 0, 0, 0] h)) (.inr ⟨rfl, rfl⟩) ?_
  refine Wr.pure (v := undef) 8 rfl (by kernel_rfl) (.inr (fun _ h => st_take [0, 0, 0, 0, 0, 0, 0] h)) (.inr ⟨rfl, rfl⟩) ?_
  refine Wr.pure (v := undef) 9 rfl (by kernel_rfl) (.inr (fun _ h => st_take [0, 0, 0, 0, 0, 0, 0] h)) (.inr ⟨rfl, rfl⟩) ?_
  refine Wr.pure (v := Value.bool true) 10 rfl (by kernel_rfl) (.inr (fun _ h => st_take [0, 0, 0, 0, 0, 0, 0] h)) (.inl ⟨rfl, fun _ => q_pick (t := true) rfl rfl⟩) ?_
  refine Wr.pure (v := Value.bool true) 11 rfl (by kernel_rfl) (.inr (fun _ h => st_take [0, 0, 0, 0, 0, 0, 0] h)) (.inl ⟨rfl, fun _ => q_move rfl⟩) ?_
  refine Wr.pure (v := undef) 12 rfl (by kernel_rfl) (.inr (fun _ h => st_take [0, 0, 0, 0, 0, 0, 0] h)) (.inr ⟨rfl, rfl⟩) ?_
  refine Wr.pure (v := undef) 13 rfl (by kernel_rfl) (.inr (fun _ h => st_take [0, 0, 0, 0, 0, 0, 0] h)) (.inr ⟨rfl, rfl⟩) ?_
  refine Wr.pure (v := undef) 14 rfl (by kernel_rfl) (.inr (fun _ h => st_take [0, 0, 0, 0, 0, 0, 0] h)) (.inr ⟨rfl, rfl⟩) ?_
  refine Wr.pure (v := Value.bool true) 15 rfl (by kernel_rfl) (.inr (fun _ h => st_take [0, 0, 0, 0, 0, 0, 0] h)) (.inl ⟨rfl, fun _ => q_pick (t := true) rfl rfl⟩) ?_
  refine Wr.done (by kernel_rfl) ?_
  refine Wx.go ?_
  refine Wc.yes rfl ?_
  refine Wc.seq ?_
  refine Wc.region ?_
  refine Wl.q (v := Value.int .i64 1) (q_assign rfl) ?_
  refine Wl.done ?_
  refine Wx.go ?_
  refine Wc.ret ?_
  refine Wx.thenRet ?_
  refine Wx.fin1 rfl (.inl rfl) (fun w hs => ?_)
  have e : DS.write ⟨secs, since, false, count, (some (n + 1, bits))⟩ at_ s = (1, ⟨secs, since, false, count, (some (n + 1, bits))⟩) := write_bad rfl (by first | exact .inl hneg | exact .inr (.inl hge) | exact .inr (.inr hsz))
  rw [e]
  exact ⟨(), trivial, rfl, isDisk_mk rfl (st_pull [1, 1, 1] (mayR_some (st_pull [3, 0, 0, 0] (st_drop (st_drop (st_drop (st_pull [1, 1, 1] hs)))))))⟩
 ·
  obtain ⟨a, rfl⟩ := Int.eq_ofNat_of_zero_le (Int.not_lt.1 hneg)
  refine Wr.pure (v := Value.bool false) 1 rfl (by kernel_rfl) (.inr (fun _ h => st_take [0, 0, 0, 0, 0, 0, 0] h)) (.inl ⟨rfl, fun _ => q_lss (r := false) rfl rfl (decide_eq_false hneg)⟩) ?_
  refine Wr.pure (v := Value.bool false) 2 rfl (by kernel_rfl) (.inr (fun _ h => st_take [0, 0, 0, 0, 0, 0, 0] h)) (.inl ⟨rfl, fun _ => q_move rfl⟩) ?_
  refine Wr.take (v := Value.int .i64 ((a : Nat) : Int)) 3 rfl (by kernel_rfl) (fun _ h => st_take [0, 0, 0, 0, 0, 0, 0] h) (.inl ⟨rfl, q_load sc_3 rfl (.cel (i := 2) rfl rfl)⟩) ?_
  refine Wr.take (v := Value.pointer (some ⟨p, 0, none⟩)) 4 rfl (by kernel_rfl) (fun _ h => st_take [0, 0, 0, 0, 0, 0, 0] h) (.inl ⟨rfl, q_load sc_23 rfl (.cel (i := 3) rfl rfl)⟩) ?_
  refine Wr.pure (v := Value.pointer (some ⟨p, 0, none⟩)) 5 rfl (by kernel_rfl) (.inr (fun _ h => st_take [0, 0, 0, 0, 0, 0, 0] h)) (.inl ⟨rfl, fun _ => q_nil_ptr rfl⟩) ?_
  refine Wr.pure (v := Value.pointer (some ⟨p, 0, none⟩)) 6 rfl (by kernel_rfl) (.inr (fun _ h => st_take [0, 0, 0, 0, 0, 0, 0] h)) (.inl ⟨rfl, fun _ => q_field (m := 0) fo_37_0 rfl rfl⟩) ?_
  refine Wr.take (v := Value.slice (some ⟨bs, 0, none⟩) secs.length secs.length) 7 rfl (by kernel_rfl) (fun _ h => st_take [0, 0, 0, 0, 0, 0, 0] h) (.inl ⟨rfl, q_load sc_33 rfl (.cel (i := 0) rfl rfl)⟩) ?_
  refine Wr.take (v := Value.int .i64 ((secs.length : Nat) : Int)) 8 rfl (by kernel_rfl) (fun _ h => st_take [0, 0, 0, 0, 0, 0, 0] h) (.inl ⟨rfl, q_len_slice Try.underlying33 rfl⟩) ?_
  by_cases hge : ((a : Nat) : Int) ≥ ((secs.length : Nat) : Int)
  ·
   refine Wr.pure (v := Value.bool true) 9 rfl (by kernel_rfl) (.inr (fun _ h => st_take [0, 0, 0, 0, 0, 0, 0] h)) (.inl ⟨rfl, fun _ => q_geq (r := true) rfl rfl (decide_eq_true hge)⟩) ?_
   refine Wr.pure (v := Value.bool true) 10 rfl (by kernel_rfl) (.inr (fun _ h => st_take [0, 0, 0, 0, 0, 0, 0] h)) (.inl ⟨rfl, fun _ => q_pick (t := false) rfl rfl⟩) ?_
   refine Wr.pure (v := Value.bool true) 11 rfl (by kernel_rfl) (.inr (fun _ h => st_take [0, 0, 0, 0, 0, 0, 0] h)) (.inl ⟨rfl, fun _ => q_move rfl⟩) ?_
   refine Wr.pure (v := undef) 12 rfl (by kernel_rfl) (.inr (fun _ h => st_take [0, 0, 0, 0, 0, 0, 0] h)) (.inr ⟨rfl, rfl⟩) ?_
   refine Wr.pure (v := undef) 13 rfl (by kernel_rfl) (.inr (fun _ h => st_take [0, 0, 0, 0, 0, 0, 0] h)) (.inr ⟨rfl, rfl⟩) ?_
   refine Wr.pure (v := undef) 14 rfl (by kernel_rfl) (.inr (fun _ h => st_take [0, 0, 0, 0, 0, 0, 0] h)) (.inr ⟨rfl, rfl⟩) ?_
   refine Wr.pure (v := Value.bool true) 15 rfl (by kernel_rfl) (.inr (fun _ h => st_take [0, 0, 0, 0, 0, 0, 0] h)) (.inl ⟨rfl, fun _ => q_pick (t := true) rfl rfl⟩) ?_
   refine Wr.done (by kernel_rfl) ?_
   refine Wx.go ?_
   refine Wc.yes rfl ?_
   refine Wc.seq ?_
   refine Wc.region ?_
   refine Wl.q (v := Value.int .i64 1) (q_assign rfl) ?_
   refine Wl.done ?_
   refine Wx.go ?_
   refine Wc.ret ?_
   refine Wx.thenRet ?_
   refine Wx.fin1 rfl (.inl rfl) (fun w hs => ?_)
   have e : DS.write ⟨secs, since, false, count, (some (n + 1, bits))⟩ ((a : Nat) : Int) s = (1, ⟨secs, since, false, count, (some (n + 1, bits))⟩) := write_bad rfl (by first | exact .inl hneg | exact .inr (.inl hge) | exact .inr (.inr hsz))
   rw [e]
   exact ⟨(), trivial, rfl, isDisk_mk rfl (st_pull [1, 1, 1] (mayR_some (st_pull [3, 0, 0, 0] (st_drop (st_drop (st_drop (st_pull [1, 1, 1] hs)))))))⟩
  ·
   refine Wr.pure (v := Value.bool false) 9 rfl (by kernel_rfl) (.inr (fun _ h => st_take [0, 0, 0, 0, 0, 0, 0] h)) (.inl ⟨rfl, fun _ => q_geq (r := false) rfl rfl (decide_eq_false hge)⟩) ?_
   refine Wr.pure (v := Value.bool false) 10 rfl (by kernel_rfl) (.inr (fun _ h => st_take [0, 0, 0, 0, 0, 0, 0] h)) (.inl ⟨rfl, fun _ => q_pick (t := false) rfl rfl⟩) ?_
   refine Wr.pure (v := Value.bool false) 11 rfl (by kernel_rfl) (.inr (fun _ h => st_take [0, 0, 0, 0, 0, 0, 0] h)) (.inl ⟨rfl, fun _ => q_move rfl⟩) ?_
   refine Wr.take (v := Value.string s) 12 rfl (by kernel_rfl) (fun _ h => st_take [0, 0, 0, 0, 0, 0, 0] h) (.inl ⟨rfl, q_load sc_9 rfl (.cel (i := 1) rfl rfl)⟩) ?_
   refine Wr.take (v := Value.int .i64 ((s.size : Nat) : Int)) 13 rfl (by kernel_rfl) (fun _ h => st_take [0, 0, 0, 0, 0, 0, 0] h) (.inl ⟨rfl, q_len_str Try.underlying9 rfl⟩) ?_
   by_cases hsz : ((s.size : Nat) : Int) = 64
   ·
    refine Wr.pure (v := Value.bool false) 14 rfl (by kernel_rfl) (.inr (fun _ h => st_take [0, 0, 0, 0, 0, 0, 0] h)) (.inl ⟨rfl, fun _ => q_neq (r := true) rfl rfl (decide_eq_true hsz)⟩) ?_
    refine Wr.pure (v := Value.bool false) 15 rfl (by kernel_rfl) (.inr (fun _ h => st_take [0, 0, 0, 0, 0, 0, 0] h)) (.inl ⟨rfl, fun _ => q_pick (t := false) rfl rfl⟩) ?_
    refine Wr.done (by kernel_rfl) ?_
    refine Wx.go ?_
    refine Wc.no rfl ?_
    refine Wc.skip ?_
    refine Wx.go ?_
    refine Wc.seq ?_
    refine Wc.region ?_
    refine Wl.q (v := Value.pointer (some ⟨p, 0, none⟩)) (q_load sc_23 rfl (.cel (i := 3) rfl rfl)) ?_
    refine Wl.q (v := Value.func (.func 68) #[] #[Value.pointer (some ⟨b3, 0, none⟩), Value.pointer (some ⟨b4, 0, none⟩), Value.pointer (some ⟨b5, 0, none⟩)]) (q_makeFunc (us := []) (vs := [Value.pointer (some ⟨b3, 0, none⟩), Value.pointer (some ⟨b4, 0, none⟩), Value.pointer (some ⟨b5, 0, none⟩)]) rfl rfl) ?_
    refine Wl.imp (L' := (pt p 37 ([Value.slice (some ⟨bs, 0, none⟩) secs.length secs.length, sv, Value.bool false, Value.int .i64 ((count : Nat) : Int), Value.func (.func 39) #[Value.pointer (some ⟨c, 0, none⟩)] #[]])) :: (sl 86 2 sv since.length (flat since)) :: (pt b3 23 [Value.pointer (some ⟨p, 0, none⟩)]) :: (pt b4 3 [Value.int .i64 ((a : Nat) : Int)]) :: (pt b5 9 [Value.string s]) :: (pt bs 9 (secs.map Value.string)) :: (pt c 75 [Value.pointer (some ⟨p, 0, none⟩), Value.int .i64 (((n + 1) : Nat) : Int), Value.int .i64 bits]) :: F) (fun _ h => st_pull [0, 4, 2, 1, 0] h) ?_
    refine Wl.imp (L' := (pt p 37 ([Value.slice (some ⟨bs, 0, none⟩) secs.length secs.length, sv, Value.bool false, Value.int .i64 ((count : Nat) : Int), Value.func (.func 39) #[Value.pointer (some ⟨c, 0, none⟩)] #[]])) :: (grp [sl 86 2 sv since.length (flat since), pt b3 23 [Value.pointer (some ⟨p, 0, none⟩)], pt b4 3 [Value.int .i64 ((a : Nat) : Int)], pt b5 9 [Value.string s]]) :: (pt bs 9 (secs.map Value.string)) :: (pt c 75 [Value.pointer (some ⟨p, 0, none⟩), Value.int .i64 (((n + 1) : Nat) : Int), Value.int .i64 bits]) :: F) (fun _ h => st_grpAt h) ?_
    refine Wl.imp (L' := (pt p 37 ([Value.slice (some ⟨bs, 0, none⟩) secs.length secs.length, sv, Value.bool false, Value.int .i64 ((count : Nat) : Int), Value.func (.func 39) #[Value.pointer (some ⟨c, 0, none⟩)] #[]])) :: (grp [sl 86 2 sv since.length (flat since), pt b3 23 [Value.pointer (some ⟨p, 0, none⟩)], pt b4 3 [Value.int .i64 ((a : Nat) : Int)], pt b5 9 [Value.string s]]) :: (pt c 75 [Value.pointer (some ⟨p, 0, none⟩), Value.int .i64 (((n + 1) : Nat) : Int), Value.int .i64 bits]) :: (pt bs 9 (secs.map Value.string)) :: F) (fun _ h => st_pull [0, 0, 1] h) ?_
    refine Wl.e (e_call (F := (pt bs 9 (secs.map Value.string)) :: F) (args := [Value.pointer (some ⟨p, 0, none⟩), Value.func (.func 68) #[] #[Value.pointer (some ⟨b3, 0, none⟩), Value.pointer (some ⟨b4, 0, none⟩), Value.pointer (some ⟨b5, 0, none⟩)]]) Try.call67 rfl (do_cutS W0 p (Value.slice (some ⟨bs, 0, none⟩) secs.length secs.length) sv count hcount 68 Try.call68 [Value.pointer (some ⟨b3, 0, none⟩), Value.pointer (some ⟨b4, 0, none⟩), Value.pointer (some ⟨b5, 0, none⟩)] [sl 86 2 sv since.length (flat since), pt b3 23 [Value.pointer (some ⟨p, 0, none⟩)], pt b4 3 [Value.int .i64 ((a : Nat) : Int)], pt b5 9 [Value.string s]] (fun v2 => [pt p 37 ([Value.slice (some ⟨bs, 0, none⟩) secs.length secs.length, v2, Value.bool false, Value.int .i64 (((count + 1) : Nat) : Int), Value.func (.func 39) #[Value.pointer (some ⟨c, 0, none⟩)] #[]]), sl 86 2 v2 ((since ++ [(a, s)]).length) (flat (since ++ [(a, s)])), pt b3 23 [Value.pointer (some ⟨p, 0, none⟩)], pt b4 3 [Value.int .i64 ((a : Nat) : Int)], pt b5 9 [Value.string s]])  c n bits hn (write1_g W0 p bs secs since hsince (count + 1) (Value.func (.func 39) #[Value.pointer (some ⟨c, 0, none⟩)] #[]) sv b3 b4 b5 a s))) (fun v2 _ => ?_)
    refine Wl.imp (L' := (pt p 37 ([Value.slice (some ⟨bs, 0, none⟩) secs.length secs.length, v2, Value.bool false, Value.int .i64 (((count + 1) : Nat) : Int), Value.func (.func 39) #[Value.pointer (some ⟨c, 0, none⟩)] #[]])) :: (sl 86 2 v2 ((since ++ [(a, s)]).length) (flat (since ++ [(a, s)]))) :: (pt b3 23 [Value.pointer (some ⟨p, 0, none⟩)]) :: (pt b4 3 [Value.int .i64 ((a : Nat) : Int)]) :: (pt b5 9 [Value.string s]) :: (pt c 75 [Value.pointer (some ⟨p, 0, none⟩), Value.int .i64 ((n : Nat) : Int), Value.int .i64 bits]) :: (pt bs 9 (secs.map Value.string)) :: F) (fun _ h => st_grp.1 h) ?_
    refine Wl.q (v := Value.int .i64 0) (q_assign rfl) ?_
    refine Wl.done ?_
    refine Wx.go ?_
    refine Wc.ret ?_
    refine Wx.fin1 rfl (.inl rfl) (fun w hs => ?_)
    have e : DS.write ⟨secs, since, false, count, (some (n + 1, bits))⟩ ((a : Nat) : Int) s = (0, ⟨secs, since ++ [(a, s)], false, count + 1, (some (n, bits))⟩) := by rw [write_ok rfl hge hsz]; rfl
    rw [e]
    exact ⟨(), trivial, rfl, isDisk_mk rfl (st_pull [1, 1, 1] (mayR_some (st_pull [2, 0, 1, 0] (st_drop (st_drop (st_drop (st_pull [2, 2, 2] hs)))))))⟩
   ·
    refine Wr.pure (v := Value.bool true) 14 rfl (by kernel_rfl) (.inr (fun _ h => st_take [0, 0, 0, 0, 0, 0, 0] h)) (.inl ⟨rfl, fun _ => q_neq (r := false) rfl rfl (decide_eq_false hsz)⟩) ?_
    refine Wr.pure (v := Value.bool true) 15 rfl (by kernel_rfl) (.inr (fun _ h => st_take [0, 0, 0, 0, 0, 0, 0] h)) (.inl ⟨rfl, fun _ => q_pick (t := false) rfl rfl⟩) ?_
    refine Wr.done (by kernel_rfl) ?_
    refine Wx.go ?_
    refine Wc.yes rfl ?_
    refine Wc.seq ?_
    refine Wc.region ?_
    refine Wl.q (v := Value.int .i64 1) (q_assign rfl) ?_
    refine Wl.done ?_
    refine Wx.go ?_
    refine Wc.ret ?_
    refine Wx.thenRet ?_
    refine Wx.fin1 rfl (.inl rfl) (fun w hs => ?_)
    have e : DS.write ⟨secs, since, false, count, (some (n + 1, bits))⟩ ((a : Nat) : Int) s = (1, ⟨secs, since, false, count, (some (n + 1, bits))⟩) := write_bad rfl (by first | exact .inl hneg | exact .inr (.inl hge) | exact .inr (.inr hsz))
    rw [e]
    exact ⟨(), trivial, rfl, isDisk_mk rfl (st_pull [1, 1, 1] (mayR_some (st_pull [3, 0, 0, 0] (st_drop (st_drop (st_drop (st_pull [1, 1, 1] hs)))))))⟩

theorem write_cut0 (W0 : World) (p : Nat) (secs : List ByteArray) (since : List (Nat × ByteArray)) (count : Nat) (bits : Int) (at_ : Int) (s : ByteArray) (hw : WFl secs since) (hsince : since.length < 1099511627776) (hcount : count < 4611686018427387904) :
  Con Try.prog W0 49 #[Value.pointer (some ⟨p, 0, none⟩), Value.int .i64 at_, Value.string s] [isDisk p (⟨secs, since, false, count, (some (0, bits))⟩ : DS)] (X := Unit) (fun _ => True) (fun _ => Value.int .i64 (DS.write (⟨secs, since, false, count, (some (0, bits))⟩ : DS) at_ s).1) (fun _ => [isDisk p (DS.write (⟨secs, since, false, count, (some (0, bits))⟩ : DS) at_ s).2]) := by
 refine Con.cutd (n := 0) rfl (fun bs sv c => ?_)
 refine Con.of (args := [Value.pointer (some ⟨p, 0, none⟩), Value.int .i64 at_, Value.string s]) Try.func49 rfl Try.ntmps49 rfl (fun F => ?_)
 show Wc _ W0 _ _ _ _ _ ((pt p 37 ([Value.slice (some ⟨bs, 0, none⟩) secs.length secs.length, sv, Value.bool false, Value.int .i64 ((count : Nat) : Int), Value.func (.func 39) #[Value.pointer (some ⟨c, 0, none⟩)] #[]])) :: (pt bs 9 (secs.map Value.string)) :: (sl 86 2 sv since.length (flat since)) :: (pt c 75 [Value.pointer (some ⟨p, 0, none⟩), Value.int .i64 0, Value.int .i64 bits]) :: F)
 refine Wc.seq ?_
 refine Wc.region ?_
 refine Wl.e (e_box (x := .tmp 0) (vs := [Value.pointer (some ⟨p, 0, none⟩)]) rfl) (fun b3 _ => ?_)
 refine Wl.imp (L' := (pt b3 23 [Value.pointer (some ⟨p, 0, none⟩)]) :: (pt p 37 ([Value.slice (some ⟨bs, 0, none⟩) secs.length secs.length, sv, Value.bool false, Value.int .i64 ((count : Nat) : Int), Value.func (.func 39) #[Value.pointer (some ⟨c, 0, none⟩)] #[]])) :: (pt bs 9 (secs.map Value.string)) :: (sl 86 2 sv since.length (flat since)) :: (pt c 75 [Value.pointer (some ⟨p, 0, none⟩), Value.int .i64 0, Value.int .i64 bits]) :: F) (fun _ h => h) ?_
 refine Wl.e (e_box (x := .tmp 1) (vs := [Value.int .i64 at_]) rfl) (fun b4 _ => ?_)
 refine Wl.imp (L' := (pt b4 3 [Value.int .i64 at_]) :: (pt b3 23 [Value.pointer (some ⟨p, 0, none⟩)]) :: (pt p 37 ([Value.slice (some ⟨bs, 0, none⟩) secs.length secs.length, sv, Value.bool false, Value.int .i64 ((count : Nat) : Int), Value.func (.func 39) #[Value.pointer (some ⟨c, 0, none⟩)] #[]])) :: (pt bs 9 (secs.map Value.string)) :: (sl 86 2 sv since.length (flat since)) :: (pt c 75 [Value.pointer (some ⟨p, 0, none⟩), Value.int .i64 0, Value.int .i64 bits]) :: F) (fun _ h => h) ?_
 refine Wl.e (e_box (x := .tmp 2) (vs := [Value.string s]) rfl) (fun b5 _ => ?_)
 refine Wl.imp (L' := (pt b5 9 [Value.string s]) :: (pt b4 3 [Value.int .i64 at_]) :: (pt b3 23 [Value.pointer (some ⟨p, 0, none⟩)]) :: (pt p 37 ([Value.slice (some ⟨bs, 0, none⟩) secs.length secs.length, sv, Value.bool false, Value.int .i64 ((count : Nat) : Int), Value.func (.func 39) #[Value.pointer (some ⟨c, 0, none⟩)] #[]])) :: (pt bs 9 (secs.map Value.string)) :: (sl 86 2 sv since.length (flat since)) :: (pt c 75 [Value.pointer (some ⟨p, 0, none⟩), Value.int .i64 0, Value.int .i64 bits]) :: F) (fun _ h => h) ?_
 refine Wl.q (v := Value.int .i64 0) (q_assign rfl) ?_
 refine Wl.done ?_
 refine Wx.go ?_
 refine Wc.seq ?_
 refine Wc.seq ?_
 refine Wc.region ?_
 refine Wl.q (v := Value.pointer (some ⟨p, 0, none⟩)) (q_load sc_23 rfl (.cel (i := 2) rfl rfl)) ?_
 refine Wl.imp (L' := (pt p 37 ([Value.slice (some ⟨bs, 0, none⟩) secs.length secs.length, sv, Value.bool false, Value.int .i64 ((count : Nat) : Int), Value.func (.func 39) #[Value.pointer (some ⟨c, 0, none⟩)] #[]])) :: (pt b5 9 [Value.string s]) :: (pt b4 3 [Value.int .i64 at_]) :: (pt b3 23 [Value.pointer (some ⟨p, 0, none⟩)]) :: (pt bs 9 (secs.map Value.string)) :: (sl 86 2 sv since.length (flat since)) :: (pt c 75 [Value.pointer (some ⟨p, 0, none⟩), Value.int .i64 0, Value.int .i64 bits]) :: F) (fun _ h => st_pull [3] h) ?_
 refine Wl.e (e_call (F := (pt b5 9 [Value.string s]) :: (pt b4 3 [Value.int .i64 at_]) :: (pt b3 23 [Value.pointer (some ⟨p, 0, none⟩)]) :: (pt bs 9 (secs.map Value.string)) :: (sl 86 2 sv since.length (flat since)) :: (pt c 75 [Value.pointer (some ⟨p, 0, none⟩), Value.int .i64 0, Value.int .i64 bits]) :: F) (args := [Value.pointer (some ⟨p, 0, none⟩)]) Try.call38 rfl (state_up W0 p (Value.slice (some ⟨bs, 0, none⟩) secs.length secs.length) (sv) (Value.int .i64 ((count : Nat) : Int)) (.func 39) #[Value.pointer (some ⟨c, 0, none⟩)] #[])) (fun _ _ => ?_)
 refine Wl.imp (L' := (pt p 37 ([Value.slice (some ⟨bs, 0, none⟩) secs.length secs.length, sv, Value.bool false, Value.int .i64 ((count : Nat) : Int), Value.func (.func 39) #[Value.pointer (some ⟨c, 0, none⟩)] #[]])) :: (pt b5 9 [Value.string s]) :: (pt b4 3 [Value.int .i64 at_]) :: (pt b3 23 [Value.pointer (some ⟨p, 0, none⟩)]) :: (pt bs 9 (secs.map Value.string)) :: (sl 86 2 sv since.length (flat since)) :: (pt c 75 [Value.pointer (some ⟨p, 0, none⟩), Value.int .i64 0, Value.int .i64 bits]) :: F) (fun _ h => h) ?_
 refine Wl.q (v := Value.int .i64 0) (q_assign rfl) ?_
 refine Wl.done ?_
 refine Wx.go ?_
 refine Wc.seq ?_
 refine Wc.region ?_
 refine Wl.q (v := Value.int .i64 0) (q_move rfl) ?_
 refine Wl.q (v := Value.bool false) (q_neq (r := true) rfl rfl (decide_eq_true (by decide))) ?_
 refine Wl.done ?_
 refine Wx.go ?_
 refine Wc.no rfl ?_
 refine Wc.skip ?_
 refine Wx.go ?_
 refine Wc.seq ?_
 refine Wc.seq ?_
 refine Wc.drawsS [] ((pt p 37 ([Value.slice (some ⟨bs, 0, none⟩) secs.length secs.length, sv, Value.bool false, Value.int .i64 ((count : Nat) : Int), Value.func (.func 39) #[Value.pointer (some ⟨c, 0, none⟩)] #[]])) :: (pt b5 9 [Value.string s]) :: (pt b4 3 [Value.int .i64 at_]) :: (pt b3 23 [Value.pointer (some ⟨p, 0, none⟩)]) :: (pt bs 9 (secs.map Value.string)) :: (sl 86 2 sv since.length (flat since)) :: (pt c 75 [Value.pointer (some ⟨p, 0, none⟩), Value.int .i64 0, Value.int .i64 bits]) :: []) (by kernel_rfl) ?_
 refine Wr.take (v := Value.int .i64 at_) 0 rfl (by kernel_rfl) (fun _ h => st_take [0, 0, 0, 0, 0, 0, 0] h) (.inl ⟨rfl, q_load sc_3 rfl (.cel (i := 2) rfl rfl)⟩) ?_
 by_cases hneg : at_ < 0
 ·
  refine Wr.pure (v := Value.bool true) 1 rfl (by kernel_rfl) (.inr (fun _ h => st_take [0, 0, 0, 0, 0, 0, 0] h)) (.inl ⟨rfl, fun _ => q_lss (r := true) rfl rfl (decide_eq_true hneg)⟩) ?_
  refine Wr.pure (v := Value.bool true) 2 rfl (by kernel_rfl) (.inr (fun _ h => st_take [0, 0, 0, 0, 0, 0, 0] h)) (.inl ⟨rfl, fun _ => q_move rfl⟩) ?_
  refine Wr.pure (v := undef) 3 rfl (by kernel_rfl) (.inr (fun _ h => st_take [0, 0, 0, 0, 0, 0, 0] h)) (.inr ⟨rfl, rfl⟩) ?_
  refine Wr.pure (v := undef) 4 rfl (by kernel_rfl) (.inr (fun _ h => st_take [0, 0, 0, 0, 0, 0, 0] h)) (.inr ⟨rfl, rfl⟩) ?_
  refine Wr.pure (v := undef) 5 rfl (by kernel_rfl) (.inr (fun _ h => st_take [0, 0, 0, 0, 0, 0, 0] h)) (.inr ⟨rfl, rfl⟩) ?_
  refine Wr.pure (v := undef) 6 rfl (by kernel_rfl) (.inr (fun _ h => st_take [0, 0, 0, 0, 0, 0, 0] h)) (.inr ⟨rfl, rfl⟩) ?_
  refine Wr.pure (v := undef) 7 rfl (by kernel_rfl) (.inr (fun _ h => st_take [0, 0, 0, 0, 0, 0, 0] h)) (.inr ⟨rfl, rfl⟩) ?_
  refine Wr.pure (v := undef) 8 rfl (by kernel_rfl) (.inr (fun _ h => st_take [0, 0, 0, 0, 0, 0, 0] h)) (.inr ⟨rfl, rfl⟩) ?_
  refine Wr.pure (v := undef) 9 rfl (by kernel_rfl) (.inr (fun _ h => st_take [0, 0, 0, 0, 0, 0, 0] h)) (.inr ⟨rfl, rfl⟩) ?_
  refine Wr.pure (v := Value.bool true) 10 rfl (by kernel_rfl) (.inr (fun _ h => st_take [0, 0, 0, 0, 0, 0, 0] h)) (.inl ⟨rfl, fun _ => q_pick (t := true) rfl rfl⟩) ?_
  refine Wr.pure (v := Value.bool true) 11 rfl (by kernel_rfl) (.inr (fun _ h => st_take [0, 0, 0, 0, 0, 0, 0] h)) (.inl ⟨rfl, fun _ => q_move rfl⟩) ?_
  refine Wr.pure (v := undef) 12 rfl (by kernel_rfl) (.inr (fun _ h => st_take [0, 0, 0, 0, 0, 0, 0] h)) (.inr ⟨rfl, rfl⟩) ?_
  refine Wr.pure (v := undef) 13 rfl (by kernel_rfl) (.inr (fun _ h => st_take [0, 0, 0, 0, 0, 0, 0] h)) (.inr ⟨rfl, rfl⟩) ?_
  refine Wr.pure (v := undef) 14 rfl (by kernel_rfl) (.inr (fun _ h => st_take [0, 0, 0, 0, 0, 0, 0] h)) (.inr ⟨rfl, rfl⟩) ?_
  refine Wr.pure (v := Value.bool true) 15 rfl (by kernel_rfl) (.inr (fun _ h => st_take [0, 0, 0, 0, 0, 0, 0] h)) (.inl ⟨rfl, fun _ => q_pick (t := true) rfl rfl⟩) ?_
  refine Wr.done (by kernel_rfl) ?_
  refine Wx.go ?_
  refine Wc.yes rfl ?_
  refine Wc.seq ?_
  refine Wc.region ?_
  refine Wl.q (v := Value.int .i64 1) (q_assign rfl) ?_
  refine Wl.done ?_
  refine Wx.go ?_
  refine Wc.ret ?_
  refine Wx.thenRet ?_
  refine Wx.fin1 rfl (.inl rfl) (fun w hs => ?_)
  have e : DS.write ⟨secs, since, false, count, (some (0, bits))⟩ at_ s = (1, ⟨secs, since, false, count, (some (0, bits))⟩) := write_bad rfl (by first | exact .inl hneg | exact .inr (.inl hge) | exact .inr (.inr hsz))
  rw [e]
  exact ⟨(), trivial, rfl, isDisk_mk rfl (st_pull [1, 1, 1] (mayR_some (n := 0) (st_pull [3, 0, 0, 0] (st_drop (st_drop (st_drop (st_pull [1, 1, 1] hs)))))))⟩
 ·
  obtain ⟨a, rfl⟩ := Int.eq_ofNat_of_zero_le (Int.not_lt.1 hneg)
  refine Wr.pure (v := Value.bool false) 1 rfl (by kernel_rfl) (.inr (fun _ h => st_take [0, 0, 0, 0, 0, 0, 0] h)) (.inl ⟨rfl, fun _ => q_lss (r := false) rfl rfl (decide_eq_false hneg)⟩) ?_
  refine Wr.pure (v := Value.bool false) 2 rfl (by kernel_rfl) (.inr (fun _ h => st_take [0, 0, 0, 0, 0, 0, 0] h)) (.inl ⟨rfl, fun _ => q_move rfl⟩) ?_
  refine Wr.take (v := Value.int .i64 ((a : Nat) : Int)) 3 rfl (by kernel_rfl) (fun _ h => st_take [0, 0, 0, 0, 0, 0, 0] h) (.inl ⟨rfl, q_load sc_3 rfl (.cel (i := 2) rfl rfl)⟩) ?_
  refine Wr.take (v := Value.pointer (some ⟨p, 0, none⟩)) 4 rfl (by kernel_rfl) (fun _ h => st_take [0, 0, 0, 0, 0, 0, 0] h) (.inl ⟨rfl, q_load sc_23 rfl (.cel (i := 3) rfl rfl)⟩) ?_
  refine Wr.pure (v := Value.pointer (some ⟨p, 0, none⟩)) 5 rfl (by kernel_rfl) (.inr (fun _ h => st_take [0, 0, 0, 0, 0, 0, 0] h)) (.inl ⟨rfl, fun _ => q_nil_ptr rfl⟩) ?_
  refine Wr.pure (v := Value.pointer (some ⟨p, 0, none⟩)) 6 rfl (by kernel_rfl) (.inr (fun _ h => st_take [0, 0, 0, 0, 0, 0, 0] h)) (.inl ⟨rfl, fun _ => q_field (m := 0) fo_37_0 rfl rfl⟩) ?_
  refine Wr.take (v := Value.slice (some ⟨bs, 0, none⟩) secs.length secs.length) 7 rfl (by kernel_rfl) (fun _ h => st_take [0, 0, 0, 0, 0, 0, 0] h) (.inl ⟨rfl, q_load sc_33 rfl (.cel (i := 0) rfl rfl)⟩) ?_
  refine Wr.take (v := Value.int .i64 ((secs.length : Nat) : Int)) 8 rfl (by kernel_rfl) (fun _ h => st_take [0, 0, 0, 0, 0, 0, 0] h) (.inl ⟨rfl, q_len_slice Try.underlying33 rfl⟩) ?_
  by_cases hge : ((a : Nat) : Int) ≥ ((secs.length : Nat) : Int)
  ·
   refine Wr.pure (v := Value.bool true) 9 rfl (by kernel_rfl) (.inr (fun _ h => st_take [0, 0, 0, 0, 0, 0, 0] h)) (.inl ⟨rfl, fun _ => q_geq (r := true) rfl rfl (decide_eq_true hge)⟩) ?_
   refine Wr.pure (v := Value.bool true) 10 rfl (by kernel_rfl) (.inr (fun _ h => st_take [0, 0, 0, 0, 0, 0, 0] h)) (.inl ⟨rfl, fun _ => q_pick (t := false) rfl rfl⟩) ?_
   refine Wr.pure (v := Value.bool true) 11 rfl (by kernel_rfl) (.inr (fun _ h => st_take [0, 0, 0, 0, 0, 0, 0] h)) (.inl ⟨rfl, fun _ => q_move rfl⟩) ?_
   refine Wr.pure (v := undef) 12 rfl (by kernel_rfl) (.inr (fun _ h => st_take [0, 0, 0, 0, 0, 0, 0] h)) (.inr ⟨rfl, rfl⟩) ?_
   refine Wr.pure (v := undef) 13 rfl (by kernel_rfl) (.inr (fun _ h => st_take [0, 0, 0, 0, 0, 0, 0] h)) (.inr ⟨rfl, rfl⟩) ?_
   refine Wr.pure (v := undef) 14 rfl (by kernel_rfl) (.inr (fun _ h => st_take [0, 0, 0, 0, 0, 0, 0] h)) (.inr ⟨rfl, rfl⟩) ?_
   refine Wr.pure (v := Value.bool true) 15 rfl (by kernel_rfl) (.inr (fun _ h => st_take [0, 0, 0, 0, 0, 0, 0] h)) (.inl ⟨rfl, fun _ => q_pick (t := true) rfl rfl⟩) ?_
   refine Wr.done (by kernel_rfl) ?_
   refine Wx.go ?_
   refine Wc.yes rfl ?_
   refine Wc.seq ?_
   refine Wc.region ?_
   refine Wl.q (v := Value.int .i64 1) (q_assign rfl) ?_
   refine Wl.done ?_
   refine Wx.go ?_
   refine Wc.ret ?_
   refine Wx.thenRet ?_
   refine Wx.fin1 rfl (.inl rfl) (fun w hs => ?_)
   have e : DS.write ⟨secs, since, false, count, (some (0, bits))⟩ ((a : Nat) : Int) s = (1, ⟨secs, since, false, count, (some (0, bits))⟩) := write_bad rfl (by first | exact .inl hneg | exact .inr (.inl hge) | exact .inr (.inr hsz))
   rw [e]
   exact ⟨(), trivial, rfl, isDisk_mk rfl (st_pull [1, 1, 1] (mayR_some (n := 0) (st_pull [3, 0, 0, 0] (st_drop (st_drop (st_drop (st_pull [1, 1, 1] hs)))))))⟩
  ·
   refine Wr.pure (v := Value.bool false) 9 rfl (by kernel_rfl) (.inr (fun _ h => st_take [0, 0, 0, 0, 0, 0, 0] h)) (.inl ⟨rfl, fun _ => q_geq (r := false) rfl rfl (decide_eq_false hge)⟩) ?_
   refine Wr.pure (v := Value.bool false) 10 rfl (by kernel_rfl) (.inr (fun _ h => st_take [0, 0, 0, 0, 0, 0, 0] h)) (.inl ⟨rfl, fun _ => q_pick (t := false) rfl rfl⟩) ?_
   refine Wr.pure (v := Value.bool false) 11 rfl (by kernel_rfl) (.inr (fun _ h => st_take [0, 0, 0, 0, 0, 0, 0] h)) (.inl ⟨rfl, fun _ => q_move rfl⟩) ?_
   refine Wr.take (v := Value.string s) 12 rfl (by kernel_rfl) (fun _ h => st_take [0, 0, 0, 0, 0, 0, 0] h) (.inl ⟨rfl, q_load sc_9 rfl (.cel (i := 1) rfl rfl)⟩) ?_
   refine Wr.take (v := Value.int .i64 ((s.size : Nat) : Int)) 13 rfl (by kernel_rfl) (fun _ h => st_take [0, 0, 0, 0, 0, 0, 0] h) (.inl ⟨rfl, q_len_str Try.underlying9 rfl⟩) ?_
   by_cases hsz : ((s.size : Nat) : Int) = 64
   ·
    refine Wr.pure (v := Value.bool false) 14 rfl (by kernel_rfl) (.inr (fun _ h => st_take [0, 0, 0, 0, 0, 0, 0] h)) (.inl ⟨rfl, fun _ => q_neq (r := true) rfl rfl (decide_eq_true hsz)⟩) ?_
    refine Wr.pure (v := Value.bool false) 15 rfl (by kernel_rfl) (.inr (fun _ h => st_take [0, 0, 0, 0, 0, 0, 0] h)) (.inl ⟨rfl, fun _ => q_pick (t := false) rfl rfl⟩) ?_
    refine Wr.done (by kernel_rfl) ?_
    refine Wx.go ?_
    refine Wc.no rfl ?_
    refine Wc.skip ?_
    refine Wx.go ?_
    refine Wc.seq ?_
    refine Wc.region ?_
    refine Wl.q (v := Value.pointer (some ⟨p, 0, none⟩)) (q_load sc_23 rfl (.cel (i := 3) rfl rfl)) ?_
    refine Wl.q (v := Value.func (.func 68) #[] #[Value.pointer (some ⟨b3, 0, none⟩), Value.pointer (some ⟨b4, 0, none⟩), Value.pointer (some ⟨b5, 0, none⟩)]) (q_makeFunc (us := []) (vs := [Value.pointer (some ⟨b3, 0, none⟩), Value.pointer (some ⟨b4, 0, none⟩), Value.pointer (some ⟨b5, 0, none⟩)]) rfl rfl) ?_
    refine Wl.imp (L' := (pt c 75 [Value.pointer (some ⟨p, 0, none⟩), Value.int .i64 0, Value.int .i64 bits]) :: (sl 86 2 sv since.length (flat since)) :: (pt p 37 ([Value.slice (some ⟨bs, 0, none⟩) secs.length secs.length, sv, Value.bool false, Value.int .i64 ((count : Nat) : Int), Value.func (.func 39) #[Value.pointer (some ⟨c, 0, none⟩)] #[]])) :: (pt bs 9 (secs.map Value.string)) :: (pt b5 9 [Value.string s]) :: (pt b4 3 [Value.int .i64 ((a : Nat) : Int)]) :: (pt b3 23 [Value.pointer (some ⟨p, 0, none⟩)]) :: F) (fun _ h => st_pull [6, 5, 0, 3] h) ?_
    refine Wl.e (e_call (F := (pt b5 9 [Value.string s]) :: (pt b4 3 [Value.int .i64 ((a : Nat) : Int)]) :: (pt b3 23 [Value.pointer (some ⟨p, 0, none⟩)]) :: F) (args := [Value.pointer (some ⟨p, 0, none⟩), Value.func (.func 68) #[] #[Value.pointer (some ⟨b3, 0, none⟩), Value.pointer (some ⟨b4, 0, none⟩), Value.pointer (some ⟨b5, 0, none⟩)]]) Try.call67 rfl (do_cut0 W0 p bs secs since count bits hw c sv (Value.func (.func 68) #[] #[Value.pointer (some ⟨b3, 0, none⟩), Value.pointer (some ⟨b4, 0, none⟩), Value.pointer (some ⟨b5, 0, none⟩)]))) (fun _ _ => ?_)
    refine Wl.imp (L' := (pt p 37 ([Value.slice (some ⟨bs, 0, none⟩) secs.length secs.length, Value.slice none 0 0, Value.bool true, Value.int .i64 ((count : Nat) : Int), Value.func (.func 36) #[Value.pointer (some ⟨p, 0, none⟩)] #[]])) :: (pt bs 9 ((fallL secs (since.take 31) bits).map Value.string)) :: (pt b5 9 [Value.string s]) :: (pt b4 3 [Value.int .i64 ((a : Nat) : Int)]) :: (pt b3 23 [Value.pointer (some ⟨p, 0, none⟩)]) :: F) (fun _ h => h) ?_
    refine Wl.q (v := Value.int .i64 6) (q_assign rfl) ?_
    refine Wl.done ?_
    refine Wx.go ?_
    refine Wc.ret ?_
    refine Wx.fin1 rfl (.inl rfl) (fun w hs => ?_)
    have e : DS.write ⟨secs, since, false, count, (some (0, bits))⟩ ((a : Nat) : Int) s = (6, ⟨fallL secs (since.take 31) bits, [], true, count, none⟩) := by rw [write_ok rfl hge hsz]; rfl
    rw [e]
    exact ⟨(), trivial, rfl, isDisk_mk (fallL_length _ _ _).symm (st_pull [2, 2] (st_sl_nil (mayR_none (st_drop (st_drop (st_drop (st_pull [2, 2, 2] hs)))))))⟩
   ·
    refine Wr.pure (v := Value.bool true) 14 rfl (by kernel_rfl) (.inr (fun _ h => st_take [0, 0, 0, 0, 0, 0, 0] h)) (.inl ⟨rfl, fun _ => q_neq (r := false) rfl rfl (decide_eq_false hsz)⟩) ?_
    refine Wr.pure (v := Value.bool true) 15 rfl (by kernel_rfl) (.inr (fun _ h => st_take [0, 0, 0, 0, 0, 0, 0] h)) (.inl ⟨rfl, fun _ => q_pick (t := false) rfl rfl⟩) ?_
    refine Wr.done (by kernel_rfl) ?_
    refine Wx.go ?_
    refine Wc.yes rfl ?_
    refine Wc.seq ?_
    refine Wc.region ?_
    refine Wl.q (v := Value.int .i64 1) (q_assign rfl) ?_
    refine Wl.done ?_
    refine Wx.go ?_
    refine Wc.ret ?_
    refine Wx.thenRet ?_
    refine Wx.fin1 rfl (.inl rfl) (fun w hs => ?_)
    have e : DS.write ⟨secs, since, false, count, (some (0, bits))⟩ ((a : Nat) : Int) s = (1, ⟨secs, since, false, count, (some (0, bits))⟩) := write_bad rfl (by first | exact .inl hneg | exact .inr (.inl hge) | exact .inr (.inr hsz))
    rw [e]
    exact ⟨(), trivial, rfl, isDisk_mk rfl (st_pull [1, 1, 1] (mayR_some (n := 0) (st_pull [3, 0, 0, 0] (st_drop (st_drop (st_drop (st_pull [1, 1, 1] hs)))))))⟩

theorem sync_down (W0 : World) (p : Nat) (secs : List ByteArray) (since : List (Nat × ByteArray)) (count : Nat) (cut : Option (Nat × Int)) :
  Con Try.prog W0 53 #[Value.pointer (some ⟨p, 0, none⟩)] [isDisk p (⟨secs, since, true, count, cut⟩ : DS)] (X := Unit) (fun _ => True) (fun _ => Value.int .i64 (DS.sync (⟨secs, since, true, count, cut⟩ : DS)).1) (fun _ => [isDisk p (DS.sync (⟨secs, since, true, count, cut⟩ : DS)).2]) := by
 refine Con.disk (fun bs sv fn us vs => ?_)
 refine Con.of (args := [Value.pointer (some ⟨p, 0, none⟩)]) Try.func53 rfl Try.ntmps53 rfl (fun F => ?_)
 show Wc _ W0 _ _ _ _ _ ((pt p 37 [Value.slice (some ⟨bs, 0, none⟩) secs.length secs.length, sv, Value.bool true, Value.int .i64 ((count : Nat) : Int), .func fn us vs]) :: (pt bs 9 (secs.map Value.string)) :: (sl 86 2 sv since.length (flat since)) :: (mayR p (Value.func fn us vs) cut) :: F)
 refine Wc.seq ?_
 refine Wc.region ?_
 refine Wl.e (e_box (x := .tmp 0) (vs := [Value.pointer (some ⟨p, 0, none⟩)]) rfl) (fun b1 _ => ?_)
 refine Wl.imp (L' := (pt b1 23 [Value.pointer (some ⟨p, 0, none⟩)]) :: (pt p 37 [Value.slice (some ⟨bs, 0, none⟩) secs.length secs.length, sv, Value.bool true, Value.int .i64 ((count : Nat) : Int), .func fn us vs]) :: (pt bs 9 (secs.map Value.string)) :: (sl 86 2 sv since.length (flat since)) :: (mayR p (Value.func fn us vs) cut) :: F) (fun _ h => h) ?_
 refine Wl.q (v := Value.int .i64 0) (q_assign rfl) ?_
 refine Wl.done ?_
 refine Wx.go ?_
 refine Wc.seq ?_
 refine Wc.seq ?_
 refine Wc.region ?_
 refine Wl.q (v := Value.pointer (some ⟨p, 0, none⟩)) (q_load sc_23 rfl (.cel (i := 0) rfl rfl)) ?_
 refine Wl.imp (L' := (pt p 37 [Value.slice (some ⟨bs, 0, none⟩) secs.length secs.length, sv, Value.bool true, Value.int .i64 ((count : Nat) : Int), .func fn us vs]) :: (pt b1 23 [Value.pointer (some ⟨p, 0, none⟩)]) :: (pt bs 9 (secs.map Value.string)) :: (sl 86 2 sv since.length (flat since)) :: (mayR p (Value.func fn us vs) cut) :: F) (fun _ h => st_pull [1] h) ?_
 refine Wl.e (e_call (F := (pt b1 23 [Value.pointer (some ⟨p, 0, none⟩)]) :: (pt bs 9 (secs.map Value.string)) :: (sl 86 2 sv since.length (flat since)) :: (mayR p (Value.func fn us vs) cut) :: F) (args := [Value.pointer (some ⟨p, 0, none⟩)]) Try.call38 rfl (state_down W0 p (Value.slice (some ⟨bs, 0, none⟩) secs.length secs.length) (sv) (Value.int .i64 ((count : Nat) : Int)) fn us vs)) (fun _ _ => ?_)
 refine Wl.imp (L' := (pt p 37 [Value.slice (some ⟨bs, 0, none⟩) secs.length secs.length, sv, Value.bool true, Value.int .i64 ((count : Nat) : Int), .func fn us vs]) :: (pt b1 23 [Value.pointer (some ⟨p, 0, none⟩)]) :: (pt bs 9 (secs.map Value.string)) :: (sl 86 2 sv since.length (flat since)) :: (mayR p (Value.func fn us vs) cut) :: F) (fun _ h => h) ?_
 refine Wl.q (v := Value.int .i64 6) (q_assign rfl) ?_
 refine Wl.done ?_
 refine Wx.go ?_
 refine Wc.seq ?_
 refine Wc.region ?_
 refine Wl.q (v := Value.int .i64 6) (q_move rfl) ?_
 refine Wl.q (v := Value.bool true) (q_neq (r := false) rfl rfl (decide_eq_false (by decide))) ?_
 refine Wl.done ?_
 refine Wx.go ?_
 refine Wc.yes rfl ?_
 refine Wc.seq ?_
 refine Wc.region ?_
 refine Wl.q (v := Value.int .i64 6) (q_move rfl) ?_
 refine Wl.q (v := Value.int .i64 6) (q_assign rfl) ?_
 refine Wl.done ?_
 refine Wx.go ?_
 refine Wc.ret ?_
 refine Wx.thenRet ?_
 refine Wx.fin1 rfl (.inl rfl) (fun w hs => ?_)
 have e : DS.sync ⟨secs, since, true, count, cut⟩ = (6, ⟨secs, since, true, count, cut⟩) := rfl
 rw [e]
 exact ⟨(), trivial, rfl, isDisk_mk rfl (st_drop (st_pull [1] hs))⟩

theorem sync_alw (W0 : World) (p : Nat) (secs : List ByteArray) (since : List (Nat × ByteArray)) (count : Nat) (hw : WFl secs since) (hsince : since.length < 1099511627776) (hcount : count < 4611686018427387904) :
  Con Try.prog W0 53 #[Value.pointer (some ⟨p, 0, none⟩)] [isDisk p (⟨secs, since, false, count, none⟩ : DS)] (X := Unit) (fun _ => True) (fun _ => Value.int .i64 (DS.sync (⟨secs, since, false, count, none⟩ : DS)).1) (fun _ => [isDisk p (DS.sync (⟨secs, since, false, count, none⟩ : DS)).2]) := by
 refine Con.alw rfl (fun bs sv => ?_)
 refine Con.of (args := [Value.pointer (some ⟨p, 0, none⟩)]) Try.func53 rfl Try.ntmps53 rfl (fun F => ?_)
 show Wc _ W0 _ _ _ _ _ ((pt p 37 ([Value.slice (some ⟨bs, 0, none⟩) secs.length secs.length, sv, Value.bool false, Value.int .i64 ((count : Nat) : Int), Value.func (.func 36) #[Value.pointer (some ⟨p, 0, none⟩)] #[]])) :: (pt bs 9 (secs.map Value.string)) :: (sl 86 2 sv since.length (flat since)) :: F)
 refine Wc.seq ?_
 refine Wc.region ?_
 refine Wl.e (e_box (x := .tmp 0) (vs := [Value.pointer (some ⟨p, 0, none⟩)]) rfl) (fun b1 _ => ?_)
 refine Wl.imp (L' := (pt b1 23 [Value.pointer (some ⟨p, 0, none⟩)]) :: (pt p 37 ([Value.slice (some ⟨bs, 0, none⟩) secs.length secs.length, sv, Value.bool false, Value.int .i64 ((count : Nat) : Int), Value.func (.func 36) #[Value.pointer (some ⟨p, 0, none⟩)] #[]])) :: (pt bs 9 (secs.map Value.string)) :: (sl 86 2 sv since.length (flat since)) :: F) (fun _ h => h) ?_
 refine Wl.q (v := Value.int .i64 0) (q_assign rfl) ?_
 refine Wl.done ?_
 refine Wx.go ?_
 refine Wc.seq ?_
 refine Wc.seq ?_
 refine Wc.region ?_
 refine Wl.q (v := Value.pointer (some ⟨p, 0, none⟩)) (q_load sc_23 rfl (.cel (i := 0) rfl rfl)) ?_
 refine Wl.imp (L' := (pt p 37 ([Value.slice (some ⟨bs, 0, none⟩) secs.length secs.length, sv, Value.bool false, Value.int .i64 ((count : Nat) : Int), Value.func (.func 36) #[Value.pointer (some ⟨p, 0, none⟩)] #[]])) :: (pt b1 23 [Value.pointer (some ⟨p, 0, none⟩)]) :: (pt bs 9 (secs.map Value.string)) :: (sl 86 2 sv since.length (flat since)) :: F) (fun _ h => st_pull [1] h) ?_
 refine Wl.e (e_call (F := (pt b1 23 [Value.pointer (some ⟨p, 0, none⟩)]) :: (pt bs 9 (secs.map Value.string)) :: (sl 86 2 sv since.length (flat since)) :: F) (args := [Value.pointer (some ⟨p, 0, none⟩)]) Try.call38 rfl (state_up W0 p (Value.slice (some ⟨bs, 0, none⟩) secs.length secs.length) (sv) (Value.int .i64 ((count : Nat) : Int)) (.func 36) #[Value.pointer (some ⟨p, 0, none⟩)] #[])) (fun _ _ => ?_)
 refine Wl.imp (L' := (pt p 37 ([Value.slice (some ⟨bs, 0, none⟩) secs.length secs.length, sv, Value.bool false, Value.int .i64 ((count : Nat) : Int), Value.func (.func 36) #[Value.pointer (some ⟨p, 0, none⟩)] #[]])) :: (pt b1 23 [Value.pointer (some ⟨p, 0, none⟩)]) :: (pt bs 9 (secs.map Value.string)) :: (sl 86 2 sv since.length (flat since)) :: F) (fun _ h => h) ?_
 refine Wl.q (v := Value.int .i64 0) (q_assign rfl) ?_
 refine Wl.done ?_
 refine Wx.go ?_
 refine Wc.seq ?_
 refine Wc.region ?_
 refine Wl.q (v := Value.int .i64 0) (q_move rfl) ?_
 refine Wl.q (v := Value.bool false) (q_neq (r := true) rfl rfl (decide_eq_true (by decide))) ?_
 refine Wl.done ?_
 refine Wx.go ?_
 refine Wc.no rfl ?_
 refine Wc.skip ?_
 refine Wx.go ?_
 refine Wc.seq ?_
 refine Wc.region ?_
 refine Wl.q (v := Value.pointer (some ⟨p, 0, none⟩)) (q_load sc_23 rfl (.cel (i := 1) rfl rfl)) ?_
 refine Wl.q (v := Value.func (.func 70) #[] #[Value.pointer (some ⟨b1, 0, none⟩)]) (q_makeFunc (us := []) (vs := [Value.pointer (some ⟨b1, 0, none⟩)]) rfl rfl) ?_
 refine Wl.imp (L' := (pt p 37 ([Value.slice (some ⟨bs, 0, none⟩) secs.length secs.length, sv, Value.bool false, Value.int .i64 ((count : Nat) : Int), Value.func (.func 36) #[Value.pointer (some ⟨p, 0, none⟩)] #[]])) :: (sl 86 2 sv since.length (flat since)) :: (pt bs 9 (secs.map Value.string)) :: (pt b1 23 [Value.pointer (some ⟨p, 0, none⟩)]) :: F) (fun _ h => st_pull [0, 2, 1, 0] h) ?_
 refine Wl.imp (L' := (pt p 37 ([Value.slice (some ⟨bs, 0, none⟩) secs.length secs.length, sv, Value.bool false, Value.int .i64 ((count : Nat) : Int), Value.func (.func 36) #[Value.pointer (some ⟨p, 0, none⟩)] #[]])) :: (grp [sl 86 2 sv since.length (flat since), pt bs 9 (secs.map Value.string), pt b1 23 [Value.pointer (some ⟨p, 0, none⟩)]]) :: F) (fun _ h => st_grpAt h) ?_
 refine Wl.e (e_call (F := F) (args := [Value.pointer (some ⟨p, 0, none⟩), Value.func (.func 70) #[] #[Value.pointer (some ⟨b1, 0, none⟩)]]) Try.call67 rfl (do_alw W0 p (Value.slice (some ⟨bs, 0, none⟩) secs.length secs.length) sv count hcount 70 Try.call70 [Value.pointer (some ⟨b1, 0, none⟩)] [sl 86 2 sv since.length (flat since), pt bs 9 (secs.map Value.string), pt b1 23 [Value.pointer (some ⟨p, 0, none⟩)]] (fun _ => [pt p 37 ([Value.slice (some ⟨bs, 0, none⟩) secs.length secs.length, Value.slice none 0 0, Value.bool false, Value.int .i64 (((count + 1) : Nat) : Int), Value.func (.func 36) #[Value.pointer (some ⟨p, 0, none⟩)] #[]]), pt bs 9 ((syncL secs since).map Value.string), pt b1 23 [Value.pointer (some ⟨p, 0, none⟩)]])  (sync1_g W0 p bs secs since (count + 1) (Value.func (.func 36) #[Value.pointer (some ⟨p, 0, none⟩)] #[]) b1 hw hsince sv))) (fun u _ => ?_)
 refine Wl.imp (L' := (pt p 37 ([Value.slice (some ⟨bs, 0, none⟩) secs.length secs.length, Value.slice none 0 0, Value.bool false, Value.int .i64 (((count + 1) : Nat) : Int), Value.func (.func 36) #[Value.pointer (some ⟨p, 0, none⟩)] #[]])) :: (pt bs 9 ((syncL secs since).map Value.string)) :: (pt b1 23 [Value.pointer (some ⟨p, 0, none⟩)]) :: F) (fun _ h => st_grp.1 h) ?_
 refine Wl.q (v := Value.int .i64 0) (q_assign rfl) ?_
 refine Wl.done ?_
 refine Wx.go ?_
 refine Wc.ret ?_
 refine Wx.fin1 rfl (.inl rfl) (fun w hs => ?_)
 have e : DS.sync ⟨secs, since, false, count, none⟩ = (0, ⟨syncL secs since, [], false, count + 1, none⟩) := rfl
 rw [e]
 exact ⟨(), trivial, rfl, isDisk_mk (syncL_length _ _).symm (st_pull [2, 2] (st_sl_nil (mayR_none (st_drop (st_pull [2] hs)))))⟩

theorem sync_cutS (W0 : World) (p : Nat) (secs : List ByteArray) (since : List (Nat × ByteArray)) (count : Nat) (n : Nat) (bits : Int) (hw : WFl secs since) (hsince : since.length < 1099511627776) (hcount : count < 4611686018427387904) (hn : n < 9223372036854775807) :
  Con Try.prog W0 53 #[Value.pointer (some ⟨p, 0, none⟩)] [isDisk p (⟨secs, since, false, count, (some (n + 1, bits))⟩ : DS)] (X := Unit) (fun _ => True) (fun _ => Value.int .i64 (DS.sync (⟨secs, since, false, count, (some (n + 1, bits))⟩ : DS)).1) (fun _ => [isDisk p (DS.sync (⟨secs, since, false, count, (some (n + 1, bits))⟩ : DS)).2]) := by
 refine Con.cutd rfl (fun bs sv c => ?_)
 refine Con.of (args := [Value.pointer (some ⟨p, 0, none⟩)]) Try.func53 rfl Try.ntmps53 rfl (fun F => ?_)
 show Wc _ W0 _ _ _ _ _ ((pt p 37 ([Value.slice (some ⟨bs, 0, none⟩) secs.length secs.length, sv, Value.bool false, Value.int .i64 ((count : Nat) : Int), Value.func (.func 39) #[Value.pointer (some ⟨c, 0, none⟩)] #[]])) :: (pt bs 9 (secs.map Value.string)) :: (sl 86 2 sv since.length (flat since)) :: (pt c 75 [Value.pointer (some ⟨p, 0, none⟩), Value.int .i64 (((n + 1) : Nat) : Int), Value.int .i64 bits]) :: F)
 refine Wc.seq ?_
 refine Wc.region ?_
 refine Wl.e (e_box (x := .tmp 0) (vs := [Value.pointer (some ⟨p, 0, none⟩)]) rfl) (fun b1 _ => ?_)
 refine Wl.imp (L' := (pt b1 23 [Value.pointer (some ⟨p, 0, none⟩)]) :: (pt p 37 ([Value.slice (some ⟨bs, 0, none⟩) secs.length secs.length, sv, Value.bool false, Value.int .i64 ((count : Nat) : Int), Value.func (.func 39) #[Value.pointer (some ⟨c, 0, none⟩)] #[]])) :: (pt bs 9 (secs.map Value.string)) :: (sl 86 2 sv since.length (flat since)) :: (pt c 75 [Value.pointer (some ⟨p, 0, none⟩), Value.int .i64 (((n + 1) : Nat) : Int), Value.int .i64 bits]) :: F) (fun _ h => h) ?_
 refine Wl.q (v := Value.int .i64 0) (q_assign rfl) ?_
 refine Wl.done ?_
 refine Wx.go ?_
 refine Wc.seq ?_
 refine Wc.seq ?_
 refine Wc.region ?_
 refine Wl.q (v := Value.pointer (some ⟨p, 0, none⟩)) (q_load sc_23 rfl (.cel (i := 0) rfl rfl)) ?_
 refine Wl.imp (L' := (pt p 37 ([Value.slice (some ⟨bs, 0, none⟩) secs.length secs.length, sv, Value.bool false, Value.int .i64 ((count : Nat) : Int), Value.func (.func 39) #[Value.pointer (some ⟨c, 0, none⟩)] #[]])) :: (pt b1 23 [Value.pointer (some ⟨p, 0, none⟩)]) :: (pt bs 9 (secs.map Value.string)) :: (sl 86 2 sv since.length (flat since)) :: (pt c 75 [Value.pointer (some ⟨p, 0, none⟩), Value.int .i64 (((n + 1) : Nat) : Int), Value.int .i64 bits]) :: F) (fun _ h => st_pull [1] h) ?_
 refine Wl.e (e_call (F := (pt b1 23 [Value.pointer (some ⟨p, 0, none⟩)]) :: (pt bs 9 (secs.map Value.string)) :: (sl 86 2 sv since.length (flat since)) :: (pt c 75 [Value.pointer (some ⟨p, 0, none⟩), Value.int .i64 (((n + 1) : Nat) : Int), Value.int .i64 bits]) :: F) (args := [Value.pointer (some ⟨p, 0, none⟩)]) Try.call38 rfl (state_up W0 p (Value.slice (some ⟨bs, 0, none⟩) secs.length secs.length) (sv) (Value.int .i64 ((count : Nat) : Int)) (.func 39) #[Value.pointer (some ⟨c, 0, none⟩)] #[])) (fun _ _ => ?_)
 refine Wl.imp (L' := (pt p 37 ([Value.slice (some ⟨bs, 0, none⟩) secs.length secs.length, sv, Value.bool false, Value.int .i64 ((count : Nat) : Int), Value.func (.func 39) #[Value.pointer (some ⟨c, 0, none⟩)] #[]])) :: (pt b1 23 [Value.pointer (some ⟨p, 0, none⟩)]) :: (pt bs 9 (secs.map Value.string)) :: (sl 86 2 sv since.length (flat since)) :: (pt c 75 [Value.pointer (some ⟨p, 0, none⟩), Value.int .i64 (((n + 1) : Nat) : Int), Value.int .i64 bits]) :: F) (fun _ h => h) ?_
 refine Wl.q (v := Value.int .i64 0) (q_assign rfl) ?_
 refine Wl.done ?_
 refine Wx.go ?_
 refine Wc.seq ?_
 refine Wc.region ?_
 refine Wl.q (v := Value.int .i64 0) (q_move rfl) ?_
 refine Wl.q (v := Value.bool false) (q_neq (r := true) rfl rfl (decide_eq_true (by decide))) ?_
 refine Wl.done ?_
 refine Wx.go ?_
 refine Wc.no rfl ?_
 refine Wc.skip ?_
 refine Wx.go ?_
 refine Wc.seq ?_
 refine Wc.region ?_
 refine Wl.q (v := Value.pointer (some ⟨p, 0, none⟩)) (q_load sc_23 rfl (.cel (i := 1) rfl rfl)) ?_
 refine Wl.q (v := Value.func (.func 70) #[] #[Value.pointer (some ⟨b1, 0, none⟩)]) (q_makeFunc (us := []) (vs := [Value.pointer (some ⟨b1, 0, none⟩)]) rfl rfl) ?_
 refine Wl.imp (L' := (pt p 37 ([Value.slice (some ⟨bs, 0, none⟩) secs.length secs.length, sv, Value.bool false, Value.int .i64 ((count : Nat) : Int), Value.func (.func 39) #[Value.pointer (some ⟨c, 0, none⟩)] #[]])) :: (sl 86 2 sv since.length (flat since)) :: (pt bs 9 (secs.map Value.string)) :: (pt b1 23 [Value.pointer (some ⟨p, 0, none⟩)]) :: (pt c 75 [Value.pointer (some ⟨p, 0, none⟩), Value.int .i64 (((n + 1) : Nat) : Int), Value.int .i64 bits]) :: F) (fun _ h => st_pull [0, 2, 1, 0] h) ?_
 refine Wl.imp (L' := (pt p 37 ([Value.slice (some ⟨bs, 0, none⟩) secs.length secs.length, sv, Value.bool false, Value.int .i64 ((count : Nat) : Int), Value.func (.func 39) #[Value.pointer (some ⟨c, 0, none⟩)] #[]])) :: (grp [sl 86 2 sv since.length (flat since), pt bs 9 (secs.map Value.string), pt b1 23 [Value.pointer (some ⟨p, 0, none⟩)]]) :: (pt c 75 [Value.pointer (some ⟨p, 0, none⟩), Value.int .i64 (((n + 1) : Nat) : Int), Value.int .i64 bits]) :: F) (fun _ h => st_grpAt h) ?_
 refine Wl.e (e_call (F := F) (args := [Value.pointer (some ⟨p, 0, none⟩), Value.func (.func 70) #[] #[Value.pointer (some ⟨b1, 0, none⟩)]]) Try.call67 rfl (do_cutS W0 p (Value.slice (some ⟨bs, 0, none⟩) secs.length secs.length) sv count hcount 70 Try.call70 [Value.pointer (some ⟨b1, 0, none⟩)] [sl 86 2 sv since.length (flat since), pt bs 9 (secs.map Value.string), pt b1 23 [Value.pointer (some ⟨p, 0, none⟩)]] (fun _ => [pt p 37 ([Value.slice (some ⟨bs, 0, none⟩) secs.length secs.length, Value.slice none 0 0, Value.bool false, Value.int .i64 (((count + 1) : Nat) : Int), Value.func (.func 39) #[Value.pointer (some ⟨c, 0, none⟩)] #[]]), pt bs 9 ((syncL secs since).map Value.string), pt b1 23 [Value.pointer (some ⟨p, 0, none⟩)]])  c n bits hn (sync1_g W0 p bs secs since (count + 1) (Value.func (.func 39) #[Value.pointer (some ⟨c, 0, none⟩)] #[]) b1 hw hsince sv))) (fun u _ => ?_)
 refine Wl.imp (L' := (pt p 37 ([Value.slice (some ⟨bs, 0, none⟩) secs.length secs.length, Value.slice none 0 0, Value.bool false, Value.int .i64 (((count + 1) : Nat) : Int), Value.func (.func 39) #[Value.pointer (some ⟨c, 0, none⟩)] #[]])) :: (pt bs 9 ((syncL secs since).map Value.string)) :: (pt b1 23 [Value.pointer (some ⟨p, 0, none⟩)]) :: (pt c 75 [Value.pointer (some ⟨p, 0, none⟩), Value.int .i64 ((n : Nat) : Int), Value.int .i64 bits]) :: F) (fun _ h => st_grp.1 h) ?_
 refine Wl.q (v := Value.int .i64 0) (q_assign rfl) ?_
 refine Wl.done ?_
 refine Wx.go ?_
 refine Wc.ret ?_
 refine Wx.fin1 rfl (.inl rfl) (fun w hs => ?_)
 have e : DS.sync ⟨secs, since, false, count, (some (n + 1, bits))⟩ = (0, ⟨syncL secs since, [], false, count + 1, (some (n, bits))⟩) := rfl
 rw [e]
 exact ⟨(), trivial, rfl, isDisk_mk (syncL_length _ _).symm (st_pull [2, 2] (st_sl_nil (mayR_some (st_pull [2, 0, 0] (st_drop (st_pull [2] hs))))))⟩

theorem sync_cut0 (W0 : World) (p : Nat) (secs : List ByteArray) (since : List (Nat × ByteArray)) (count : Nat) (bits : Int) (hw : WFl secs since) (hsince : since.length < 1099511627776) (hcount : count < 4611686018427387904) :
  Con Try.prog W0 53 #[Value.pointer (some ⟨p, 0, none⟩)] [isDisk p (⟨secs, since, false, count, (some (0, bits))⟩ : DS)] (X := Unit) (fun _ => True) (fun _ => Value.int .i64 (DS.sync (⟨secs, since, false, count, (some (0, bits))⟩ : DS)).1) (fun _ => [isDisk p (DS.sync (⟨secs, since, false, count, (some (0, bits))⟩ : DS)).2]) := by
 refine Con.cutd (n := 0) rfl (fun bs sv c => ?_)
 refine Con.of (args := [Value.pointer (some ⟨p, 0, none⟩)]) Try.func53 rfl Try.ntmps53 rfl (fun F => ?_)
 show Wc _ W0 _ _ _ _ _ ((pt p 37 ([Value.slice (some ⟨bs, 0, none⟩) secs.length secs.length, sv, Value.bool false, Value.int .i64 ((count : Nat) : Int), Value.func (.func 39) #[Value.pointer (some ⟨c, 0, none⟩)] #[]])) :: (pt bs 9 (secs.map Value.string)) :: (sl 86 2 sv since.length (flat since)) :: (pt c 75 [Value.pointer (some ⟨p, 0, none⟩), Value.int .i64 0, Value.int .i64 bits]) :: F)
 refine Wc.seq ?_
 refine Wc.region ?_
 refine Wl.e (e_box (x := .tmp 0) (vs := [Value.pointer (some ⟨p, 0, none⟩)]) rfl) (fun b1 _ => ?_)
 refine Wl.imp (L' := (pt b1 23 [Value.pointer (some ⟨p, 0, none⟩)]) :: (pt p 37 ([Value.slice (some ⟨bs, 0, none⟩) secs.length secs.length, sv, Value.bool false, Value.int .i64 ((count : Nat) : Int), Value.func (.func 39) #[Value.pointer (some ⟨c, 0, none⟩)] #[]])) :: (pt bs 9 (secs.map Value.string)) :: (sl 86 2 sv since.length (flat since)) :: (pt c 75 [Value.pointer (some ⟨p, 0, none⟩), Value.int .i64 0, Value.int .i64 bits]) :: F) (fun _ h => h) ?_
 refine Wl.q (v := Value.int .i64 0) (q_assign rfl) ?_
 refine Wl.done ?_
 refine Wx.go ?_
 refine Wc.seq ?_
 refine Wc.seq ?_
 refine Wc.region ?_
 refine Wl.q (v := Value.pointer (some ⟨p, 0, none⟩)) (q_load sc_23 rfl (.cel (i := 0) rfl rfl)) ?_
 refine Wl.imp (L' := (pt p 37 ([Value.slice (some ⟨bs, 0, none⟩) secs.length secs.length, sv, Value.bool false, Value.int .i64 ((count : Nat) : Int), Value.func (.func 39) #[Value.pointer (some ⟨c, 0, none⟩)] #[]])) :: (pt b1 23 [Value.pointer (some ⟨p, 0, none⟩)]) :: (pt bs 9 (secs.map Value.string)) :: (sl 86 2 sv since.length (flat since)) :: (pt c 75 [Value.pointer (some ⟨p, 0, none⟩), Value.int .i64 0, Value.int .i64 bits]) :: F) (fun _ h => st_pull [1] h) ?_
 refine Wl.e (e_call (F := (pt b1 23 [Value.pointer (some ⟨p, 0, none⟩)]) :: (pt bs 9 (secs.map Value.string)) :: (sl 86 2 sv since.length (flat since)) :: (pt c 75 [Value.pointer (some ⟨p, 0, none⟩), Value.int .i64 0, Value.int .i64 bits]) :: F) (args := [Value.pointer (some ⟨p, 0, none⟩)]) Try.call38 rfl (state_up W0 p (Value.slice (some ⟨bs, 0, none⟩) secs.length secs.length) (sv) (Value.int .i64 ((count : Nat) : Int)) (.func 39) #[Value.pointer (some ⟨c, 0, none⟩)] #[])) (fun _ _ => ?_)
 refine Wl.imp (L' := (pt p 37 ([Value.slice (some ⟨bs, 0, none⟩) secs.length secs.length, sv, Value.bool false, Value.int .i64 ((count : Nat) : Int), Value.func (.func 39) #[Value.pointer (some ⟨c, 0, none⟩)] #[]])) :: (pt b1 23 [Value.pointer (some ⟨p, 0, none⟩)]) :: (pt bs 9 (secs.map Value.string)) :: (sl 86 2 sv since.length (flat since)) :: (pt c 75 [Value.pointer (some ⟨p, 0, none⟩), Value.int .i64 0, Value.int .i64 bits]) :: F) (fun _ h => h) ?_
 refine Wl.q (v := Value.int .i64 0) (q_assign rfl) ?_
 refine Wl.done ?_
 refine Wx.go ?_
 refine Wc.seq ?_
 refine Wc.region ?_
 refine Wl.q (v := Value.int .i64 0) (q_move rfl) ?_
 refine Wl.q (v := Value.bool false) (q_neq (r := true) rfl rfl (decide_eq_true (by decide))) ?_
 refine Wl.done ?_
 refine Wx.go ?_
 refine Wc.no rfl ?_
 refine Wc.skip ?_
 refine Wx.go ?_
 refine Wc.seq ?_
 refine Wc.region ?_
 refine Wl.q (v := Value.pointer (some ⟨p, 0, none⟩)) (q_load sc_23 rfl (.cel (i := 1) rfl rfl)) ?_
 refine Wl.q (v := Value.func (.func 70) #[] #[Value.pointer (some ⟨b1, 0, none⟩)]) (q_makeFunc (us := []) (vs := [Value.pointer (some ⟨b1, 0, none⟩)]) rfl rfl) ?_
 refine Wl.imp (L' := (pt c 75 [Value.pointer (some ⟨p, 0, none⟩), Value.int .i64 0, Value.int .i64 bits]) :: (sl 86 2 sv since.length (flat since)) :: (pt p 37 ([Value.slice (some ⟨bs, 0, none⟩) secs.length secs.length, sv, Value.bool false, Value.int .i64 ((count : Nat) : Int), Value.func (.func 39) #[Value.pointer (some ⟨c, 0, none⟩)] #[]])) :: (pt bs 9 (secs.map Value.string)) :: (pt b1 23 [Value.pointer (some ⟨p, 0, none⟩)]) :: F) (fun _ h => st_pull [4, 3, 0, 1] h) ?_
 refine Wl.e (e_call (F := (pt b1 23 [Value.pointer (some ⟨p, 0, none⟩)]) :: F) (args := [Value.pointer (some ⟨p, 0, none⟩), Value.func (.func 70) #[] #[Value.pointer (some ⟨b1, 0, none⟩)]]) Try.call67 rfl (do_cut0 W0 p bs secs since count bits hw c sv (Value.func (.func 70) #[] #[Value.pointer (some ⟨b1, 0, none⟩)]))) (fun _ _ => ?_)
 refine Wl.imp (L' := (pt p 37 ([Value.slice (some ⟨bs, 0, none⟩) secs.length secs.length, Value.slice none 0 0, Value.bool true, Value.int .i64 ((count : Nat) : Int), Value.func (.func 36) #[Value.pointer (some ⟨p, 0, none⟩)] #[]])) :: (pt bs 9 ((fallL secs (since.take 31) bits).map Value.string)) :: (pt b1 23 [Value.pointer (some ⟨p, 0, none⟩)]) :: F) (fun _ h => h) ?_
 refine Wl.q (v := Value.int .i64 6) (q_assign rfl) ?_
 refine Wl.done ?_
 refine Wx.go ?_
 refine Wc.ret ?_
 refine Wx.fin1 rfl (.inl rfl) (fun w hs => ?_)
 have e : DS.sync ⟨secs, since, false, count, (some (0, bits))⟩ = (6, ⟨fallL secs (since.take 31) bits, [], true, count, none⟩) := rfl
 rw [e]
 exact ⟨(), trivial, rfl, isDisk_mk (fallL_length _ _ _).symm (st_pull [2, 2] (st_sl_nil (mayR_none (st_drop (st_pull [2] hs)))))⟩

end Go.Proofs.Ytnhejdnigblnoaa
