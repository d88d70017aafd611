/- Contracts of the calls. -/
import Derived.Test.YtnhejdnigblnoaaDkG
import Derived.Test.YtnhejdnigblnoaaDkL
namespace Go.Proofs.Ytnhejdnigblnoaa
open Go Go.SL Go.Dk Go.RowKit
set_option linter.unusedVariables false
set_option maxRecDepth 8000
theorem fo_63_1 : fieldOff Try.prog 63 1 = some 1 := by kernel_rfl
theorem fo_63_0 : fieldOff Try.prog 63 0 = some 0 := by kernel_rfl
theorem fo_63_2 : fieldOff Try.prog 63 2 = some 2 := by kernel_rfl
theorem fo_63_3 : fieldOff Try.prog 63 3 = some 3 := by kernel_rfl
theorem fo_63_5 : fieldOff Try.prog 63 5 = some 5 := by kernel_rfl
theorem fo_63_4 : fieldOff Try.prog 63 4 = some 4 := by kernel_rfl
theorem sz_2 : sizeIs Try.prog 2 = some 1 := by kernel_rfl
theorem zo_63 : zeroOf Try.prog 63 = some (Value.agg #[Value.slice none 0 0, Value.slice none 0 0, Value.bool false, Value.int .i64 0, Value.int .i64 0, Value.int .i64 0]) := by kernel_rfl
theorem sz_33 : sizeIs Try.prog 33 = some 1 := by kernel_rfl
def isRef (q : Nat) (d : DS) : HP := ex fun bd => ex fun cd => ex fun sv => ex fun lv => ex fun bv => grp [pr (refR lv bv d.cut),
 pt q 63 [.slice (some ⟨bd, 0, none⟩) d.secs.length cd, sv, .bool d.down, .int .i64 lv, .int .i64 bv, .int .i64 (d.count : Int)],
 slp 9 1 bd cd (d.secs.map Value.string), sl 86 2 sv d.since.length (flat d.since)]
theorem isRef_mk {W0 w : World} {L : List HP} {q bd cd n : Nat} {sv : Value} {lv bv : Int} {d : DS} (hr : refR lv bv d.cut) (hn : n = d.secs.length)
  (h : st W0 w (pt q 63 [.slice (some ⟨bd, 0, none⟩) n cd, sv, .bool d.down, .int .i64 lv, .int .i64 bv, .int .i64 (d.count : Int)] :: slp 9 1 bd cd (d.secs.map Value.string) :: sl 86 2 sv d.since.length (flat d.since) :: L)) :
  st W0 w (isRef q d :: L) := by
 subst hn
 exact st_ex.2 ⟨bd, st_ex.2 ⟨cd, st_ex.2 ⟨sv, st_ex.2 ⟨lv, st_ex.2 ⟨bv, st_grp.2 (st_pr.2 ⟨hr, h⟩)⟩⟩⟩⟩⟩
theorem Con.ref {P : Program} {W0 : World} {f : FuncId} {args : Array Value} {q : Nat} {d : DS} {pre : List HP} {X : Type} {φ : X → Prop} {val : X → Value} {post : X → List HP}
  (h : ∀ (bd cd : Nat) (sv : Value) (lv bv : Int), refR lv bv d.cut → Con P W0 f args (pt q 63 [.slice (some ⟨bd, 0, none⟩) d.secs.length cd, sv, .bool d.down, .int .i64 lv, .int .i64 bv, .int .i64 (d.count : Int)] :: slp 9 1 bd cd (d.secs.map Value.string) :: sl 86 2 sv d.since.length (flat d.since) :: pre) φ val post) :
  Con P W0 f args (isRef q d :: pre) φ val post := fun w F hs => by
 obtain ⟨bd, hs⟩ := st_ex.1 hs
 obtain ⟨cd, hs⟩ := st_ex.1 hs
 obtain ⟨sv, hs⟩ := st_ex.1 hs
 obtain ⟨lv, hs⟩ := st_ex.1 hs
 obtain ⟨bv, hs⟩ := st_ex.1 hs
 obtain ⟨hr, hs⟩ := st_pr.1 (st_grp.1 hs)
 exact h bd cd sv lv bv hr w F hs

theorem rtorn_c (W0 : World) (old s : ByteArray) (how : Int) (h1 : old.size = 64) (h2 : s.size = 64) (h0 : 0 ≤ how) (h4 : how < 4) :
  Con Try.prog W0 74 #[Value.string old, Value.string s, Value.int .i64 how] [] (X := Unit) (fun _ => True) (fun _ => .string (torn old s how)) (fun _ => []) := by
 refine Con.of (args := [Value.string old, Value.string s, Value.int .i64 how]) Try.func74 rfl Try.ntmps74 rfl (fun F => ?_)
 show Wc _ W0 _ _ _ _ _ (F)
 refine Wc.seq ?_
 refine Wc.region ?_
 refine Wl.q (v := Value.string (⟨#[]⟩)) (q_assign rfl) ?_
 refine Wl.done ?_
 refine Wx.go ?_
 refine Wc.seq ?_
 refine Wc.region ?_
 refine Wl.q (v := Value.int .i64 32) (q_assign rfl) ?_
 refine Wl.done ?_
 refine Wx.go ?_
 refine Wc.seq ?_
 refine Wc.seq ?_
 refine Wc.region ?_
 refine Wl.q (v := Value.int .i64 how) (q_move rfl) ?_
 refine Wl.done ?_
 refine Wx.go ?_
 refine Wc.block ?_
 refine Wc.seq ?_
 refine Wc.region ?_
 by_cases hk1 : how = 1
 ·
  refine Wl.q (v := Value.bool true) (q_eql (r := true) rfl rfl (decide_eq_true hk1)) ?_
  refine Wl.q (v := Value.bool true) (q_assign rfl) ?_
  refine Wl.done ?_
  refine Wx.go ?_
  refine Wc.yes rfl ?_
  refine Wc.seq ?_
  refine Wc.region ?_
  refine Wl.q (v := Value.string s) (q_move rfl) ?_
  refine Wl.q (v := Value.string s) (q_assign rfl) ?_
  refine Wl.done ?_
  refine Wx.go ?_
  refine Wc.ret ?_
  refine Wx.blockRet ?_
  refine Wx.thenRet ?_
  refine Wx.fin1 rfl (.inl rfl) (fun w hs => ?_)
  have e : torn old s how = s := by rw [hk1]; rfl
  exact ⟨(), trivial, by rw [e]; rfl, hs⟩
 ·
  refine Wl.q (v := Value.bool false) (q_eql (r := false) rfl rfl (decide_eq_false hk1)) ?_
  refine Wl.q (v := Value.bool false) (q_assign rfl) ?_
  refine Wl.done ?_
  refine Wx.go ?_
  refine Wc.no rfl ?_
  refine Wc.seq ?_
  refine Wc.region ?_
  by_cases hk2 : how = 2
  ·
   refine Wl.q (v := Value.bool true) (q_eql (r := true) rfl rfl (decide_eq_true hk2)) ?_
   refine Wl.q (v := Value.bool true) (q_assign rfl) ?_
   refine Wl.done ?_
   refine Wx.go ?_
   refine Wc.yes rfl ?_
   refine Wc.seq ?_
   refine Wc.drawsS [] ([]) (by kernel_rfl) ?_
   refine Wr.pure (v := Value.string s) 0 rfl (by kernel_rfl) (.inr (fun _ h => st_take [] h)) (.inl ⟨rfl, fun _ => q_move rfl⟩) ?_
   refine Wr.pure (v := Value.int .i64 32) 1 rfl (by kernel_rfl) (.inr (fun _ h => st_take [] h)) (.inl ⟨rfl, fun _ => q_move rfl⟩) ?_
   refine Wr.pure (v := Value.string (s.extract 0 32)) 2 rfl (by kernel_rfl) (.inr (fun _ h => st_take [] h)) (.inl ⟨rfl, fun _ => q_slice_str (l := 0) (h := 32) Try.underlying9 rfl rfl ⟨_, rfl⟩ (by omega) (by omega) rfl⟩) ?_
   refine Wr.pure (v := Value.string old) 3 rfl (by kernel_rfl) (.inr (fun _ h => st_take [] h)) (.inl ⟨rfl, fun _ => q_move rfl⟩) ?_
   refine Wr.pure (v := Value.int .i64 32) 4 rfl (by kernel_rfl) (.inr (fun _ h => st_take [] h)) (.inl ⟨rfl, fun _ => q_move rfl⟩) ?_
   refine Wr.pure (v := Value.string (old.extract 32 old.size)) 5 rfl (by kernel_rfl) (.inr (fun _ h => st_take [] h)) (.inl ⟨rfl, fun _ => q_slice_str (l := 32) (h := old.size) Try.underlying9 rfl ⟨_, rfl⟩ rfl (by omega) (by omega) rfl⟩) ?_
   refine Wr.pure (v := Value.string (s.extract 0 32 ++ old.extract 32 old.size)) 6 rfl (by kernel_rfl) (.inr (fun _ h => st_take [] h)) (.inl ⟨rfl, fun _ => q_cat (z := (s.extract 0 32 ++ old.extract 32 old.size)) rfl rfl (cat_bound h2 h1) rfl⟩) ?_
   refine Wr.pure (v := Value.string (s.extract 0 32 ++ old.extract 32 old.size)) 7 rfl (by kernel_rfl) (.inr (fun _ h => st_take [] h)) (.inl ⟨rfl, fun _ => q_assign rfl⟩) ?_
   refine Wr.done (by kernel_rfl) ?_
   refine Wx.go ?_
   refine Wc.ret ?_
   refine Wx.blockRet ?_
   refine Wx.thenRet ?_
   refine Wx.fin1 rfl (.inl rfl) (fun w hs => ?_)
   have e : torn old s how = (s.extract 0 32 ++ old.extract 32 old.size) := by rw [hk2]; rfl
   exact ⟨(), trivial, by rw [e]; rfl, hs⟩
  ·
   refine Wl.q (v := Value.bool false) (q_eql (r := false) rfl rfl (decide_eq_false hk2)) ?_
   refine Wl.q (v := Value.bool false) (q_assign rfl) ?_
   refine Wl.done ?_
   refine Wx.go ?_
   refine Wc.no rfl ?_
   refine Wc.seq ?_
   refine Wc.region ?_
   by_cases hk3 : how = 3
   ·
    refine Wl.q (v := Value.bool true) (q_eql (r := true) rfl rfl (decide_eq_true hk3)) ?_
    refine Wl.q (v := Value.bool true) (q_assign rfl) ?_
    refine Wl.done ?_
    refine Wx.go ?_
    refine Wc.yes rfl ?_
    refine Wc.seq ?_
    refine Wc.drawsS [] ([]) (by kernel_rfl) ?_
    refine Wr.pure (v := Value.string old) 0 rfl (by kernel_rfl) (.inr (fun _ h => st_take [] h)) (.inl ⟨rfl, fun _ => q_move rfl⟩) ?_
    refine Wr.pure (v := Value.int .i64 32) 1 rfl (by kernel_rfl) (.inr (fun _ h => st_take [] h)) (.inl ⟨rfl, fun _ => q_move rfl⟩) ?_
    refine Wr.pure (v := Value.string (old.extract 0 32)) 2 rfl (by kernel_rfl) (.inr (fun _ h => st_take [] h)) (.inl ⟨rfl, fun _ => q_slice_str (l := 0) (h := 32) Try.underlying9 rfl rfl ⟨_, rfl⟩ (by omega) (by omega) rfl⟩) ?_
    refine Wr.pure (v := Value.string s) 3 rfl (by kernel_rfl) (.inr (fun _ h => st_take [] h)) (.inl ⟨rfl, fun _ => q_move rfl⟩) ?_
    refine Wr.pure (v := Value.int .i64 32) 4 rfl (by kernel_rfl) (.inr (fun _ h => st_take [] h)) (.inl ⟨rfl, fun _ => q_move rfl⟩) ?_
    refine Wr.pure (v := Value.string (s.extract 32 s.size)) 5 rfl (by kernel_rfl) (.inr (fun _ h => st_take [] h)) (.inl ⟨rfl, fun _ => q_slice_str (l := 32) (h := s.size) Try.underlying9 rfl ⟨_, rfl⟩ rfl (by omega) (by omega) rfl⟩) ?_
    refine Wr.pure (v := Value.string (old.extract 0 32 ++ s.extract 32 s.size)) 6 rfl (by kernel_rfl) (.inr (fun _ h => st_take [] h)) (.inl ⟨rfl, fun _ => q_cat (z := (old.extract 0 32 ++ s.extract 32 s.size)) rfl rfl (cat_bound h1 h2) rfl⟩) ?_
    refine Wr.pure (v := Value.string (old.extract 0 32 ++ s.extract 32 s.size)) 7 rfl (by kernel_rfl) (.inr (fun _ h => st_take [] h)) (.inl ⟨rfl, fun _ => q_assign rfl⟩) ?_
    refine Wr.done (by kernel_rfl) ?_
    refine Wx.go ?_
    refine Wc.ret ?_
    refine Wx.blockRet ?_
    refine Wx.thenRet ?_
    refine Wx.fin1 rfl (.inl rfl) (fun w hs => ?_)
    have e : torn old s how = (old.extract 0 32 ++ s.extract 32 s.size) := by rw [hk3]; rfl
    exact ⟨(), trivial, by rw [e]; rfl, hs⟩
   ·
    refine Wl.q (v := Value.bool false) (q_eql (r := false) rfl rfl (decide_eq_false hk3)) ?_
    refine Wl.q (v := Value.bool false) (q_assign rfl) ?_
    refine Wl.done ?_
    refine Wx.go ?_
    refine Wc.no rfl ?_
    refine Wc.skip ?_
    refine Wx.blockEnd ?_
    refine Wx.go ?_
    refine Wc.seq ?_
    refine Wc.region ?_
    refine Wl.q (v := Value.string old) (q_move rfl) ?_
    refine Wl.q (v := Value.string old) (q_assign rfl) ?_
    refine Wl.done ?_
    refine Wx.go ?_
    refine Wc.ret ?_
    refine Wx.fin1 rfl (.inl rfl) (fun w hs => ?_)
    have e : torn old s how = old := by rw [show how = 0 by omega]; rfl
    exact ⟨(), trivial, by rw [e]; rfl, hs⟩

set_option maxRecDepth 4000 in
theorem rfalls_blk (W0 : World) (q bd cd : Nat) (secs : List ByteArray) (since : List (Nat × ByteArray)) (count : Nat) (down : Bool) (lv bv : Value) (bits : Int) (hw : WFl secs since) (hsince : since.length < 1099511627776) (b cap : Nat) (hcap : since.length ≤ cap) :
    Con Try.prog W0 66 #[Value.pointer (some ⟨q, 0, none⟩), Value.int .i64 bits] [slp 86 2 b cap (flat since), pt q 63 [Value.slice (some ⟨bd, 0, none⟩) secs.length cd, Value.slice (some ⟨b, 0, none⟩) since.length cap, Value.bool down, lv, bv, Value.int .i64 ((count : Nat) : Int)], slp 9 1 bd cd (secs.map Value.string)] (X := Unit) (fun _ => True) (fun _ => .tuple #[]) (fun _ => [pt q 63 [Value.slice (some ⟨bd, 0, none⟩) secs.length cd, Value.slice none 0 0, Value.bool true, Value.int .i64 (-1), bv, Value.int .i64 ((count : Nat) : Int)], slp 9 1 bd cd ((fallL secs (since.take 31) bits).map Value.string)]) := by
  refine Con.of (args := [Value.pointer (some ⟨q, 0, none⟩), Value.int .i64 bits]) Try.func66 rfl Try.ntmps66 rfl (fun F => ?_)
  show Wc _ W0 _ _ _ _ _ ((slp 86 2 b cap (flat since)) :: (pt q 63 [Value.slice (some ⟨bd, 0, none⟩) secs.length cd, Value.slice (some ⟨b, 0, none⟩) since.length cap, Value.bool down, lv, bv, Value.int .i64 ((count : Nat) : Int)]) :: (slp 9 1 bd cd (secs.map Value.string)) :: F)
  refine Wc.seq ?_
  refine Wc.seq ?_
  refine Wc.region ?_
  refine Wl.q (v := Value.int .i64 0) (q_assign rfl) ?_
  refine Wl.done ?_
  refine Wx.go ?_
  refine Wc.block ?_
  refine Wc.loop (X := Nat × List ByteArray) (fun (k, ss) E => E 4 = Value.int .i64 ((k : Nat) : Int) ∧ E 0 = Value.pointer (some ⟨q, 0, none⟩) ∧ E 1 = Value.int .i64 bits ∧ fallL ss ((since.take 31).drop k) (bits / 4 ^ k) = fallL secs (since.take 31) bits ∧ ss.length = secs.length ∧ (∀ s ∈ ss, s.size = 64) ∧ k ≤ min since.length 31) (fun (k, ss) => (slp 86 2 b cap (flat since)) :: (pt q 63 [Value.slice (some ⟨bd, 0, none⟩) secs.length cd, Value.slice (some ⟨b, 0, none⟩) since.length cap, Value.bool down, lv, bv, Value.int .i64 ((count : Nat) : Int)]) :: (slp 9 1 bd cd (ss.map Value.string)) :: F) (fun (k, ss) => 31 - k) (0, secs) ?_ ?_ ?_
  · exact ⟨rfl, rfl, rfl, (by simp), rfl, hw.size, (by omega)⟩
  · exact fun w hs => hs
  · rintro ⟨k, ss⟩ E2 ⟨hE4_0, hE0_0, hE1_0, hp0, hp1, hp2, hp3⟩
    dsimp only at *
    refine Wc.seq ?_
    refine Wc.seq ?_
    refine Wc.region ?_
    refine Wl.q (v := Value.int .i64 ((k : Nat) : Int)) (q_move hE4_0) ?_
    refine Wl.q (v := Value.pointer (some ⟨q, 0, none⟩)) (q_move hE0_0) ?_
    refine Wl.q (v := Value.pointer (some ⟨q, 0, none⟩)) (q_nil_ptr rfl) ?_
    refine Wl.q (v := Value.pointer (some ⟨q, 1, none⟩)) (q_field (m := 1) fo_63_1 rfl rfl) ?_
    refine Wl.q (v := Value.slice (some ⟨b, 0, none⟩) since.length cap) (q_load sc_34 rfl (.cel (i := 1) rfl rfl)) ?_
    refine Wl.q (v := Value.int .i64 ((since.length : Nat) : Int)) (q_len_slice Try.underlying34 rfl) ?_
    by_cases hlt : ((k : Nat) : Int) < ((since.length : Nat) : Int)
    ·
      refine Wl.q (v := Value.bool true) (q_lss (r := true) rfl rfl (decide_eq_true hlt)) ?_
      refine Wl.q (v := Value.bool true) (q_move rfl) ?_
      refine Wl.q (v := Value.int .i64 ((k : Nat) : Int)) (q_move hE4_0) ?_
      by_cases h31 : ((k : Nat) : Int) < 31
      ·
        obtain ⟨⟨a, s⟩, hget⟩ : ∃ q, since[k]? = some q := ⟨since[k]'(by omega), by simp [List.getElem?_eq_getElem (show k < since.length by omega)]⟩
        have hmem := List.mem_of_getElem? hget
        have ha : a < ss.length := by have := hw.at_ _ hmem; simp only at this; omega
        have hs : s.size = 64 := hw.size' _ hmem
        have hold : (ss.getD a default).size = 64 := by rw [List.getD_eq_getElem?_getD, List.getElem?_eq_getElem ha]; exact hp2 _ (List.getElem_mem ha)
        refine Wl.q (v := Value.bool true) (q_lss (r := true) rfl rfl (decide_eq_true h31)) ?_
        refine Wl.q (v := Value.bool true) (q_pick (t := true) rfl rfl) ?_
        refine Wl.done ?_
        refine Wx.go ?_
        refine Wc.yes rfl ?_
        refine Wc.skip ?_
        refine Wx.go ?_
        refine Wc.seq ?_
        refine Wc.block ?_
        refine Wc.seq ?_
        refine Wc.region ?_
        refine Wl.q (v := Value.pointer (some ⟨q, 0, none⟩)) (q_move hE0_0) ?_
        refine Wl.q (v := Value.pointer (some ⟨q, 0, none⟩)) (q_nil_ptr rfl) ?_
        refine Wl.q (v := Value.pointer (some ⟨q, 1, none⟩)) (q_field (m := 1) fo_63_1 rfl rfl) ?_
        refine Wl.q (v := Value.slice (some ⟨b, 0, none⟩) since.length cap) (q_load sc_34 rfl (.cel (i := 1) rfl rfl)) ?_
        refine Wl.q (v := Value.int .i64 ((k : Nat) : Int)) (q_move hE4_0) ?_
        refine Wl.q (v := Value.pointer (some ⟨b, k * 2, none⟩)) (q_idx (m := k * 2) se_34 rfl rfl (by omega) (by omega) (by simp)) ?_
        refine Wl.q (v := Value.agg #[Value.int .i64 ((a : Nat) : Int), Value.string s]) (q_loadAgg (vs := [Value.int .i64 ((a : Nat) : Int), Value.string s]) ag_86 rfl (flat_has (i := 0) rfl hget)) ?_
        refine Wl.e (e_alloc (vs := [Value.int .i64 0, Value.string (⟨#[]⟩)]) zo_86 rfl) (fun bx _ => ?_)
        refine Wl.imp (L' := (pt bx 86 ([Value.int .i64 0, Value.string (⟨#[]⟩)])) :: (slp 86 2 b cap (flat since)) :: (pt q 63 [Value.slice (some ⟨bd, 0, none⟩) secs.length cd, Value.slice (some ⟨b, 0, none⟩) since.length cap, Value.bool down, lv, bv, Value.int .i64 ((count : Nat) : Int)]) :: (slp 9 1 bd cd (ss.map Value.string)) :: F) (fun _ h => h) ?_
        refine Wl.e (e_storeAgg (i := 0) (vs := [Value.int .i64 ((a : Nat) : Int), Value.string s]) (c' := [Value.int .i64 ((a : Nat) : Int), Value.string s]) sz_86 rfl rfl rfl rfl (by simp) rfl) (fun _ _ => ?_)
        refine Wl.imp (L' := (pt bx 86 [Value.int .i64 ((a : Nat) : Int), Value.string s]) :: (slp 86 2 b cap (flat since)) :: (pt q 63 [Value.slice (some ⟨bd, 0, none⟩) secs.length cd, Value.slice (some ⟨b, 0, none⟩) since.length cap, Value.bool down, lv, bv, Value.int .i64 ((count : Nat) : Int)]) :: (slp 9 1 bd cd (ss.map Value.string)) :: F) (fun _ h => h) ?_
        refine Wl.done ?_
        refine Wx.go ?_
        refine Wc.drawsS [23] ((pt bx 86 [Value.int .i64 ((a : Nat) : Int), Value.string s]) :: (slp 86 2 b cap (flat since)) :: (pt q 63 [Value.slice (some ⟨bd, 0, none⟩) secs.length cd, Value.slice (some ⟨b, 0, none⟩) since.length cap, Value.bool down, lv, bv, Value.int .i64 ((count : Nat) : Int)]) :: (slp 9 1 bd cd (ss.map Value.string)) :: []) (by kernel_rfl) ?_
        refine Wr.pure (v := Value.pointer (some ⟨q, 0, none⟩)) 0 rfl (by kernel_rfl) (.inr (fun _ h => st_take [0, 0, 0, 0] h)) (.inl ⟨rfl, fun _ => q_move hE0_0⟩) ?_
        refine Wr.pure (v := Value.pointer (some ⟨q, 0, none⟩)) 1 rfl (by kernel_rfl) (.inr (fun _ h => st_take [0, 0, 0, 0] h)) (.inl ⟨rfl, fun _ => q_nil_ptr rfl⟩) ?_
        refine Wr.pure (v := Value.pointer (some ⟨q, 0, none⟩)) 2 rfl (by kernel_rfl) (.inr (fun _ h => st_take [0, 0, 0, 0] h)) (.inl ⟨rfl, fun _ => q_field (m := 0) fo_63_0 rfl rfl⟩) ?_
        refine Wr.take (v := Value.slice (some ⟨bd, 0, none⟩) secs.length cd) 3 rfl (by kernel_rfl) (fun _ h => st_take [0, 0, 0, 0] h) (.inl ⟨rfl, q_load sc_33 rfl (.cel (i := 2) rfl rfl)⟩) ?_
        refine Wr.pure (v := Value.pointer (some ⟨bx, 0, none⟩)) 4 rfl (by kernel_rfl) (.inr (fun _ h => st_take [0, 0, 0, 0] h)) (.inl ⟨rfl, fun _ => q_field (m := 0) fo_86_0 rfl rfl⟩) ?_
        refine Wr.take (v := Value.int .i64 ((a : Nat) : Int)) 5 rfl (by kernel_rfl) (fun _ h => st_take [0, 0, 0, 0] h) (.inl ⟨rfl, q_load sc_3 rfl (.cel (i := 0) rfl rfl)⟩) ?_
        refine Wr.pure (v := Value.pointer (some ⟨q, 0, none⟩)) 6 rfl (by kernel_rfl) (.inr (fun _ h => st_take [0, 0, 0, 0] h)) (.inl ⟨rfl, fun _ => q_move hE0_0⟩) ?_
        refine Wr.pure (v := Value.pointer (some ⟨q, 0, none⟩)) 7 rfl (by kernel_rfl) (.inr (fun _ h => st_take [0, 0, 0, 0] h)) (.inl ⟨rfl, fun _ => q_nil_ptr rfl⟩) ?_
        refine Wr.pure (v := Value.pointer (some ⟨q, 0, none⟩)) 8 rfl (by kernel_rfl) (.inr (fun _ h => st_take [0, 0, 0, 0] h)) (.inl ⟨rfl, fun _ => q_field (m := 0) fo_63_0 rfl rfl⟩) ?_
        refine Wr.take (v := Value.slice (some ⟨bd, 0, none⟩) secs.length cd) 9 rfl (by kernel_rfl) (fun _ h => st_take [0, 0, 0, 0] h) (.inl ⟨rfl, q_load sc_33 rfl (.cel (i := 2) rfl rfl)⟩) ?_
        refine Wr.pure (v := Value.pointer (some ⟨bx, 0, none⟩)) 10 rfl (by kernel_rfl) (.inr (fun _ h => st_take [0, 0, 0, 0] h)) (.inl ⟨rfl, fun _ => q_field (m := 0) fo_86_0 rfl rfl⟩) ?_
        refine Wr.take (v := Value.int .i64 ((a : Nat) : Int)) 11 rfl (by kernel_rfl) (fun _ h => st_take [0, 0, 0, 0] h) (.inl ⟨rfl, q_load sc_3 rfl (.cel (i := 0) rfl rfl)⟩) ?_
        refine Wr.pure (v := Value.pointer (some ⟨bd, a, none⟩)) 12 rfl (by kernel_rfl) (.inr (fun _ h => st_take [0, 0, 0, 0] h)) (.inl ⟨rfl, fun _ => q_idx (m := a) se_33 rfl rfl (by omega) (by omega) (by simp)⟩) ?_
        refine Wr.take (v := Value.string (ss.getD a default)) 13 rfl (by kernel_rfl) (fun _ h => st_take [0, 0, 0, 0] h) (.inl ⟨rfl, q_load sc_9 rfl (.row (i := 3) rfl (map_get ha))⟩) ?_
        refine Wr.pure (v := Value.pointer (some ⟨bx, 1, none⟩)) 14 rfl (by kernel_rfl) (.inr (fun _ h => st_take [0, 0, 0, 0] h)) (.inl ⟨rfl, fun _ => q_field (m := 1) fo_86_1 rfl rfl⟩) ?_
        refine Wr.take (v := Value.string s) 15 rfl (by kernel_rfl) (fun _ h => st_take [0, 0, 0, 0] h) (.inl ⟨rfl, q_load sc_9 rfl (.cel (i := 0) rfl rfl)⟩) ?_
        refine Wr.pure (v := Value.int .i64 bits) 16 rfl (by kernel_rfl) (.inr (fun _ h => st_take [0, 0, 0, 0] h)) (.inl ⟨rfl, fun _ => q_move hE1_0⟩) ?_
        refine Wr.pure (v := Value.int .i64 ((k : Nat) : Int)) 17 rfl (by kernel_rfl) (.inr (fun _ h => st_take [0, 0, 0, 0] h)) (.inl ⟨rfl, fun _ => q_move hE4_0⟩) ?_
        refine Wr.pure (v := Value.int .i64 ((2 * k : Nat) : Int)) 18 rfl (by kernel_rfl) (.inr (fun _ h => st_take [0, 0, 0, 0] h)) (.inl ⟨rfl, fun _ => q_mul (c := ((2 * k : Nat) : Int)) rfl rfl (by rw [wrap_i64] <;> omega)⟩) ?_
        refine Wr.pure (v := Value.int .i64 (bits / 4 ^ k)) 19 rfl (by kernel_rfl) (.inr (fun _ h => st_take [0, 0, 0, 0] h)) (.inl ⟨rfl, fun _ => q_shr (c := (bits / 4 ^ k)) rfl rfl (by omega) (shr4 (by omega))⟩) ?_
        refine Wr.pure (v := Value.int .i64 (bits / 4 ^ k % 4)) 20 rfl (by kernel_rfl) (.inr (fun _ h => st_take [0, 0, 0, 0] h)) (.inl ⟨rfl, fun _ => q_and (c := (bits / 4 ^ k % 4)) rfl rfl (and3 _)⟩) ?_
        refine Wr.e 21 (by kernel_rfl) rfl (e_call (F := (pt bx 86 [Value.int .i64 ((a : Nat) : Int), Value.string s]) :: (slp 86 2 b cap (flat since)) :: (pt q 63 [Value.slice (some ⟨bd, 0, none⟩) secs.length cd, Value.slice (some ⟨b, 0, none⟩) since.length cap, Value.bool down, lv, bv, Value.int .i64 ((count : Nat) : Int)]) :: (slp 9 1 bd cd (ss.map Value.string)) :: F) (args := [Value.string (ss.getD a default), Value.string s, Value.int .i64 (bits / 4 ^ k % 4)]) Try.call74 rfl (rtorn_c W0 (ss.getD a default) s (bits / 4 ^ k % 4) (by assumption) (by assumption) (by omega) (by omega))) (.inr fun _ _ _ h => st_take [0, 0, 0, 0] h) (fun _ _ => ?_)
        refine Wr.imp (L' := (pt bx 86 [Value.int .i64 ((a : Nat) : Int), Value.string s]) :: (slp 86 2 b cap (flat since)) :: (pt q 63 [Value.slice (some ⟨bd, 0, none⟩) secs.length cd, Value.slice (some ⟨b, 0, none⟩) since.length cap, Value.bool down, lv, bv, Value.int .i64 ((count : Nat) : Int)]) :: (slp 9 1 bd cd (ss.map Value.string)) :: F) (fun _ h => h) ?_
        refine Wr.pure (v := Value.pointer (some ⟨bd, a, none⟩)) 22 rfl (by kernel_rfl) (.inr (fun _ h => st_take [0, 0, 0, 0] h)) (.inl ⟨rfl, fun _ => q_idx (m := a) se_33 rfl rfl (by omega) (by omega) (by simp)⟩) ?_
        refine Wr.e 23 (by kernel_rfl) rfl (e_store_slp (i := 3) (vs := [Value.string (torn (ss.getD a default) s (bits / 4 ^ k % 4))]) (c' := (ss.set a (torn (ss.getD a default) s (bits / 4 ^ k % 4))).map Value.string) sz_9 rfl (congrArg Value.cells (rfl)) rfl rfl (by simp; omega) (splice_one ha)) (.inl (by kernel_rfl)) (fun _ _ => ?_)
        refine Wr.imp (L' := (pt bx 86 [Value.int .i64 ((a : Nat) : Int), Value.string s]) :: (slp 86 2 b cap (flat since)) :: (pt q 63 [Value.slice (some ⟨bd, 0, none⟩) secs.length cd, Value.slice (some ⟨b, 0, none⟩) since.length cap, Value.bool down, lv, bv, Value.int .i64 ((count : Nat) : Int)]) :: (slp 9 1 bd cd ((ss.set a (torn (ss.getD a default) s (bits / 4 ^ k % 4))).map Value.string)) :: F) (fun _ h => h) ?_
        refine Wr.rebaseS [] ((pt bx 86 [Value.int .i64 ((a : Nat) : Int), Value.string s]) :: (slp 86 2 b cap (flat since)) :: (pt q 63 [Value.slice (some ⟨bd, 0, none⟩) secs.length cd, Value.slice (some ⟨b, 0, none⟩) since.length cap, Value.bool down, lv, bv, Value.int .i64 ((count : Nat) : Int)]) :: (slp 9 1 bd cd ((ss.set a (torn (ss.getD a default) s (bits / 4 ^ k % 4))).map Value.string)) :: []) (by kernel_rfl) ?_
        refine Wr.done (by kernel_rfl) ?_
        refine Wx.blockEnd ?_
        refine Wx.go ?_
        refine Wc.region ?_
        refine Wl.q (v := Value.int .i64 ((k : Nat) : Int)) (q_move hE4_0) ?_
        refine Wl.q (v := Value.int .i64 ((k + 1 : Nat) : Int)) (q_add (c := ((k + 1 : Nat) : Int)) rfl rfl (by rw [wrap_i64] <;> omega)) ?_
        refine Wl.q (v := Value.int .i64 ((k + 1 : Nat) : Int)) (q_assign rfl) ?_
        refine Wl.done ?_
        refine Wx.at (k + 1, ss.set a (torn (ss.getD a default) s (bits / 4 ^ k % 4))) ⟨(by simp only; omega), rfl, hE0_0, hE1_0, (fall_pow hget (by omega) hp0), (by simpa using hp1), (fun u hu => (List.mem_or_eq_of_mem_set hu).elim (hp2 u) (fun e => by rw [e]; exact torn_size _ hold hs)), (by omega)⟩ (fun w hs => (st_drop (st_pull [0] hs)))
      ·
        refine Wl.q (v := Value.bool false) (q_lss (r := false) rfl rfl (decide_eq_false h31)) ?_
        refine Wl.q (v := Value.bool false) (q_pick (t := true) rfl rfl) ?_
        refine Wl.done ?_
        refine Wx.go ?_
        refine Wc.no rfl ?_
        refine Wc.exit ?_
        refine Wx.thenExit ?_
        refine Wx.thenExit ?_
        refine Wx.out ?_
        refine Wx.go ?_
        refine Wc.seq ?_
        refine Wc.region ?_
        refine Wl.q (v := Value.pointer (some ⟨q, 0, none⟩)) (q_move hE0_0) ?_
        refine Wl.q (v := Value.pointer (some ⟨q, 0, none⟩)) (q_nil_ptr rfl) ?_
        refine Wl.q (v := Value.pointer (some ⟨q, 1, none⟩)) (q_field (m := 1) fo_63_1 rfl rfl) ?_
        refine Wl.e (e_store (i := 1) (v := Value.slice none 0 0) sz_34 rfl rfl (fun _ _ => rfl) rfl (by simp)) (fun _ _ => ?_)
        refine Wl.imp (L' := (slp 86 2 b cap (flat since)) :: (pt q 63 [Value.slice (some ⟨bd, 0, none⟩) secs.length cd, Value.slice none 0 0, Value.bool down, lv, bv, Value.int .i64 ((count : Nat) : Int)]) :: (slp 9 1 bd cd (ss.map Value.string)) :: F) (fun _ h => h) ?_
        refine Wl.done ?_
        refine Wx.go ?_
        refine Wc.seq ?_
        refine Wc.region ?_
        refine Wl.q (v := Value.pointer (some ⟨q, 0, none⟩)) (q_move hE0_0) ?_
        refine Wl.q (v := Value.pointer (some ⟨q, 0, none⟩)) (q_nil_ptr rfl) ?_
        refine Wl.q (v := Value.pointer (some ⟨q, 2, none⟩)) (q_field (m := 2) fo_63_2 rfl rfl) ?_
        refine Wl.e (e_store (i := 1) (v := Value.bool true) sz_4 rfl rfl (fun _ _ => rfl) rfl (by simp)) (fun _ _ => ?_)
        refine Wl.imp (L' := (slp 86 2 b cap (flat since)) :: (pt q 63 [Value.slice (some ⟨bd, 0, none⟩) secs.length cd, Value.slice none 0 0, Value.bool true, lv, bv, Value.int .i64 ((count : Nat) : Int)]) :: (slp 9 1 bd cd (ss.map Value.string)) :: F) (fun _ h => h) ?_
        refine Wl.done ?_
        refine Wx.go ?_
        refine Wc.region ?_
        refine Wl.q (v := Value.pointer (some ⟨q, 0, none⟩)) (q_move hE0_0) ?_
        refine Wl.q (v := Value.pointer (some ⟨q, 0, none⟩)) (q_nil_ptr rfl) ?_
        refine Wl.q (v := Value.pointer (some ⟨q, 3, none⟩)) (q_field (m := 3) fo_63_3 rfl rfl) ?_
        refine Wl.e (e_store (i := 1) (v := Value.int .i64 (-1)) sz_3 rfl rfl (fun _ _ => rfl) rfl (by simp)) (fun _ _ => ?_)
        refine Wl.imp (L' := (slp 86 2 b cap (flat since)) :: (pt q 63 [Value.slice (some ⟨bd, 0, none⟩) secs.length cd, Value.slice none 0 0, Value.bool true, Value.int .i64 (-1), bv, Value.int .i64 ((count : Nat) : Int)]) :: (slp 9 1 bd cd (ss.map Value.string)) :: F) (fun _ h => h) ?_
        refine Wl.done ?_
        refine Wx.fin0 rfl (.inr rfl) (fun w hs => ?_)
        have hend : k = min since.length 31 := by omega
        rw [hend, List.drop_of_length_le (by simp; omega)] at hp0
        simp only [fallL] at hp0
        rw [← hp0]
        exact ⟨(), trivial, rfl, (st_drop (st_pull [0] hs))⟩
    ·
      refine Wl.q (v := Value.bool false) (q_lss (r := false) rfl rfl (decide_eq_false hlt)) ?_
      refine Wl.q (v := Value.bool false) (q_move rfl) ?_
      refine Wl.no ?_
      refine Wl.no ?_
      refine Wl.q (v := Value.bool false) (q_pick (t := false) rfl rfl) ?_
      refine Wl.done ?_
      refine Wx.go ?_
      refine Wc.no rfl ?_
      refine Wc.exit ?_
      refine Wx.thenExit ?_
      refine Wx.thenExit ?_
      refine Wx.out ?_
      refine Wx.go ?_
      refine Wc.seq ?_
      refine Wc.region ?_
      refine Wl.q (v := Value.pointer (some ⟨q, 0, none⟩)) (q_move hE0_0) ?_
      refine Wl.q (v := Value.pointer (some ⟨q, 0, none⟩)) (q_nil_ptr rfl) ?_
      refine Wl.q (v := Value.pointer (some ⟨q, 1, none⟩)) (q_field (m := 1) fo_63_1 rfl rfl) ?_
      refine Wl.e (e_store (i := 1) (v := Value.slice none 0 0) sz_34 rfl rfl (fun _ _ => rfl) rfl (by simp)) (fun _ _ => ?_)
      refine Wl.imp (L' := (slp 86 2 b cap (flat since)) :: (pt q 63 [Value.slice (some ⟨bd, 0, none⟩) secs.length cd, Value.slice none 0 0, Value.bool down, lv, bv, Value.int .i64 ((count : Nat) : Int)]) :: (slp 9 1 bd cd (ss.map Value.string)) :: F) (fun _ h => h) ?_
      refine Wl.done ?_
      refine Wx.go ?_
      refine Wc.seq ?_
      refine Wc.region ?_
      refine Wl.q (v := Value.pointer (some ⟨q, 0, none⟩)) (q_move hE0_0) ?_
      refine Wl.q (v := Value.pointer (some ⟨q, 0, none⟩)) (q_nil_ptr rfl) ?_
      refine Wl.q (v := Value.pointer (some ⟨q, 2, none⟩)) (q_field (m := 2) fo_63_2 rfl rfl) ?_
      refine Wl.e (e_store (i := 1) (v := Value.bool true) sz_4 rfl rfl (fun _ _ => rfl) rfl (by simp)) (fun _ _ => ?_)
      refine Wl.imp (L' := (slp 86 2 b cap (flat since)) :: (pt q 63 [Value.slice (some ⟨bd, 0, none⟩) secs.length cd, Value.slice none 0 0, Value.bool true, lv, bv, Value.int .i64 ((count : Nat) : Int)]) :: (slp 9 1 bd cd (ss.map Value.string)) :: F) (fun _ h => h) ?_
      refine Wl.done ?_
      refine Wx.go ?_
      refine Wc.region ?_
      refine Wl.q (v := Value.pointer (some ⟨q, 0, none⟩)) (q_move hE0_0) ?_
      refine Wl.q (v := Value.pointer (some ⟨q, 0, none⟩)) (q_nil_ptr rfl) ?_
      refine Wl.q (v := Value.pointer (some ⟨q, 3, none⟩)) (q_field (m := 3) fo_63_3 rfl rfl) ?_
      refine Wl.e (e_store (i := 1) (v := Value.int .i64 (-1)) sz_3 rfl rfl (fun _ _ => rfl) rfl (by simp)) (fun _ _ => ?_)
      refine Wl.imp (L' := (slp 86 2 b cap (flat since)) :: (pt q 63 [Value.slice (some ⟨bd, 0, none⟩) secs.length cd, Value.slice none 0 0, Value.bool true, Value.int .i64 (-1), bv, Value.int .i64 ((count : Nat) : Int)]) :: (slp 9 1 bd cd (ss.map Value.string)) :: F) (fun _ h => h) ?_
      refine Wl.done ?_
      refine Wx.fin0 rfl (.inr rfl) (fun w hs => ?_)
      have hend : k = min since.length 31 := by omega
      rw [hend, List.drop_of_length_le (by simp; omega)] at hp0
      simp only [fallL] at hp0
      rw [← hp0]
      exact ⟨(), trivial, rfl, (st_drop (st_pull [0] hs))⟩

set_option maxRecDepth 4000 in
theorem rfalls_nil (W0 : World) (q bd cd : Nat) (secs : List ByteArray) (since : List (Nat × ByteArray)) (count : Nat) (down : Bool) (lv bv : Value) (bits : Int) (hw : WFl secs since) (hsince : since.length < 1099511627776) (hnil : since = []) :
    Con Try.prog W0 66 #[Value.pointer (some ⟨q, 0, none⟩), Value.int .i64 bits] [pt q 63 [Value.slice (some ⟨bd, 0, none⟩) secs.length cd, Value.slice none 0 0, Value.bool down, lv, bv, Value.int .i64 ((count : Nat) : Int)], slp 9 1 bd cd (secs.map Value.string)] (X := Unit) (fun _ => True) (fun _ => .tuple #[]) (fun _ => [pt q 63 [Value.slice (some ⟨bd, 0, none⟩) secs.length cd, Value.slice none 0 0, Value.bool true, Value.int .i64 (-1), bv, Value.int .i64 ((count : Nat) : Int)], slp 9 1 bd cd ((fallL secs (since.take 31) bits).map Value.string)]) := by
  refine Con.of (args := [Value.pointer (some ⟨q, 0, none⟩), Value.int .i64 bits]) Try.func66 rfl Try.ntmps66 rfl (fun F => ?_)
  show Wc _ W0 _ _ _ _ _ ((pt q 63 [Value.slice (some ⟨bd, 0, none⟩) secs.length cd, Value.slice none 0 0, Value.bool down, lv, bv, Value.int .i64 ((count : Nat) : Int)]) :: (slp 9 1 bd cd (secs.map Value.string)) :: F)
  refine Wc.seq ?_
  refine Wc.seq ?_
  refine Wc.region ?_
  refine Wl.q (v := Value.int .i64 0) (q_assign rfl) ?_
  refine Wl.done ?_
  refine Wx.go ?_
  refine Wc.block ?_
  refine Wc.loop (X := Nat × List ByteArray) (fun (k, ss) E => E 4 = Value.int .i64 ((k : Nat) : Int) ∧ E 0 = Value.pointer (some ⟨q, 0, none⟩) ∧ E 1 = Value.int .i64 bits ∧ fallL ss ((since.take 31).drop k) (bits / 4 ^ k) = fallL secs (since.take 31) bits ∧ ss.length = secs.length ∧ (∀ s ∈ ss, s.size = 64) ∧ k ≤ min since.length 31) (fun (k, ss) => (pt q 63 [Value.slice (some ⟨bd, 0, none⟩) secs.length cd, Value.slice none 0 0, Value.bool down, lv, bv, Value.int .i64 ((count : Nat) : Int)]) :: (slp 9 1 bd cd (ss.map Value.string)) :: F) (fun (k, ss) => 31 - k) (0, secs) ?_ ?_ ?_
  · exact ⟨rfl, rfl, rfl, (by simp), rfl, hw.size, (by omega)⟩
  · exact fun w hs => hs
  · rintro ⟨k, ss⟩ E2 ⟨hE4_0, hE0_0, hE1_0, hp0, hp1, hp2, hp3⟩
    dsimp only at *
    have hsl : since.length = 0 := by rw [hnil]; rfl
    refine Wc.seq ?_
    refine Wc.seq ?_
    refine Wc.region ?_
    refine Wl.q (v := Value.int .i64 ((k : Nat) : Int)) (q_move hE4_0) ?_
    refine Wl.q (v := Value.pointer (some ⟨q, 0, none⟩)) (q_move hE0_0) ?_
    refine Wl.q (v := Value.pointer (some ⟨q, 0, none⟩)) (q_nil_ptr rfl) ?_
    refine Wl.q (v := Value.pointer (some ⟨q, 1, none⟩)) (q_field (m := 1) fo_63_1 rfl rfl) ?_
    refine Wl.q (v := Value.slice none 0 0) (q_load sc_34 rfl (.cel (i := 0) rfl rfl)) ?_
    refine Wl.q (v := Value.int .i64 0) (q_len_slice Try.underlying34 rfl) ?_
    by_cases hlt : ((k : Nat) : Int) < 0
    ·
      exfalso; omega
    ·
      refine Wl.q (v := Value.bool false) (q_lss (r := false) rfl rfl (decide_eq_false hlt)) ?_
      refine Wl.q (v := Value.bool false) (q_move rfl) ?_
      refine Wl.no ?_
      refine Wl.no ?_
      refine Wl.q (v := Value.bool false) (q_pick (t := false) rfl rfl) ?_
      refine Wl.done ?_
      refine Wx.go ?_
      refine Wc.no rfl ?_
      refine Wc.exit ?_
      refine Wx.thenExit ?_
      refine Wx.thenExit ?_
      refine Wx.out ?_
      refine Wx.go ?_
      refine Wc.seq ?_
      refine Wc.region ?_
      refine Wl.q (v := Value.pointer (some ⟨q, 0, none⟩)) (q_move hE0_0) ?_
      refine Wl.q (v := Value.pointer (some ⟨q, 0, none⟩)) (q_nil_ptr rfl) ?_
      refine Wl.q (v := Value.pointer (some ⟨q, 1, none⟩)) (q_field (m := 1) fo_63_1 rfl rfl) ?_
      refine Wl.e (e_store (i := 0) (v := Value.slice none 0 0) sz_34 rfl rfl (fun _ _ => rfl) rfl (by simp)) (fun _ _ => ?_)
      refine Wl.imp (L' := (pt q 63 [Value.slice (some ⟨bd, 0, none⟩) secs.length cd, Value.slice none 0 0, Value.bool down, lv, bv, Value.int .i64 ((count : Nat) : Int)]) :: (slp 9 1 bd cd (ss.map Value.string)) :: F) (fun _ h => h) ?_
      refine Wl.done ?_
      refine Wx.go ?_
      refine Wc.seq ?_
      refine Wc.region ?_
      refine Wl.q (v := Value.pointer (some ⟨q, 0, none⟩)) (q_move hE0_0) ?_
      refine Wl.q (v := Value.pointer (some ⟨q, 0, none⟩)) (q_nil_ptr rfl) ?_
      refine Wl.q (v := Value.pointer (some ⟨q, 2, none⟩)) (q_field (m := 2) fo_63_2 rfl rfl) ?_
      refine Wl.e (e_store (i := 0) (v := Value.bool true) sz_4 rfl rfl (fun _ _ => rfl) rfl (by simp)) (fun _ _ => ?_)
      refine Wl.imp (L' := (pt q 63 [Value.slice (some ⟨bd, 0, none⟩) secs.length cd, Value.slice none 0 0, Value.bool true, lv, bv, Value.int .i64 ((count : Nat) : Int)]) :: (slp 9 1 bd cd (ss.map Value.string)) :: F) (fun _ h => h) ?_
      refine Wl.done ?_
      refine Wx.go ?_
      refine Wc.region ?_
      refine Wl.q (v := Value.pointer (some ⟨q, 0, none⟩)) (q_move hE0_0) ?_
      refine Wl.q (v := Value.pointer (some ⟨q, 0, none⟩)) (q_nil_ptr rfl) ?_
      refine Wl.q (v := Value.pointer (some ⟨q, 3, none⟩)) (q_field (m := 3) fo_63_3 rfl rfl) ?_
      refine Wl.e (e_store (i := 0) (v := Value.int .i64 (-1)) sz_3 rfl rfl (fun _ _ => rfl) rfl (by simp)) (fun _ _ => ?_)
      refine Wl.imp (L' := (pt q 63 [Value.slice (some ⟨bd, 0, none⟩) secs.length cd, Value.slice none 0 0, Value.bool true, Value.int .i64 (-1), bv, Value.int .i64 ((count : Nat) : Int)]) :: (slp 9 1 bd cd (ss.map Value.string)) :: F) (fun _ h => h) ?_
      refine Wl.done ?_
      refine Wx.fin0 rfl (.inr rfl) (fun w hs => ?_)
      have hend : k = min since.length 31 := by omega
      rw [hend, List.drop_of_length_le (by simp; omega)] at hp0
      simp only [fallL] at hp0
      rw [← hp0]
      exact ⟨(), trivial, rfl, hs⟩

theorem rfalls_c (W0 : World) (q bd cd : Nat) (secs : List ByteArray) (since : List (Nat × ByteArray)) (count : Nat) (down : Bool) (lv bv : Value) (bits : Int) (hw : WFl secs since) (hsince : since.length < 1099511627776) (sv : Value) :
  Con Try.prog W0 66 #[Value.pointer (some ⟨q, 0, none⟩), Value.int .i64 bits] [sl 86 2 sv since.length (flat since), pt q 63 [Value.slice (some ⟨bd, 0, none⟩) secs.length cd, sv, Value.bool down, lv, bv, Value.int .i64 ((count : Nat) : Int)], slp 9 1 bd cd (secs.map Value.string)] (X := Unit) (fun _ => True) (fun _ => .tuple #[]) (fun _ => [pt q 63 [Value.slice (some ⟨bd, 0, none⟩) secs.length cd, Value.slice none 0 0, Value.bool true, Value.int .i64 (-1), bv, Value.int .i64 ((count : Nat) : Int)], slp 9 1 bd cd ((fallL secs (since.take 31) bits).map Value.string)]) := by
 refine Con.sl (fun e1 e2 e3 => ?_) (fun b cap e1 e2 e3 => ?_)
 · subst e1; exact rfalls_nil W0 q bd cd secs since count down lv bv bits hw hsince (List.eq_nil_of_length_eq_zero e2)
 · subst e1; exact rfalls_blk W0 q bd cd secs since count down lv bv bits hw hsince b cap e2

theorem rdoes_none (W0 : World) (q bd cd : Nat) (secs : List ByteArray) (since : List (Nat × ByteArray)) (count : Nat) (sv : Value) (bv : Value) (hcount : count < 4611686018427387904) :
  Con Try.prog W0 69 #[Value.pointer (some ⟨q, 0, none⟩)] [pt q 63 [Value.slice (some ⟨bd, 0, none⟩) secs.length cd, sv, Value.bool false, Value.int .i64 (-1), bv, Value.int .i64 ((count : Nat) : Int)]] (X := Unit) (fun _ => True) (fun _ => .bool true) (fun _ => [pt q 63 [Value.slice (some ⟨bd, 0, none⟩) secs.length cd, sv, Value.bool false, Value.int .i64 (-1), bv, Value.int .i64 (((count + 1) : Nat) : Int)]]) := by
 refine Con.of (args := [Value.pointer (some ⟨q, 0, none⟩)]) Try.func69 rfl Try.ntmps69 rfl (fun F => ?_)
 show Wc _ W0 _ _ _ _ _ ((pt q 63 [Value.slice (some ⟨bd, 0, none⟩) secs.length cd, sv, Value.bool false, Value.int .i64 (-1), bv, Value.int .i64 ((count : Nat) : Int)]) :: F)
 refine Wc.seq ?_
 refine Wc.region ?_
 refine Wl.q (v := Value.bool false) (q_assign rfl) ?_
 refine Wl.done ?_
 refine Wx.go ?_
 refine Wc.seq ?_
 refine Wc.seq ?_
 refine Wc.region ?_
 refine Wl.q (v := Value.pointer (some ⟨q, 0, none⟩)) (q_move rfl) ?_
 refine Wl.q (v := Value.pointer (some ⟨q, 0, none⟩)) (q_nil_ptr rfl) ?_
 refine Wl.q (v := Value.pointer (some ⟨q, 3, none⟩)) (q_field (m := 3) fo_63_3 rfl rfl) ?_
 refine Wl.q (v := Value.int .i64 (-1)) (q_load sc_3 rfl (.cel (i := 0) rfl rfl)) ?_
 refine Wl.q (v := Value.bool false) (q_eql (r := false) rfl rfl (decide_eq_false (by decide))) ?_
 refine Wl.done ?_
 refine Wx.go ?_
 refine Wc.no rfl ?_
 refine Wc.skip ?_
 refine Wx.go ?_
 refine Wc.seq ?_
 refine Wc.seq ?_
 refine Wc.region ?_
 refine Wl.q (v := Value.pointer (some ⟨q, 0, none⟩)) (q_move rfl) ?_
 refine Wl.q (v := Value.pointer (some ⟨q, 0, none⟩)) (q_nil_ptr rfl) ?_
 refine Wl.q (v := Value.pointer (some ⟨q, 3, none⟩)) (q_field (m := 3) fo_63_3 rfl rfl) ?_
 refine Wl.q (v := Value.int .i64 (-1)) (q_load sc_3 rfl (.cel (i := 0) rfl rfl)) ?_
 refine Wl.q (v := Value.bool false) (q_gtr (r := false) rfl rfl (decide_eq_false (by decide))) ?_
 refine Wl.done ?_
 refine Wx.go ?_
 refine Wc.no rfl ?_
 refine Wc.skip ?_
 refine Wx.go ?_
 refine Wc.seq ?_
 refine Wc.region ?_
 refine Wl.q (v := Value.pointer (some ⟨q, 0, none⟩)) (q_move rfl) ?_
 refine Wl.q (v := Value.pointer (some ⟨q, 0, none⟩)) (q_nil_ptr rfl) ?_
 refine Wl.q (v := Value.pointer (some ⟨q, 5, none⟩)) (q_field (m := 5) fo_63_5 rfl rfl) ?_
 refine Wl.q (v := Value.int .i64 ((count : Nat) : Int)) (q_load sc_3 rfl (.cel (i := 0) rfl rfl)) ?_
 refine Wl.q (v := Value.int .i64 ((count + 1 : Nat) : Int)) (q_add (c := ((count + 1 : Nat) : Int)) rfl rfl (by rw [wrap_i64] <;> omega)) ?_
 refine Wl.q (v := Value.pointer (some ⟨q, 0, none⟩)) (q_nil_ptr rfl) ?_
 refine Wl.q (v := Value.pointer (some ⟨q, 5, none⟩)) (q_field (m := 5) fo_63_5 rfl rfl) ?_
 refine Wl.e (e_store (i := 0) (v := Value.int .i64 ((count + 1 : Nat) : Int)) sz_3 rfl rfl (fun _ _ => rfl) rfl (by simp)) (fun _ _ => ?_)
 refine Wl.imp (L' := (pt q 63 [Value.slice (some ⟨bd, 0, none⟩) secs.length cd, sv, Value.bool false, Value.int .i64 (-1), bv, Value.int .i64 ((count + 1 : Nat) : Int)]) :: F) (fun _ h => h) ?_
 refine Wl.done ?_
 refine Wx.go ?_
 refine Wc.seq ?_
 refine Wc.region ?_
 refine Wl.q (v := Value.bool true) (q_assign rfl) ?_
 refine Wl.done ?_
 refine Wx.go ?_
 refine Wc.ret ?_
 refine Wx.fin1 rfl (.inl rfl) (fun w hs => ?_)
 exact ⟨(), trivial, rfl, hs⟩

theorem rdoes_cutS (W0 : World) (q bd cd : Nat) (secs : List ByteArray) (since : List (Nat × ByteArray)) (count : Nat) (sv : Value) (bits : Int) (hcount : count < 4611686018427387904) (n : Nat) (hn : n < 9223372036854775807) :
  Con Try.prog W0 69 #[Value.pointer (some ⟨q, 0, none⟩)] [pt q 63 [Value.slice (some ⟨bd, 0, none⟩) secs.length cd, sv, Value.bool false, Value.int .i64 (((n + 1) : Nat) : Int), Value.int .i64 bits, Value.int .i64 ((count : Nat) : Int)]] (X := Unit) (fun _ => True) (fun _ => .bool true) (fun _ => [pt q 63 [Value.slice (some ⟨bd, 0, none⟩) secs.length cd, sv, Value.bool false, Value.int .i64 ((n : Nat) : Int), Value.int .i64 bits, Value.int .i64 (((count + 1) : Nat) : Int)]]) := by
 refine Con.of (args := [Value.pointer (some ⟨q, 0, none⟩)]) Try.func69 rfl Try.ntmps69 rfl (fun F => ?_)
 show Wc _ W0 _ _ _ _ _ ((pt q 63 [Value.slice (some ⟨bd, 0, none⟩) secs.length cd, sv, Value.bool false, Value.int .i64 (((n + 1) : Nat) : Int), Value.int .i64 bits, Value.int .i64 ((count : Nat) : Int)]) :: F)
 refine Wc.seq ?_
 refine Wc.region ?_
 refine Wl.q (v := Value.bool false) (q_assign rfl) ?_
 refine Wl.done ?_
 refine Wx.go ?_
 refine Wc.seq ?_
 refine Wc.seq ?_
 refine Wc.region ?_
 refine Wl.q (v := Value.pointer (some ⟨q, 0, none⟩)) (q_move rfl) ?_
 refine Wl.q (v := Value.pointer (some ⟨q, 0, none⟩)) (q_nil_ptr rfl) ?_
 refine Wl.q (v := Value.pointer (some ⟨q, 3, none⟩)) (q_field (m := 3) fo_63_3 rfl rfl) ?_
 refine Wl.q (v := Value.int .i64 (((n + 1) : Nat) : Int)) (q_load sc_3 rfl (.cel (i := 0) rfl rfl)) ?_
 refine Wl.q (v := Value.bool false) (q_eql (r := false) rfl rfl (decide_eq_false (by omega))) ?_
 refine Wl.done ?_
 refine Wx.go ?_
 refine Wc.no rfl ?_
 refine Wc.skip ?_
 refine Wx.go ?_
 refine Wc.seq ?_
 refine Wc.seq ?_
 refine Wc.region ?_
 refine Wl.q (v := Value.pointer (some ⟨q, 0, none⟩)) (q_move rfl) ?_
 refine Wl.q (v := Value.pointer (some ⟨q, 0, none⟩)) (q_nil_ptr rfl) ?_
 refine Wl.q (v := Value.pointer (some ⟨q, 3, none⟩)) (q_field (m := 3) fo_63_3 rfl rfl) ?_
 refine Wl.q (v := Value.int .i64 (((n + 1) : Nat) : Int)) (q_load sc_3 rfl (.cel (i := 0) rfl rfl)) ?_
 refine Wl.q (v := Value.bool true) (q_gtr (r := true) rfl rfl (decide_eq_true (by omega))) ?_
 refine Wl.done ?_
 refine Wx.go ?_
 refine Wc.yes rfl ?_
 refine Wc.region ?_
 refine Wl.q (v := Value.pointer (some ⟨q, 0, none⟩)) (q_move rfl) ?_
 refine Wl.q (v := Value.pointer (some ⟨q, 0, none⟩)) (q_nil_ptr rfl) ?_
 refine Wl.q (v := Value.pointer (some ⟨q, 3, none⟩)) (q_field (m := 3) fo_63_3 rfl rfl) ?_
 refine Wl.q (v := Value.int .i64 (((n + 1) : Nat) : Int)) (q_load sc_3 rfl (.cel (i := 0) rfl rfl)) ?_
 refine Wl.q (v := Value.int .i64 ((n : Nat) : Int)) (q_sub (c := ((n : Nat) : Int)) rfl rfl (by rw [wrap_i64] <;> omega)) ?_
 refine Wl.q (v := Value.pointer (some ⟨q, 0, none⟩)) (q_nil_ptr rfl) ?_
 refine Wl.q (v := Value.pointer (some ⟨q, 3, none⟩)) (q_field (m := 3) fo_63_3 rfl rfl) ?_
 refine Wl.e (e_store (i := 0) (v := Value.int .i64 ((n : Nat) : Int)) sz_3 rfl rfl (fun _ _ => rfl) rfl (by simp)) (fun _ _ => ?_)
 refine Wl.imp (L' := (pt q 63 [Value.slice (some ⟨bd, 0, none⟩) secs.length cd, sv, Value.bool false, Value.int .i64 ((n : Nat) : Int), Value.int .i64 bits, Value.int .i64 ((count : Nat) : Int)]) :: F) (fun _ h => h) ?_
 refine Wl.done ?_
 refine Wx.go ?_
 refine Wc.seq ?_
 refine Wc.region ?_
 refine Wl.q (v := Value.pointer (some ⟨q, 0, none⟩)) (q_move rfl) ?_
 refine Wl.q (v := Value.pointer (some ⟨q, 0, none⟩)) (q_nil_ptr rfl) ?_
 refine Wl.q (v := Value.pointer (some ⟨q, 5, none⟩)) (q_field (m := 5) fo_63_5 rfl rfl) ?_
 refine Wl.q (v := Value.int .i64 ((count : Nat) : Int)) (q_load sc_3 rfl (.cel (i := 0) rfl rfl)) ?_
 refine Wl.q (v := Value.int .i64 ((count + 1 : Nat) : Int)) (q_add (c := ((count + 1 : Nat) : Int)) rfl rfl (by rw [wrap_i64] <;> omega)) ?_
 refine Wl.q (v := Value.pointer (some ⟨q, 0, none⟩)) (q_nil_ptr rfl) ?_
 refine Wl.q (v := Value.pointer (some ⟨q, 5, none⟩)) (q_field (m := 5) fo_63_5 rfl rfl) ?_
 refine Wl.e (e_store (i := 0) (v := Value.int .i64 ((count + 1 : Nat) : Int)) sz_3 rfl rfl (fun _ _ => rfl) rfl (by simp)) (fun _ _ => ?_)
 refine Wl.imp (L' := (pt q 63 [Value.slice (some ⟨bd, 0, none⟩) secs.length cd, sv, Value.bool false, Value.int .i64 ((n : Nat) : Int), Value.int .i64 bits, Value.int .i64 ((count + 1 : Nat) : Int)]) :: F) (fun _ h => h) ?_
 refine Wl.done ?_
 refine Wx.go ?_
 refine Wc.seq ?_
 refine Wc.region ?_
 refine Wl.q (v := Value.bool true) (q_assign rfl) ?_
 refine Wl.done ?_
 refine Wx.go ?_
 refine Wc.ret ?_
 refine Wx.fin1 rfl (.inl rfl) (fun w hs => ?_)
 exact ⟨(), trivial, rfl, hs⟩

theorem rdoes_cut0 (W0 : World) (q bd cd : Nat) (secs : List ByteArray) (since : List (Nat × ByteArray)) (count : Nat) (sv : Value) (bits : Int) (hcount : count < 4611686018427387904) (hw : WFl secs since) (hsince : since.length < 1099511627776) :
  Con Try.prog W0 69 #[Value.pointer (some ⟨q, 0, none⟩)] [pt q 63 [Value.slice (some ⟨bd, 0, none⟩) secs.length cd, sv, Value.bool false, Value.int .i64 0, Value.int .i64 bits, Value.int .i64 ((count : Nat) : Int)], sl 86 2 sv since.length (flat since), slp 9 1 bd cd (secs.map Value.string)] (X := Unit) (fun _ => True) (fun _ => .bool false) (fun _ => [pt q 63 [Value.slice (some ⟨bd, 0, none⟩) secs.length cd, Value.slice none 0 0, Value.bool true, Value.int .i64 (-1), Value.int .i64 bits, Value.int .i64 ((count : Nat) : Int)], slp 9 1 bd cd ((fallL secs (since.take 31) bits).map Value.string)]) := by
 refine Con.of (args := [Value.pointer (some ⟨q, 0, none⟩)]) Try.func69 rfl Try.ntmps69 rfl (fun F => ?_)
 show Wc _ W0 _ _ _ _ _ ((pt q 63 [Value.slice (some ⟨bd, 0, none⟩) secs.length cd, sv, Value.bool false, Value.int .i64 0, Value.int .i64 bits, Value.int .i64 ((count : Nat) : Int)]) :: (sl 86 2 sv since.length (flat since)) :: (slp 9 1 bd cd (secs.map Value.string)) :: F)
 refine Wc.seq ?_
 refine Wc.region ?_
 refine Wl.q (v := Value.bool false) (q_assign rfl) ?_
 refine Wl.done ?_
 refine Wx.go ?_
 refine Wc.seq ?_
 refine Wc.seq ?_
 refine Wc.region ?_
 refine Wl.q (v := Value.pointer (some ⟨q, 0, none⟩)) (q_move rfl) ?_
 refine Wl.q (v := Value.pointer (some ⟨q, 0, none⟩)) (q_nil_ptr rfl) ?_
 refine Wl.q (v := Value.pointer (some ⟨q, 3, none⟩)) (q_field (m := 3) fo_63_3 rfl rfl) ?_
 refine Wl.q (v := Value.int .i64 0) (q_load sc_3 rfl (.cel (i := 0) rfl rfl)) ?_
 refine Wl.q (v := Value.bool true) (q_eql (r := true) rfl rfl (decide_eq_true (by decide))) ?_
 refine Wl.done ?_
 refine Wx.go ?_
 refine Wc.yes rfl ?_
 refine Wc.seq ?_
 refine Wc.region ?_
 refine Wl.q (v := Value.pointer (some ⟨q, 0, none⟩)) (q_move rfl) ?_
 refine Wl.q (v := Value.pointer (some ⟨q, 0, none⟩)) (q_move rfl) ?_
 refine Wl.q (v := Value.pointer (some ⟨q, 0, none⟩)) (q_nil_ptr rfl) ?_
 refine Wl.q (v := Value.pointer (some ⟨q, 4, none⟩)) (q_field (m := 4) fo_63_4 rfl rfl) ?_
 refine Wl.q (v := Value.int .i64 bits) (q_load sc_2 rfl (.cel (i := 0) rfl rfl)) ?_
 refine Wl.imp (L' := (sl 86 2 sv since.length (flat since)) :: (pt q 63 [Value.slice (some ⟨bd, 0, none⟩) secs.length cd, sv, Value.bool false, Value.int .i64 0, Value.int .i64 bits, Value.int .i64 ((count : Nat) : Int)]) :: (slp 9 1 bd cd (secs.map Value.string)) :: F) (fun _ h => st_pull [1, 0, 0] h) ?_
 refine Wl.e (e_call (F := F) (args := [Value.pointer (some ⟨q, 0, none⟩), Value.int .i64 bits]) Try.call66 rfl (rfalls_c W0 q bd cd secs since count false (Value.int .i64 0) (Value.int .i64 bits) bits hw hsince sv)) (fun _ _ => ?_)
 refine Wl.imp (L' := (pt q 63 [Value.slice (some ⟨bd, 0, none⟩) secs.length cd, Value.slice none 0 0, Value.bool true, Value.int .i64 (-1), Value.int .i64 bits, Value.int .i64 ((count : Nat) : Int)]) :: (slp 9 1 bd cd ((fallL secs (since.take 31) bits).map Value.string)) :: F) (fun _ h => h) ?_
 refine Wl.done ?_
 refine Wx.go ?_
 refine Wc.seq ?_
 refine Wc.region ?_
 refine Wl.q (v := Value.bool false) (q_assign rfl) ?_
 refine Wl.done ?_
 refine Wx.go ?_
 refine Wc.ret ?_
 refine Wx.thenRet ?_
 refine Wx.fin1 rfl (.inl rfl) (fun w hs => ?_)
 exact ⟨(), trivial, rfl, hs⟩

theorem rcrash_down (W0 : World) (q bd cd : Nat) (secs : List ByteArray) (since : List (Nat × ByteArray)) (count : Nat) (sv : Value) (lv bv : Int) (cut : Option (Nat × Int)) (hr : refR lv bv cut) (bb : Int) :
  Con Try.prog W0 47 #[Value.pointer (some ⟨q, 0, none⟩), Value.int .i64 bb] [pt q 63 [Value.slice (some ⟨bd, 0, none⟩) secs.length cd, sv, Value.bool true, Value.int .i64 lv, Value.int .i64 bv, Value.int .i64 ((count : Nat) : Int)], slp 9 1 bd cd (secs.map Value.string), sl 86 2 sv since.length (flat since)] (X := Unit) (fun _ => True) (fun _ => Value.int .i64 (DS.crash (⟨secs, since, true, count, cut⟩ : DS) bb).1) (fun _ => [isRef q (DS.crash (⟨secs, since, true, count, cut⟩ : DS) bb).2]) := by
 refine Con.of (args := [Value.pointer (some ⟨q, 0, none⟩), Value.int .i64 bb]) Try.func47 rfl Try.ntmps47 rfl (fun F => ?_)
 show Wc _ W0 _ _ _ _ _ ((pt q 63 [Value.slice (some ⟨bd, 0, none⟩) secs.length cd, sv, Value.bool true, Value.int .i64 lv, Value.int .i64 bv, Value.int .i64 ((count : Nat) : Int)]) :: (slp 9 1 bd cd (secs.map Value.string)) :: (sl 86 2 sv since.length (flat since)) :: F)
 refine Wc.seq ?_
 refine Wc.region ?_
 refine Wl.q (v := Value.int .i64 0) (q_assign rfl) ?_
 refine Wl.done ?_
 refine Wx.go ?_
 refine Wc.seq ?_
 refine Wc.seq ?_
 refine Wc.region ?_
 refine Wl.q (v := Value.pointer (some ⟨q, 0, none⟩)) (q_move rfl) ?_
 refine Wl.q (v := Value.pointer (some ⟨q, 0, none⟩)) (q_nil_ptr rfl) ?_
 refine Wl.q (v := Value.pointer (some ⟨q, 2, none⟩)) (q_field (m := 2) fo_63_2 rfl rfl) ?_
 refine Wl.q (v := Value.bool true) (q_load sc_4 rfl (.cel (i := 0) rfl rfl)) ?_
 refine Wl.done ?_
 refine Wx.go ?_
 refine Wc.yes rfl ?_
 refine Wc.seq ?_
 refine Wc.region ?_
 refine Wl.q (v := Value.int .i64 6) (q_assign rfl) ?_
 refine Wl.done ?_
 refine Wx.go ?_
 refine Wc.ret ?_
 refine Wx.thenRet ?_
 refine Wx.fin1 rfl (.inl rfl) (fun w hs => ?_)
 have e : DS.crash (⟨secs, since, true, count, cut⟩ : DS) bb = (6, (⟨secs, since, true, count, cut⟩ : DS)) := rfl
 rw [e]
 exact ⟨(), trivial, rfl, isRef_mk hr rfl hs⟩

theorem rcrash_up (W0 : World) (q bd cd : Nat) (secs : List ByteArray) (since : List (Nat × ByteArray)) (count : Nat) (sv : Value) (lv bv : Int) (cut : Option (Nat × Int)) (hr : refR lv bv cut) (bb : Int) (hw : WFl secs since) (hsince : since.length < 1099511627776) :
  Con Try.prog W0 47 #[Value.pointer (some ⟨q, 0, none⟩), Value.int .i64 bb] [pt q 63 [Value.slice (some ⟨bd, 0, none⟩) secs.length cd, sv, Value.bool false, Value.int .i64 lv, Value.int .i64 bv, Value.int .i64 ((count : Nat) : Int)], slp 9 1 bd cd (secs.map Value.string), sl 86 2 sv since.length (flat since)] (X := Unit) (fun _ => True) (fun _ => Value.int .i64 (DS.crash (⟨secs, since, false, count, cut⟩ : DS) bb).1) (fun _ => [isRef q (DS.crash (⟨secs, since, false, count, cut⟩ : DS) bb).2]) := by
 refine Con.of (args := [Value.pointer (some ⟨q, 0, none⟩), Value.int .i64 bb]) Try.func47 rfl Try.ntmps47 rfl (fun F => ?_)
 show Wc _ W0 _ _ _ _ _ ((pt q 63 [Value.slice (some ⟨bd, 0, none⟩) secs.length cd, sv, Value.bool false, Value.int .i64 lv, Value.int .i64 bv, Value.int .i64 ((count : Nat) : Int)]) :: (slp 9 1 bd cd (secs.map Value.string)) :: (sl 86 2 sv since.length (flat since)) :: F)
 refine Wc.seq ?_
 refine Wc.region ?_
 refine Wl.q (v := Value.int .i64 0) (q_assign rfl) ?_
 refine Wl.done ?_
 refine Wx.go ?_
 refine Wc.seq ?_
 refine Wc.seq ?_
 refine Wc.region ?_
 refine Wl.q (v := Value.pointer (some ⟨q, 0, none⟩)) (q_move rfl) ?_
 refine Wl.q (v := Value.pointer (some ⟨q, 0, none⟩)) (q_nil_ptr rfl) ?_
 refine Wl.q (v := Value.pointer (some ⟨q, 2, none⟩)) (q_field (m := 2) fo_63_2 rfl rfl) ?_
 refine Wl.q (v := Value.bool false) (q_load sc_4 rfl (.cel (i := 0) rfl rfl)) ?_
 refine Wl.done ?_
 refine Wx.go ?_
 refine Wc.no rfl ?_
 refine Wc.skip ?_
 refine Wx.go ?_
 refine Wc.seq ?_
 refine Wc.region ?_
 refine Wl.q (v := Value.pointer (some ⟨q, 0, none⟩)) (q_move rfl) ?_
 refine Wl.q (v := Value.int .i64 bb) (q_move rfl) ?_
 refine Wl.imp (L' := (sl 86 2 sv since.length (flat since)) :: (pt q 63 [Value.slice (some ⟨bd, 0, none⟩) secs.length cd, sv, Value.bool false, Value.int .i64 lv, Value.int .i64 bv, Value.int .i64 ((count : Nat) : Int)]) :: (slp 9 1 bd cd (secs.map Value.string)) :: F) (fun _ h => st_pull [2, 0, 0] h) ?_
 refine Wl.e (e_call (F := F) (args := [Value.pointer (some ⟨q, 0, none⟩), Value.int .i64 bb]) Try.call66 rfl (rfalls_c W0 q bd cd secs since count false (Value.int .i64 lv) (Value.int .i64 bv) bb hw hsince sv)) (fun _ _ => ?_)
 refine Wl.imp (L' := (pt q 63 [Value.slice (some ⟨bd, 0, none⟩) secs.length cd, Value.slice none 0 0, Value.bool true, Value.int .i64 (-1), Value.int .i64 bv, Value.int .i64 ((count : Nat) : Int)]) :: (slp 9 1 bd cd ((fallL secs (since.take 31) bb).map Value.string)) :: F) (fun _ h => h) ?_
 refine Wl.done ?_
 refine Wx.go ?_
 refine Wc.seq ?_
 refine Wc.region ?_
 refine Wl.q (v := Value.int .i64 0) (q_assign rfl) ?_
 refine Wl.done ?_
 refine Wx.go ?_
 refine Wc.ret ?_
 refine Wx.fin1 rfl (.inl rfl) (fun w hs => ?_)
 have e : DS.crash (⟨secs, since, false, count, cut⟩ : DS) bb = (0, ⟨fallL secs (since.take 31) bb, [], true, count, none⟩) := rfl
 rw [e]
 exact ⟨(), trivial, rfl, isRef_mk (lv := -1) rfl (fallL_length _ _ _).symm (st_pull [1, 1] (st_sl_nil hs))⟩

theorem rcrash_c (W0 : World) (q : Nat) (d : DS) (bb : Int) (hw : WF d) (hsince : d.since.length < 1099511627776) :
  Con Try.prog W0 47 #[Value.pointer (some ⟨q, 0, none⟩), Value.int .i64 bb] [isRef q d] (X := Unit) (fun _ => True) (fun _ => Value.int .i64 (d.crash bb).1) (fun _ => [isRef q (d.crash bb).2]) := by
 obtain ⟨secs, since, down, count, cut⟩ := d
 refine Con.ref (fun bd cd sv lv bv hr => ?_)
 cases down
 · exact rcrash_up W0 q bd cd secs since count sv lv bv cut hr bb hw.l hsince
 · exact rcrash_down W0 q bd cd secs since count sv lv bv cut hr bb

theorem rstart_down (W0 : World) (q bd cd : Nat) (secs : List ByteArray) (since : List (Nat × ByteArray)) (count : Nat) (sv : Value) (lv bv : Int) (cut : Option (Nat × Int)) (hr : refR lv bv cut) :
  Con Try.prog W0 48 #[Value.pointer (some ⟨q, 0, none⟩)] [pt q 63 [Value.slice (some ⟨bd, 0, none⟩) secs.length cd, sv, Value.bool true, Value.int .i64 lv, Value.int .i64 bv, Value.int .i64 ((count : Nat) : Int)], slp 9 1 bd cd (secs.map Value.string), sl 86 2 sv since.length (flat since)] (X := Unit) (fun _ => True) (fun _ => Value.int .i64 (DS.start (⟨secs, since, true, count, cut⟩ : DS)).1) (fun _ => [isRef q (DS.start (⟨secs, since, true, count, cut⟩ : DS)).2]) := by
 refine Con.of (args := [Value.pointer (some ⟨q, 0, none⟩)]) Try.func48 rfl Try.ntmps48 rfl (fun F => ?_)
 show Wc _ W0 _ _ _ _ _ ((pt q 63 [Value.slice (some ⟨bd, 0, none⟩) secs.length cd, sv, Value.bool true, Value.int .i64 lv, Value.int .i64 bv, Value.int .i64 ((count : Nat) : Int)]) :: (slp 9 1 bd cd (secs.map Value.string)) :: (sl 86 2 sv since.length (flat since)) :: F)
 refine Wc.seq ?_
 refine Wc.region ?_
 refine Wl.q (v := Value.int .i64 0) (q_assign rfl) ?_
 refine Wl.done ?_
 refine Wx.go ?_
 refine Wc.seq ?_
 refine Wc.seq ?_
 refine Wc.region ?_
 refine Wl.q (v := Value.pointer (some ⟨q, 0, none⟩)) (q_move rfl) ?_
 refine Wl.q (v := Value.pointer (some ⟨q, 0, none⟩)) (q_nil_ptr rfl) ?_
 refine Wl.q (v := Value.pointer (some ⟨q, 2, none⟩)) (q_field (m := 2) fo_63_2 rfl rfl) ?_
 refine Wl.q (v := Value.bool true) (q_load sc_4 rfl (.cel (i := 0) rfl rfl)) ?_
 refine Wl.q (v := Value.bool false) (q_not rfl rfl) ?_
 refine Wl.done ?_
 refine Wx.go ?_
 refine Wc.no rfl ?_
 refine Wc.skip ?_
 refine Wx.go ?_
 refine Wc.seq ?_
 refine Wc.region ?_
 refine Wl.q (v := Value.pointer (some ⟨q, 0, none⟩)) (q_move rfl) ?_
 refine Wl.q (v := Value.pointer (some ⟨q, 0, none⟩)) (q_nil_ptr rfl) ?_
 refine Wl.q (v := Value.pointer (some ⟨q, 2, none⟩)) (q_field (m := 2) fo_63_2 rfl rfl) ?_
 refine Wl.e (e_store (i := 0) (v := Value.bool false) sz_4 rfl rfl (fun _ _ => rfl) rfl (by simp)) (fun _ _ => ?_)
 refine Wl.imp (L' := (pt q 63 [Value.slice (some ⟨bd, 0, none⟩) secs.length cd, sv, Value.bool false, Value.int .i64 lv, Value.int .i64 bv, Value.int .i64 ((count : Nat) : Int)]) :: (slp 9 1 bd cd (secs.map Value.string)) :: (sl 86 2 sv since.length (flat since)) :: F) (fun _ h => h) ?_
 refine Wl.done ?_
 refine Wx.go ?_
 refine Wc.seq ?_
 refine Wc.region ?_
 refine Wl.q (v := Value.int .i64 0) (q_assign rfl) ?_
 refine Wl.done ?_
 refine Wx.go ?_
 refine Wc.ret ?_
 refine Wx.fin1 rfl (.inl rfl) (fun w hs => ?_)
 have e : DS.start (⟨secs, since, true, count, cut⟩ : DS) = (0, (⟨secs, since, false, count, cut⟩ : DS)) := rfl
 rw [e]
 exact ⟨(), trivial, rfl, isRef_mk hr rfl hs⟩

theorem rstart_up (W0 : World) (q bd cd : Nat) (secs : List ByteArray) (since : List (Nat × ByteArray)) (count : Nat) (sv : Value) (lv bv : Int) (cut : Option (Nat × Int)) (hr : refR lv bv cut) :
  Con Try.prog W0 48 #[Value.pointer (some ⟨q, 0, none⟩)] [pt q 63 [Value.slice (some ⟨bd, 0, none⟩) secs.length cd, sv, Value.bool false, Value.int .i64 lv, Value.int .i64 bv, Value.int .i64 ((count : Nat) : Int)], slp 9 1 bd cd (secs.map Value.string), sl 86 2 sv since.length (flat since)] (X := Unit) (fun _ => True) (fun _ => Value.int .i64 (DS.start (⟨secs, since, false, count, cut⟩ : DS)).1) (fun _ => [isRef q (DS.start (⟨secs, since, false, count, cut⟩ : DS)).2]) := by
 refine Con.of (args := [Value.pointer (some ⟨q, 0, none⟩)]) Try.func48 rfl Try.ntmps48 rfl (fun F => ?_)
 show Wc _ W0 _ _ _ _ _ ((pt q 63 [Value.slice (some ⟨bd, 0, none⟩) secs.length cd, sv, Value.bool false, Value.int .i64 lv, Value.int .i64 bv, Value.int .i64 ((count : Nat) : Int)]) :: (slp 9 1 bd cd (secs.map Value.string)) :: (sl 86 2 sv since.length (flat since)) :: F)
 refine Wc.seq ?_
 refine Wc.region ?_
 refine Wl.q (v := Value.int .i64 0) (q_assign rfl) ?_
 refine Wl.done ?_
 refine Wx.go ?_
 refine Wc.seq ?_
 refine Wc.seq ?_
 refine Wc.region ?_
 refine Wl.q (v := Value.pointer (some ⟨q, 0, none⟩)) (q_move rfl) ?_
 refine Wl.q (v := Value.pointer (some ⟨q, 0, none⟩)) (q_nil_ptr rfl) ?_
 refine Wl.q (v := Value.pointer (some ⟨q, 2, none⟩)) (q_field (m := 2) fo_63_2 rfl rfl) ?_
 refine Wl.q (v := Value.bool false) (q_load sc_4 rfl (.cel (i := 0) rfl rfl)) ?_
 refine Wl.q (v := Value.bool true) (q_not rfl rfl) ?_
 refine Wl.done ?_
 refine Wx.go ?_
 refine Wc.yes rfl ?_
 refine Wc.seq ?_
 refine Wc.region ?_
 refine Wl.q (v := Value.int .i64 8) (q_assign rfl) ?_
 refine Wl.done ?_
 refine Wx.go ?_
 refine Wc.ret ?_
 refine Wx.thenRet ?_
 refine Wx.fin1 rfl (.inl rfl) (fun w hs => ?_)
 have e : DS.start (⟨secs, since, false, count, cut⟩ : DS) = (8, (⟨secs, since, false, count, cut⟩ : DS)) := rfl
 rw [e]
 exact ⟨(), trivial, rfl, isRef_mk hr rfl hs⟩

theorem rstart_c (W0 : World) (q : Nat) (d : DS) :
  Con Try.prog W0 48 #[Value.pointer (some ⟨q, 0, none⟩)] [isRef q d] (X := Unit) (fun _ => True) (fun _ => Value.int .i64 d.start.1) (fun _ => [isRef q d.start.2]) := by
 obtain ⟨secs, since, down, count, cut⟩ := d
 refine Con.ref (fun bd cd sv lv bv hr => ?_)
 cases down
 · exact rstart_up W0 q bd cd secs since count sv lv bv cut hr
 · exact rstart_down W0 q bd cd secs since count sv lv bv cut hr

theorem rcut_down (W0 : World) (q bd cd : Nat) (secs : List ByteArray) (since : List (Nat × ByteArray)) (count : Nat) (sv : Value) (lv bv : Int) (cut : Option (Nat × Int)) (hr : refR lv bv cut) (m bb : Int) :
  Con Try.prog W0 46 #[Value.pointer (some ⟨q, 0, none⟩), Value.int .i64 m, Value.int .i64 bb] [pt q 63 [Value.slice (some ⟨bd, 0, none⟩) secs.length cd, sv, Value.bool true, Value.int .i64 lv, Value.int .i64 bv, Value.int .i64 ((count : Nat) : Int)], slp 9 1 bd cd (secs.map Value.string), sl 86 2 sv since.length (flat since)] (X := Unit) (fun _ => True) (fun _ => Value.int .i64 (DS.cutTo (⟨secs, since, true, count, cut⟩ : DS) m bb).1) (fun _ => [isRef q (DS.cutTo (⟨secs, since, true, count, cut⟩ : DS) m bb).2]) := by
 refine Con.of (args := [Value.pointer (some ⟨q, 0, none⟩), Value.int .i64 m, Value.int .i64 bb]) Try.func46 rfl Try.ntmps46 rfl (fun F => ?_)
 show Wc _ W0 _ _ _ _ _ ((pt q 63 [Value.slice (some ⟨bd, 0, none⟩) secs.length cd, sv, Value.bool true, Value.int .i64 lv, Value.int .i64 bv, Value.int .i64 ((count : Nat) : Int)]) :: (slp 9 1 bd cd (secs.map Value.string)) :: (sl 86 2 sv since.length (flat since)) :: F)
 refine Wc.seq ?_
 refine Wc.region ?_
 refine Wl.q (v := Value.int .i64 0) (q_assign rfl) ?_
 refine Wl.done ?_
 refine Wx.go ?_
 refine Wc.seq ?_
 refine Wc.seq ?_
 refine Wc.region ?_
 refine Wl.q (v := Value.pointer (some ⟨q, 0, none⟩)) (q_move rfl) ?_
 refine Wl.q (v := Value.pointer (some ⟨q, 0, none⟩)) (q_nil_ptr rfl) ?_
 refine Wl.q (v := Value.pointer (some ⟨q, 2, none⟩)) (q_field (m := 2) fo_63_2 rfl rfl) ?_
 refine Wl.q (v := Value.bool true) (q_load sc_4 rfl (.cel (i := 0) rfl rfl)) ?_
 refine Wl.done ?_
 refine Wx.go ?_
 refine Wc.yes rfl ?_
 refine Wc.seq ?_
 refine Wc.region ?_
 refine Wl.q (v := Value.int .i64 6) (q_assign rfl) ?_
 refine Wl.done ?_
 refine Wx.go ?_
 refine Wc.ret ?_
 refine Wx.thenRet ?_
 refine Wx.fin1 rfl (.inl rfl) (fun w hs => ?_)
 have e : DS.cutTo (⟨secs, since, true, count, cut⟩ : DS) m bb = (6, (⟨secs, since, true, count, cut⟩ : DS)) := rfl
 rw [e]
 exact ⟨(), trivial, rfl, isRef_mk hr rfl hs⟩

theorem rcut_up (W0 : World) (q bd cd : Nat) (secs : List ByteArray) (since : List (Nat × ByteArray)) (count : Nat) (sv : Value) (lv bv : Int) (cut : Option (Nat × Int)) (hr : refR lv bv cut) (m bb : Int) :
  Con Try.prog W0 46 #[Value.pointer (some ⟨q, 0, none⟩), Value.int .i64 m, Value.int .i64 bb] [pt q 63 [Value.slice (some ⟨bd, 0, none⟩) secs.length cd, sv, Value.bool false, Value.int .i64 lv, Value.int .i64 bv, Value.int .i64 ((count : Nat) : Int)], slp 9 1 bd cd (secs.map Value.string), sl 86 2 sv since.length (flat since)] (X := Unit) (fun _ => True) (fun _ => Value.int .i64 (DS.cutTo (⟨secs, since, false, count, cut⟩ : DS) m bb).1) (fun _ => [isRef q (DS.cutTo (⟨secs, since, false, count, cut⟩ : DS) m bb).2]) := by
 refine Con.of (args := [Value.pointer (some ⟨q, 0, none⟩), Value.int .i64 m, Value.int .i64 bb]) Try.func46 rfl Try.ntmps46 rfl (fun F => ?_)
 show Wc _ W0 _ _ _ _ _ ((pt q 63 [Value.slice (some ⟨bd, 0, none⟩) secs.length cd, sv, Value.bool false, Value.int .i64 lv, Value.int .i64 bv, Value.int .i64 ((count : Nat) : Int)]) :: (slp 9 1 bd cd (secs.map Value.string)) :: (sl 86 2 sv since.length (flat since)) :: F)
 refine Wc.seq ?_
 refine Wc.region ?_
 refine Wl.q (v := Value.int .i64 0) (q_assign rfl) ?_
 refine Wl.done ?_
 refine Wx.go ?_
 refine Wc.seq ?_
 refine Wc.seq ?_
 refine Wc.region ?_
 refine Wl.q (v := Value.pointer (some ⟨q, 0, none⟩)) (q_move rfl) ?_
 refine Wl.q (v := Value.pointer (some ⟨q, 0, none⟩)) (q_nil_ptr rfl) ?_
 refine Wl.q (v := Value.pointer (some ⟨q, 2, none⟩)) (q_field (m := 2) fo_63_2 rfl rfl) ?_
 refine Wl.q (v := Value.bool false) (q_load sc_4 rfl (.cel (i := 0) rfl rfl)) ?_
 refine Wl.done ?_
 refine Wx.go ?_
 refine Wc.no rfl ?_
 refine Wc.skip ?_
 refine Wx.go ?_
 refine Wc.seq ?_
 refine Wc.seq ?_
 refine Wc.region ?_
 refine Wl.q (v := Value.int .i64 m) (q_move rfl) ?_
 by_cases hneg : m < 0
 ·
  refine Wl.q (v := Value.bool true) (q_lss (r := true) rfl rfl (decide_eq_true hneg)) ?_
  refine Wl.done ?_
  refine Wx.go ?_
  refine Wc.yes rfl ?_
  refine Wc.seq ?_
  refine Wc.region ?_
  refine Wl.q (v := Value.int .i64 1) (q_assign rfl) ?_
  refine Wl.done ?_
  refine Wx.go ?_
  refine Wc.ret ?_
  refine Wx.thenRet ?_
  refine Wx.fin1 rfl (.inl rfl) (fun w hs => ?_)
  have e : DS.cutTo (⟨secs, since, false, count, cut⟩ : DS) m bb = (1, (⟨secs, since, false, count, cut⟩ : DS)) := by simp only [DS.cutTo]; rw [if_neg (by decide), if_pos hneg]
  rw [e]
  exact ⟨(), trivial, rfl, isRef_mk hr rfl hs⟩
 ·
  refine Wl.q (v := Value.bool false) (q_lss (r := false) rfl rfl (decide_eq_false hneg)) ?_
  refine Wl.done ?_
  refine Wx.go ?_
  refine Wc.no rfl ?_
  refine Wc.skip ?_
  refine Wx.go ?_
  refine Wc.seq ?_
  refine Wc.region ?_
  refine Wl.q (v := Value.pointer (some ⟨q, 0, none⟩)) (q_move rfl) ?_
  refine Wl.q (v := Value.pointer (some ⟨q, 0, none⟩)) (q_move rfl) ?_
  refine Wl.q (v := Value.int .i64 m) (q_move rfl) ?_
  refine Wl.q (v := Value.int .i64 bb) (q_move rfl) ?_
  refine Wl.q (v := Value.pointer (some ⟨q, 0, none⟩)) (q_nil_ptr rfl) ?_
  refine Wl.q (v := Value.pointer (some ⟨q, 3, none⟩)) (q_field (m := 3) fo_63_3 rfl rfl) ?_
  refine Wl.e (e_store (i := 0) (v := Value.int .i64 m) sz_3 rfl rfl (fun _ _ => rfl) rfl (by simp)) (fun _ _ => ?_)
  refine Wl.imp (L' := (pt q 63 [Value.slice (some ⟨bd, 0, none⟩) secs.length cd, sv, Value.bool false, Value.int .i64 m, Value.int .i64 bv, Value.int .i64 ((count : Nat) : Int)]) :: (slp 9 1 bd cd (secs.map Value.string)) :: (sl 86 2 sv since.length (flat since)) :: F) (fun _ h => h) ?_
  refine Wl.q (v := Value.pointer (some ⟨q, 0, none⟩)) (q_nil_ptr rfl) ?_
  refine Wl.q (v := Value.pointer (some ⟨q, 4, none⟩)) (q_field (m := 4) fo_63_4 rfl rfl) ?_
  refine Wl.e (e_store (i := 0) (v := Value.int .i64 bb) sz_2 rfl rfl (fun _ _ => rfl) rfl (by simp)) (fun _ _ => ?_)
  refine Wl.imp (L' := (pt q 63 [Value.slice (some ⟨bd, 0, none⟩) secs.length cd, sv, Value.bool false, Value.int .i64 m, Value.int .i64 bb, Value.int .i64 ((count : Nat) : Int)]) :: (slp 9 1 bd cd (secs.map Value.string)) :: (sl 86 2 sv since.length (flat since)) :: F) (fun _ h => h) ?_
  refine Wl.done ?_
  refine Wx.go ?_
  refine Wc.seq ?_
  refine Wc.region ?_
  refine Wl.q (v := Value.int .i64 0) (q_assign rfl) ?_
  refine Wl.done ?_
  refine Wx.go ?_
  refine Wc.ret ?_
  refine Wx.fin1 rfl (.inl rfl) (fun w hs => ?_)
  have e : DS.cutTo (⟨secs, since, false, count, cut⟩ : DS) m bb = (0, ⟨secs, since, false, count, some (m.toNat, bb)⟩) := by simp only [DS.cutTo]; rw [if_neg (by decide), if_neg hneg]
  rw [e]
  exact ⟨(), trivial, rfl, isRef_mk ⟨by omega, rfl⟩ rfl hs⟩

theorem rcut_c (W0 : World) (q : Nat) (d : DS) (m bb : Int) :
  Con Try.prog W0 46 #[Value.pointer (some ⟨q, 0, none⟩), Value.int .i64 m, Value.int .i64 bb] [isRef q d] (X := Unit) (fun _ => True) (fun _ => Value.int .i64 (d.cutTo m bb).1) (fun _ => [isRef q (d.cutTo m bb).2]) := by
 obtain ⟨secs, since, down, count, cut⟩ := d
 refine Con.ref (fun bd cd sv lv bv hr => ?_)
 cases down
 · exact rcut_up W0 q bd cd secs since count sv lv bv cut hr m bb
 · exact rcut_down W0 q bd cd secs since count sv lv bv cut hr m bb

theorem rwrite_down (W0 : World) (q bd cd : Nat) (secs : List ByteArray) (since : List (Nat × ByteArray)) (count : Nat) (sv : Value) (lv bv : Int) (cut : Option (Nat × Int)) (hr : refR lv bv cut) (at_ : Int) (s : ByteArray) :
  Con Try.prog W0 51 #[Value.pointer (some ⟨q, 0, none⟩), Value.int .i64 at_, Value.string s] [pt q 63 [Value.slice (some ⟨bd, 0, none⟩) secs.length cd, sv, Value.bool true, Value.int .i64 lv, Value.int .i64 bv, Value.int .i64 ((count : Nat) : Int)], slp 9 1 bd cd (secs.map Value.string), sl 86 2 sv since.length (flat since)] (X := Unit) (fun _ => True) (fun _ => Value.int .i64 (DS.write (⟨secs, since, true, count, cut⟩ : DS) at_ s).1) (fun _ => [isRef q (DS.write (⟨secs, since, true, count, cut⟩ : DS) at_ s).2]) := by
 refine Con.of (args := [Value.pointer (some ⟨q, 0, none⟩), Value.int .i64 at_, Value.string s]) Try.func51 rfl Try.ntmps51 rfl (fun F => ?_)
 show Wc _ W0 _ _ _ _ _ ((pt q 63 [Value.slice (some ⟨bd, 0, none⟩) secs.length cd, sv, Value.bool true, Value.int .i64 lv, Value.int .i64 bv, Value.int .i64 ((count : Nat) : Int)]) :: (slp 9 1 bd cd (secs.map Value.string)) :: (sl 86 2 sv since.length (flat since)) :: F)
 refine Wc.seq ?_
 refine Wc.region ?_
 refine Wl.q (v := Value.int .i64 0) (q_assign rfl) ?_
 refine Wl.done ?_
 refine Wx.go ?_
 refine Wc.seq ?_
 refine Wc.seq ?_
 refine Wc.region ?_
 refine Wl.q (v := Value.pointer (some ⟨q, 0, none⟩)) (q_move rfl) ?_
 refine Wl.q (v := Value.pointer (some ⟨q, 0, none⟩)) (q_nil_ptr rfl) ?_
 refine Wl.q (v := Value.pointer (some ⟨q, 2, none⟩)) (q_field (m := 2) fo_63_2 rfl rfl) ?_
 refine Wl.q (v := Value.bool true) (q_load sc_4 rfl (.cel (i := 0) rfl rfl)) ?_
 refine Wl.done ?_
 refine Wx.go ?_
 refine Wc.yes rfl ?_
 refine Wc.seq ?_
 refine Wc.region ?_
 refine Wl.q (v := Value.int .i64 6) (q_assign rfl) ?_
 refine Wl.done ?_
 refine Wx.go ?_
 refine Wc.ret ?_
 refine Wx.thenRet ?_
 refine Wx.fin1 rfl (.inl rfl) (fun w hs => ?_)
 have e : DS.write (⟨secs, since, true, count, cut⟩ : DS) at_ s = (6, (⟨secs, since, true, count, cut⟩ : DS)) := rfl
 rw [e]
 exact ⟨(), trivial, rfl, isRef_mk hr rfl hs⟩

theorem rwrite_none (W0 : World) (q bd cd : Nat) (secs : List ByteArray) (since : List (Nat × ByteArray)) (count : Nat) (sv : Value) (bv : Int) (at_ : Int) (s : ByteArray) (hw : WFl secs since) (hsince : since.length < 1099511627776) (hcount : count < 4611686018427387904) :
  Con Try.prog W0 51 #[Value.pointer (some ⟨q, 0, none⟩), Value.int .i64 at_, Value.string s] [pt q 63 [Value.slice (some ⟨bd, 0, none⟩) secs.length cd, sv, Value.bool false, Value.int .i64 (-1), Value.int .i64 bv, Value.int .i64 ((count : Nat) : Int)], slp 9 1 bd cd (secs.map Value.string), sl 86 2 sv since.length (flat since)] (X := Unit) (fun _ => True) (fun _ => Value.int .i64 (DS.write (⟨secs, since, false, count, none⟩ : DS) at_ s).1) (fun _ => [isRef q (DS.write (⟨secs, since, false, count, none⟩ : DS) at_ s).2]) := by
 refine Con.of (args := [Value.pointer (some ⟨q, 0, none⟩), Value.int .i64 at_, Value.string s]) Try.func51 rfl Try.ntmps51 rfl (fun F => ?_)
 show Wc _ W0 _ _ _ _ _ ((pt q 63 [Value.slice (some ⟨bd, 0, none⟩) secs.length cd, sv, Value.bool false, Value.int .i64 (-1), Value.int .i64 bv, Value.int .i64 ((count : Nat) : Int)]) :: (slp 9 1 bd cd (secs.map Value.string)) :: (sl 86 2 sv since.length (flat since)) :: F)
 refine Wc.seq ?_
 refine Wc.region ?_
 refine Wl.q (v := Value.int .i64 0) (q_assign rfl) ?_
 refine Wl.done ?_
 refine Wx.go ?_
 refine Wc.seq ?_
 refine Wc.seq ?_
 refine Wc.region ?_
 refine Wl.q (v := Value.pointer (some ⟨q, 0, none⟩)) (q_move rfl) ?_
 refine Wl.q (v := Value.pointer (some ⟨q, 0, none⟩)) (q_nil_ptr rfl) ?_
 refine Wl.q (v := Value.pointer (some ⟨q, 2, none⟩)) (q_field (m := 2) fo_63_2 rfl rfl) ?_
 refine Wl.q (v := Value.bool false) (q_load sc_4 rfl (.cel (i := 0) rfl rfl)) ?_
 refine Wl.done ?_
 refine Wx.go ?_
 refine Wc.no rfl ?_
 refine Wc.skip ?_
 refine Wx.go ?_
 refine Wc.seq ?_
 refine Wc.seq ?_
 refine Wc.region ?_
 refine Wl.q (v := Value.int .i64 at_) (q_move rfl) ?_
 by_cases hneg : at_ < 0
 ·
  refine Wl.q (v := Value.bool true) (q_lss (r := true) rfl rfl (decide_eq_true hneg)) ?_
  refine Wl.q (v := Value.bool true) (q_move rfl) ?_
  refine Wl.no ?_
  refine Wl.no ?_
  refine Wl.no ?_
  refine Wl.no ?_
  refine Wl.no ?_
  refine Wl.no ?_
  refine Wl.no ?_
  refine Wl.q (v := Value.bool true) (q_pick (t := true) rfl rfl) ?_
  refine Wl.q (v := Value.bool true) (q_move rfl) ?_
  refine Wl.no ?_
  refine Wl.no ?_
  refine Wl.no ?_
  refine Wl.q (v := Value.bool true) (q_pick (t := true) rfl rfl) ?_
  refine Wl.done ?_
  refine Wx.go ?_
  refine Wc.yes rfl ?_
  refine Wc.seq ?_
  refine Wc.region ?_
  refine Wl.q (v := Value.int .i64 1) (q_assign rfl) ?_
  refine Wl.done ?_
  refine Wx.go ?_
  refine Wc.ret ?_
  refine Wx.thenRet ?_
  refine Wx.fin1 rfl (.inl rfl) (fun w hs => ?_)
  have e : DS.write (⟨secs, since, false, count, none⟩ : DS) at_ s = (1, (⟨secs, since, false, count, none⟩ : DS)) := write_bad rfl (by first | exact .inl hneg | exact .inr (.inl hge) | exact .inr (.inr hsz))
  rw [e]
  exact ⟨(), trivial, rfl, isRef_mk (lv := -1) rfl rfl hs⟩
 ·
  obtain ⟨a, rfl⟩ := Int.eq_ofNat_of_zero_le (Int.not_lt.1 hneg)
  refine Wl.q (v := Value.bool false) (q_lss (r := false) rfl rfl (decide_eq_false hneg)) ?_
  refine Wl.q (v := Value.bool false) (q_move rfl) ?_
  refine Wl.q (v := Value.int .i64 ((a : Nat) : Int)) (q_move rfl) ?_
  refine Wl.q (v := Value.pointer (some ⟨q, 0, none⟩)) (q_move rfl) ?_
  refine Wl.q (v := Value.pointer (some ⟨q, 0, none⟩)) (q_nil_ptr rfl) ?_
  refine Wl.q (v := Value.pointer (some ⟨q, 0, none⟩)) (q_field (m := 0) fo_63_0 rfl rfl) ?_
  refine Wl.q (v := Value.slice (some ⟨bd, 0, none⟩) secs.length cd) (q_load sc_33 rfl (.cel (i := 0) rfl rfl)) ?_
  refine Wl.q (v := Value.int .i64 ((secs.length : Nat) : Int)) (q_len_slice Try.underlying33 rfl) ?_
  by_cases hge : ((a : Nat) : Int) ≥ ((secs.length : Nat) : Int)
  ·
   refine Wl.q (v := Value.bool true) (q_geq (r := true) rfl rfl (decide_eq_true hge)) ?_
   refine Wl.q (v := Value.bool true) (q_pick (t := false) rfl rfl) ?_
   refine Wl.q (v := Value.bool true) (q_move rfl) ?_
   refine Wl.no ?_
   refine Wl.no ?_
   refine Wl.no ?_
   refine Wl.q (v := Value.bool true) (q_pick (t := true) rfl rfl) ?_
   refine Wl.done ?_
   refine Wx.go ?_
   refine Wc.yes rfl ?_
   refine Wc.seq ?_
   refine Wc.region ?_
   refine Wl.q (v := Value.int .i64 1) (q_assign rfl) ?_
   refine Wl.done ?_
   refine Wx.go ?_
   refine Wc.ret ?_
   refine Wx.thenRet ?_
   refine Wx.fin1 rfl (.inl rfl) (fun w hs => ?_)
   have e : DS.write (⟨secs, since, false, count, none⟩ : DS) ((a : Nat) : Int) s = (1, (⟨secs, since, false, count, none⟩ : DS)) := write_bad rfl (by first | exact .inl hneg | exact .inr (.inl hge) | exact .inr (.inr hsz))
   rw [e]
   exact ⟨(), trivial, rfl, isRef_mk (lv := -1) rfl rfl hs⟩
  ·
   refine Wl.q (v := Value.bool false) (q_geq (r := false) rfl rfl (decide_eq_false hge)) ?_
   refine Wl.q (v := Value.bool false) (q_pick (t := false) rfl rfl) ?_
   refine Wl.q (v := Value.bool false) (q_move rfl) ?_
   refine Wl.q (v := Value.string s) (q_move rfl) ?_
   refine Wl.q (v := Value.int .i64 ((s.size : Nat) : Int)) (q_len_str Try.underlying9 rfl) ?_
   by_cases hsz : ((s.size : Nat) : Int) = 64
   ·
    refine Wl.q (v := Value.bool false) (q_neq (r := true) rfl rfl (decide_eq_true hsz)) ?_
    refine Wl.q (v := Value.bool false) (q_pick (t := false) rfl rfl) ?_
    refine Wl.done ?_
    refine Wx.go ?_
    refine Wc.no rfl ?_
    refine Wc.skip ?_
    refine Wx.go ?_
    refine Wc.seq ?_
    refine Wc.seq ?_
    refine Wc.region ?_
    refine Wl.q (v := Value.pointer (some ⟨q, 0, none⟩)) (q_move rfl) ?_
    refine Wl.e (e_call (F := (slp 9 1 bd cd (secs.map Value.string)) :: (sl 86 2 sv since.length (flat since)) :: F) (args := [Value.pointer (some ⟨q, 0, none⟩)]) Try.call69 rfl (rdoes_none W0 q bd cd secs since count sv (Value.int .i64 bv) hcount)) (fun _ _ => ?_)
    refine Wl.imp (L' := (pt q 63 [Value.slice (some ⟨bd, 0, none⟩) secs.length cd, sv, Value.bool false, Value.int .i64 (-1), Value.int .i64 bv, Value.int .i64 (((count + 1) : Nat) : Int)]) :: (slp 9 1 bd cd (secs.map Value.string)) :: (sl 86 2 sv since.length (flat since)) :: F) (fun _ h => h) ?_
    refine Wl.q (v := Value.bool false) (q_not rfl rfl) ?_
    refine Wl.done ?_
    refine Wx.go ?_
    refine Wc.no rfl ?_
    refine Wc.skip ?_
    refine Wx.go ?_
    refine Wc.seq ?_
    refine Wc.region ?_
    refine Wl.q (v := Value.pointer (some ⟨q, 0, none⟩)) (q_move rfl) ?_
    refine Wl.q (v := Value.pointer (some ⟨q, 0, none⟩)) (q_move rfl) ?_
    refine Wl.q (v := Value.pointer (some ⟨q, 0, none⟩)) (q_nil_ptr rfl) ?_
    refine Wl.q (v := Value.pointer (some ⟨q, 1, none⟩)) (q_field (m := 1) fo_63_1 rfl rfl) ?_
    refine Wl.q (v := sv) (q_load sc_34 rfl (.cel (i := 0) rfl rfl)) ?_
    refine Wl.q (v := Value.int .i64 ((a : Nat) : Int)) (q_move rfl) ?_
    refine Wl.q (v := Value.string s) (q_move rfl) ?_
    refine Wl.q (v := Value.agg #[Value.int .i64 ((a : Nat) : Int), Value.string s]) (q_build (pl := [(0, 1), (1, 1)]) Try.underlying86 zo_86 (by kernel_rfl) (by kernel_rfl)) ?_
    refine Wl.e (e_buildSlice (cs := [Value.int .i64 ((a : Nat) : Int), Value.string s]) se_34 zo_86 (by decide) (by decide) (by kernel_rfl)) (fun b1 _ => ?_)
    refine Wl.imp (L' := (pt b1 86 [Value.int .i64 ((a : Nat) : Int), Value.string s]) :: (pt q 63 [Value.slice (some ⟨bd, 0, none⟩) secs.length cd, sv, Value.bool false, Value.int .i64 (-1), Value.int .i64 bv, Value.int .i64 (((count + 1) : Nat) : Int)]) :: (slp 9 1 bd cd (secs.map Value.string)) :: (sl 86 2 sv since.length (flat since)) :: F) (fun _ h => h) ?_
    refine Wl.e (e_append (i := 3) (k := 2) (m := 1) (off := 0) (news := [Value.int .i64 ((a : Nat) : Int), Value.string s]) Try.underlying34 sz_86 by_86 zo_86 rfl rfl rfl rfl rfl (Has.of_pt (i := 0) rfl rfl) rfl (by decide) (by simp only [maxLen]; omega) (by omega)) (fun v2 _ => ?_)
    refine Wl.imp (L' := (pt b1 86 [Value.int .i64 ((a : Nat) : Int), Value.string s]) :: (pt q 63 [Value.slice (some ⟨bd, 0, none⟩) secs.length cd, sv, Value.bool false, Value.int .i64 (-1), Value.int .i64 bv, Value.int .i64 (((count + 1) : Nat) : Int)]) :: (slp 9 1 bd cd (secs.map Value.string)) :: (sl 86 2 v2 (since.length + 1) ((flat since) ++ [Value.int .i64 ((a : Nat) : Int), Value.string s])) :: F) (fun _ h => h) ?_
    refine Wl.q (v := Value.pointer (some ⟨q, 0, none⟩)) (q_nil_ptr rfl) ?_
    refine Wl.q (v := Value.pointer (some ⟨q, 1, none⟩)) (q_field (m := 1) fo_63_1 rfl rfl) ?_
    refine Wl.e (e_store (i := 1) (v := v2) sz_34 rfl rfl (fun _ h => sl_one (i := 3) h rfl) rfl (by simp)) (fun _ _ => ?_)
    refine Wl.imp (L' := (pt b1 86 [Value.int .i64 ((a : Nat) : Int), Value.string s]) :: (pt q 63 [Value.slice (some ⟨bd, 0, none⟩) secs.length cd, v2, Value.bool false, Value.int .i64 (-1), Value.int .i64 bv, Value.int .i64 (((count + 1) : Nat) : Int)]) :: (slp 9 1 bd cd (secs.map Value.string)) :: (sl 86 2 v2 (since.length + 1) ((flat since) ++ [Value.int .i64 ((a : Nat) : Int), Value.string s])) :: F) (fun _ h => h) ?_
    refine Wl.done ?_
    refine Wx.go ?_
    refine Wc.seq ?_
    refine Wc.region ?_
    refine Wl.q (v := Value.int .i64 0) (q_assign rfl) ?_
    refine Wl.done ?_
    refine Wx.go ?_
    refine Wc.ret ?_
    refine Wx.fin1 rfl (.inl rfl) (fun w hs => ?_)
    have e : DS.write (⟨secs, since, false, count, none⟩ : DS) ((a : Nat) : Int) s = (0, ⟨secs, since ++ [(a, s)], false, count + 1, none⟩) := by rw [write_ok rfl hge hsz]; rfl
    rw [e]
    exact ⟨(), trivial, rfl, isRef_mk (lv := -1) rfl rfl (by simp only [flat_snoc, List.length_append, List.length_singleton]; exact (st_drop (st_pull [0] hs)))⟩
   ·
    refine Wl.q (v := Value.bool true) (q_neq (r := false) rfl rfl (decide_eq_false hsz)) ?_
    refine Wl.q (v := Value.bool true) (q_pick (t := false) rfl rfl) ?_
    refine Wl.done ?_
    refine Wx.go ?_
    refine Wc.yes rfl ?_
    refine Wc.seq ?_
    refine Wc.region ?_
    refine Wl.q (v := Value.int .i64 1) (q_assign rfl) ?_
    refine Wl.done ?_
    refine Wx.go ?_
    refine Wc.ret ?_
    refine Wx.thenRet ?_
    refine Wx.fin1 rfl (.inl rfl) (fun w hs => ?_)
    have e : DS.write (⟨secs, since, false, count, none⟩ : DS) ((a : Nat) : Int) s = (1, (⟨secs, since, false, count, none⟩ : DS)) := write_bad rfl (by first | exact .inl hneg | exact .inr (.inl hge) | exact .inr (.inr hsz))
    rw [e]
    exact ⟨(), trivial, rfl, isRef_mk (lv := -1) rfl rfl hs⟩

theorem rwrite_cutS (W0 : World) (q bd cd : Nat) (secs : List ByteArray) (since : List (Nat × ByteArray)) (count : Nat) (sv : Value) (n : Nat) (bits : Int) (at_ : Int) (s : ByteArray) (hw : WFl secs since) (hsince : since.length < 1099511627776) (hcount : count < 4611686018427387904) (hn : n < 9223372036854775807) :
  Con Try.prog W0 51 #[Value.pointer (some ⟨q, 0, none⟩), Value.int .i64 at_, Value.string s] [pt q 63 [Value.slice (some ⟨bd, 0, none⟩) secs.length cd, sv, Value.bool false, Value.int .i64 (((n + 1) : Nat) : Int), Value.int .i64 bits, Value.int .i64 ((count : Nat) : Int)], slp 9 1 bd cd (secs.map Value.string), sl 86 2 sv since.length (flat since)] (X := Unit) (fun _ => True) (fun _ => Value.int .i64 (DS.write (⟨secs, since, false, count, (some (n + 1, bits))⟩ : DS) at_ s).1) (fun _ => [isRef q (DS.write (⟨secs, since, false, count, (some (n + 1, bits))⟩ : DS) at_ s).2]) := by
 refine Con.of (args := [Value.pointer (some ⟨q, 0, none⟩), Value.int .i64 at_, Value.string s]) Try.func51 rfl Try.ntmps51 rfl (fun F => ?_)
 show Wc _ W0 _ _ _ _ _ ((pt q 63 [Value.slice (some ⟨bd, 0, none⟩) secs.length cd, sv, Value.bool false, Value.int .i64 (((n + 1) : Nat) : Int), Value.int .i64 bits, Value.int .i64 ((count : Nat) : Int)]) :: (slp 9 1 bd cd (secs.map Value.string)) :: (sl 86 2 sv since.length (flat since)) :: F)
 refine Wc.seq ?_
 refine Wc.region ?_
 refine Wl.q (v := Value.int .i64 0) (q_assign rfl) ?_
 refine Wl.done ?_
 refine Wx.go ?_
 refine Wc.seq ?_
 refine Wc.seq ?_
 refine Wc.region ?_
 refine Wl.q (v := Value.pointer (some ⟨q, 0, none⟩)) (q_move rfl) ?_
 refine Wl.q (v := Value.pointer (some ⟨q, 0, none⟩)) (q_nil_ptr rfl) ?_
 refine Wl.q (v := Value.pointer (some ⟨q, 2, none⟩)) (q_field (m := 2) fo_63_2 rfl rfl) ?_
 refine Wl.q (v := Value.bool false) (q_load sc_4 rfl (.cel (i := 0) rfl rfl)) ?_
 refine Wl.done ?_
 refine Wx.go ?_
 refine Wc.no rfl ?_
 refine Wc.skip ?_
 refine Wx.go ?_
 refine Wc.seq ?_
 refine Wc.seq ?_
 refine Wc.region ?_
 refine Wl.q (v := Value.int .i64 at_) (q_move rfl) ?_
 by_cases hneg : at_ < 0
 ·
  refine Wl.q (v := Value.bool true) (q_lss (r := true) rfl rfl (decide_eq_true hneg)) ?_
  refine Wl.q (v := Value.bool true) (q_move rfl) ?_
  refine Wl.no ?_
  refine Wl.no ?_
  refine Wl.no ?_
  refine Wl.no ?_
  refine Wl.no ?_
  refine Wl.no ?_
  refine Wl.no ?_
  refine Wl.q (v := Value.bool true) (q_pick (t := true) rfl rfl) ?_
  refine Wl.q (v := Value.bool true) (q_move rfl) ?_
  refine Wl.no ?_
  refine Wl.no ?_
  refine Wl.no ?_
  refine Wl.q (v := Value.bool true) (q_pick (t := true) rfl rfl) ?_
  refine Wl.done ?_
  refine Wx.go ?_
  refine Wc.yes rfl ?_
  refine Wc.seq ?_
  refine Wc.region ?_
  refine Wl.q (v := Value.int .i64 1) (q_assign rfl) ?_
  refine Wl.done ?_
  refine Wx.go ?_
  refine Wc.ret ?_
  refine Wx.thenRet ?_
  refine Wx.fin1 rfl (.inl rfl) (fun w hs => ?_)
  have e : DS.write (⟨secs, since, false, count, (some (n + 1, bits))⟩ : DS) at_ s = (1, (⟨secs, since, false, count, (some (n + 1, bits))⟩ : DS)) := write_bad rfl (by first | exact .inl hneg | exact .inr (.inl hge) | exact .inr (.inr hsz))
  rw [e]
  exact ⟨(), trivial, rfl, isRef_mk (lv := ((n + 1 : Nat) : Int)) ⟨rfl, rfl⟩ rfl hs⟩
 ·
  obtain ⟨a, rfl⟩ := Int.eq_ofNat_of_zero_le (Int.not_lt.1 hneg)
  refine Wl.q (v := Value.bool false) (q_lss (r := false) rfl rfl (decide_eq_false hneg)) ?_
  refine Wl.q (v := Value.bool false) (q_move rfl) ?_
  refine Wl.q (v := Value.int .i64 ((a : Nat) : Int)) (q_move rfl) ?_
  refine Wl.q (v := Value.pointer (some ⟨q, 0, none⟩)) (q_move rfl) ?_
  refine Wl.q (v := Value.pointer (some ⟨q, 0, none⟩)) (q_nil_ptr rfl) ?_
  refine Wl.q (v := Value.pointer (some ⟨q, 0, none⟩)) (q_field (m := 0) fo_63_0 rfl rfl) ?_
  refine Wl.q (v := Value.slice (some ⟨bd, 0, none⟩) secs.length cd) (q_load sc_33 rfl (.cel (i := 0) rfl rfl)) ?_
  refine Wl.q (v := Value.int .i64 ((secs.length : Nat) : Int)) (q_len_slice Try.underlying33 rfl) ?_
  by_cases hge : ((a : Nat) : Int) ≥ ((secs.length : Nat) : Int)
  ·
   refine Wl.q (v := Value.bool true) (q_geq (r := true) rfl rfl (decide_eq_true hge)) ?_
   refine Wl.q (v := Value.bool true) (q_pick (t := false) rfl rfl) ?_
   refine Wl.q (v := Value.bool true) (q_move rfl) ?_
   refine Wl.no ?_
   refine Wl.no ?_
   refine Wl.no ?_
   refine Wl.q (v := Value.bool true) (q_pick (t := true) rfl rfl) ?_
   refine Wl.done ?_
   refine Wx.go ?_
   refine Wc.yes rfl ?_
   refine Wc.seq ?_
   refine Wc.region ?_
   refine Wl.q (v := Value.int .i64 1) (q_assign rfl) ?_
   refine Wl.done ?_
   refine Wx.go ?_
   refine Wc.ret ?_
   refine Wx.thenRet ?_
   refine Wx.fin1 rfl (.inl rfl) (fun w hs => ?_)
   have e : DS.write (⟨secs, since, false, count, (some (n + 1, bits))⟩ : DS) ((a : Nat) : Int) s = (1, (⟨secs, since, false, count, (some (n + 1, bits))⟩ : DS)) := write_bad rfl (by first | exact .inl hneg | exact .inr (.inl hge) | exact .inr (.inr hsz))
   rw [e]
   exact ⟨(), trivial, rfl, isRef_mk (lv := ((n + 1 : Nat) : Int)) ⟨rfl, rfl⟩ rfl hs⟩
  ·
   refine Wl.q (v := Value.bool false) (q_geq (r := false) rfl rfl (decide_eq_false hge)) ?_
   refine Wl.q (v := Value.bool false) (q_pick (t := false) rfl rfl) ?_
   refine Wl.q (v := Value.bool false) (q_move rfl) ?_
   refine Wl.q (v := Value.string s) (q_move rfl) ?_
   refine Wl.q (v := Value.int .i64 ((s.size : Nat) : Int)) (q_len_str Try.underlying9 rfl) ?_
   by_cases hsz : ((s.size : Nat) : Int) = 64
   ·
    refine Wl.q (v := Value.bool false) (q_neq (r := true) rfl rfl (decide_eq_true hsz)) ?_
    refine Wl.q (v := Value.bool false) (q_pick (t := false) rfl rfl) ?_
    refine Wl.done ?_
    refine Wx.go ?_
    refine Wc.no rfl ?_
    refine Wc.skip ?_
    refine Wx.go ?_
    refine Wc.seq ?_
    refine Wc.seq ?_
    refine Wc.region ?_
    refine Wl.q (v := Value.pointer (some ⟨q, 0, none⟩)) (q_move rfl) ?_
    refine Wl.e (e_call (F := (slp 9 1 bd cd (secs.map Value.string)) :: (sl 86 2 sv since.length (flat since)) :: F) (args := [Value.pointer (some ⟨q, 0, none⟩)]) Try.call69 rfl (rdoes_cutS W0 q bd cd secs since count sv bits hcount n hn)) (fun _ _ => ?_)
    refine Wl.imp (L' := (pt q 63 [Value.slice (some ⟨bd, 0, none⟩) secs.length cd, sv, Value.bool false, Value.int .i64 ((n : Nat) : Int), Value.int .i64 bits, Value.int .i64 (((count + 1) : Nat) : Int)]) :: (slp 9 1 bd cd (secs.map Value.string)) :: (sl 86 2 sv since.length (flat since)) :: F) (fun _ h => h) ?_
    refine Wl.q (v := Value.bool false) (q_not rfl rfl) ?_
    refine Wl.done ?_
    refine Wx.go ?_
    refine Wc.no rfl ?_
    refine Wc.skip ?_
    refine Wx.go ?_
    refine Wc.seq ?_
    refine Wc.region ?_
    refine Wl.q (v := Value.pointer (some ⟨q, 0, none⟩)) (q_move rfl) ?_
    refine Wl.q (v := Value.pointer (some ⟨q, 0, none⟩)) (q_move rfl) ?_
    refine Wl.q (v := Value.pointer (some ⟨q, 0, none⟩)) (q_nil_ptr rfl) ?_
    refine Wl.q (v := Value.pointer (some ⟨q, 1, none⟩)) (q_field (m := 1) fo_63_1 rfl rfl) ?_
    refine Wl.q (v := sv) (q_load sc_34 rfl (.cel (i := 0) rfl rfl)) ?_
    refine Wl.q (v := Value.int .i64 ((a : Nat) : Int)) (q_move rfl) ?_
    refine Wl.q (v := Value.string s) (q_move rfl) ?_
    refine Wl.q (v := Value.agg #[Value.int .i64 ((a : Nat) : Int), Value.string s]) (q_build (pl := [(0, 1), (1, 1)]) Try.underlying86 zo_86 (by kernel_rfl) (by kernel_rfl)) ?_
    refine Wl.e (e_buildSlice (cs := [Value.int .i64 ((a : Nat) : Int), Value.string s]) se_34 zo_86 (by decide) (by decide) (by kernel_rfl)) (fun b1 _ => ?_)
    refine Wl.imp (L' := (pt b1 86 [Value.int .i64 ((a : Nat) : Int), Value.string s]) :: (pt q 63 [Value.slice (some ⟨bd, 0, none⟩) secs.length cd, sv, Value.bool false, Value.int .i64 ((n : Nat) : Int), Value.int .i64 bits, Value.int .i64 (((count + 1) : Nat) : Int)]) :: (slp 9 1 bd cd (secs.map Value.string)) :: (sl 86 2 sv since.length (flat since)) :: F) (fun _ h => h) ?_
    refine Wl.e (e_append (i := 3) (k := 2) (m := 1) (off := 0) (news := [Value.int .i64 ((a : Nat) : Int), Value.string s]) Try.underlying34 sz_86 by_86 zo_86 rfl rfl rfl rfl rfl (Has.of_pt (i := 0) rfl rfl) rfl (by decide) (by simp only [maxLen]; omega) (by omega)) (fun v2 _ => ?_)
    refine Wl.imp (L' := (pt b1 86 [Value.int .i64 ((a : Nat) : Int), Value.string s]) :: (pt q 63 [Value.slice (some ⟨bd, 0, none⟩) secs.length cd, sv, Value.bool false, Value.int .i64 ((n : Nat) : Int), Value.int .i64 bits, Value.int .i64 (((count + 1) : Nat) : Int)]) :: (slp 9 1 bd cd (secs.map Value.string)) :: (sl 86 2 v2 (since.length + 1) ((flat since) ++ [Value.int .i64 ((a : Nat) : Int), Value.string s])) :: F) (fun _ h => h) ?_
    refine Wl.q (v := Value.pointer (some ⟨q, 0, none⟩)) (q_nil_ptr rfl) ?_
    refine Wl.q (v := Value.pointer (some ⟨q, 1, none⟩)) (q_field (m := 1) fo_63_1 rfl rfl) ?_
    refine Wl.e (e_store (i := 1) (v := v2) sz_34 rfl rfl (fun _ h => sl_one (i := 3) h rfl) rfl (by simp)) (fun _ _ => ?_)
    refine Wl.imp (L' := (pt b1 86 [Value.int .i64 ((a : Nat) : Int), Value.string s]) :: (pt q 63 [Value.slice (some ⟨bd, 0, none⟩) secs.length cd, v2, Value.bool false, Value.int .i64 ((n : Nat) : Int), Value.int .i64 bits, Value.int .i64 (((count + 1) : Nat) : Int)]) :: (slp 9 1 bd cd (secs.map Value.string)) :: (sl 86 2 v2 (since.length + 1) ((flat since) ++ [Value.int .i64 ((a : Nat) : Int), Value.string s])) :: F) (fun _ h => h) ?_
    refine Wl.done ?_
    refine Wx.go ?_
    refine Wc.seq ?_
    refine Wc.region ?_
    refine Wl.q (v := Value.int .i64 0) (q_assign rfl) ?_
    refine Wl.done ?_
    refine Wx.go ?_
    refine Wc.ret ?_
    refine Wx.fin1 rfl (.inl rfl) (fun w hs => ?_)
    have e : DS.write (⟨secs, since, false, count, (some (n + 1, bits))⟩ : DS) ((a : Nat) : Int) s = (0, ⟨secs, since ++ [(a, s)], false, count + 1, (some (n, bits))⟩) := by rw [write_ok rfl hge hsz]; rfl
    rw [e]
    exact ⟨(), trivial, rfl, isRef_mk (lv := ((n : Nat) : Int)) ⟨rfl, rfl⟩ rfl (by simp only [flat_snoc, List.length_append, List.length_singleton]; exact (st_drop (st_pull [0] hs)))⟩
   ·
    refine Wl.q (v := Value.bool true) (q_neq (r := false) rfl rfl (decide_eq_false hsz)) ?_
    refine Wl.q (v := Value.bool true) (q_pick (t := false) rfl rfl) ?_
    refine Wl.done ?_
    refine Wx.go ?_
    refine Wc.yes rfl ?_
    refine Wc.seq ?_
    refine Wc.region ?_
    refine Wl.q (v := Value.int .i64 1) (q_assign rfl) ?_
    refine Wl.done ?_
    refine Wx.go ?_
    refine Wc.ret ?_
    refine Wx.thenRet ?_
    refine Wx.fin1 rfl (.inl rfl) (fun w hs => ?_)
    have e : DS.write (⟨secs, since, false, count, (some (n + 1, bits))⟩ : DS) ((a : Nat) : Int) s = (1, (⟨secs, since, false, count, (some (n + 1, bits))⟩ : DS)) := write_bad rfl (by first | exact .inl hneg | exact .inr (.inl hge) | exact .inr (.inr hsz))
    rw [e]
    exact ⟨(), trivial, rfl, isRef_mk (lv := ((n + 1 : Nat) : Int)) ⟨rfl, rfl⟩ rfl hs⟩

theorem rwrite_cut0 (W0 : World) (q bd cd : Nat) (secs : List ByteArray) (since : List (Nat × ByteArray)) (count : Nat) (sv : Value) (bits : Int) (at_ : Int) (s : ByteArray) (hw : WFl secs since) (hsince : since.length < 1099511627776) (hcount : count < 4611686018427387904) :
  Con Try.prog W0 51 #[Value.pointer (some ⟨q, 0, none⟩), Value.int .i64 at_, Value.string s] [pt q 63 [Value.slice (some ⟨bd, 0, none⟩) secs.length cd, sv, Value.bool false, Value.int .i64 0, Value.int .i64 bits, Value.int .i64 ((count : Nat) : Int)], slp 9 1 bd cd (secs.map Value.string), sl 86 2 sv since.length (flat since)] (X := Unit) (fun _ => True) (fun _ => Value.int .i64 (DS.write (⟨secs, since, false, count, (some (0, bits))⟩ : DS) at_ s).1) (fun _ => [isRef q (DS.write (⟨secs, since, false, count, (some (0, bits))⟩ : DS) at_ s).2]) := by
 refine Con.of (args := [Value.pointer (some ⟨q, 0, none⟩), Value.int .i64 at_, Value.string s]) Try.func51 rfl Try.ntmps51 rfl (fun F => ?_)
 show Wc _ W0 _ _ _ _ _ ((pt q 63 [Value.slice (some ⟨bd, 0, none⟩) secs.length cd, sv, Value.bool false, Value.int .i64 0, Value.int .i64 bits, Value.int .i64 ((count : Nat) : Int)]) :: (slp 9 1 bd cd (secs.map Value.string)) :: (sl 86 2 sv since.length (flat since)) :: F)
 refine Wc.seq ?_
 refine Wc.region ?_
 refine Wl.q (v := Value.int .i64 0) (q_assign rfl) ?_
 refine Wl.done ?_
 refine Wx.go ?_
 refine Wc.seq ?_
 refine Wc.seq ?_
 refine Wc.region ?_
 refine Wl.q (v := Value.pointer (some ⟨q, 0, none⟩)) (q_move rfl) ?_
 refine Wl.q (v := Value.pointer (some ⟨q, 0, none⟩)) (q_nil_ptr rfl) ?_
 refine Wl.q (v := Value.pointer (some ⟨q, 2, none⟩)) (q_field (m := 2) fo_63_2 rfl rfl) ?_
 refine Wl.q (v := Value.bool false) (q_load sc_4 rfl (.cel (i := 0) rfl rfl)) ?_
 refine Wl.done ?_
 refine Wx.go ?_
 refine Wc.no rfl ?_
 refine Wc.skip ?_
 refine Wx.go ?_
 refine Wc.seq ?_
 refine Wc.seq ?_
 refine Wc.region ?_
 refine Wl.q (v := Value.int .i64 at_) (q_move rfl) ?_
 by_cases hneg : at_ < 0
 ·
  refine Wl.q (v := Value.bool true) (q_lss (r := true) rfl rfl (decide_eq_true hneg)) ?_
  refine Wl.q (v := Value.bool true) (q_move rfl) ?_
  refine Wl.no ?_
  refine Wl.no ?_
  refine Wl.no ?_
  refine Wl.no ?_
  refine Wl.no ?_
  refine Wl.no ?_
  refine Wl.no ?_
  refine Wl.q (v := Value.bool true) (q_pick (t := true) rfl rfl) ?_
  refine Wl.q (v := Value.bool true) (q_move rfl) ?_
  refine Wl.no ?_
  refine Wl.no ?_
  refine Wl.no ?_
  refine Wl.q (v := Value.bool true) (q_pick (t := true) rfl rfl) ?_
  refine Wl.done ?_
  refine Wx.go ?_
  refine Wc.yes rfl ?_
  refine Wc.seq ?_
  refine Wc.region ?_
  refine Wl.q (v := Value.int .i64 1) (q_assign rfl) ?_
  refine Wl.done ?_
  refine Wx.go ?_
  refine Wc.ret ?_
  refine Wx.thenRet ?_
  refine Wx.fin1 rfl (.inl rfl) (fun w hs => ?_)
  have e : DS.write (⟨secs, since, false, count, (some (0, bits))⟩ : DS) at_ s = (1, (⟨secs, since, false, count, (some (0, bits))⟩ : DS)) := write_bad rfl (by first | exact .inl hneg | exact .inr (.inl hge) | exact .inr (.inr hsz))
  rw [e]
  exact ⟨(), trivial, rfl, isRef_mk (lv := 0) ⟨rfl, rfl⟩ rfl hs⟩
 ·
  obtain ⟨a, rfl⟩ := Int.eq_ofNat_of_zero_le (Int.not_lt.1 hneg)
  refine Wl.q (v := Value.bool false) (q_lss (r := false) rfl rfl (decide_eq_false hneg)) ?_
  refine Wl.q (v := Value.bool false) (q_move rfl) ?_
  refine Wl.q (v := Value.int .i64 ((a : Nat) : Int)) (q_move rfl) ?_
  refine Wl.q (v := Value.pointer (some ⟨q, 0, none⟩)) (q_move rfl) ?_
  refine Wl.q (v := Value.pointer (some ⟨q, 0, none⟩)) (q_nil_ptr rfl) ?_
  refine Wl.q (v := Value.pointer (some ⟨q, 0, none⟩)) (q_field (m := 0) fo_63_0 rfl rfl) ?_
  refine Wl.q (v := Value.slice (some ⟨bd, 0, none⟩) secs.length cd) (q_load sc_33 rfl (.cel (i := 0) rfl rfl)) ?_
  refine Wl.q (v := Value.int .i64 ((secs.length : Nat) : Int)) (q_len_slice Try.underlying33 rfl) ?_
  by_cases hge : ((a : Nat) : Int) ≥ ((secs.length : Nat) : Int)
  ·
   refine Wl.q (v := Value.bool true) (q_geq (r := true) rfl rfl (decide_eq_true hge)) ?_
   refine Wl.q (v := Value.bool true) (q_pick (t := false) rfl rfl) ?_
   refine Wl.q (v := Value.bool true) (q_move rfl) ?_
   refine Wl.no ?_
   refine Wl.no ?_
   refine Wl.no ?_
   refine Wl.q (v := Value.bool true) (q_pick (t := true) rfl rfl) ?_
   refine Wl.done ?_
   refine Wx.go ?_
   refine Wc.yes rfl ?_
   refine Wc.seq ?_
   refine Wc.region ?_
   refine Wl.q (v := Value.int .i64 1) (q_assign rfl) ?_
   refine Wl.done ?_
   refine Wx.go ?_
   refine Wc.ret ?_
   refine Wx.thenRet ?_
   refine Wx.fin1 rfl (.inl rfl) (fun w hs => ?_)
   have e : DS.write (⟨secs, since, false, count, (some (0, bits))⟩ : DS) ((a : Nat) : Int) s = (1, (⟨secs, since, false, count, (some (0, bits))⟩ : DS)) := write_bad rfl (by first | exact .inl hneg | exact .inr (.inl hge) | exact .inr (.inr hsz))
   rw [e]
   exact ⟨(), trivial, rfl, isRef_mk (lv := 0) ⟨rfl, rfl⟩ rfl hs⟩
  ·
   refine Wl.q (v := Value.bool false) (q_geq (r := false) rfl rfl (decide_eq_false hge)) ?_
   refine Wl.q (v := Value.bool false) (q_pick (t := false) rfl rfl) ?_
   refine Wl.q (v := Value.bool false) (q_move rfl) ?_
   refine Wl.q (v := Value.string s) (q_move rfl) ?_
   refine Wl.q (v := Value.int .i64 ((s.size : Nat) : Int)) (q_len_str Try.underlying9 rfl) ?_
   by_cases hsz : ((s.size : Nat) : Int) = 64
   ·
    refine Wl.q (v := Value.bool false) (q_neq (r := true) rfl rfl (decide_eq_true hsz)) ?_
    refine Wl.q (v := Value.bool false) (q_pick (t := false) rfl rfl) ?_
    refine Wl.done ?_
    refine Wx.go ?_
    refine Wc.no rfl ?_
    refine Wc.skip ?_
    refine Wx.go ?_
    refine Wc.seq ?_
    refine Wc.seq ?_
    refine Wc.region ?_
    refine Wl.q (v := Value.pointer (some ⟨q, 0, none⟩)) (q_move rfl) ?_
    refine Wl.imp (L' := (pt q 63 [Value.slice (some ⟨bd, 0, none⟩) secs.length cd, sv, Value.bool false, Value.int .i64 0, Value.int .i64 bits, Value.int .i64 ((count : Nat) : Int)]) :: (sl 86 2 sv since.length (flat since)) :: (slp 9 1 bd cd (secs.map Value.string)) :: F) (fun _ h => st_pull [0, 1, 0] h) ?_
    refine Wl.e (e_call (F := F) (args := [Value.pointer (some ⟨q, 0, none⟩)]) Try.call69 rfl (rdoes_cut0 W0 q bd cd secs since count sv bits hcount hw hsince)) (fun _ _ => ?_)
    refine Wl.imp (L' := (pt q 63 [Value.slice (some ⟨bd, 0, none⟩) secs.length cd, Value.slice none 0 0, Value.bool true, Value.int .i64 (-1), Value.int .i64 bits, Value.int .i64 ((count : Nat) : Int)]) :: (slp 9 1 bd cd ((fallL secs (since.take 31) bits).map Value.string)) :: F) (fun _ h => h) ?_
    refine Wl.q (v := Value.bool true) (q_not rfl rfl) ?_
    refine Wl.done ?_
    refine Wx.go ?_
    refine Wc.yes rfl ?_
    refine Wc.seq ?_
    refine Wc.region ?_
    refine Wl.q (v := Value.int .i64 6) (q_assign rfl) ?_
    refine Wl.done ?_
    refine Wx.go ?_
    refine Wc.ret ?_
    refine Wx.thenRet ?_
    refine Wx.fin1 rfl (.inl rfl) (fun w hs => ?_)
    have e : DS.write (⟨secs, since, false, count, (some (0, bits))⟩ : DS) ((a : Nat) : Int) s = (6, ⟨fallL secs (since.take 31) bits, [], true, count, none⟩) := by rw [write_ok rfl hge hsz]; rfl
    rw [e]
    exact ⟨(), trivial, rfl, isRef_mk (lv := -1) rfl (fallL_length _ _ _).symm (st_pull [1, 1] (st_sl_nil hs))⟩
   ·
    refine Wl.q (v := Value.bool true) (q_neq (r := false) rfl rfl (decide_eq_false hsz)) ?_
    refine Wl.q (v := Value.bool true) (q_pick (t := false) rfl rfl) ?_
    refine Wl.done ?_
    refine Wx.go ?_
    refine Wc.yes rfl ?_
    refine Wc.seq ?_
    refine Wc.region ?_
    refine Wl.q (v := Value.int .i64 1) (q_assign rfl) ?_
    refine Wl.done ?_
    refine Wx.go ?_
    refine Wc.ret ?_
    refine Wx.thenRet ?_
    refine Wx.fin1 rfl (.inl rfl) (fun w hs => ?_)
    have e : DS.write (⟨secs, since, false, count, (some (0, bits))⟩ : DS) ((a : Nat) : Int) s = (1, (⟨secs, since, false, count, (some (0, bits))⟩ : DS)) := write_bad rfl (by first | exact .inl hneg | exact .inr (.inl hge) | exact .inr (.inr hsz))
    rw [e]
    exact ⟨(), trivial, rfl, isRef_mk (lv := 0) ⟨rfl, rfl⟩ rfl hs⟩

theorem rwrite_c (W0 : World) (q : Nat) (d : DS) (at_ : Int) (s : ByteArray) (hw : WF d) (hsince : d.since.length < 1099511627776) (hcount : d.count < 4611686018427387904) :
    Con Try.prog W0 51 #[Value.pointer (some ⟨q, 0, none⟩), Value.int .i64 at_, Value.string s] [isRef q d] (X := Unit) (fun _ => True) (fun _ => Value.int .i64 (d.write at_ s).1) (fun _ => [isRef q (d.write at_ s).2]) := by
  obtain ⟨secs, since, down, count, cut⟩ := d
  refine Con.ref (fun bd cd sv lv bv hr => ?_)
  cases down
  · cases cut with
    | none => obtain rfl : lv = -1 := hr; exact rwrite_none W0 q bd cd secs since count sv bv at_ s hw.l hsince hcount
    | some c =>
      obtain ⟨m, b⟩ := c
      obtain ⟨rfl, rfl⟩ := hr
      cases m with
      | zero => exact rwrite_cut0 W0 q bd cd secs since count sv _ at_ s hw.l hsince hcount
      | succ n => exact rwrite_cutS W0 q bd cd secs since count sv n _ at_ s hw.l hsince hcount (by have := hw.left _ _ rfl; omega)
  · exact rwrite_down W0 q bd cd secs since count sv lv bv cut hr at_ s

theorem rsync_down (W0 : World) (q bd cd : Nat) (secs : List ByteArray) (since : List (Nat × ByteArray)) (count : Nat) (sv : Value) (lv bv : Int) (cut : Option (Nat × Int)) (hr : refR lv bv cut) :
  Con Try.prog W0 54 #[Value.pointer (some ⟨q, 0, none⟩)] [pt q 63 [Value.slice (some ⟨bd, 0, none⟩) secs.length cd, sv, Value.bool true, Value.int .i64 lv, Value.int .i64 bv, Value.int .i64 ((count : Nat) : Int)], slp 9 1 bd cd (secs.map Value.string), sl 86 2 sv since.length (flat since)] (X := Unit) (fun _ => True) (fun _ => Value.int .i64 (DS.sync (⟨secs, since, true, count, cut⟩ : DS)).1) (fun _ => [isRef q (DS.sync (⟨secs, since, true, count, cut⟩ : DS)).2]) := by
 refine Con.of (args := [Value.pointer (some ⟨q, 0, none⟩)]) Try.func54 rfl Try.ntmps54 rfl (fun F => ?_)
 show Wc _ W0 _ _ _ _ _ ((pt q 63 [Value.slice (some ⟨bd, 0, none⟩) secs.length cd, sv, Value.bool true, Value.int .i64 lv, Value.int .i64 bv, Value.int .i64 ((count : Nat) : Int)]) :: (slp 9 1 bd cd (secs.map Value.string)) :: (sl 86 2 sv since.length (flat since)) :: F)
 refine Wc.seq ?_
 refine Wc.region ?_
 refine Wl.q (v := Value.int .i64 0) (q_assign rfl) ?_
 refine Wl.done ?_
 refine Wx.go ?_
 refine Wc.seq ?_
 refine Wc.seq ?_
 refine Wc.region ?_
 refine Wl.q (v := Value.pointer (some ⟨q, 0, none⟩)) (q_move rfl) ?_
 refine Wl.q (v := Value.pointer (some ⟨q, 0, none⟩)) (q_nil_ptr rfl) ?_
 refine Wl.q (v := Value.pointer (some ⟨q, 2, none⟩)) (q_field (m := 2) fo_63_2 rfl rfl) ?_
 refine Wl.q (v := Value.bool true) (q_load sc_4 rfl (.cel (i := 0) rfl rfl)) ?_
 refine Wl.q (v := Value.bool true) (q_move rfl) ?_
 refine Wl.no ?_
 refine Wl.no ?_
 refine Wl.no ?_
 refine Wl.q (v := Value.bool true) (q_pick (t := true) rfl rfl) ?_
 refine Wl.done ?_
 refine Wx.go ?_
 refine Wc.yes rfl ?_
 refine Wc.seq ?_
 refine Wc.region ?_
 refine Wl.q (v := Value.int .i64 6) (q_assign rfl) ?_
 refine Wl.done ?_
 refine Wx.go ?_
 refine Wc.ret ?_
 refine Wx.thenRet ?_
 refine Wx.fin1 rfl (.inl rfl) (fun w hs => ?_)
 have e : DS.sync (⟨secs, since, true, count, cut⟩ : DS) = (6, (⟨secs, since, true, count, cut⟩ : DS)) := rfl
 rw [e]
 exact ⟨(), trivial, rfl, isRef_mk hr rfl hs⟩

theorem rsync_cut0 (W0 : World) (q bd cd : Nat) (secs : List ByteArray) (since : List (Nat × ByteArray)) (count : Nat) (sv : Value) (bits : Int) (hw : WFl secs since) (hsince : since.length < 1099511627776) (hcount : count < 4611686018427387904) :
  Con Try.prog W0 54 #[Value.pointer (some ⟨q, 0, none⟩)] [pt q 63 [Value.slice (some ⟨bd, 0, none⟩) secs.length cd, sv, Value.bool false, Value.int .i64 0, Value.int .i64 bits, Value.int .i64 ((count : Nat) : Int)], slp 9 1 bd cd (secs.map Value.string), sl 86 2 sv since.length (flat since)] (X := Unit) (fun _ => True) (fun _ => Value.int .i64 (DS.sync (⟨secs, since, false, count, (some (0, bits))⟩ : DS)).1) (fun _ => [isRef q (DS.sync (⟨secs, since, false, count, (some (0, bits))⟩ : DS)).2]) := by
 refine Con.of (args := [Value.pointer (some ⟨q, 0, none⟩)]) Try.func54 rfl Try.ntmps54 rfl (fun F => ?_)
 show Wc _ W0 _ _ _ _ _ ((pt q 63 [Value.slice (some ⟨bd, 0, none⟩) secs.length cd, sv, Value.bool false, Value.int .i64 0, Value.int .i64 bits, Value.int .i64 ((count : Nat) : Int)]) :: (slp 9 1 bd cd (secs.map Value.string)) :: (sl 86 2 sv since.length (flat since)) :: F)
 refine Wc.seq ?_
 refine Wc.region ?_
 refine Wl.q (v := Value.int .i64 0) (q_assign rfl) ?_
 refine Wl.done ?_
 refine Wx.go ?_
 refine Wc.seq ?_
 refine Wc.seq ?_
 refine Wc.region ?_
 refine Wl.q (v := Value.pointer (some ⟨q, 0, none⟩)) (q_move rfl) ?_
 refine Wl.q (v := Value.pointer (some ⟨q, 0, none⟩)) (q_nil_ptr rfl) ?_
 refine Wl.q (v := Value.pointer (some ⟨q, 2, none⟩)) (q_field (m := 2) fo_63_2 rfl rfl) ?_
 refine Wl.q (v := Value.bool false) (q_load sc_4 rfl (.cel (i := 0) rfl rfl)) ?_
 refine Wl.q (v := Value.bool false) (q_move rfl) ?_
 refine Wl.q (v := Value.pointer (some ⟨q, 0, none⟩)) (q_move rfl) ?_
 refine Wl.imp (L' := (pt q 63 [Value.slice (some ⟨bd, 0, none⟩) secs.length cd, sv, Value.bool false, Value.int .i64 0, Value.int .i64 bits, Value.int .i64 ((count : Nat) : Int)]) :: (sl 86 2 sv since.length (flat since)) :: (slp 9 1 bd cd (secs.map Value.string)) :: F) (fun _ h => st_pull [0, 1, 0] h) ?_
 refine Wl.e (e_call (F := F) (args := [Value.pointer (some ⟨q, 0, none⟩)]) Try.call69 rfl (rdoes_cut0 W0 q bd cd secs since count sv bits hcount hw hsince)) (fun _ _ => ?_)
 refine Wl.imp (L' := (pt q 63 [Value.slice (some ⟨bd, 0, none⟩) secs.length cd, Value.slice none 0 0, Value.bool true, Value.int .i64 (-1), Value.int .i64 bits, Value.int .i64 ((count : Nat) : Int)]) :: (slp 9 1 bd cd ((fallL secs (since.take 31) bits).map Value.string)) :: F) (fun _ h => h) ?_
 refine Wl.q (v := Value.bool true) (q_not rfl rfl) ?_
 refine Wl.q (v := Value.bool true) (q_pick (t := false) rfl rfl) ?_
 refine Wl.done ?_
 refine Wx.go ?_
 refine Wc.yes rfl ?_
 refine Wc.seq ?_
 refine Wc.region ?_
 refine Wl.q (v := Value.int .i64 6) (q_assign rfl) ?_
 refine Wl.done ?_
 refine Wx.go ?_
 refine Wc.ret ?_
 refine Wx.thenRet ?_
 refine Wx.fin1 rfl (.inl rfl) (fun w hs => ?_)
 have e : DS.sync (⟨secs, since, false, count, (some (0, bits))⟩ : DS) = (6, ⟨fallL secs (since.take 31) bits, [], true, count, none⟩) := rfl
 rw [e]
 exact ⟨(), trivial, rfl, isRef_mk (lv := -1) rfl (fallL_length _ _ _).symm (st_pull [1, 1] (st_sl_nil hs))⟩

theorem rsync_none_blk (W0 : World) (q bd cd : Nat) (secs : List ByteArray) (since : List (Nat × ByteArray)) (count : Nat) (bv : Int) (hw : WFl secs since) (hsince : since.length < 1099511627776) (hcount : count < 4611686018427387904) (b cap : Nat) (hcap : since.length ≤ cap) :
    Con Try.prog W0 54 #[Value.pointer (some ⟨q, 0, none⟩)] [slp 86 2 b cap (flat since), pt q 63 [Value.slice (some ⟨bd, 0, none⟩) secs.length cd, Value.slice (some ⟨b, 0, none⟩) since.length cap, Value.bool false, Value.int .i64 (-1), Value.int .i64 bv, Value.int .i64 ((count : Nat) : Int)], slp 9 1 bd cd (secs.map Value.string)] (X := Unit) (fun _ => True) (fun _ => Value.int .i64 (DS.sync (⟨secs, since, false, count, none⟩ : DS)).1) (fun _ => [isRef q (DS.sync (⟨secs, since, false, count, none⟩ : DS)).2]) := by
  refine Con.of (args := [Value.pointer (some ⟨q, 0, none⟩)]) Try.func54 rfl Try.ntmps54 rfl (fun F => ?_)
  show Wc _ W0 _ _ _ _ _ ((slp 86 2 b cap (flat since)) :: (pt q 63 [Value.slice (some ⟨bd, 0, none⟩) secs.length cd, Value.slice (some ⟨b, 0, none⟩) since.length cap, Value.bool false, Value.int .i64 (-1), Value.int .i64 bv, Value.int .i64 ((count : Nat) : Int)]) :: (slp 9 1 bd cd (secs.map Value.string)) :: F)
  refine Wc.seq ?_
  refine Wc.region ?_
  refine Wl.q (v := Value.int .i64 0) (q_assign rfl) ?_
  refine Wl.done ?_
  refine Wx.go ?_
  refine Wc.seq ?_
  refine Wc.seq ?_
  refine Wc.region ?_
  refine Wl.q (v := Value.pointer (some ⟨q, 0, none⟩)) (q_move rfl) ?_
  refine Wl.q (v := Value.pointer (some ⟨q, 0, none⟩)) (q_nil_ptr rfl) ?_
  refine Wl.q (v := Value.pointer (some ⟨q, 2, none⟩)) (q_field (m := 2) fo_63_2 rfl rfl) ?_
  refine Wl.q (v := Value.bool false) (q_load sc_4 rfl (.cel (i := 1) rfl rfl)) ?_
  refine Wl.q (v := Value.bool false) (q_move rfl) ?_
  refine Wl.q (v := Value.pointer (some ⟨q, 0, none⟩)) (q_move rfl) ?_
  refine Wl.imp (L' := (pt q 63 [Value.slice (some ⟨bd, 0, none⟩) secs.length cd, Value.slice (some ⟨b, 0, none⟩) since.length cap, Value.bool false, Value.int .i64 (-1), Value.int .i64 bv, Value.int .i64 ((count : Nat) : Int)]) :: (slp 86 2 b cap (flat since)) :: (slp 9 1 bd cd (secs.map Value.string)) :: F) (fun _ h => st_pull [1] h) ?_
  refine Wl.e (e_call (F := (slp 86 2 b cap (flat since)) :: (slp 9 1 bd cd (secs.map Value.string)) :: F) (args := [Value.pointer (some ⟨q, 0, none⟩)]) Try.call69 rfl (rdoes_none W0 q bd cd secs since count (Value.slice (some ⟨b, 0, none⟩) since.length cap) (Value.int .i64 bv) hcount)) (fun _ _ => ?_)
  refine Wl.imp (L' := (pt q 63 [Value.slice (some ⟨bd, 0, none⟩) secs.length cd, Value.slice (some ⟨b, 0, none⟩) since.length cap, Value.bool false, Value.int .i64 (-1), Value.int .i64 bv, Value.int .i64 (((count + 1) : Nat) : Int)]) :: (slp 86 2 b cap (flat since)) :: (slp 9 1 bd cd (secs.map Value.string)) :: F) (fun _ h => h) ?_
  refine Wl.q (v := Value.bool false) (q_not rfl rfl) ?_
  refine Wl.q (v := Value.bool false) (q_pick (t := false) rfl rfl) ?_
  refine Wl.done ?_
  refine Wx.go ?_
  refine Wc.no rfl ?_
  refine Wc.skip ?_
  refine Wx.go ?_
  refine Wc.seq ?_
  refine Wc.seq ?_
  refine Wc.region ?_
  refine Wl.q (v := Value.int .i64 0) (q_assign rfl) ?_
  refine Wl.done ?_
  refine Wx.go ?_
  refine Wc.block ?_
  refine Wc.loop (X := Nat × List ByteArray) (fun (k, ss) E => E 3 = Value.int .i64 ((k : Nat) : Int) ∧ E 0 = Value.pointer (some ⟨q, 0, none⟩) ∧ syncL ss (since.drop k) = syncL secs since ∧ ss.length = secs.length ∧ k ≤ since.length) (fun (k, ss) => (slp 86 2 b cap (flat since)) :: (pt q 63 [Value.slice (some ⟨bd, 0, none⟩) secs.length cd, Value.slice (some ⟨b, 0, none⟩) since.length cap, Value.bool false, Value.int .i64 (-1), Value.int .i64 bv, Value.int .i64 (((count + 1) : Nat) : Int)]) :: (slp 9 1 bd cd (ss.map Value.string)) :: F) (fun (k, ss) => since.length - k) (0, secs) ?_ ?_ ?_
  · exact ⟨rfl, rfl, rfl, rfl, (by omega)⟩
  · exact fun w hs => (st_pull [1, 0, 0] (hs))
  · rintro ⟨k, ss⟩ E2 ⟨hE3_0, hE0_0, hp0, hp1, hp3⟩
    dsimp only at *
    refine Wc.seq ?_
    refine Wc.seq ?_
    refine Wc.region ?_
    refine Wl.q (v := Value.int .i64 ((k : Nat) : Int)) (q_move hE3_0) ?_
    refine Wl.q (v := Value.pointer (some ⟨q, 0, none⟩)) (q_move hE0_0) ?_
    refine Wl.q (v := Value.pointer (some ⟨q, 0, none⟩)) (q_nil_ptr rfl) ?_
    refine Wl.q (v := Value.pointer (some ⟨q, 1, none⟩)) (q_field (m := 1) fo_63_1 rfl rfl) ?_
    refine Wl.q (v := Value.slice (some ⟨b, 0, none⟩) since.length cap) (q_load sc_34 rfl (.cel (i := 1) rfl rfl)) ?_
    refine Wl.q (v := Value.int .i64 ((since.length : Nat) : Int)) (q_len_slice Try.underlying34 rfl) ?_
    by_cases hlt : ((k : Nat) : Int) < ((since.length : Nat) : Int)
    ·
      obtain ⟨⟨a, s⟩, hget⟩ : ∃ q, since[k]? = some q := ⟨since[k]'(by omega), by simp [List.getElem?_eq_getElem (show k < since.length by omega)]⟩
      have hmem := List.mem_of_getElem? hget
      have ha : a < ss.length := by have := hw.at_ _ hmem; simp only at this; omega
      refine Wl.q (v := Value.bool true) (q_lss (r := true) rfl rfl (decide_eq_true hlt)) ?_
      refine Wl.done ?_
      refine Wx.go ?_
      refine Wc.yes rfl ?_
      refine Wc.skip ?_
      refine Wx.go ?_
      refine Wc.seq ?_
      refine Wc.block ?_
      refine Wc.drawsS [21] ((slp 86 2 b cap (flat since)) :: (pt q 63 [Value.slice (some ⟨bd, 0, none⟩) secs.length cd, Value.slice (some ⟨b, 0, none⟩) since.length cap, Value.bool false, Value.int .i64 (-1), Value.int .i64 bv, Value.int .i64 (((count + 1) : Nat) : Int)]) :: (slp 9 1 bd cd (ss.map Value.string)) :: []) (by kernel_rfl) ?_
      refine Wr.pure (v := Value.pointer (some ⟨q, 0, none⟩)) 0 rfl (by kernel_rfl) (.inr (fun _ h => st_take [0, 0, 0] h)) (.inl ⟨rfl, fun _ => q_move hE0_0⟩) ?_
      refine Wr.pure (v := Value.pointer (some ⟨q, 0, none⟩)) 1 rfl (by kernel_rfl) (.inr (fun _ h => st_take [0, 0, 0] h)) (.inl ⟨rfl, fun _ => q_nil_ptr rfl⟩) ?_
      refine Wr.pure (v := Value.pointer (some ⟨q, 0, none⟩)) 2 rfl (by kernel_rfl) (.inr (fun _ h => st_take [0, 0, 0] h)) (.inl ⟨rfl, fun _ => q_field (m := 0) fo_63_0 rfl rfl⟩) ?_
      refine Wr.take (v := Value.slice (some ⟨bd, 0, none⟩) secs.length cd) 3 rfl (by kernel_rfl) (fun _ h => st_take [0, 0, 0] h) (.inl ⟨rfl, q_load sc_33 rfl (.cel (i := 1) rfl rfl)⟩) ?_
      refine Wr.pure (v := Value.pointer (some ⟨q, 0, none⟩)) 4 rfl (by kernel_rfl) (.inr (fun _ h => st_take [0, 0, 0] h)) (.inl ⟨rfl, fun _ => q_move hE0_0⟩) ?_
      refine Wr.pure (v := Value.pointer (some ⟨q, 0, none⟩)) 5 rfl (by kernel_rfl) (.inr (fun _ h => st_take [0, 0, 0] h)) (.inl ⟨rfl, fun _ => q_nil_ptr rfl⟩) ?_
      refine Wr.pure (v := Value.pointer (some ⟨q, 1, none⟩)) 6 rfl (by kernel_rfl) (.inr (fun _ h => st_take [0, 0, 0] h)) (.inl ⟨rfl, fun _ => q_field (m := 1) fo_63_1 rfl rfl⟩) ?_
      refine Wr.take (v := Value.slice (some ⟨b, 0, none⟩) since.length cap) 7 rfl (by kernel_rfl) (fun _ h => st_take [0, 0, 0] h) (.inl ⟨rfl, q_load sc_34 rfl (.cel (i := 1) rfl rfl)⟩) ?_
      refine Wr.pure (v := Value.int .i64 ((k : Nat) : Int)) 8 rfl (by kernel_rfl) (.inr (fun _ h => st_take [0, 0, 0] h)) (.inl ⟨rfl, fun _ => q_move hE3_0⟩) ?_
      refine Wr.pure (v := Value.pointer (some ⟨b, k * 2, none⟩)) 9 rfl (by kernel_rfl) (.inr (fun _ h => st_take [0, 0, 0] h)) (.inl ⟨rfl, fun _ => q_idx (m := k * 2) se_34 rfl rfl (by omega) (by omega) (by simp)⟩) ?_
      refine Wr.pure (v := Value.pointer (some ⟨b, k * 2, none⟩)) 10 rfl (by kernel_rfl) (.inr (fun _ h => st_take [0, 0, 0] h)) (.inl ⟨rfl, fun _ => q_field (m := k * 2) fo_86_0 rfl rfl⟩) ?_
      refine Wr.take (v := Value.int .i64 ((a : Nat) : Int)) 11 rfl (by kernel_rfl) (fun _ h => st_take [0, 0, 0] h) (.inl ⟨rfl, q_load sc_3 rfl (flat_has (i := 0) rfl hget 0 _ rfl)⟩) ?_
      refine Wr.pure (v := Value.pointer (some ⟨q, 0, none⟩)) 12 rfl (by kernel_rfl) (.inr (fun _ h => st_take [0, 0, 0] h)) (.inl ⟨rfl, fun _ => q_move hE0_0⟩) ?_
      refine Wr.pure (v := Value.pointer (some ⟨q, 0, none⟩)) 13 rfl (by kernel_rfl) (.inr (fun _ h => st_take [0, 0, 0] h)) (.inl ⟨rfl, fun _ => q_nil_ptr rfl⟩) ?_
      refine Wr.pure (v := Value.pointer (some ⟨q, 1, none⟩)) 14 rfl (by kernel_rfl) (.inr (fun _ h => st_take [0, 0, 0] h)) (.inl ⟨rfl, fun _ => q_field (m := 1) fo_63_1 rfl rfl⟩) ?_
      refine Wr.take (v := Value.slice (some ⟨b, 0, none⟩) since.length cap) 15 rfl (by kernel_rfl) (fun _ h => st_take [0, 0, 0] h) (.inl ⟨rfl, q_load sc_34 rfl (.cel (i := 1) rfl rfl)⟩) ?_
      refine Wr.pure (v := Value.int .i64 ((k : Nat) : Int)) 16 rfl (by kernel_rfl) (.inr (fun _ h => st_take [0, 0, 0] h)) (.inl ⟨rfl, fun _ => q_move hE3_0⟩) ?_
      refine Wr.pure (v := Value.pointer (some ⟨b, k * 2, none⟩)) 17 rfl (by kernel_rfl) (.inr (fun _ h => st_take [0, 0, 0] h)) (.inl ⟨rfl, fun _ => q_idx (m := k * 2) se_34 rfl rfl (by omega) (by omega) (by simp)⟩) ?_
      refine Wr.pure (v := Value.pointer (some ⟨b, k * 2 + 1, none⟩)) 18 rfl (by kernel_rfl) (.inr (fun _ h => st_take [0, 0, 0] h)) (.inl ⟨rfl, fun _ => q_field (m := k * 2 + 1) fo_86_1 rfl rfl⟩) ?_
      refine Wr.take (v := Value.string s) 19 rfl (by kernel_rfl) (fun _ h => st_take [0, 0, 0] h) (.inl ⟨rfl, q_load sc_9 rfl (flat_has (i := 0) rfl hget 1 _ rfl)⟩) ?_
      refine Wr.pure (v := Value.pointer (some ⟨bd, a, none⟩)) 20 rfl (by kernel_rfl) (.inr (fun _ h => st_take [0, 0, 0] h)) (.inl ⟨rfl, fun _ => q_idx (m := a) se_33 rfl rfl (by omega) (by omega) (by simp)⟩) ?_
      refine Wr.e 21 (by kernel_rfl) rfl (e_store_slp (i := 2) (vs := [Value.string s]) (c' := (ss.set a s).map Value.string) sz_9 rfl (congrArg Value.cells (rfl)) rfl rfl (by simp; omega) (splice_one ha)) (.inl (by kernel_rfl)) (fun _ _ => ?_)
      refine Wr.imp (L' := (slp 86 2 b cap (flat since)) :: (pt q 63 [Value.slice (some ⟨bd, 0, none⟩) secs.length cd, Value.slice (some ⟨b, 0, none⟩) since.length cap, Value.bool false, Value.int .i64 (-1), Value.int .i64 bv, Value.int .i64 (((count + 1) : Nat) : Int)]) :: (slp 9 1 bd cd ((ss.set a s).map Value.string)) :: F) (fun _ h => h) ?_
      refine Wr.rebaseS [] ((slp 86 2 b cap (flat since)) :: (pt q 63 [Value.slice (some ⟨bd, 0, none⟩) secs.length cd, Value.slice (some ⟨b, 0, none⟩) since.length cap, Value.bool false, Value.int .i64 (-1), Value.int .i64 bv, Value.int .i64 (((count + 1) : Nat) : Int)]) :: (slp 9 1 bd cd ((ss.set a s).map Value.string)) :: []) (by kernel_rfl) ?_
      refine Wr.done (by kernel_rfl) ?_
      refine Wx.blockEnd ?_
      refine Wx.go ?_
      refine Wc.region ?_
      refine Wl.q (v := Value.int .i64 ((k : Nat) : Int)) (q_move hE3_0) ?_
      refine Wl.q (v := Value.int .i64 ((k + 1 : Nat) : Int)) (q_add (c := ((k + 1 : Nat) : Int)) rfl rfl (by rw [wrap_i64] <;> omega)) ?_
      refine Wl.q (v := Value.int .i64 ((k + 1 : Nat) : Int)) (q_assign rfl) ?_
      refine Wl.done ?_
      refine Wx.at (k + 1, ss.set a s) ⟨(by simp only; omega), rfl, hE0_0, (by rw [← hp0, sync_step hget]), (by simpa using hp1), (by omega)⟩ (fun w hs => hs)
    ·
      refine Wl.q (v := Value.bool false) (q_lss (r := false) rfl rfl (decide_eq_false hlt)) ?_
      refine Wl.done ?_
      refine Wx.go ?_
      refine Wc.no rfl ?_
      refine Wc.exit ?_
      refine Wx.thenExit ?_
      refine Wx.thenExit ?_
      refine Wx.out ?_
      refine Wx.go ?_
      refine Wc.seq ?_
      refine Wc.region ?_
      refine Wl.q (v := Value.pointer (some ⟨q, 0, none⟩)) (q_move hE0_0) ?_
      refine Wl.q (v := Value.pointer (some ⟨q, 0, none⟩)) (q_nil_ptr rfl) ?_
      refine Wl.q (v := Value.pointer (some ⟨q, 1, none⟩)) (q_field (m := 1) fo_63_1 rfl rfl) ?_
      refine Wl.e (e_store (i := 1) (v := Value.slice none 0 0) sz_34 rfl rfl (fun _ _ => rfl) rfl (by simp)) (fun _ _ => ?_)
      refine Wl.imp (L' := (slp 86 2 b cap (flat since)) :: (pt q 63 [Value.slice (some ⟨bd, 0, none⟩) secs.length cd, Value.slice none 0 0, Value.bool false, Value.int .i64 (-1), Value.int .i64 bv, Value.int .i64 (((count + 1) : Nat) : Int)]) :: (slp 9 1 bd cd (ss.map Value.string)) :: F) (fun _ h => h) ?_
      refine Wl.done ?_
      refine Wx.go ?_
      refine Wc.seq ?_
      refine Wc.region ?_
      refine Wl.q (v := Value.int .i64 0) (q_assign rfl) ?_
      refine Wl.done ?_
      refine Wx.go ?_
      refine Wc.ret ?_
      refine Wx.fin1 rfl (.inl rfl) (fun w hs => ?_)
      have hend : k = since.length := by omega
      rw [hend, List.drop_length] at hp0
      simp only [syncL] at hp0
      have e : DS.sync (⟨secs, since, false, count, none⟩ : DS) = (0, ⟨syncL secs since, [], false, count + 1, none⟩) := rfl
      rw [e, ← hp0]
      exact ⟨(), trivial, rfl, isRef_mk (lv := -1) rfl hp1.symm (st_pull [1, 1] (st_sl_nil (st_drop (st_pull [0] hs))))⟩

theorem rsync_none_nil (W0 : World) (q bd cd : Nat) (secs : List ByteArray) (since : List (Nat × ByteArray)) (count : Nat) (bv : Int) (hw : WFl secs since) (hsince : since.length < 1099511627776) (hcount : count < 4611686018427387904) (hnil : since = []) :
    Con Try.prog W0 54 #[Value.pointer (some ⟨q, 0, none⟩)] [pt q 63 [Value.slice (some ⟨bd, 0, none⟩) secs.length cd, Value.slice none 0 0, Value.bool false, Value.int .i64 (-1), Value.int .i64 bv, Value.int .i64 ((count : Nat) : Int)], slp 9 1 bd cd (secs.map Value.string)] (X := Unit) (fun _ => True) (fun _ => Value.int .i64 (DS.sync (⟨secs, since, false, count, none⟩ : DS)).1) (fun _ => [isRef q (DS.sync (⟨secs, since, false, count, none⟩ : DS)).2]) := by
  refine Con.of (args := [Value.pointer (some ⟨q, 0, none⟩)]) Try.func54 rfl Try.ntmps54 rfl (fun F => ?_)
  show Wc _ W0 _ _ _ _ _ ((pt q 63 [Value.slice (some ⟨bd, 0, none⟩) secs.length cd, Value.slice none 0 0, Value.bool false, Value.int .i64 (-1), Value.int .i64 bv, Value.int .i64 ((count : Nat) : Int)]) :: (slp 9 1 bd cd (secs.map Value.string)) :: F)
  refine Wc.seq ?_
  refine Wc.region ?_
  refine Wl.q (v := Value.int .i64 0) (q_assign rfl) ?_
  refine Wl.done ?_
  refine Wx.go ?_
  refine Wc.seq ?_
  refine Wc.seq ?_
  refine Wc.region ?_
  refine Wl.q (v := Value.pointer (some ⟨q, 0, none⟩)) (q_move rfl) ?_
  refine Wl.q (v := Value.pointer (some ⟨q, 0, none⟩)) (q_nil_ptr rfl) ?_
  refine Wl.q (v := Value.pointer (some ⟨q, 2, none⟩)) (q_field (m := 2) fo_63_2 rfl rfl) ?_
  refine Wl.q (v := Value.bool false) (q_load sc_4 rfl (.cel (i := 0) rfl rfl)) ?_
  refine Wl.q (v := Value.bool false) (q_move rfl) ?_
  refine Wl.q (v := Value.pointer (some ⟨q, 0, none⟩)) (q_move rfl) ?_
  refine Wl.e (e_call (F := (slp 9 1 bd cd (secs.map Value.string)) :: F) (args := [Value.pointer (some ⟨q, 0, none⟩)]) Try.call69 rfl (rdoes_none W0 q bd cd secs since count (Value.slice none 0 0) (Value.int .i64 bv) hcount)) (fun _ _ => ?_)
  refine Wl.imp (L' := (pt q 63 [Value.slice (some ⟨bd, 0, none⟩) secs.length cd, Value.slice none 0 0, Value.bool false, Value.int .i64 (-1), Value.int .i64 bv, Value.int .i64 (((count + 1) : Nat) : Int)]) :: (slp 9 1 bd cd (secs.map Value.string)) :: F) (fun _ h => h) ?_
  refine Wl.q (v := Value.bool false) (q_not rfl rfl) ?_
  refine Wl.q (v := Value.bool false) (q_pick (t := false) rfl rfl) ?_
  refine Wl.done ?_
  refine Wx.go ?_
  refine Wc.no rfl ?_
  refine Wc.skip ?_
  refine Wx.go ?_
  refine Wc.seq ?_
  refine Wc.seq ?_
  refine Wc.region ?_
  refine Wl.q (v := Value.int .i64 0) (q_assign rfl) ?_
  refine Wl.done ?_
  refine Wx.go ?_
  refine Wc.block ?_
  refine Wc.loop (X := Nat × List ByteArray) (fun (k, ss) E => E 3 = Value.int .i64 ((k : Nat) : Int) ∧ E 0 = Value.pointer (some ⟨q, 0, none⟩) ∧ syncL ss (since.drop k) = syncL secs since ∧ ss.length = secs.length ∧ k ≤ since.length) (fun (k, ss) => (pt q 63 [Value.slice (some ⟨bd, 0, none⟩) secs.length cd, Value.slice none 0 0, Value.bool false, Value.int .i64 (-1), Value.int .i64 bv, Value.int .i64 (((count + 1) : Nat) : Int)]) :: (slp 9 1 bd cd (ss.map Value.string)) :: F) (fun (k, ss) => since.length - k) (0, secs) ?_ ?_ ?_
  · exact ⟨rfl, rfl, rfl, rfl, (by omega)⟩
  · exact fun w hs => hs
  · rintro ⟨k, ss⟩ E2 ⟨hE3_0, hE0_0, hp0, hp1, hp3⟩
    dsimp only at *
    have hsl : since.length = 0 := by rw [hnil]; rfl
    refine Wc.seq ?_
    refine Wc.seq ?_
    refine Wc.region ?_
    refine Wl.q (v := Value.int .i64 ((k : Nat) : Int)) (q_move hE3_0) ?_
    refine Wl.q (v := Value.pointer (some ⟨q, 0, none⟩)) (q_move hE0_0) ?_
    refine Wl.q (v := Value.pointer (some ⟨q, 0, none⟩)) (q_nil_ptr rfl) ?_
    refine Wl.q (v := Value.pointer (some ⟨q, 1, none⟩)) (q_field (m := 1) fo_63_1 rfl rfl) ?_
    refine Wl.q (v := Value.slice none 0 0) (q_load sc_34 rfl (.cel (i := 0) rfl rfl)) ?_
    refine Wl.q (v := Value.int .i64 0) (q_len_slice Try.underlying34 rfl) ?_
    by_cases hlt : ((k : Nat) : Int) < 0
    ·
      exfalso; omega
    ·
      refine Wl.q (v := Value.bool false) (q_lss (r := false) rfl rfl (decide_eq_false hlt)) ?_
      refine Wl.done ?_
      refine Wx.go ?_
      refine Wc.no rfl ?_
      refine Wc.exit ?_
      refine Wx.thenExit ?_
      refine Wx.thenExit ?_
      refine Wx.out ?_
      refine Wx.go ?_
      refine Wc.seq ?_
      refine Wc.region ?_
      refine Wl.q (v := Value.pointer (some ⟨q, 0, none⟩)) (q_move hE0_0) ?_
      refine Wl.q (v := Value.pointer (some ⟨q, 0, none⟩)) (q_nil_ptr rfl) ?_
      refine Wl.q (v := Value.pointer (some ⟨q, 1, none⟩)) (q_field (m := 1) fo_63_1 rfl rfl) ?_
      refine Wl.e (e_store (i := 0) (v := Value.slice none 0 0) sz_34 rfl rfl (fun _ _ => rfl) rfl (by simp)) (fun _ _ => ?_)
      refine Wl.imp (L' := (pt q 63 [Value.slice (some ⟨bd, 0, none⟩) secs.length cd, Value.slice none 0 0, Value.bool false, Value.int .i64 (-1), Value.int .i64 bv, Value.int .i64 (((count + 1) : Nat) : Int)]) :: (slp 9 1 bd cd (ss.map Value.string)) :: F) (fun _ h => h) ?_
      refine Wl.done ?_
      refine Wx.go ?_
      refine Wc.seq ?_
      refine Wc.region ?_
      refine Wl.q (v := Value.int .i64 0) (q_assign rfl) ?_
      refine Wl.done ?_
      refine Wx.go ?_
      refine Wc.ret ?_
      refine Wx.fin1 rfl (.inl rfl) (fun w hs => ?_)
      have hend : k = since.length := by omega
      rw [hend, List.drop_length] at hp0
      simp only [syncL] at hp0
      have e : DS.sync (⟨secs, since, false, count, none⟩ : DS) = (0, ⟨syncL secs since, [], false, count + 1, none⟩) := rfl
      rw [e, ← hp0]
      exact ⟨(), trivial, rfl, isRef_mk (lv := -1) rfl hp1.symm (st_pull [1, 1] (st_sl_nil hs))⟩

theorem rsync_none (W0 : World) (q bd cd : Nat) (secs : List ByteArray) (since : List (Nat × ByteArray)) (count : Nat) (sv : Value) (bv : Int) (hw : WFl secs since) (hsince : since.length < 1099511627776) (hcount : count < 4611686018427387904) :
  Con Try.prog W0 54 #[Value.pointer (some ⟨q, 0, none⟩)] [pt q 63 [Value.slice (some ⟨bd, 0, none⟩) secs.length cd, sv, Value.bool false, Value.int .i64 (-1), Value.int .i64 bv, Value.int .i64 ((count : Nat) : Int)], slp 9 1 bd cd (secs.map Value.string), sl 86 2 sv since.length (flat since)] (X := Unit) (fun _ => True) (fun _ => Value.int .i64 (DS.sync (⟨secs, since, false, count, none⟩ : DS)).1) (fun _ => [isRef q (DS.sync (⟨secs, since, false, count, none⟩ : DS)).2]) := by
 refine Con.pull (pre := [sl 86 2 sv since.length (flat since), pt q 63 [Value.slice (some ⟨bd, 0, none⟩) secs.length cd, sv, Value.bool false, Value.int .i64 (-1), Value.int .i64 bv, Value.int .i64 ((count : Nat) : Int)], slp 9 1 bd cd (secs.map Value.string)]) [2] (fun _ => rfl) (Con.sl (fun e1 e2 e3 => ?_) (fun b cap e1 e2 e3 => ?_))
 · subst e1; exact rsync_none_nil W0 q bd cd secs since count bv hw hsince hcount (List.eq_nil_of_length_eq_zero e2)
 · subst e1; exact rsync_none_blk W0 q bd cd secs since count bv hw hsince hcount b cap e2

theorem rsync_cutS_blk (W0 : World) (q bd cd : Nat) (secs : List ByteArray) (since : List (Nat × ByteArray)) (count : Nat) (n : Nat) (bits : Int) (hw : WFl secs since) (hsince : since.length < 1099511627776) (hcount : count < 4611686018427387904) (hn : n < 9223372036854775807) (b cap : Nat) (hcap : since.length ≤ cap) :
    Con Try.prog W0 54 #[Value.pointer (some ⟨q, 0, none⟩)] [slp 86 2 b cap (flat since), pt q 63 [Value.slice (some ⟨bd, 0, none⟩) secs.length cd, Value.slice (some ⟨b, 0, none⟩) since.length cap, Value.bool false, Value.int .i64 (((n + 1) : Nat) : Int), Value.int .i64 bits, Value.int .i64 ((count : Nat) : Int)], slp 9 1 bd cd (secs.map Value.string)] (X := Unit) (fun _ => True) (fun _ => Value.int .i64 (DS.sync (⟨secs, since, false, count, (some (n + 1, bits))⟩ : DS)).1) (fun _ => [isRef q (DS.sync (⟨secs, since, false, count, (some (n + 1, bits))⟩ : DS)).2]) := by
  refine Con.of (args := [Value.pointer (some ⟨q, 0, none⟩)]) Try.func54 rfl Try.ntmps54 rfl (fun F => ?_)
  show Wc _ W0 _ _ _ _ _ ((slp 86 2 b cap (flat since)) :: (pt q 63 [Value.slice (some ⟨bd, 0, none⟩) secs.length cd, Value.slice (some ⟨b, 0, none⟩) since.length cap, Value.bool false, Value.int .i64 (((n + 1) : Nat) : Int), Value.int .i64 bits, Value.int .i64 ((count : Nat) : Int)]) :: (slp 9 1 bd cd (secs.map Value.string)) :: F)
  refine Wc.seq ?_
  refine Wc.region ?_
  refine Wl.q (v := Value.int .i64 0) (q_assign rfl) ?_
  refine Wl.done ?_
  refine Wx.go ?_
  refine Wc.seq ?_
  refine Wc.seq ?_
  refine Wc.region ?_
  refine Wl.q (v := Value.pointer (some ⟨q, 0, none⟩)) (q_move rfl) ?_
  refine Wl.q (v := Value.pointer (some ⟨q, 0, none⟩)) (q_nil_ptr rfl) ?_
  refine Wl.q (v := Value.pointer (some ⟨q, 2, none⟩)) (q_field (m := 2) fo_63_2 rfl rfl) ?_
  refine Wl.q (v := Value.bool false) (q_load sc_4 rfl (.cel (i := 1) rfl rfl)) ?_
  refine Wl.q (v := Value.bool false) (q_move rfl) ?_
  refine Wl.q (v := Value.pointer (some ⟨q, 0, none⟩)) (q_move rfl) ?_
  refine Wl.imp (L' := (pt q 63 [Value.slice (some ⟨bd, 0, none⟩) secs.length cd, Value.slice (some ⟨b, 0, none⟩) since.length cap, Value.bool false, Value.int .i64 (((n + 1) : Nat) : Int), Value.int .i64 bits, Value.int .i64 ((count : Nat) : Int)]) :: (slp 86 2 b cap (flat since)) :: (slp 9 1 bd cd (secs.map Value.string)) :: F) (fun _ h => st_pull [1] h) ?_
  refine Wl.e (e_call (F := (slp 86 2 b cap (flat since)) :: (slp 9 1 bd cd (secs.map Value.string)) :: F) (args := [Value.pointer (some ⟨q, 0, none⟩)]) Try.call69 rfl (rdoes_cutS W0 q bd cd secs since count (Value.slice (some ⟨b, 0, none⟩) since.length cap) bits hcount n hn)) (fun _ _ => ?_)
  refine Wl.imp (L' := (pt q 63 [Value.slice (some ⟨bd, 0, none⟩) secs.length cd, Value.slice (some ⟨b, 0, none⟩) since.length cap, Value.bool false, Value.int .i64 ((n : Nat) : Int), Value.int .i64 bits, Value.int .i64 (((count + 1) : Nat) : Int)]) :: (slp 86 2 b cap (flat since)) :: (slp 9 1 bd cd (secs.map Value.string)) :: F) (fun _ h => h) ?_
  refine Wl.q (v := Value.bool false) (q_not rfl rfl) ?_
  refine Wl.q (v := Value.bool false) (q_pick (t := false) rfl rfl) ?_
  refine Wl.done ?_
  refine Wx.go ?_
  refine Wc.no rfl ?_
  refine Wc.skip ?_
  refine Wx.go ?_
  refine Wc.seq ?_
  refine Wc.seq ?_
  refine Wc.region ?_
  refine Wl.q (v := Value.int .i64 0) (q_assign rfl) ?_
  refine Wl.done ?_
  refine Wx.go ?_
  refine Wc.block ?_
  refine Wc.loop (X := Nat × List ByteArray) (fun (k, ss) E => E 3 = Value.int .i64 ((k : Nat) : Int) ∧ E 0 = Value.pointer (some ⟨q, 0, none⟩) ∧ syncL ss (since.drop k) = syncL secs since ∧ ss.length = secs.length ∧ k ≤ since.length) (fun (k, ss) => (slp 86 2 b cap (flat since)) :: (pt q 63 [Value.slice (some ⟨bd, 0, none⟩) secs.length cd, Value.slice (some ⟨b, 0, none⟩) since.length cap, Value.bool false, Value.int .i64 ((n : Nat) : Int), Value.int .i64 bits, Value.int .i64 (((count + 1) : Nat) : Int)]) :: (slp 9 1 bd cd (ss.map Value.string)) :: F) (fun (k, ss) => since.length - k) (0, secs) ?_ ?_ ?_
  · exact ⟨rfl, rfl, rfl, rfl, (by omega)⟩
  · exact fun w hs => (st_pull [1, 0, 0] (hs))
  · rintro ⟨k, ss⟩ E2 ⟨hE3_0, hE0_0, hp0, hp1, hp3⟩
    dsimp only at *
    refine Wc.seq ?_
    refine Wc.seq ?_
    refine Wc.region ?_
    refine Wl.q (v := Value.int .i64 ((k : Nat) : Int)) (q_move hE3_0) ?_
    refine Wl.q (v := Value.pointer (some ⟨q, 0, none⟩)) (q_move hE0_0) ?_
    refine Wl.q (v := Value.pointer (some ⟨q, 0, none⟩)) (q_nil_ptr rfl) ?_
    refine Wl.q (v := Value.pointer (some ⟨q, 1, none⟩)) (q_field (m := 1) fo_63_1 rfl rfl) ?_
    refine Wl.q (v := Value.slice (some ⟨b, 0, none⟩) since.length cap) (q_load sc_34 rfl (.cel (i := 1) rfl rfl)) ?_
    refine Wl.q (v := Value.int .i64 ((since.length : Nat) : Int)) (q_len_slice Try.underlying34 rfl) ?_
    by_cases hlt : ((k : Nat) : Int) < ((since.length : Nat) : Int)
    ·
      obtain ⟨⟨a, s⟩, hget⟩ : ∃ q, since[k]? = some q := ⟨since[k]'(by omega), by simp [List.getElem?_eq_getElem (show k < since.length by omega)]⟩
      have hmem := List.mem_of_getElem? hget
      have ha : a < ss.length := by have := hw.at_ _ hmem; simp only at this; omega
      refine Wl.q (v := Value.bool true) (q_lss (r := true) rfl rfl (decide_eq_true hlt)) ?_
      refine Wl.done ?_
      refine Wx.go ?_
      refine Wc.yes rfl ?_
      refine Wc.skip ?_
      refine Wx.go ?_
      refine Wc.seq ?_
      refine Wc.block ?_
      refine Wc.drawsS [21] ((slp 86 2 b cap (flat since)) :: (pt q 63 [Value.slice (some ⟨bd, 0, none⟩) secs.length cd, Value.slice (some ⟨b, 0, none⟩) since.length cap, Value.bool false, Value.int .i64 ((n : Nat) : Int), Value.int .i64 bits, Value.int .i64 (((count + 1) : Nat) : Int)]) :: (slp 9 1 bd cd (ss.map Value.string)) :: []) (by kernel_rfl) ?_
      refine Wr.pure (v := Value.pointer (some ⟨q, 0, none⟩)) 0 rfl (by kernel_rfl) (.inr (fun _ h => st_take [0, 0, 0] h)) (.inl ⟨rfl, fun _ => q_move hE0_0⟩) ?_
      refine Wr.pure (v := Value.pointer (some ⟨q, 0, none⟩)) 1 rfl (by kernel_rfl) (.inr (fun _ h => st_take [0, 0, 0] h)) (.inl ⟨rfl, fun _ => q_nil_ptr rfl⟩) ?_
      refine Wr.pure (v := Value.pointer (some ⟨q, 0, none⟩)) 2 rfl (by kernel_rfl) (.inr (fun _ h => st_take [0, 0, 0] h)) (.inl ⟨rfl, fun _ => q_field (m := 0) fo_63_0 rfl rfl⟩) ?_
      refine Wr.take (v := Value.slice (some ⟨bd, 0, none⟩) secs.length cd) 3 rfl (by kernel_rfl) (fun _ h => st_take [0, 0, 0] h) (.inl ⟨rfl, q_load sc_33 rfl (.cel (i := 1) rfl rfl)⟩) ?_
      refine Wr.pure (v := Value.pointer (some ⟨q, 0, none⟩)) 4 rfl (by kernel_rfl) (.inr (fun _ h => st_take [0, 0, 0] h)) (.inl ⟨rfl, fun _ => q_move hE0_0⟩) ?_
      refine Wr.pure (v := Value.pointer (some ⟨q, 0, none⟩)) 5 rfl (by kernel_rfl) (.inr (fun _ h => st_take [0, 0, 0] h)) (.inl ⟨rfl, fun _ => q_nil_ptr rfl⟩) ?_
      refine Wr.pure (v := Value.pointer (some ⟨q, 1, none⟩)) 6 rfl (by kernel_rfl) (.inr (fun _ h => st_take [0, 0, 0] h)) (.inl ⟨rfl, fun _ => q_field (m := 1) fo_63_1 rfl rfl⟩) ?_
      refine Wr.take (v := Value.slice (some ⟨b, 0, none⟩) since.length cap) 7 rfl (by kernel_rfl) (fun _ h => st_take [0, 0, 0] h) (.inl ⟨rfl, q_load sc_34 rfl (.cel (i := 1) rfl rfl)⟩) ?_
      refine Wr.pure (v := Value.int .i64 ((k : Nat) : Int)) 8 rfl (by kernel_rfl) (.inr (fun _ h => st_take [0, 0, 0] h)) (.inl ⟨rfl, fun _ => q_move hE3_0⟩) ?_
      refine Wr.pure (v := Value.pointer (some ⟨b, k * 2, none⟩)) 9 rfl (by kernel_rfl) (.inr (fun _ h => st_take [0, 0, 0] h)) (.inl ⟨rfl, fun _ => q_idx (m := k * 2) se_34 rfl rfl (by omega) (by omega) (by simp)⟩) ?_
      refine Wr.pure (v := Value.pointer (some ⟨b, k * 2, none⟩)) 10 rfl (by kernel_rfl) (.inr (fun _ h => st_take [0, 0, 0] h)) (.inl ⟨rfl, fun _ => q_field (m := k * 2) fo_86_0 rfl rfl⟩) ?_
      refine Wr.take (v := Value.int .i64 ((a : Nat) : Int)) 11 rfl (by kernel_rfl) (fun _ h => st_take [0, 0, 0] h) (.inl ⟨rfl, q_load sc_3 rfl (flat_has (i := 0) rfl hget 0 _ rfl)⟩) ?_
      refine Wr.pure (v := Value.pointer (some ⟨q, 0, none⟩)) 12 rfl (by kernel_rfl) (.inr (fun _ h => st_take [0, 0, 0] h)) (.inl ⟨rfl, fun _ => q_move hE0_0⟩) ?_
      refine Wr.pure (v := Value.pointer (some ⟨q, 0, none⟩)) 13 rfl (by kernel_rfl) (.inr (fun _ h => st_take [0, 0, 0] h)) (.inl ⟨rfl, fun _ => q_nil_ptr rfl⟩) ?_
      refine Wr.pure (v := Value.pointer (some ⟨q, 1, none⟩)) 14 rfl (by kernel_rfl) (.inr (fun _ h => st_take [0, 0, 0] h)) (.inl ⟨rfl, fun _ => q_field (m := 1) fo_63_1 rfl rfl⟩) ?_
      refine Wr.take (v := Value.slice (some ⟨b, 0, none⟩) since.length cap) 15 rfl (by kernel_rfl) (fun _ h => st_take [0, 0, 0] h) (.inl ⟨rfl, q_load sc_34 rfl (.cel (i := 1) rfl rfl)⟩) ?_
      refine Wr.pure (v := Value.int .i64 ((k : Nat) : Int)) 16 rfl (by kernel_rfl) (.inr (fun _ h => st_take [0, 0, 0] h)) (.inl ⟨rfl, fun _ => q_move hE3_0⟩) ?_
      refine Wr.pure (v := Value.pointer (some ⟨b, k * 2, none⟩)) 17 rfl (by kernel_rfl) (.inr (fun _ h => st_take [0, 0, 0] h)) (.inl ⟨rfl, fun _ => q_idx (m := k * 2) se_34 rfl rfl (by omega) (by omega) (by simp)⟩) ?_
      refine Wr.pure (v := Value.pointer (some ⟨b, k * 2 + 1, none⟩)) 18 rfl (by kernel_rfl) (.inr (fun _ h => st_take [0, 0, 0] h)) (.inl ⟨rfl, fun _ => q_field (m := k * 2 + 1) fo_86_1 rfl rfl⟩) ?_
      refine Wr.take (v := Value.string s) 19 rfl (by kernel_rfl) (fun _ h => st_take [0, 0, 0] h) (.inl ⟨rfl, q_load sc_9 rfl (flat_has (i := 0) rfl hget 1 _ rfl)⟩) ?_
      refine Wr.pure (v := Value.pointer (some ⟨bd, a, none⟩)) 20 rfl (by kernel_rfl) (.inr (fun _ h => st_take [0, 0, 0] h)) (.inl ⟨rfl, fun _ => q_idx (m := a) se_33 rfl rfl (by omega) (by omega) (by simp)⟩) ?_
      refine Wr.e 21 (by kernel_rfl) rfl (e_store_slp (i := 2) (vs := [Value.string s]) (c' := (ss.set a s).map Value.string) sz_9 rfl (congrArg Value.cells (rfl)) rfl rfl (by simp; omega) (splice_one ha)) (.inl (by kernel_rfl)) (fun _ _ => ?_)
      refine Wr.imp (L' := (slp 86 2 b cap (flat since)) :: (pt q 63 [Value.slice (some ⟨bd, 0, none⟩) secs.length cd, Value.slice (some ⟨b, 0, none⟩) since.length cap, Value.bool false, Value.int .i64 ((n : Nat) : Int), Value.int .i64 bits, Value.int .i64 (((count + 1) : Nat) : Int)]) :: (slp 9 1 bd cd ((ss.set a s).map Value.string)) :: F) (fun _ h => h) ?_
      refine Wr.rebaseS [] ((slp 86 2 b cap (flat since)) :: (pt q 63 [Value.slice (some ⟨bd, 0, none⟩) secs.length cd, Value.slice (some ⟨b, 0, none⟩) since.length cap, Value.bool false, Value.int .i64 ((n : Nat) : Int), Value.int .i64 bits, Value.int .i64 (((count + 1) : Nat) : Int)]) :: (slp 9 1 bd cd ((ss.set a s).map Value.string)) :: []) (by kernel_rfl) ?_
      refine Wr.done (by kernel_rfl) ?_
      refine Wx.blockEnd ?_
      refine Wx.go ?_
      refine Wc.region ?_
      refine Wl.q (v := Value.int .i64 ((k : Nat) : Int)) (q_move hE3_0) ?_
      refine Wl.q (v := Value.int .i64 ((k + 1 : Nat) : Int)) (q_add (c := ((k + 1 : Nat) : Int)) rfl rfl (by rw [wrap_i64] <;> omega)) ?_
      refine Wl.q (v := Value.int .i64 ((k + 1 : Nat) : Int)) (q_assign rfl) ?_
      refine Wl.done ?_
      refine Wx.at (k + 1, ss.set a s) ⟨(by simp only; omega), rfl, hE0_0, (by rw [← hp0, sync_step hget]), (by simpa using hp1), (by omega)⟩ (fun w hs => hs)
    ·
      refine Wl.q (v := Value.bool false) (q_lss (r := false) rfl rfl (decide_eq_false hlt)) ?_
      refine Wl.done ?_
      refine Wx.go ?_
      refine Wc.no rfl ?_
      refine Wc.exit ?_
      refine Wx.thenExit ?_
      refine Wx.thenExit ?_
      refine Wx.out ?_
      refine Wx.go ?_
      refine Wc.seq ?_
      refine Wc.region ?_
      refine Wl.q (v := Value.pointer (some ⟨q, 0, none⟩)) (q_move hE0_0) ?_
      refine Wl.q (v := Value.pointer (some ⟨q, 0, none⟩)) (q_nil_ptr rfl) ?_
      refine Wl.q (v := Value.pointer (some ⟨q, 1, none⟩)) (q_field (m := 1) fo_63_1 rfl rfl) ?_
      refine Wl.e (e_store (i := 1) (v := Value.slice none 0 0) sz_34 rfl rfl (fun _ _ => rfl) rfl (by simp)) (fun _ _ => ?_)
      refine Wl.imp (L' := (slp 86 2 b cap (flat since)) :: (pt q 63 [Value.slice (some ⟨bd, 0, none⟩) secs.length cd, Value.slice none 0 0, Value.bool false, Value.int .i64 ((n : Nat) : Int), Value.int .i64 bits, Value.int .i64 (((count + 1) : Nat) : Int)]) :: (slp 9 1 bd cd (ss.map Value.string)) :: F) (fun _ h => h) ?_
      refine Wl.done ?_
      refine Wx.go ?_
      refine Wc.seq ?_
      refine Wc.region ?_
      refine Wl.q (v := Value.int .i64 0) (q_assign rfl) ?_
      refine Wl.done ?_
      refine Wx.go ?_
      refine Wc.ret ?_
      refine Wx.fin1 rfl (.inl rfl) (fun w hs => ?_)
      have hend : k = since.length := by omega
      rw [hend, List.drop_length] at hp0
      simp only [syncL] at hp0
      have e : DS.sync (⟨secs, since, false, count, (some (n + 1, bits))⟩ : DS) = (0, ⟨syncL secs since, [], false, count + 1, (some (n, bits))⟩) := rfl
      rw [e, ← hp0]
      exact ⟨(), trivial, rfl, isRef_mk (lv := ((n : Nat) : Int)) ⟨rfl, rfl⟩ hp1.symm (st_pull [1, 1] (st_sl_nil (st_drop (st_pull [0] hs))))⟩

theorem rsync_cutS_nil (W0 : World) (q bd cd : Nat) (secs : List ByteArray) (since : List (Nat × ByteArray)) (count : Nat) (n : Nat) (bits : Int) (hw : WFl secs since) (hsince : since.length < 1099511627776) (hcount : count < 4611686018427387904) (hn : n < 9223372036854775807) (hnil : since = []) :
    Con Try.prog W0 54 #[Value.pointer (some ⟨q, 0, none⟩)] [pt q 63 [Value.slice (some ⟨bd, 0, none⟩) secs.length cd, Value.slice none 0 0, Value.bool false, Value.int .i64 (((n + 1) : Nat) : Int), Value.int .i64 bits, Value.int .i64 ((count : Nat) : Int)], slp 9 1 bd cd (secs.map Value.string)] (X := Unit) (fun _ => True) (fun _ => Value.int .i64 (DS.sync (⟨secs, since, false, count, (some (n + 1, bits))⟩ : DS)).1) (fun _ => [isRef q (DS.sync (⟨secs, since, false, count, (some (n + 1, bits))⟩ : DS)).2]) := by
  refine Con.of (args := [Value.pointer (some ⟨q, 0, none⟩)]) Try.func54 rfl Try.ntmps54 rfl (fun F => ?_)
  show Wc _ W0 _ _ _ _ _ ((pt q 63 [Value.slice (some ⟨bd, 0, none⟩) secs.length cd, Value.slice none 0 0, Value.bool false, Value.int .i64 (((n + 1) : Nat) : Int), Value.int .i64 bits, Value.int .i64 ((count : Nat) : Int)]) :: (slp 9 1 bd cd (secs.map Value.string)) :: F)
  refine Wc.seq ?_
  refine Wc.region ?_
  refine Wl.q (v := Value.int .i64 0) (q_assign rfl) ?_
  refine Wl.done ?_
  refine Wx.go ?_
  refine Wc.seq ?_
  refine Wc.seq ?_
  refine Wc.region ?_
  refine Wl.q (v := Value.pointer (some ⟨q, 0, none⟩)) (q_move rfl) ?_
  refine Wl.q (v := Value.pointer (some ⟨q, 0, none⟩)) (q_nil_ptr rfl) ?_
  refine Wl.q (v := Value.pointer (some ⟨q, 2, none⟩)) (q_field (m := 2) fo_63_2 rfl rfl) ?_
  refine Wl.q (v := Value.bool false) (q_load sc_4 rfl (.cel (i := 0) rfl rfl)) ?_
  refine Wl.q (v := Value.bool false) (q_move rfl) ?_
  refine Wl.q (v := Value.pointer (some ⟨q, 0, none⟩)) (q_move rfl) ?_
  refine Wl.e (e_call (F := (slp 9 1 bd cd (secs.map Value.string)) :: F) (args := [Value.pointer (some ⟨q, 0, none⟩)]) Try.call69 rfl (rdoes_cutS W0 q bd cd secs since count (Value.slice none 0 0) bits hcount n hn)) (fun _ _ => ?_)
  refine Wl.imp (L' := (pt q 63 [Value.slice (some ⟨bd, 0, none⟩) secs.length cd, Value.slice none 0 0, Value.bool false, Value.int .i64 ((n : Nat) : Int), Value.int .i64 bits, Value.int .i64 (((count + 1) : Nat) : Int)]) :: (slp 9 1 bd cd (secs.map Value.string)) :: F) (fun _ h => h) ?_
  refine Wl.q (v := Value.bool false) (q_not rfl rfl) ?_
  refine Wl.q (v := Value.bool false) (q_pick (t := false) rfl rfl) ?_
  refine Wl.done ?_
  refine Wx.go ?_
  refine Wc.no rfl ?_
  refine Wc.skip ?_
  refine Wx.go ?_
  refine Wc.seq ?_
  refine Wc.seq ?_
  refine Wc.region ?_
  refine Wl.q (v := Value.int .i64 0) (q_assign rfl) ?_
  refine Wl.done ?_
  refine Wx.go ?_
  refine Wc.block ?_
  refine Wc.loop (X := Nat × List ByteArray) (fun (k, ss) E => E 3 = Value.int .i64 ((k : Nat) : Int) ∧ E 0 = Value.pointer (some ⟨q, 0, none⟩) ∧ syncL ss (since.drop k) = syncL secs since ∧ ss.length = secs.length ∧ k ≤ since.length) (fun (k, ss) => (pt q 63 [Value.slice (some ⟨bd, 0, none⟩) secs.length cd, Value.slice none 0 0, Value.bool false, Value.int .i64 ((n : Nat) : Int), Value.int .i64 bits, Value.int .i64 (((count + 1) : Nat) : Int)]) :: (slp 9 1 bd cd (ss.map Value.string)) :: F) (fun (k, ss) => since.length - k) (0, secs) ?_ ?_ ?_
  · exact ⟨rfl, rfl, rfl, rfl, (by omega)⟩
  · exact fun w hs => hs
  · rintro ⟨k, ss⟩ E2 ⟨hE3_0, hE0_0, hp0, hp1, hp3⟩
    dsimp only at *
    have hsl : since.length = 0 := by rw [hnil]; rfl
    refine Wc.seq ?_
    refine Wc.seq ?_
    refine Wc.region ?_
    refine Wl.q (v := Value.int .i64 ((k : Nat) : Int)) (q_move hE3_0) ?_
    refine Wl.q (v := Value.pointer (some ⟨q, 0, none⟩)) (q_move hE0_0) ?_
    refine Wl.q (v := Value.pointer (some ⟨q, 0, none⟩)) (q_nil_ptr rfl) ?_
    refine Wl.q (v := Value.pointer (some ⟨q, 1, none⟩)) (q_field (m := 1) fo_63_1 rfl rfl) ?_
    refine Wl.q (v := Value.slice none 0 0) (q_load sc_34 rfl (.cel (i := 0) rfl rfl)) ?_
    refine Wl.q (v := Value.int .i64 0) (q_len_slice Try.underlying34 rfl) ?_
    by_cases hlt : ((k : Nat) : Int) < 0
    ·
      exfalso; omega
    ·
      refine Wl.q (v := Value.bool false) (q_lss (r := false) rfl rfl (decide_eq_false hlt)) ?_
      refine Wl.done ?_
      refine Wx.go ?_
      refine Wc.no rfl ?_
      refine Wc.exit ?_
      refine Wx.thenExit ?_
      refine Wx.thenExit ?_
      refine Wx.out ?_
      refine Wx.go ?_
      refine Wc.seq ?_
      refine Wc.region ?_
      refine Wl.q (v := Value.pointer (some ⟨q, 0, none⟩)) (q_move hE0_0) ?_
      refine Wl.q (v := Value.pointer (some ⟨q, 0, none⟩)) (q_nil_ptr rfl) ?_
      refine Wl.q (v := Value.pointer (some ⟨q, 1, none⟩)) (q_field (m := 1) fo_63_1 rfl rfl) ?_
      refine Wl.e (e_store (i := 0) (v := Value.slice none 0 0) sz_34 rfl rfl (fun _ _ => rfl) rfl (by simp)) (fun _ _ => ?_)
      refine Wl.imp (L' := (pt q 63 [Value.slice (some ⟨bd, 0, none⟩) secs.length cd, Value.slice none 0 0, Value.bool false, Value.int .i64 ((n : Nat) : Int), Value.int .i64 bits, Value.int .i64 (((count + 1) : Nat) : Int)]) :: (slp 9 1 bd cd (ss.map Value.string)) :: F) (fun _ h => h) ?_
      refine Wl.done ?_
      refine Wx.go ?_
      refine Wc.seq ?_
      refine Wc.region ?_
      refine Wl.q (v := Value.int .i64 0) (q_assign rfl) ?_
      refine Wl.done ?_
      refine Wx.go ?_
      refine Wc.ret ?_
      refine Wx.fin1 rfl (.inl rfl) (fun w hs => ?_)
      have hend : k = since.length := by omega
      rw [hend, List.drop_length] at hp0
      simp only [syncL] at hp0
      have e : DS.sync (⟨secs, since, false, count, (some (n + 1, bits))⟩ : DS) = (0, ⟨syncL secs since, [], false, count + 1, (some (n, bits))⟩) := rfl
      rw [e, ← hp0]
      exact ⟨(), trivial, rfl, isRef_mk (lv := ((n : Nat) : Int)) ⟨rfl, rfl⟩ hp1.symm (st_pull [1, 1] (st_sl_nil hs))⟩

theorem rsync_cutS (W0 : World) (q bd cd : Nat) (secs : List ByteArray) (since : List (Nat × ByteArray)) (count : Nat) (sv : Value) (n : Nat) (bits : Int) (hw : WFl secs since) (hsince : since.length < 1099511627776) (hcount : count < 4611686018427387904) (hn : n < 9223372036854775807) :
  Con Try.prog W0 54 #[Value.pointer (some ⟨q, 0, none⟩)] [pt q 63 [Value.slice (some ⟨bd, 0, none⟩) secs.length cd, sv, Value.bool false, Value.int .i64 (((n + 1) : Nat) : Int), Value.int .i64 bits, Value.int .i64 ((count : Nat) : Int)], slp 9 1 bd cd (secs.map Value.string), sl 86 2 sv since.length (flat since)] (X := Unit) (fun _ => True) (fun _ => Value.int .i64 (DS.sync (⟨secs, since, false, count, (some (n + 1, bits))⟩ : DS)).1) (fun _ => [isRef q (DS.sync (⟨secs, since, false, count, (some (n + 1, bits))⟩ : DS)).2]) := by
 refine Con.pull (pre := [sl 86 2 sv since.length (flat since), pt q 63 [Value.slice (some ⟨bd, 0, none⟩) secs.length cd, sv, Value.bool false, Value.int .i64 (((n + 1) : Nat) : Int), Value.int .i64 bits, Value.int .i64 ((count : Nat) : Int)], slp 9 1 bd cd (secs.map Value.string)]) [2] (fun _ => rfl) (Con.sl (fun e1 e2 e3 => ?_) (fun b cap e1 e2 e3 => ?_))
 · subst e1; exact rsync_cutS_nil W0 q bd cd secs since count n bits hw hsince hcount hn (List.eq_nil_of_length_eq_zero e2)
 · subst e1; exact rsync_cutS_blk W0 q bd cd secs since count n bits hw hsince hcount hn b cap e2

theorem rsync_c (W0 : World) (q : Nat) (d : DS) (hw : WF d) (hsince : d.since.length < 1099511627776) (hcount : d.count < 4611686018427387904) :
    Con Try.prog W0 54 #[Value.pointer (some ⟨q, 0, none⟩)] [isRef q d] (X := Unit) (fun _ => True) (fun _ => Value.int .i64 d.sync.1) (fun _ => [isRef q d.sync.2]) := by
  obtain ⟨secs, since, down, count, cut⟩ := d
  refine Con.ref (fun bd cd sv lv bv hr => ?_)
  cases down
  · cases cut with
    | none => obtain rfl : lv = -1 := hr; exact rsync_none W0 q bd cd secs since count sv bv hw.l hsince hcount
    | some c =>
      obtain ⟨m, b⟩ := c
      obtain ⟨rfl, rfl⟩ := hr
      cases m with
      | zero => exact rsync_cut0 W0 q bd cd secs since count sv _ hw.l hsince hcount
      | succ n => exact rsync_cutS W0 q bd cd secs since count sv n _ hw.l hsince hcount (by have := hw.left _ _ rfl; omega)
  · exact rsync_down W0 q bd cd secs since count sv lv bv cut hr

theorem rread_down (W0 : World) (q bd cd : Nat) (secs : List ByteArray) (since : List (Nat × ByteArray)) (count : Nat) (sv : Value) (lv bv : Int) (cut : Option (Nat × Int)) (hr : refR lv bv cut) (at_ : Int) :
  Con Try.prog W0 28 #[Value.pointer (some ⟨q, 0, none⟩), Value.int .i64 at_] [pt q 63 [Value.slice (some ⟨bd, 0, none⟩) secs.length cd, sv, Value.bool true, Value.int .i64 lv, Value.int .i64 bv, Value.int .i64 ((count : Nat) : Int)], slp 9 1 bd cd (secs.map Value.string), sl 86 2 sv since.length (flat since)] (X := Unit) (fun _ => True) (fun _ => Value.tuple #[Value.string (DS.read (⟨secs, since, true, count, cut⟩ : DS) at_).1, Value.int .i64 (DS.read (⟨secs, since, true, count, cut⟩ : DS) at_).2]) (fun _ => [isRef q (⟨secs, since, true, count, cut⟩ : DS)]) := by
 refine Con.of (args := [Value.pointer (some ⟨q, 0, none⟩), Value.int .i64 at_]) Try.func28 rfl Try.ntmps28 rfl (fun F => ?_)
 show Wc _ W0 _ _ _ _ _ ((pt q 63 [Value.slice (some ⟨bd, 0, none⟩) secs.length cd, sv, Value.bool true, Value.int .i64 lv, Value.int .i64 bv, Value.int .i64 ((count : Nat) : Int)]) :: (slp 9 1 bd cd (secs.map Value.string)) :: (sl 86 2 sv since.length (flat since)) :: F)
 refine Wc.seq ?_
 refine Wc.region ?_
 refine Wl.q (v := Value.string (⟨#[]⟩)) (q_assign rfl) ?_
 refine Wl.q (v := Value.int .i64 0) (q_assign rfl) ?_
 refine Wl.done ?_
 refine Wx.go ?_
 refine Wc.seq ?_
 refine Wc.seq ?_
 refine Wc.region ?_
 refine Wl.q (v := Value.pointer (some ⟨q, 0, none⟩)) (q_move rfl) ?_
 refine Wl.q (v := Value.pointer (some ⟨q, 0, none⟩)) (q_nil_ptr rfl) ?_
 refine Wl.q (v := Value.pointer (some ⟨q, 2, none⟩)) (q_field (m := 2) fo_63_2 rfl rfl) ?_
 refine Wl.q (v := Value.bool true) (q_load sc_4 rfl (.cel (i := 0) rfl rfl)) ?_
 refine Wl.done ?_
 refine Wx.go ?_
 refine Wc.yes rfl ?_
 refine Wc.seq ?_
 refine Wc.region ?_
 refine Wl.q (v := Value.string (⟨#[]⟩)) (q_assign rfl) ?_
 refine Wl.q (v := Value.int .i64 6) (q_assign rfl) ?_
 refine Wl.done ?_
 refine Wx.go ?_
 refine Wc.ret ?_
 refine Wx.thenRet ?_
 refine Wx.fin2 rfl (.inl rfl) (fun w hs => ?_)
 have e : DS.read (⟨secs, since, true, count, cut⟩ : DS) at_ = (ByteArray.empty, 6) := rfl
 rw [e]
 exact ⟨(), trivial, rfl, isRef_mk hr rfl hs⟩

theorem rread_blk (W0 : World) (q bd cd : Nat) (secs : List ByteArray) (since : List (Nat × ByteArray)) (count : Nat) (lv bv : Int) (cut : Option (Nat × Int)) (at_ : Int) (hsince : since.length < 1099511627776) (b cap : Nat) (hcap : since.length ≤ cap) :
    Con Try.prog W0 28 #[Value.pointer (some ⟨q, 0, none⟩), Value.int .i64 at_] [slp 86 2 b cap (flat since), pt q 63 [Value.slice (some ⟨bd, 0, none⟩) secs.length cd, Value.slice (some ⟨b, 0, none⟩) since.length cap, Value.bool false, Value.int .i64 lv, Value.int .i64 bv, Value.int .i64 ((count : Nat) : Int)], slp 9 1 bd cd (secs.map Value.string)] (X := Unit) (fun _ => True) (fun _ => Value.tuple #[Value.string (DS.read (⟨secs, since, false, count, cut⟩ : DS) at_).1, Value.int .i64 (DS.read (⟨secs, since, false, count, cut⟩ : DS) at_).2]) (fun _ => [slp 86 2 b cap (flat since), pt q 63 [Value.slice (some ⟨bd, 0, none⟩) secs.length cd, Value.slice (some ⟨b, 0, none⟩) since.length cap, Value.bool false, Value.int .i64 lv, Value.int .i64 bv, Value.int .i64 ((count : Nat) : Int)], slp 9 1 bd cd (secs.map Value.string)]) := by
  refine Con.of (args := [Value.pointer (some ⟨q, 0, none⟩), Value.int .i64 at_]) Try.func28 rfl Try.ntmps28 rfl (fun F => ?_)
  show Wc _ W0 _ _ _ _ _ ((slp 86 2 b cap (flat since)) :: (pt q 63 [Value.slice (some ⟨bd, 0, none⟩) secs.length cd, Value.slice (some ⟨b, 0, none⟩) since.length cap, Value.bool false, Value.int .i64 lv, Value.int .i64 bv, Value.int .i64 ((count : Nat) : Int)]) :: (slp 9 1 bd cd (secs.map Value.string)) :: F)
  refine Wc.seq ?_
  refine Wc.region ?_
  refine Wl.q (v := Value.string (⟨#[]⟩)) (q_assign rfl) ?_
  refine Wl.q (v := Value.int .i64 0) (q_assign rfl) ?_
  refine Wl.done ?_
  refine Wx.go ?_
  refine Wc.seq ?_
  refine Wc.seq ?_
  refine Wc.region ?_
  refine Wl.q (v := Value.pointer (some ⟨q, 0, none⟩)) (q_move rfl) ?_
  refine Wl.q (v := Value.pointer (some ⟨q, 0, none⟩)) (q_nil_ptr rfl) ?_
  refine Wl.q (v := Value.pointer (some ⟨q, 2, none⟩)) (q_field (m := 2) fo_63_2 rfl rfl) ?_
  refine Wl.q (v := Value.bool false) (q_load sc_4 rfl (.cel (i := 1) rfl rfl)) ?_
  refine Wl.done ?_
  refine Wx.go ?_
  refine Wc.no rfl ?_
  refine Wc.skip ?_
  refine Wx.go ?_
  refine Wc.seq ?_
  refine Wc.seq ?_
  refine Wc.region ?_
  refine Wl.q (v := Value.int .i64 at_) (q_move rfl) ?_
  by_cases hneg : at_ < 0
  ·
    refine Wl.q (v := Value.bool true) (q_lss (r := true) rfl rfl (decide_eq_true hneg)) ?_
    refine Wl.q (v := Value.bool true) (q_move rfl) ?_
    refine Wl.no ?_
    refine Wl.no ?_
    refine Wl.no ?_
    refine Wl.no ?_
    refine Wl.no ?_
    refine Wl.no ?_
    refine Wl.no ?_
    refine Wl.q (v := Value.bool true) (q_pick (t := true) rfl rfl) ?_
    refine Wl.done ?_
    refine Wx.go ?_
    refine Wc.yes rfl ?_
    refine Wc.seq ?_
    refine Wc.region ?_
    refine Wl.q (v := Value.string (⟨#[]⟩)) (q_assign rfl) ?_
    refine Wl.q (v := Value.int .i64 1) (q_assign rfl) ?_
    refine Wl.done ?_
    refine Wx.go ?_
    refine Wc.ret ?_
    refine Wx.thenRet ?_
    refine Wx.fin2 rfl (.inl rfl) (fun w hs => ?_)
    have e : DS.read (⟨secs, since, false, count, cut⟩ : DS) at_ = _ := read_bad rfl (by first | exact .inl hneg | exact .inr hge)
    rw [e]
    exact ⟨(), trivial, rfl, hs⟩
  ·
    obtain ⟨c, rfl⟩ := Int.eq_ofNat_of_zero_le (Int.not_lt.1 hneg)
    refine Wl.q (v := Value.bool false) (q_lss (r := false) rfl rfl (decide_eq_false hneg)) ?_
    refine Wl.q (v := Value.bool false) (q_move rfl) ?_
    refine Wl.q (v := Value.int .i64 ((c : Nat) : Int)) (q_move rfl) ?_
    refine Wl.q (v := Value.pointer (some ⟨q, 0, none⟩)) (q_move rfl) ?_
    refine Wl.q (v := Value.pointer (some ⟨q, 0, none⟩)) (q_nil_ptr rfl) ?_
    refine Wl.q (v := Value.pointer (some ⟨q, 0, none⟩)) (q_field (m := 0) fo_63_0 rfl rfl) ?_
    refine Wl.q (v := Value.slice (some ⟨bd, 0, none⟩) secs.length cd) (q_load sc_33 rfl (.cel (i := 1) rfl rfl)) ?_
    refine Wl.q (v := Value.int .i64 ((secs.length : Nat) : Int)) (q_len_slice Try.underlying33 rfl) ?_
    by_cases hge : ((c : Nat) : Int) ≥ ((secs.length : Nat) : Int)
    ·
      refine Wl.q (v := Value.bool true) (q_geq (r := true) rfl rfl (decide_eq_true hge)) ?_
      refine Wl.q (v := Value.bool true) (q_pick (t := false) rfl rfl) ?_
      refine Wl.done ?_
      refine Wx.go ?_
      refine Wc.yes rfl ?_
      refine Wc.seq ?_
      refine Wc.region ?_
      refine Wl.q (v := Value.string (⟨#[]⟩)) (q_assign rfl) ?_
      refine Wl.q (v := Value.int .i64 1) (q_assign rfl) ?_
      refine Wl.done ?_
      refine Wx.go ?_
      refine Wc.ret ?_
      refine Wx.thenRet ?_
      refine Wx.fin2 rfl (.inl rfl) (fun w hs => ?_)
      have e : DS.read (⟨secs, since, false, count, cut⟩ : DS) ((c : Nat) : Int) = _ := read_bad rfl (by first | exact .inl hneg | exact .inr hge)
      rw [e]
      exact ⟨(), trivial, rfl, hs⟩
    ·
      refine Wl.q (v := Value.bool false) (q_geq (r := false) rfl rfl (decide_eq_false hge)) ?_
      refine Wl.q (v := Value.bool false) (q_pick (t := false) rfl rfl) ?_
      refine Wl.done ?_
      refine Wx.go ?_
      refine Wc.no rfl ?_
      refine Wc.skip ?_
      refine Wx.go ?_
      refine Wc.seq ?_
      refine Wc.seq ?_
      refine Wc.region ?_
      refine Wl.q (v := Value.pointer (some ⟨q, 0, none⟩)) (q_move rfl) ?_
      refine Wl.q (v := Value.pointer (some ⟨q, 0, none⟩)) (q_nil_ptr rfl) ?_
      refine Wl.q (v := Value.pointer (some ⟨q, 1, none⟩)) (q_field (m := 1) fo_63_1 rfl rfl) ?_
      refine Wl.q (v := Value.slice (some ⟨b, 0, none⟩) since.length cap) (q_load sc_34 rfl (.cel (i := 1) rfl rfl)) ?_
      refine Wl.q (v := Value.int .i64 ((since.length : Nat) : Int)) (q_len_slice Try.underlying34 rfl) ?_
      refine Wl.q (v := Value.int .i64 (((since.length : Nat) : Int) - 1)) (q_sub (c := (((since.length : Nat) : Int) - 1)) rfl rfl (wrap_i64 (by omega) (by omega))) ?_
      refine Wl.q (v := Value.int .i64 (((since.length : Nat) : Int) - 1)) (q_assign rfl) ?_
      refine Wl.done ?_
      refine Wx.go ?_
      refine Wc.block ?_
      refine Wc.loop (X := Nat) (fun r E => E 6 = Value.int .i64 (((r : Nat) : Int) - 1) ∧ E 0 = Value.pointer (some ⟨q, 0, none⟩) ∧ E 1 = Value.int .i64 ((c : Nat) : Int) ∧ readL (secs.getD c default) c (since.take r) = readL (secs.getD c default) c since ∧ r ≤ since.length) (fun r => (slp 86 2 b cap (flat since)) :: (pt q 63 [Value.slice (some ⟨bd, 0, none⟩) secs.length cd, Value.slice (some ⟨b, 0, none⟩) since.length cap, Value.bool false, Value.int .i64 lv, Value.int .i64 bv, Value.int .i64 ((count : Nat) : Int)]) :: (slp 9 1 bd cd (secs.map Value.string)) :: F) (fun r => r) since.length ?_ ?_ ?_
      · exact ⟨rfl, rfl, rfl, (by rw [List.take_length]), (by omega)⟩
      · exact fun w hs => hs
      · rintro r E2 ⟨hE6_0, hE0_0, hE1_0, hp0, hp1⟩
        refine Wc.seq ?_
        refine Wc.seq ?_
        refine Wc.region ?_
        refine Wl.q (v := Value.int .i64 (((r : Nat) : Int) - 1)) (q_move hE6_0) ?_
        by_cases hpos : (((r : Nat) : Int) - 1) ≥ 0
        ·
          obtain ⟨k, rfl⟩ : ∃ k, r = k + 1 := ⟨r - 1, by omega⟩
          have hq6 := hE6_0
          rw [show ((k + 1 : Nat) : Int) - 1 = ((k : Nat) : Int) by omega] at hq6
          obtain ⟨⟨a, s⟩, hget⟩ : ∃ q, since[k]? = some q := ⟨since[k]'(by omega), by simp [List.getElem?_eq_getElem (show k < since.length by omega)]⟩
          refine Wl.q (v := Value.bool true) (q_geq (r := true) rfl rfl (decide_eq_true hpos)) ?_
          refine Wl.done ?_
          refine Wx.go ?_
          refine Wc.yes rfl ?_
          refine Wc.skip ?_
          refine Wx.go ?_
          refine Wc.seq ?_
          refine Wc.block ?_
          refine Wc.seq ?_
          refine Wc.region ?_
          refine Wl.q (v := Value.pointer (some ⟨q, 0, none⟩)) (q_move hE0_0) ?_
          refine Wl.q (v := Value.pointer (some ⟨q, 0, none⟩)) (q_nil_ptr rfl) ?_
          refine Wl.q (v := Value.pointer (some ⟨q, 1, none⟩)) (q_field (m := 1) fo_63_1 rfl rfl) ?_
          refine Wl.q (v := Value.slice (some ⟨b, 0, none⟩) since.length cap) (q_load sc_34 rfl (.cel (i := 1) rfl rfl)) ?_
          refine Wl.q (v := Value.int .i64 ((k : Nat) : Int)) (q_move hq6) ?_
          refine Wl.q (v := Value.pointer (some ⟨b, k * 2, none⟩)) (q_idx (m := k * 2) se_34 rfl rfl (by omega) (by omega) (by simp)) ?_
          refine Wl.q (v := Value.pointer (some ⟨b, k * 2, none⟩)) (q_field (m := k * 2) fo_86_0 rfl rfl) ?_
          refine Wl.q (v := Value.int .i64 ((a : Nat) : Int)) (q_load sc_3 rfl (flat_has (i := 0) rfl hget 0 _ rfl)) ?_
          refine Wl.q (v := Value.int .i64 ((c : Nat) : Int)) (q_move hE1_0) ?_
          by_cases heq : ((a : Nat) : Int) = ((c : Nat) : Int)
          ·
            refine Wl.q (v := Value.bool true) (q_eql (r := true) rfl rfl (decide_eq_true heq)) ?_
            refine Wl.done ?_
            refine Wx.go ?_
            refine Wc.yes rfl ?_
            refine Wc.seq ?_
            refine Wc.region ?_
            refine Wl.q (v := Value.pointer (some ⟨q, 0, none⟩)) (q_move hE0_0) ?_
            refine Wl.q (v := Value.pointer (some ⟨q, 0, none⟩)) (q_nil_ptr rfl) ?_
            refine Wl.q (v := Value.pointer (some ⟨q, 1, none⟩)) (q_field (m := 1) fo_63_1 rfl rfl) ?_
            refine Wl.q (v := Value.slice (some ⟨b, 0, none⟩) since.length cap) (q_load sc_34 rfl (.cel (i := 1) rfl rfl)) ?_
            refine Wl.q (v := Value.int .i64 ((k : Nat) : Int)) (q_move hq6) ?_
            refine Wl.q (v := Value.pointer (some ⟨b, k * 2, none⟩)) (q_idx (m := k * 2) se_34 rfl rfl (by omega) (by omega) (by simp)) ?_
            refine Wl.q (v := Value.pointer (some ⟨b, k * 2 + 1, none⟩)) (q_field (m := k * 2 + 1) fo_86_1 rfl rfl) ?_
            refine Wl.q (v := Value.string s) (q_load sc_9 rfl (flat_has (i := 0) rfl hget 1 _ rfl)) ?_
            refine Wl.q (v := Value.string s) (q_assign rfl) ?_
            refine Wl.q (v := Value.int .i64 0) (q_assign rfl) ?_
            refine Wl.done ?_
            refine Wx.go ?_
            refine Wc.ret ?_
            refine Wx.blockRet ?_
            refine Wx.thenRet ?_
            refine Wx.thenRet ?_
            refine Wx.blockRet ?_
            refine Wx.thenRet ?_
            refine Wx.fin2 rfl (.inl rfl) (fun w hs => ?_)
            have e : DS.read (⟨secs, since, false, count, cut⟩ : DS) ((c : Nat) : Int) = (s, 0) := (read_ok rfl hge).trans (by simp only; rw [← hp0, readL_take hget, if_pos (by omega)])
            rw [e]
            exact ⟨(), trivial, rfl, hs⟩
          ·
            refine Wl.q (v := Value.bool false) (q_eql (r := false) rfl rfl (decide_eq_false heq)) ?_
            refine Wl.done ?_
            refine Wx.go ?_
            refine Wc.no rfl ?_
            refine Wc.skip ?_
            refine Wx.blockEnd ?_
            refine Wx.go ?_
            refine Wc.region ?_
            refine Wl.q (v := Value.int .i64 ((k : Nat) : Int)) (q_move hq6) ?_
            refine Wl.q (v := Value.int .i64 (((k : Nat) : Int) - 1)) (q_sub (c := (((k : Nat) : Int) - 1)) rfl rfl (wrap_i64 (by omega) (by omega))) ?_
            refine Wl.q (v := Value.int .i64 (((k : Nat) : Int) - 1)) (q_assign rfl) ?_
            refine Wl.done ?_
            refine Wx.at k ⟨(by omega), rfl, hE0_0, hE1_0, (by rw [← hp0, readL_take hget, if_neg (by omega)]), (by omega)⟩ (fun w hs => hs)
        ·
          refine Wl.q (v := Value.bool false) (q_geq (r := false) rfl rfl (decide_eq_false hpos)) ?_
          refine Wl.done ?_
          refine Wx.go ?_
          refine Wc.no rfl ?_
          refine Wc.exit ?_
          refine Wx.thenExit ?_
          refine Wx.thenExit ?_
          refine Wx.out ?_
          refine Wx.go ?_
          refine Wc.seq ?_
          refine Wc.region ?_
          refine Wl.q (v := Value.pointer (some ⟨q, 0, none⟩)) (q_move hE0_0) ?_
          refine Wl.q (v := Value.pointer (some ⟨q, 0, none⟩)) (q_nil_ptr rfl) ?_
          refine Wl.q (v := Value.pointer (some ⟨q, 0, none⟩)) (q_field (m := 0) fo_63_0 rfl rfl) ?_
          refine Wl.q (v := Value.slice (some ⟨bd, 0, none⟩) secs.length cd) (q_load sc_33 rfl (.cel (i := 1) rfl rfl)) ?_
          refine Wl.q (v := Value.int .i64 ((c : Nat) : Int)) (q_move hE1_0) ?_
          refine Wl.q (v := Value.pointer (some ⟨bd, c, none⟩)) (q_idx (m := c) se_33 rfl rfl (by omega) (by omega) (by simp)) ?_
          refine Wl.q (v := Value.string (secs.getD c default)) (q_load sc_9 rfl (.row (i := 2) rfl (map_get (by omega)))) ?_
          refine Wl.q (v := Value.string (secs.getD c default)) (q_assign rfl) ?_
          refine Wl.q (v := Value.int .i64 0) (q_assign rfl) ?_
          refine Wl.done ?_
          refine Wx.go ?_
          refine Wc.ret ?_
          refine Wx.fin2 rfl (.inl rfl) (fun w hs => ?_)
          have e : DS.read (⟨secs, since, false, count, cut⟩ : DS) ((c : Nat) : Int) = (secs.getD c default, 0) := (read_ok rfl hge).trans (by simp only; rw [← hp0, show r = 0 by omega]; rfl)
          rw [e]
          exact ⟨(), trivial, rfl, hs⟩

theorem rread_nil (W0 : World) (q bd cd : Nat) (secs : List ByteArray) (since : List (Nat × ByteArray)) (count : Nat) (lv bv : Int) (cut : Option (Nat × Int)) (at_ : Int) (hsince : since.length < 1099511627776) (hnil : since = []) :
    Con Try.prog W0 28 #[Value.pointer (some ⟨q, 0, none⟩), Value.int .i64 at_] [pt q 63 [Value.slice (some ⟨bd, 0, none⟩) secs.length cd, Value.slice none 0 0, Value.bool false, Value.int .i64 lv, Value.int .i64 bv, Value.int .i64 ((count : Nat) : Int)], slp 9 1 bd cd (secs.map Value.string)] (X := Unit) (fun _ => True) (fun _ => Value.tuple #[Value.string (DS.read (⟨secs, since, false, count, cut⟩ : DS) at_).1, Value.int .i64 (DS.read (⟨secs, since, false, count, cut⟩ : DS) at_).2]) (fun _ => [pt q 63 [Value.slice (some ⟨bd, 0, none⟩) secs.length cd, Value.slice none 0 0, Value.bool false, Value.int .i64 lv, Value.int .i64 bv, Value.int .i64 ((count : Nat) : Int)], slp 9 1 bd cd (secs.map Value.string)]) := by
  refine Con.of (args := [Value.pointer (some ⟨q, 0, none⟩), Value.int .i64 at_]) Try.func28 rfl Try.ntmps28 rfl (fun F => ?_)
  show Wc _ W0 _ _ _ _ _ ((pt q 63 [Value.slice (some ⟨bd, 0, none⟩) secs.length cd, Value.slice none 0 0, Value.bool false, Value.int .i64 lv, Value.int .i64 bv, Value.int .i64 ((count : Nat) : Int)]) :: (slp 9 1 bd cd (secs.map Value.string)) :: F)
  refine Wc.seq ?_
  refine Wc.region ?_
  refine Wl.q (v := Value.string (⟨#[]⟩)) (q_assign rfl) ?_
  refine Wl.q (v := Value.int .i64 0) (q_assign rfl) ?_
  refine Wl.done ?_
  refine Wx.go ?_
  refine Wc.seq ?_
  refine Wc.seq ?_
  refine Wc.region ?_
  refine Wl.q (v := Value.pointer (some ⟨q, 0, none⟩)) (q_move rfl) ?_
  refine Wl.q (v := Value.pointer (some ⟨q, 0, none⟩)) (q_nil_ptr rfl) ?_
  refine Wl.q (v := Value.pointer (some ⟨q, 2, none⟩)) (q_field (m := 2) fo_63_2 rfl rfl) ?_
  refine Wl.q (v := Value.bool false) (q_load sc_4 rfl (.cel (i := 0) rfl rfl)) ?_
  refine Wl.done ?_
  refine Wx.go ?_
  refine Wc.no rfl ?_
  refine Wc.skip ?_
  refine Wx.go ?_
  refine Wc.seq ?_
  refine Wc.seq ?_
  refine Wc.region ?_
  refine Wl.q (v := Value.int .i64 at_) (q_move rfl) ?_
  by_cases hneg : at_ < 0
  ·
    refine Wl.q (v := Value.bool true) (q_lss (r := true) rfl rfl (decide_eq_true hneg)) ?_
    refine Wl.q (v := Value.bool true) (q_move rfl) ?_
    refine Wl.no ?_
    refine Wl.no ?_
    refine Wl.no ?_
    refine Wl.no ?_
    refine Wl.no ?_
    refine Wl.no ?_
    refine Wl.no ?_
    refine Wl.q (v := Value.bool true) (q_pick (t := true) rfl rfl) ?_
    refine Wl.done ?_
    refine Wx.go ?_
    refine Wc.yes rfl ?_
    refine Wc.seq ?_
    refine Wc.region ?_
    refine Wl.q (v := Value.string (⟨#[]⟩)) (q_assign rfl) ?_
    refine Wl.q (v := Value.int .i64 1) (q_assign rfl) ?_
    refine Wl.done ?_
    refine Wx.go ?_
    refine Wc.ret ?_
    refine Wx.thenRet ?_
    refine Wx.fin2 rfl (.inl rfl) (fun w hs => ?_)
    have e : DS.read (⟨secs, since, false, count, cut⟩ : DS) at_ = _ := read_bad rfl (by first | exact .inl hneg | exact .inr hge)
    rw [e]
    exact ⟨(), trivial, rfl, hs⟩
  ·
    obtain ⟨c, rfl⟩ := Int.eq_ofNat_of_zero_le (Int.not_lt.1 hneg)
    refine Wl.q (v := Value.bool false) (q_lss (r := false) rfl rfl (decide_eq_false hneg)) ?_
    refine Wl.q (v := Value.bool false) (q_move rfl) ?_
    refine Wl.q (v := Value.int .i64 ((c : Nat) : Int)) (q_move rfl) ?_
    refine Wl.q (v := Value.pointer (some ⟨q, 0, none⟩)) (q_move rfl) ?_
    refine Wl.q (v := Value.pointer (some ⟨q, 0, none⟩)) (q_nil_ptr rfl) ?_
    refine Wl.q (v := Value.pointer (some ⟨q, 0, none⟩)) (q_field (m := 0) fo_63_0 rfl rfl) ?_
    refine Wl.q (v := Value.slice (some ⟨bd, 0, none⟩) secs.length cd) (q_load sc_33 rfl (.cel (i := 0) rfl rfl)) ?_
    refine Wl.q (v := Value.int .i64 ((secs.length : Nat) : Int)) (q_len_slice Try.underlying33 rfl) ?_
    by_cases hge : ((c : Nat) : Int) ≥ ((secs.length : Nat) : Int)
    ·
      refine Wl.q (v := Value.bool true) (q_geq (r := true) rfl rfl (decide_eq_true hge)) ?_
      refine Wl.q (v := Value.bool true) (q_pick (t := false) rfl rfl) ?_
      refine Wl.done ?_
      refine Wx.go ?_
      refine Wc.yes rfl ?_
      refine Wc.seq ?_
      refine Wc.region ?_
      refine Wl.q (v := Value.string (⟨#[]⟩)) (q_assign rfl) ?_
      refine Wl.q (v := Value.int .i64 1) (q_assign rfl) ?_
      refine Wl.done ?_
      refine Wx.go ?_
      refine Wc.ret ?_
      refine Wx.thenRet ?_
      refine Wx.fin2 rfl (.inl rfl) (fun w hs => ?_)
      have e : DS.read (⟨secs, since, false, count, cut⟩ : DS) ((c : Nat) : Int) = _ := read_bad rfl (by first | exact .inl hneg | exact .inr hge)
      rw [e]
      exact ⟨(), trivial, rfl, hs⟩
    ·
      refine Wl.q (v := Value.bool false) (q_geq (r := false) rfl rfl (decide_eq_false hge)) ?_
      refine Wl.q (v := Value.bool false) (q_pick (t := false) rfl rfl) ?_
      refine Wl.done ?_
      refine Wx.go ?_
      refine Wc.no rfl ?_
      refine Wc.skip ?_
      refine Wx.go ?_
      refine Wc.seq ?_
      refine Wc.seq ?_
      refine Wc.region ?_
      refine Wl.q (v := Value.pointer (some ⟨q, 0, none⟩)) (q_move rfl) ?_
      refine Wl.q (v := Value.pointer (some ⟨q, 0, none⟩)) (q_nil_ptr rfl) ?_
      refine Wl.q (v := Value.pointer (some ⟨q, 1, none⟩)) (q_field (m := 1) fo_63_1 rfl rfl) ?_
      refine Wl.q (v := Value.slice none 0 0) (q_load sc_34 rfl (.cel (i := 0) rfl rfl)) ?_
      refine Wl.q (v := Value.int .i64 0) (q_len_slice Try.underlying34 rfl) ?_
      refine Wl.q (v := Value.int .i64 (-1)) (q_sub (c := (-1)) rfl rfl (by decide)) ?_
      refine Wl.q (v := Value.int .i64 (-1)) (q_assign rfl) ?_
      refine Wl.done ?_
      refine Wx.go ?_
      refine Wc.block ?_
      refine Wc.loop (X := Nat) (fun r E => E 6 = Value.int .i64 (((r : Nat) : Int) - 1) ∧ E 0 = Value.pointer (some ⟨q, 0, none⟩) ∧ E 1 = Value.int .i64 ((c : Nat) : Int) ∧ readL (secs.getD c default) c (since.take r) = readL (secs.getD c default) c since ∧ r ≤ since.length) (fun r => (pt q 63 [Value.slice (some ⟨bd, 0, none⟩) secs.length cd, Value.slice none 0 0, Value.bool false, Value.int .i64 lv, Value.int .i64 bv, Value.int .i64 ((count : Nat) : Int)]) :: (slp 9 1 bd cd (secs.map Value.string)) :: F) (fun r => r) 0 ?_ ?_ ?_
      · exact ⟨rfl, rfl, rfl, (by rw [hnil]; rfl), (by omega)⟩
      · exact fun w hs => hs
      · rintro r E2 ⟨hE6_0, hE0_0, hE1_0, hp0, hp1⟩
        have hsl : since.length = 0 := by rw [hnil]; rfl
        refine Wc.seq ?_
        refine Wc.seq ?_
        refine Wc.region ?_
        refine Wl.q (v := Value.int .i64 (((r : Nat) : Int) - 1)) (q_move hE6_0) ?_
        by_cases hpos : (((r : Nat) : Int) - 1) ≥ 0
        ·
          exfalso; omega
        ·
          refine Wl.q (v := Value.bool false) (q_geq (r := false) rfl rfl (decide_eq_false hpos)) ?_
          refine Wl.done ?_
          refine Wx.go ?_
          refine Wc.no rfl ?_
          refine Wc.exit ?_
          refine Wx.thenExit ?_
          refine Wx.thenExit ?_
          refine Wx.out ?_
          refine Wx.go ?_
          refine Wc.seq ?_
          refine Wc.region ?_
          refine Wl.q (v := Value.pointer (some ⟨q, 0, none⟩)) (q_move hE0_0) ?_
          refine Wl.q (v := Value.pointer (some ⟨q, 0, none⟩)) (q_nil_ptr rfl) ?_
          refine Wl.q (v := Value.pointer (some ⟨q, 0, none⟩)) (q_field (m := 0) fo_63_0 rfl rfl) ?_
          refine Wl.q (v := Value.slice (some ⟨bd, 0, none⟩) secs.length cd) (q_load sc_33 rfl (.cel (i := 0) rfl rfl)) ?_
          refine Wl.q (v := Value.int .i64 ((c : Nat) : Int)) (q_move hE1_0) ?_
          refine Wl.q (v := Value.pointer (some ⟨bd, c, none⟩)) (q_idx (m := c) se_33 rfl rfl (by omega) (by omega) (by simp)) ?_
          refine Wl.q (v := Value.string (secs.getD c default)) (q_load sc_9 rfl (.row (i := 1) rfl (map_get (by omega)))) ?_
          refine Wl.q (v := Value.string (secs.getD c default)) (q_assign rfl) ?_
          refine Wl.q (v := Value.int .i64 0) (q_assign rfl) ?_
          refine Wl.done ?_
          refine Wx.go ?_
          refine Wc.ret ?_
          refine Wx.fin2 rfl (.inl rfl) (fun w hs => ?_)
          have e : DS.read (⟨secs, since, false, count, cut⟩ : DS) ((c : Nat) : Int) = (secs.getD c default, 0) := (read_ok rfl hge).trans (by simp only; rw [← hp0, show r = 0 by omega]; rfl)
          rw [e]
          exact ⟨(), trivial, rfl, hs⟩

theorem rread_up (W0 : World) (q bd cd : Nat) (secs : List ByteArray) (since : List (Nat × ByteArray)) (count : Nat) (sv : Value) (lv bv : Int) (cut : Option (Nat × Int)) (hr : refR lv bv cut) (at_ : Int) (hsince : since.length < 1099511627776) :
    Con Try.prog W0 28 #[Value.pointer (some ⟨q, 0, none⟩), Value.int .i64 at_] [pt q 63 [Value.slice (some ⟨bd, 0, none⟩) secs.length cd, sv, Value.bool false, Value.int .i64 lv, Value.int .i64 bv, Value.int .i64 ((count : Nat) : Int)], slp 9 1 bd cd (secs.map Value.string), sl 86 2 sv since.length (flat since)] (X := Unit) (fun _ => True) (fun _ => Value.tuple #[Value.string (DS.read (⟨secs, since, false, count, cut⟩ : DS) at_).1, Value.int .i64 (DS.read (⟨secs, since, false, count, cut⟩ : DS) at_).2]) (fun _ => [isRef q (⟨secs, since, false, count, cut⟩ : DS)]) := by
  refine Con.pull (pre := [sl 86 2 sv since.length (flat since), pt q 63 [Value.slice (some ⟨bd, 0, none⟩) secs.length cd, sv, Value.bool false, Value.int .i64 lv, Value.int .i64 bv, Value.int .i64 ((count : Nat) : Int)], slp 9 1 bd cd (secs.map Value.string)]) [2] (fun _ => rfl) (Con.sl (fun e1 e2 e3 => ?_) (fun b cap e1 e2 e3 => ?_))
  · subst e1; have e4 := List.eq_nil_of_length_eq_zero e2
    exact Con.post (rread_nil W0 q bd cd secs since count lv bv cut at_ hsince e4) (fun _ w F h => isRef_mk hr rfl (by simp only; rw [e2, e3]; exact st_pull [1, 1] (st_sl_nil h)))
  · subst e1
    exact Con.post (rread_blk W0 q bd cd secs since count lv bv cut at_ hsince b cap e2) (fun _ w F h => isRef_mk hr rfl (st_pull [1, 1] (st_sl_mk e3 e2 h)))

theorem rread_c (W0 : World) (q : Nat) (d : DS) (at_ : Int) (hsince : d.since.length < 1099511627776) :
  Con Try.prog W0 28 #[Value.pointer (some ⟨q, 0, none⟩), Value.int .i64 at_] [isRef q d] (X := Unit) (fun _ => True) (fun _ => Value.tuple #[Value.string (d.read at_).1, Value.int .i64 (d.read at_).2]) (fun _ => [isRef q d]) := by
 obtain ⟨secs, since, down, count, cut⟩ := d
 refine Con.ref (fun bd cd sv lv bv hr => ?_)
 cases down
 · exact rread_up W0 q bd cd secs since count sv lv bv cut hr at_ hsince
 · exact rread_down W0 q bd cd secs since count sv lv bv cut hr at_

theorem rnew_low (W0 : World) (n : Int) (hn : n < 1) :
  Con Try.prog W0 25 #[Value.int .i64 n] [] (X := Unit) (fun _ => True) (fun _ => .tuple #[.pointer none, .int .i64 1]) (fun _ => []) := by
 refine Con.of (args := [Value.int .i64 n]) Try.func25 rfl Try.ntmps25 rfl (fun F => ?_)
 show Wc _ W0 _ _ _ _ _ (F)
 refine Wc.seq ?_
 refine Wc.region ?_
 refine Wl.q (v := Value.pointer none) (q_assign rfl) ?_
 refine Wl.q (v := Value.int .i64 0) (q_assign rfl) ?_
 refine Wl.done ?_
 refine Wx.go ?_
 refine Wc.seq ?_
 refine Wc.seq ?_
 refine Wc.region ?_
 refine Wl.q (v := Value.int .i64 n) (q_move rfl) ?_
 refine Wl.q (v := Value.bool true) (q_lss (r := true) rfl rfl (decide_eq_true (hn))) ?_
 refine Wl.done ?_
 refine Wx.go ?_
 refine Wc.yes rfl ?_
 refine Wc.seq ?_
 refine Wc.region ?_
 refine Wl.q (v := Value.pointer none) (q_assign rfl) ?_
 refine Wl.q (v := Value.int .i64 1) (q_assign rfl) ?_
 refine Wl.done ?_
 refine Wx.go ?_
 refine Wc.ret ?_
 refine Wx.thenRet ?_
 refine Wx.fin2 rfl (.inl rfl) (fun w hs => ?_)
 exact ⟨(), trivial, rfl, hs⟩

theorem rnew_high (W0 : World) (n : Int) (hn : n > 4096) :
  Con Try.prog W0 25 #[Value.int .i64 n] [] (X := Unit) (fun _ => True) (fun _ => .tuple #[.pointer none, .int .i64 3]) (fun _ => []) := by
 refine Con.of (args := [Value.int .i64 n]) Try.func25 rfl Try.ntmps25 rfl (fun F => ?_)
 show Wc _ W0 _ _ _ _ _ (F)
 refine Wc.seq ?_
 refine Wc.region ?_
 refine Wl.q (v := Value.pointer none) (q_assign rfl) ?_
 refine Wl.q (v := Value.int .i64 0) (q_assign rfl) ?_
 refine Wl.done ?_
 refine Wx.go ?_
 refine Wc.seq ?_
 refine Wc.seq ?_
 refine Wc.region ?_
 refine Wl.q (v := Value.int .i64 n) (q_move rfl) ?_
 refine Wl.q (v := Value.bool false) (q_lss (r := false) rfl rfl (decide_eq_false (by omega))) ?_
 refine Wl.done ?_
 refine Wx.go ?_
 refine Wc.no rfl ?_
 refine Wc.skip ?_
 refine Wx.go ?_
 refine Wc.seq ?_
 refine Wc.seq ?_
 refine Wc.region ?_
 refine Wl.q (v := Value.int .i64 n) (q_move rfl) ?_
 refine Wl.q (v := Value.bool true) (q_gtr (r := true) rfl rfl (decide_eq_true (hn))) ?_
 refine Wl.done ?_
 refine Wx.go ?_
 refine Wc.yes rfl ?_
 refine Wc.seq ?_
 refine Wc.region ?_
 refine Wl.q (v := Value.pointer none) (q_assign rfl) ?_
 refine Wl.q (v := Value.int .i64 3) (q_assign rfl) ?_
 refine Wl.done ?_
 refine Wx.go ?_
 refine Wc.ret ?_
 refine Wx.thenRet ?_
 refine Wx.fin2 rfl (.inl rfl) (fun w hs => ?_)
 exact ⟨(), trivial, rfl, hs⟩

theorem rnew_ok (W0 : World) (n : Nat) (h1 : 1 ≤ n) (h2 : n ≤ 4096) :
    Con Try.prog W0 25 #[Value.int .i64 ((n : Nat) : Int)] [] (X := Nat) (fun _ => True) (fun q => .tuple #[.pointer (some ⟨q, 0, none⟩), .int .i64 0]) (fun q => [isRef q (DS.new n)]) := by
  refine Con.of (args := [Value.int .i64 ((n : Nat) : Int)]) Try.func25 rfl Try.ntmps25 rfl (fun F => ?_)
  show Wc _ W0 _ _ _ _ _ (F)
  refine Wc.seq ?_
  refine Wc.region ?_
  refine Wl.q (v := Value.pointer none) (q_assign rfl) ?_
  refine Wl.q (v := Value.int .i64 0) (q_assign rfl) ?_
  refine Wl.done ?_
  refine Wx.go ?_
  refine Wc.seq ?_
  refine Wc.seq ?_
  refine Wc.region ?_
  refine Wl.q (v := Value.int .i64 ((n : Nat) : Int)) (q_move rfl) ?_
  refine Wl.q (v := Value.bool false) (q_lss (r := false) rfl rfl (decide_eq_false (by omega))) ?_
  refine Wl.done ?_
  refine Wx.go ?_
  refine Wc.no rfl ?_
  refine Wc.skip ?_
  refine Wx.go ?_
  refine Wc.seq ?_
  refine Wc.seq ?_
  refine Wc.region ?_
  refine Wl.q (v := Value.int .i64 ((n : Nat) : Int)) (q_move rfl) ?_
  refine Wl.q (v := Value.bool false) (q_gtr (r := false) rfl rfl (decide_eq_false (by omega))) ?_
  refine Wl.done ?_
  refine Wx.go ?_
  refine Wc.no rfl ?_
  refine Wc.skip ?_
  refine Wx.go ?_
  refine Wc.seq ?_
  refine Wc.region ?_
  refine Wl.q (v := Value.agg #[Value.slice none 0 0, Value.slice none 0 0, Value.bool false, Value.int .i64 (-1), Value.int .i64 0, Value.int .i64 0]) (q_build (pl := [(0, 1), (1, 1), (2, 1), (3, 1), (4, 1), (5, 1)]) Try.underlying63 zo_63 (by kernel_rfl) (by kernel_rfl)) ?_
  refine Wl.e (e_box (x := .tmp 10) (vs := [Value.slice none 0 0, Value.slice none 0 0, Value.bool false, Value.int .i64 (-1), Value.int .i64 0, Value.int .i64 0]) rfl) (fun q _ => ?_)
  refine Wl.imp (L' := (pt q 63 [Value.slice none 0 0, Value.slice none 0 0, Value.bool false, Value.int .i64 (-1), Value.int .i64 0, Value.int .i64 0]) :: F) (fun _ h => h) ?_
  refine Wl.q (v := Value.pointer (some ⟨q, 0, none⟩)) (q_assign rfl) ?_
  refine Wl.done ?_
  refine Wx.go ?_
  refine Wc.seq ?_
  refine Wc.seq ?_
  refine Wc.region ?_
  refine Wl.q (v := Value.int .i64 0) (q_assign rfl) ?_
  refine Wl.done ?_
  refine Wx.go ?_
  refine Wc.block ?_
  refine Wc.loop (X := Nat × Value) (fun (r, v) E => E 5 = Value.int .i64 ((r : Nat) : Int) ∧ E 0 = Value.int .i64 ((n : Nat) : Int) ∧ E 4 = Value.pointer (some ⟨q, 0, none⟩) ∧ r ≤ n) (fun (r, v) => (pt q 63 [v, Value.slice none 0 0, Value.bool false, Value.int .i64 (-1), Value.int .i64 0, Value.int .i64 0]) :: (sl 9 1 v r (rsL (fun j => noughts) r)) :: F) (fun (r, v) => n - r) (0, .slice none 0 0) ?_ ?_ ?_
  · exact ⟨rfl, rfl, rfl, (by omega)⟩
  · exact fun w hs => st_swap (st_sl_nil hs)
  · rintro ⟨r, v⟩ E2 ⟨hE5_0, hE0_0, hE4_0, hi0⟩
    dsimp only at *
    refine Wc.seq ?_
    refine Wc.seq ?_
    refine Wc.region ?_
    refine Wl.q (v := Value.int .i64 ((r : Nat) : Int)) (q_move hE5_0) ?_
    refine Wl.q (v := Value.int .i64 ((n : Nat) : Int)) (q_move hE0_0) ?_
    by_cases hilt : ((r : Nat) : Int) < ((n : Nat) : Int)
    ·
      refine Wl.q (v := Value.bool true) (q_lss (r := true) rfl rfl (decide_eq_true hilt)) ?_
      refine Wl.done ?_
      refine Wx.go ?_
      refine Wc.yes rfl ?_
      refine Wc.skip ?_
      refine Wx.go ?_
      refine Wc.seq ?_
      refine Wc.block ?_
      refine Wc.drawsS [10] ((pt q 63 [v, Value.slice none 0 0, Value.bool false, Value.int .i64 (-1), Value.int .i64 0, Value.int .i64 0]) :: []) (by kernel_rfl) ?_
      refine Wr.pure (v := Value.pointer (some ⟨q, 0, none⟩)) 0 rfl (by kernel_rfl) (.inr (fun _ h => st_take [0] h)) (.inl ⟨rfl, fun _ => q_move hE4_0⟩) ?_
      refine Wr.pure (v := Value.pointer (some ⟨q, 0, none⟩)) 1 rfl (by kernel_rfl) (.inr (fun _ h => st_take [0] h)) (.inl ⟨rfl, fun _ => q_move hE4_0⟩) ?_
      refine Wr.pure (v := Value.pointer (some ⟨q, 0, none⟩)) 2 rfl (by kernel_rfl) (.inr (fun _ h => st_take [0] h)) (.inl ⟨rfl, fun _ => q_nil_ptr rfl⟩) ?_
      refine Wr.pure (v := Value.pointer (some ⟨q, 0, none⟩)) 3 rfl (by kernel_rfl) (.inr (fun _ h => st_take [0] h)) (.inl ⟨rfl, fun _ => q_field (m := 0) fo_63_0 rfl rfl⟩) ?_
      refine Wr.take (v := v) 4 rfl (by kernel_rfl) (fun _ h => st_take [0] h) (.inl ⟨rfl, q_load sc_33 rfl (.cel (i := 0) rfl rfl)⟩) ?_
      refine Wr.e 5 (by kernel_rfl) rfl (e_call (F := (pt q 63 [v, Value.slice none 0 0, Value.bool false, Value.int .i64 (-1), Value.int .i64 0, Value.int .i64 0]) :: (sl 9 1 v r (rsL (fun j => noughts) r)) :: F) (args := []) Try.call41 rfl (noughts_c W0)) (.inr fun _ _ _ h => st_take [0] h) (fun _ _ => ?_)
      refine Wr.imp (L' := (pt q 63 [v, Value.slice none 0 0, Value.bool false, Value.int .i64 (-1), Value.int .i64 0, Value.int .i64 0]) :: (sl 9 1 v r (rsL (fun j => noughts) r)) :: F) (fun _ h => h) ?_
      refine Wr.e 6 (by kernel_rfl) rfl (e_buildSlice (cs := [Value.string noughts]) se_33 zo_9 (by decide) (by decide) (by kernel_rfl)) (.inr fun _ _ _ h => st_take [1] h) (fun b3 _ => ?_)
      refine Wr.imp (L' := (pt b3 9 [Value.string noughts]) :: (pt q 63 [v, Value.slice none 0 0, Value.bool false, Value.int .i64 (-1), Value.int .i64 0, Value.int .i64 0]) :: (sl 9 1 v r (rsL (fun j => noughts) r)) :: F) (fun _ h => h) ?_
      refine Wr.more (S' := (pt b3 9 [Value.string noughts]) :: (pt q 63 [v, Value.slice none 0 0, Value.bool false, Value.int .i64 (-1), Value.int .i64 0, Value.int .i64 0]) :: []) (fun _ h => st_drop h) ?_
      refine Wr.e 7 (by kernel_rfl) rfl (e_append (i := 2) (k := 1) (m := 1) (off := 0) (news := [Value.string noughts]) Try.underlying33 sz_9 by_9 zo_9 rfl rfl rfl rfl rfl (Has.of_pt (i := 0) rfl rfl) rfl (by decide) (by simp only [maxLen]; omega) (by omega)) (.inr fun _ _ _ h => st_take [0, 0] h) (fun v2 _ => ?_)
      refine Wr.imp (L' := (pt b3 9 [Value.string noughts]) :: (pt q 63 [v, Value.slice none 0 0, Value.bool false, Value.int .i64 (-1), Value.int .i64 0, Value.int .i64 0]) :: (sl 9 1 v2 (r + 1) ((rsL (fun j => noughts) r) ++ [Value.string noughts])) :: F) (fun _ h => h) ?_
      refine Wr.pure (v := Value.pointer (some ⟨q, 0, none⟩)) 8 rfl (by kernel_rfl) (.inr (fun _ h => st_take [0, 0] h)) (.inl ⟨rfl, fun _ => q_nil_ptr rfl⟩) ?_
      refine Wr.pure (v := Value.pointer (some ⟨q, 0, none⟩)) 9 rfl (by kernel_rfl) (.inr (fun _ h => st_take [0, 0] h)) (.inl ⟨rfl, fun _ => q_field (m := 0) fo_63_0 rfl rfl⟩) ?_
      refine Wr.e 10 (by kernel_rfl) rfl (e_store (i := 1) (v := v2) sz_33 rfl rfl (fun _ h => sl_one (i := 2) h rfl) rfl (by simp)) (.inl (by kernel_rfl)) (fun _ _ => ?_)
      refine Wr.imp (L' := (pt b3 9 [Value.string noughts]) :: (pt q 63 [v2, Value.slice none 0 0, Value.bool false, Value.int .i64 (-1), Value.int .i64 0, Value.int .i64 0]) :: (sl 9 1 v2 (r + 1) ((rsL (fun j => noughts) r) ++ [Value.string noughts])) :: F) (fun _ h => h) ?_
      refine Wr.rebaseS [] ((pt b3 9 [Value.string noughts]) :: (pt q 63 [v2, Value.slice none 0 0, Value.bool false, Value.int .i64 (-1), Value.int .i64 0, Value.int .i64 0]) :: (sl 9 1 v2 (r + 1) ((rsL (fun j => noughts) r) ++ [Value.string noughts])) :: []) (by kernel_rfl) ?_
      refine Wr.done (by kernel_rfl) ?_
      refine Wx.blockEnd ?_
      refine Wx.go ?_
      refine Wc.region ?_
      refine Wl.q (v := Value.int .i64 ((r : Nat) : Int)) (q_move hE5_0) ?_
      refine Wl.q (v := Value.int .i64 ((r + 1 : Nat) : Int)) (q_add (c := ((r + 1 : Nat) : Int)) rfl rfl (by rw [wrap_i64] <;> omega)) ?_
      refine Wl.q (v := Value.int .i64 ((r + 1 : Nat) : Int)) (q_assign rfl) ?_
      refine Wl.done ?_
      refine Wx.at (r + 1, v2) ⟨(by simp only; omega), rfl, hE0_0, hE4_0, (by omega)⟩ (fun w hs => by rw [rs_succ]; exact (st_drop (st_pull [0] hs)))
    ·
      refine Wl.q (v := Value.bool false) (q_lss (r := false) rfl rfl (decide_eq_false hilt)) ?_
      refine Wl.done ?_
      refine Wx.go ?_
      refine Wc.no rfl ?_
      refine Wc.exit ?_
      refine Wx.thenExit ?_
      refine Wx.thenExit ?_
      refine Wx.out ?_
      refine Wx.go ?_
      refine Wc.seq ?_
      refine Wc.region ?_
      refine Wl.q (v := Value.pointer (some ⟨q, 0, none⟩)) (q_move hE4_0) ?_
      refine Wl.q (v := Value.pointer (some ⟨q, 0, none⟩)) (q_assign rfl) ?_
      refine Wl.q (v := Value.int .i64 0) (q_assign rfl) ?_
      refine Wl.done ?_
      refine Wx.go ?_
      refine Wc.ret ?_
      refine Wx.fin2 rfl (.inl rfl) (fun w hs => ?_)
      have hend : r = n := by omega
      have hs1 := st_pull [1] hs
      rcases st_sl_cases hs1 with ⟨_, e2, _⟩ | ⟨bd, cd, e1, _, _, hs2⟩
      · omega
      · subst e1
        rw [rs_const hend] at hs2
        exact ⟨q, trivial, rfl, isRef_mk (d := DS.new n) (lv := -1) (bv := 0) rfl (by simp only [DS.new, List.length_replicate]; exact hend) (st_pull [2, 1] (st_sl_nil hs2))⟩

end Go.Proofs.Ytnhejdnigblnoaa
