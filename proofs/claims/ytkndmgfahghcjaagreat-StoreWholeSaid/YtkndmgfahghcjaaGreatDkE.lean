import Derived.Test.YtkndmgfahghcjaaGreatDkD
import Derived.Test.YtkndmgfahghcjaaGreatDkL
/- Contracts of the calls. -/
namespace Go.Proofs.YtkndmgfahghcjaaGreat
open Go Go.SL Go.Dk Go.RowKit
set_option linter.unusedVariables false
set_option maxRecDepth 8000

theorem read_down (W0 : World) (p : Nat) (secs : List ByteArray) (since : List (Nat × ByteArray)) (count : Nat) (cut : Option (Nat × Int)) (at_ : Int) :
  Con Tryz.prog W0 74 #[Value.pointer (some ⟨p, 0, none⟩), Value.int .i64 at_] [isDisk p (⟨secs, since, true, count, cut⟩ : DS)] (X := Unit) (fun _ => True) (fun _ => Value.tuple #[Value.string (DS.read (⟨secs, since, true, count, cut⟩ : DS) at_).1, Value.int .i64 (DS.read (⟨secs, since, true, count, cut⟩ : DS) at_).2]) (fun _ => [isDisk p (⟨secs, since, true, count, cut⟩ : DS)]) := by
 refine Con.disk (fun bs sv fn us vs => ?_)
 refine Con.of (args := [Value.pointer (some ⟨p, 0, none⟩), Value.int .i64 at_]) Tryz.func74 rfl Tryz.ntmps74 rfl (fun F => ?_)
 show Wc _ W0 _ _ _ _ _ ((pt p 82 [Value.slice (some ⟨bs, 0, none⟩) secs.length secs.length, sv, Value.bool true, Value.int .i64 ((count : Nat) : Int), .func fn us vs]) :: (pt bs 9 (secs.map Value.string)) :: (sl 122 2 sv since.length (flat since)) :: (mayR p (Value.func fn us vs) cut) :: F)
 refine Wc.seq (Wc.region (Wl.q (v := Value.string (⟨#[]⟩)) (q_assign rfl) (Wl.q (v := Value.int .i64 0) (q_assign rfl) (Wl.done (Wx.go (Wc.seq (Wc.seq (Wc.region (Wl.q (v := Value.pointer (some ⟨p, 0, none⟩)) (q_move rfl) (Wl.e (e_call (F := (pt bs 9 (secs.map Value.string)) :: (sl 122 2 sv since.length (flat since)) :: (mayR p (Value.func fn us vs) cut) :: F) (args := [Value.pointer (some ⟨p, 0, none⟩)]) Tryz.call56 rfl (state_down W0 p (Value.slice (some ⟨bs, 0, none⟩) secs.length secs.length) (sv) (Value.int .i64 ((count : Nat) : Int)) fn us vs)) (fun _ _ => Wl.imp (L' := (pt p 82 [Value.slice (some ⟨bs, 0, none⟩) secs.length secs.length, sv, Value.bool true, Value.int .i64 ((count : Nat) : Int), .func fn us vs]) :: (pt bs 9 (secs.map Value.string)) :: (sl 122 2 sv since.length (flat since)) :: (mayR p (Value.func fn us vs) cut) :: F) (fun _ h => h) ?_)))))))))))
 refine Wl.q (v := Value.int .i64 6) (q_assign rfl) (Wl.done (Wx.go (Wc.seq (Wc.region (Wl.q (v := Value.int .i64 6) (q_move rfl) (Wl.q (v := Value.bool true) (q_neq (r := false) rfl rfl (decide_eq_false (by decide))) (Wl.done (Wx.go (Wc.yes rfl (Wc.seq (Wc.region ?_)))))))))))
 refine Wl.q (v := Value.int .i64 6) (q_move rfl) (Wl.q (v := Value.string (⟨#[]⟩)) (q_assign rfl) (Wl.q (v := Value.int .i64 6) (q_assign rfl) (Wl.done (Wx.go (Wc.ret (Wx.thenRet (Wx.fin2 rfl (.inl rfl) (fun w hs => ?_))))))))
 exact ⟨(), trivial, rfl, isDisk_mk rfl hs⟩

theorem read_blk (W0 : World) (p bs : Nat) (secs : List ByteArray) (since : List (Nat × ByteArray)) (count : Nat) (cut : Option (Nat × Int)) (fn : Fn) (us vs : Array Value) (at_ : Int) (hsince : since.length < 1099511627776) (b cap : Nat) (hcap : since.length ≤ cap) :
    Con Tryz.prog W0 74 #[Value.pointer (some ⟨p, 0, none⟩), Value.int .i64 at_] [slp 122 2 b cap (flat since), pt p 82 [Value.slice (some ⟨bs, 0, none⟩) secs.length secs.length, Value.slice (some ⟨b, 0, none⟩) since.length cap, Value.bool false, Value.int .i64 ((count : Nat) : Int), .func fn us vs], pt bs 9 (secs.map Value.string), mayR p (Value.func fn us vs) cut] (X := Unit) (fun _ => True) (fun _ => Value.tuple #[Value.string (DS.read ⟨secs, since, false, count, cut⟩ at_).1, Value.int .i64 (DS.read ⟨secs, since, false, count, cut⟩ at_).2]) (fun _ => [slp 122 2 b cap (flat since), pt p 82 [Value.slice (some ⟨bs, 0, none⟩) secs.length secs.length, Value.slice (some ⟨b, 0, none⟩) since.length cap, Value.bool false, Value.int .i64 ((count : Nat) : Int), .func fn us vs], pt bs 9 (secs.map Value.string), mayR p (Value.func fn us vs) cut]) := by
  refine Con.of (args := [Value.pointer (some ⟨p, 0, none⟩), Value.int .i64 at_]) Tryz.func74 rfl Tryz.ntmps74 rfl (fun F => ?_)
  show Wc _ W0 _ _ _ _ _ ((slp 122 2 b cap (flat since)) :: (pt p 82 [Value.slice (some ⟨bs, 0, none⟩) secs.length secs.length, Value.slice (some ⟨b, 0, none⟩) since.length cap, Value.bool false, Value.int .i64 ((count : Nat) : Int), .func fn us vs]) :: (pt bs 9 (secs.map Value.string)) :: (mayR p (Value.func fn us vs) cut) :: F)
  refine Wc.seq (Wc.region (Wl.q (v := Value.string (⟨#[]⟩)) (q_assign rfl) (Wl.q (v := Value.int .i64 0) (q_assign rfl) (Wl.done (Wx.go (Wc.seq (Wc.seq (Wc.region (Wl.q (v := Value.pointer (some ⟨p, 0, none⟩)) (q_move rfl) (Wl.imp (L' := (pt p 82 [Value.slice (some ⟨bs, 0, none⟩) secs.length secs.length, Value.slice (some ⟨b, 0, none⟩) since.length cap, Value.bool false, Value.int .i64 ((count : Nat) : Int), .func fn us vs]) :: (slp 122 2 b cap (flat since)) :: (pt bs 9 (secs.map Value.string)) :: (mayR p (Value.func fn us vs) cut) :: F) (fun _ h => st_pull [1] h) (Wl.e (e_call (F := (slp 122 2 b cap (flat since)) :: (pt bs 9 (secs.map Value.string)) :: (mayR p (Value.func fn us vs) cut) :: F) (args := [Value.pointer (some ⟨p, 0, none⟩)]) Tryz.call56 rfl (state_up W0 p (Value.slice (some ⟨bs, 0, none⟩) secs.length secs.length) (Value.slice (some ⟨b, 0, none⟩) since.length cap) (Value.int .i64 ((count : Nat) : Int)) fn us vs)) (fun _ _ => ?_))))))))))))
  refine Wl.imp (L' := (pt p 82 [Value.slice (some ⟨bs, 0, none⟩) secs.length secs.length, Value.slice (some ⟨b, 0, none⟩) since.length cap, Value.bool false, Value.int .i64 ((count : Nat) : Int), .func fn us vs]) :: (slp 122 2 b cap (flat since)) :: (pt bs 9 (secs.map Value.string)) :: (mayR p (Value.func fn us vs) cut) :: F) (fun _ h => h) (Wl.q (v := Value.int .i64 0) (q_assign rfl) (Wl.done (Wx.go (Wc.seq (Wc.region (Wl.q (v := Value.int .i64 0) (q_move rfl) (Wl.q (v := Value.bool false) (q_neq (r := true) rfl rfl (decide_eq_true (by decide))) (Wl.done (Wx.go (Wc.no rfl (Wc.skip ?_)))))))))))
  refine Wx.go (Wc.seq (Wc.seq (Wc.region (Wl.q (v := Value.int .i64 at_) (q_move rfl) ?_))))
  by_cases hneg : at_ < 0
  ·
    refine Wl.q (v := Value.bool true) (q_lss (r := true) rfl rfl (decide_eq_true hneg)) (Wl.q (v := Value.bool true) (q_move rfl) (Wl.no (Wl.no (Wl.no (Wl.no (Wl.no (Wl.no (Wl.no (Wl.q (v := Value.bool true) (q_pick (t := true) rfl rfl) (Wl.done (Wx.go ?_)))))))))))
    refine Wc.yes rfl (Wc.seq (Wc.region (Wl.q (v := Value.string (⟨#[]⟩)) (q_assign rfl) (Wl.q (v := Value.int .i64 1) (q_assign rfl) (Wl.done (Wx.go (Wc.ret (Wx.thenRet (Wx.fin2 rfl (.inl rfl) (fun w hs => ?_))))))))))
    have e : DS.read ⟨secs, since, false, count, cut⟩ at_ = _ := read_bad rfl (by first | exact .inl hneg | exact .inr hge)
    rw [e]
    exact ⟨(), trivial, rfl, (st_pull [1, 0, 0, 0] (hs))⟩
  ·
    obtain ⟨c, rfl⟩ := Int.eq_ofNat_of_zero_le (Int.not_lt.1 hneg)
    refine Wl.q (v := Value.bool false) (q_lss (r := false) rfl rfl (decide_eq_false hneg)) (Wl.q (v := Value.bool false) (q_move rfl) (Wl.q (v := Value.int .i64 ((c : Nat) : Int)) (q_move rfl) (Wl.q (v := Value.pointer (some ⟨p, 0, none⟩)) (q_move rfl) (Wl.q (v := Value.pointer (some ⟨p, 0, none⟩)) (q_nil_ptr rfl) (Wl.q (v := Value.pointer (some ⟨p, 0, none⟩)) (q_field (m := 0) fo_82_0 rfl rfl) (Wl.q (v := Value.slice (some ⟨bs, 0, none⟩) secs.length secs.length) (q_load sc_50 rfl (.cel (i := 0) rfl rfl)) (Wl.q (v := Value.int .i64 ((secs.length : Nat) : Int)) (q_len_slice Tryz.underlying50 rfl) ?_)))))))
    by_cases hge : ((c : Nat) : Int) ≥ ((secs.length : Nat) : Int)
    ·
      refine Wl.q (v := Value.bool true) (q_geq (r := true) rfl rfl (decide_eq_true hge)) (Wl.q (v := Value.bool true) (q_pick (t := false) rfl rfl) (Wl.done (Wx.go (Wc.yes rfl (Wc.seq (Wc.region (Wl.q (v := Value.string (⟨#[]⟩)) (q_assign rfl) (Wl.q (v := Value.int .i64 1) (q_assign rfl) (Wl.done (Wx.go (Wc.ret ?_)))))))))))
      refine Wx.thenRet (Wx.fin2 rfl (.inl rfl) (fun w hs => ?_))
      have e : DS.read ⟨secs, since, false, count, cut⟩ ((c : Nat) : Int) = _ := read_bad rfl (by first | exact .inl hneg | exact .inr hge)
      rw [e]
      exact ⟨(), trivial, rfl, (st_pull [1, 0, 0, 0] (hs))⟩
    ·
      refine Wl.q (v := Value.bool false) (q_geq (r := false) rfl rfl (decide_eq_false hge)) (Wl.q (v := Value.bool false) (q_pick (t := false) rfl rfl) (Wl.done (Wx.go (Wc.no rfl (Wc.skip (Wx.go (Wc.seq (Wc.region (Wl.q (v := Value.pointer (some ⟨p, 0, none⟩)) (q_move rfl) (Wl.q (v := Value.pointer (some ⟨p, 0, none⟩)) (q_nil_ptr rfl) (Wl.q (v := Value.pointer (some ⟨p, 0, none⟩)) (q_field (m := 0) fo_82_0 rfl rfl) ?_)))))))))))
      refine Wl.q (v := Value.slice (some ⟨bs, 0, none⟩) secs.length secs.length) (q_load sc_50 rfl (.cel (i := 0) rfl rfl)) (Wl.q (v := Value.int .i64 ((c : Nat) : Int)) (q_move rfl) (Wl.q (v := Value.pointer (some ⟨bs, c, none⟩)) (q_idx (m := c) se_50 rfl rfl (by omega) (by omega) (by simp)) (Wl.q (v := Value.string (secs.getD c default)) (q_load sc_9 rfl (.cel (i := 2) rfl (map_get (by omega)))) (Wl.q (v := Value.string (secs.getD c default)) (q_assign rfl) (Wl.done (Wx.go (Wc.seq (Wc.seq (Wc.region (Wl.q (v := Value.pointer (some ⟨p, 0, none⟩)) (q_move rfl) (Wl.q (v := Value.pointer (some ⟨p, 0, none⟩)) (q_nil_ptr rfl) ?_)))))))))))
      refine Wl.q (v := Value.pointer (some ⟨p, 1, none⟩)) (q_field (m := 1) fo_82_1 rfl rfl) (Wl.q (v := Value.slice (some ⟨b, 0, none⟩) since.length cap) (q_load sc_80 rfl (.cel (i := 0) rfl rfl)) (Wl.q (v := Value.int .i64 ((since.length : Nat) : Int)) (q_len_slice Tryz.underlying80 rfl) (Wl.q (v := Value.int .i64 0) (q_move rfl) (Wl.done (Wx.go (Wc.block ?_))))))
      refine Wc.loop (X := Nat × ByteArray) (fun (k, y) E => E 38 = Value.int .i64 ((k : Nat) : Int) ∧ E 7 = Value.string y ∧ E 1 = Value.int .i64 ((c : Nat) : Int) ∧ E 36 = Value.slice (some ⟨b, 0, none⟩) since.length cap ∧ E 37 = Value.int .i64 ((since.length : Nat) : Int) ∧ readL y c (since.drop k) = readL (secs.getD c default) c since ∧ k ≤ since.length) (fun (k, y) => (slp 122 2 b cap (flat since)) :: (pt p 82 [Value.slice (some ⟨bs, 0, none⟩) secs.length secs.length, Value.slice (some ⟨b, 0, none⟩) since.length cap, Value.bool false, Value.int .i64 ((count : Nat) : Int), .func fn us vs]) :: (pt bs 9 (secs.map Value.string)) :: (mayR p (Value.func fn us vs) cut) :: F) (fun (k, y) => since.length - k) (0, secs.getD c default) ?_ ?_ ?_
      · exact ⟨rfl, rfl, rfl, rfl, rfl, rfl, (by omega)⟩
      · exact fun w hs => (st_pull [1, 0, 0, 0] (hs))
      · rintro ⟨k, y⟩ E2 ⟨hE38_0, hE7_0, hE1_0, hE36_0, hE37_0, hp0, hp1⟩
        dsimp only at *
        refine Wc.seq (Wc.region ?_)
        by_cases hlt : ((k : Nat) : Int) < ((since.length : Nat) : Int)
        ·
          obtain ⟨⟨a, s⟩, hget⟩ : ∃ q, since[k]? = some q := ⟨since[k]'(by omega), by simp [List.getElem?_eq_getElem (show k < since.length by omega)]⟩
          refine Wl.q (v := Value.bool true) (q_lss (r := true) hE38_0 hE37_0 (decide_eq_true hlt)) (Wl.done (Wx.go (Wc.seq (Wc.yes rfl (Wc.skip (Wx.go (Wc.seq (Wc.block (Wc.seq (Wc.region (Wl.q (v := Value.pointer (some ⟨b, k * 2, none⟩)) (q_idx (m := k * 2) se_80 hE36_0 hE38_0 (by omega) (by omega) (by simp)) ?_)))))))))))
          refine Wl.q (v := Value.agg #[Value.int .i64 ((a : Nat) : Int), Value.string s]) (q_loadAgg (vs := [Value.int .i64 ((a : Nat) : Int), Value.string s]) ag_122 rfl (flat_has (i := 0) rfl hget)) (Wl.e (e_alloc (vs := [Value.int .i64 0, Value.string (⟨#[]⟩)]) zo_122 rfl) (fun b3 _ => Wl.imp (L' := (pt b3 122 ([Value.int .i64 0, Value.string (⟨#[]⟩)])) :: (slp 122 2 b cap (flat since)) :: (pt p 82 [Value.slice (some ⟨bs, 0, none⟩) secs.length secs.length, Value.slice (some ⟨b, 0, none⟩) since.length cap, Value.bool false, Value.int .i64 ((count : Nat) : Int), .func fn us vs]) :: (pt bs 9 (secs.map Value.string)) :: (mayR p (Value.func fn us vs) cut) :: F) (fun _ h => h) (Wl.e (e_storeAgg (i := 0) (vs := [Value.int .i64 ((a : Nat) : Int), Value.string s]) (c' := [Value.int .i64 ((a : Nat) : Int), Value.string s]) sz_122 rfl rfl rfl rfl (by simp) rfl) (fun _ _ => Wl.imp (L' := (pt b3 122 [Value.int .i64 ((a : Nat) : Int), Value.string s]) :: (slp 122 2 b cap (flat since)) :: (pt p 82 [Value.slice (some ⟨bs, 0, none⟩) secs.length secs.length, Value.slice (some ⟨b, 0, none⟩) since.length cap, Value.bool false, Value.int .i64 ((count : Nat) : Int), .func fn us vs]) :: (pt bs 9 (secs.map Value.string)) :: (mayR p (Value.func fn us vs) cut) :: F) (fun _ h => h) (Wl.done (Wx.go (Wc.seq (Wc.region (Wl.q (v := Value.pointer (some ⟨b3, 0, none⟩)) (q_field (m := 0) fo_122_0 rfl rfl) (Wl.q (v := Value.int .i64 ((a : Nat) : Int)) (q_load sc_3 rfl (.cel (i := 0) rfl rfl)) (Wl.q (v := Value.int .i64 ((c : Nat) : Int)) (q_move hE1_0) ?_)))))))))))
          by_cases h4 : ((a : Nat) : Int) = ((c : Nat) : Int)
          ·
            refine Wl.q (v := Value.bool true) (q_eql (r := true) rfl rfl (decide_eq_true h4)) (Wl.done (Wx.go (Wc.yes rfl (Wc.region (Wl.q (v := Value.pointer (some ⟨b3, 1, none⟩)) (q_field (m := 1) fo_122_1 rfl rfl) (Wl.q (v := Value.string s) (q_load sc_9 rfl (.cel (i := 0) rfl rfl)) (Wl.q (v := Value.string s) (q_assign rfl) (Wl.done (Wx.blockEnd (Wx.go (Wc.region ?_)))))))))))
            refine Wl.q (v := Value.int .i64 ((k + 1 : Nat) : Int)) (q_add (c := ((k + 1 : Nat) : Int)) hE38_0 rfl (by rw [wrap_i64] <;> omega)) (Wl.q (v := Value.int .i64 ((k + 1 : Nat) : Int)) (q_move rfl) (Wl.done ?_))
            refine Wx.at (k + 1, s) ⟨(by simp only; omega), rfl, rfl, hE1_0, hE36_0, hE37_0, (by rw [← hp0, read_step hget, if_pos (by omega)]), (by omega)⟩ (fun w hs => (st_drop (st_pull [0] hs)))
          ·
            refine Wl.q (v := Value.bool false) (q_eql (r := false) rfl rfl (decide_eq_false h4)) (Wl.done (Wx.go (Wc.no rfl (Wc.skip (Wx.blockEnd (Wx.go (Wc.region (Wl.q (v := Value.int .i64 ((k + 1 : Nat) : Int)) (q_add (c := ((k + 1 : Nat) : Int)) hE38_0 rfl (by rw [wrap_i64] <;> omega)) (Wl.q (v := Value.int .i64 ((k + 1 : Nat) : Int)) (q_move rfl) (Wl.done ?_))))))))))
            refine Wx.at (k + 1, y) ⟨(by simp only; omega), rfl, hE7_0, hE1_0, hE36_0, hE37_0, (by rw [← hp0, read_step hget, if_neg (by omega)]), (by omega)⟩ (fun w hs => (st_drop (st_pull [0] hs)))
        ·
          refine Wl.q (v := Value.bool false) (q_lss (r := false) hE38_0 hE37_0 (decide_eq_false hlt)) (Wl.done (Wx.go (Wc.seq (Wc.no rfl (Wc.exit (Wx.thenExit (Wx.thenExit (Wx.out (Wx.go (Wc.seq (Wc.region ?_)))))))))))
          refine Wl.q (v := Value.string y) (q_move hE7_0) (Wl.q (v := Value.string y) (q_assign rfl) (Wl.q (v := Value.int .i64 0) (q_assign rfl) (Wl.done (Wx.go (Wc.ret (Wx.fin2 rfl (.inl rfl) (fun w hs => ?_)))))))
          have hend : k = since.length := by omega
          rw [hend, List.drop_length] at hp0
          simp only [readL] at hp0
          have e : DS.read ⟨secs, since, false, count, cut⟩ ((c : Nat) : Int) = _ := read_ok rfl hge
          rw [e, ← hp0]
          exact ⟨(), trivial, rfl, hs⟩

theorem read_nil (W0 : World) (p bs : Nat) (secs : List ByteArray) (since : List (Nat × ByteArray)) (count : Nat) (cut : Option (Nat × Int)) (fn : Fn) (us vs : Array Value) (at_ : Int) (hsince : since.length < 1099511627776) (hnil : since = []) :
    Con Tryz.prog W0 74 #[Value.pointer (some ⟨p, 0, none⟩), Value.int .i64 at_] [pt p 82 [Value.slice (some ⟨bs, 0, none⟩) secs.length secs.length, Value.slice none 0 0, Value.bool false, Value.int .i64 ((count : Nat) : Int), .func fn us vs], pt bs 9 (secs.map Value.string), mayR p (Value.func fn us vs) cut] (X := Unit) (fun _ => True) (fun _ => Value.tuple #[Value.string (DS.read ⟨secs, since, false, count, cut⟩ at_).1, Value.int .i64 (DS.read ⟨secs, since, false, count, cut⟩ at_).2]) (fun _ => [pt p 82 [Value.slice (some ⟨bs, 0, none⟩) secs.length secs.length, Value.slice none 0 0, Value.bool false, Value.int .i64 ((count : Nat) : Int), .func fn us vs], pt bs 9 (secs.map Value.string), mayR p (Value.func fn us vs) cut]) := by
  refine Con.of (args := [Value.pointer (some ⟨p, 0, none⟩), Value.int .i64 at_]) Tryz.func74 rfl Tryz.ntmps74 rfl (fun F => ?_)
  show Wc _ W0 _ _ _ _ _ ((pt p 82 [Value.slice (some ⟨bs, 0, none⟩) secs.length secs.length, Value.slice none 0 0, Value.bool false, Value.int .i64 ((count : Nat) : Int), .func fn us vs]) :: (pt bs 9 (secs.map Value.string)) :: (mayR p (Value.func fn us vs) cut) :: F)
  refine Wc.seq (Wc.region (Wl.q (v := Value.string (⟨#[]⟩)) (q_assign rfl) (Wl.q (v := Value.int .i64 0) (q_assign rfl) (Wl.done (Wx.go (Wc.seq (Wc.seq (Wc.region (Wl.q (v := Value.pointer (some ⟨p, 0, none⟩)) (q_move rfl) (Wl.e (e_call (F := (pt bs 9 (secs.map Value.string)) :: (mayR p (Value.func fn us vs) cut) :: F) (args := [Value.pointer (some ⟨p, 0, none⟩)]) Tryz.call56 rfl (state_up W0 p (Value.slice (some ⟨bs, 0, none⟩) secs.length secs.length) (Value.slice none 0 0) (Value.int .i64 ((count : Nat) : Int)) fn us vs)) (fun _ _ => Wl.imp (L' := (pt p 82 [Value.slice (some ⟨bs, 0, none⟩) secs.length secs.length, Value.slice none 0 0, Value.bool false, Value.int .i64 ((count : Nat) : Int), .func fn us vs]) :: (pt bs 9 (secs.map Value.string)) :: (mayR p (Value.func fn us vs) cut) :: F) (fun _ h => h) ?_)))))))))))
  refine Wl.q (v := Value.int .i64 0) (q_assign rfl) (Wl.done (Wx.go (Wc.seq (Wc.region (Wl.q (v := Value.int .i64 0) (q_move rfl) (Wl.q (v := Value.bool false) (q_neq (r := true) rfl rfl (decide_eq_true (by decide))) (Wl.done (Wx.go (Wc.no rfl (Wc.skip (Wx.go ?_)))))))))))
  refine Wc.seq (Wc.seq (Wc.region (Wl.q (v := Value.int .i64 at_) (q_move rfl) ?_)))
  by_cases hneg : at_ < 0
  ·
    refine Wl.q (v := Value.bool true) (q_lss (r := true) rfl rfl (decide_eq_true hneg)) (Wl.q (v := Value.bool true) (q_move rfl) (Wl.no (Wl.no (Wl.no (Wl.no (Wl.no (Wl.no (Wl.no (Wl.q (v := Value.bool true) (q_pick (t := true) rfl rfl) (Wl.done (Wx.go ?_)))))))))))
    refine Wc.yes rfl (Wc.seq (Wc.region (Wl.q (v := Value.string (⟨#[]⟩)) (q_assign rfl) (Wl.q (v := Value.int .i64 1) (q_assign rfl) (Wl.done (Wx.go (Wc.ret (Wx.thenRet (Wx.fin2 rfl (.inl rfl) (fun w hs => ?_))))))))))
    have e : DS.read ⟨secs, since, false, count, cut⟩ at_ = _ := read_bad rfl (by first | exact .inl hneg | exact .inr hge)
    rw [e]
    exact ⟨(), trivial, rfl, hs⟩
  ·
    obtain ⟨c, rfl⟩ := Int.eq_ofNat_of_zero_le (Int.not_lt.1 hneg)
    refine Wl.q (v := Value.bool false) (q_lss (r := false) rfl rfl (decide_eq_false hneg)) (Wl.q (v := Value.bool false) (q_move rfl) (Wl.q (v := Value.int .i64 ((c : Nat) : Int)) (q_move rfl) (Wl.q (v := Value.pointer (some ⟨p, 0, none⟩)) (q_move rfl) (Wl.q (v := Value.pointer (some ⟨p, 0, none⟩)) (q_nil_ptr rfl) (Wl.q (v := Value.pointer (some ⟨p, 0, none⟩)) (q_field (m := 0) fo_82_0 rfl rfl) (Wl.q (v := Value.slice (some ⟨bs, 0, none⟩) secs.length secs.length) (q_load sc_50 rfl (.cel (i := 0) rfl rfl)) (Wl.q (v := Value.int .i64 ((secs.length : Nat) : Int)) (q_len_slice Tryz.underlying50 rfl) ?_)))))))
    by_cases hge : ((c : Nat) : Int) ≥ ((secs.length : Nat) : Int)
    ·
      refine Wl.q (v := Value.bool true) (q_geq (r := true) rfl rfl (decide_eq_true hge)) (Wl.q (v := Value.bool true) (q_pick (t := false) rfl rfl) (Wl.done (Wx.go (Wc.yes rfl (Wc.seq (Wc.region (Wl.q (v := Value.string (⟨#[]⟩)) (q_assign rfl) (Wl.q (v := Value.int .i64 1) (q_assign rfl) (Wl.done (Wx.go (Wc.ret ?_)))))))))))
      refine Wx.thenRet (Wx.fin2 rfl (.inl rfl) (fun w hs => ?_))
      have e : DS.read ⟨secs, since, false, count, cut⟩ ((c : Nat) : Int) = _ := read_bad rfl (by first | exact .inl hneg | exact .inr hge)
      rw [e]
      exact ⟨(), trivial, rfl, hs⟩
    ·
      refine Wl.q (v := Value.bool false) (q_geq (r := false) rfl rfl (decide_eq_false hge)) (Wl.q (v := Value.bool false) (q_pick (t := false) rfl rfl) (Wl.done (Wx.go (Wc.no rfl (Wc.skip (Wx.go (Wc.seq (Wc.region (Wl.q (v := Value.pointer (some ⟨p, 0, none⟩)) (q_move rfl) (Wl.q (v := Value.pointer (some ⟨p, 0, none⟩)) (q_nil_ptr rfl) (Wl.q (v := Value.pointer (some ⟨p, 0, none⟩)) (q_field (m := 0) fo_82_0 rfl rfl) ?_)))))))))))
      refine Wl.q (v := Value.slice (some ⟨bs, 0, none⟩) secs.length secs.length) (q_load sc_50 rfl (.cel (i := 0) rfl rfl)) (Wl.q (v := Value.int .i64 ((c : Nat) : Int)) (q_move rfl) (Wl.q (v := Value.pointer (some ⟨bs, c, none⟩)) (q_idx (m := c) se_50 rfl rfl (by omega) (by omega) (by simp)) (Wl.q (v := Value.string (secs.getD c default)) (q_load sc_9 rfl (.cel (i := 1) rfl (map_get (by omega)))) (Wl.q (v := Value.string (secs.getD c default)) (q_assign rfl) (Wl.done (Wx.go (Wc.seq (Wc.seq (Wc.region (Wl.q (v := Value.pointer (some ⟨p, 0, none⟩)) (q_move rfl) (Wl.q (v := Value.pointer (some ⟨p, 0, none⟩)) (q_nil_ptr rfl) ?_)))))))))))
      refine Wl.q (v := Value.pointer (some ⟨p, 1, none⟩)) (q_field (m := 1) fo_82_1 rfl rfl) (Wl.q (v := Value.slice none 0 0) (q_load sc_80 rfl (.cel (i := 0) rfl rfl)) (Wl.q (v := Value.int .i64 0) (q_len_slice Tryz.underlying80 rfl) (Wl.q (v := Value.int .i64 0) (q_move rfl) (Wl.done (Wx.go (Wc.block ?_))))))
      refine Wc.loop (X := Nat × ByteArray) (fun (k, y) E => E 38 = Value.int .i64 ((k : Nat) : Int) ∧ E 7 = Value.string y ∧ E 1 = Value.int .i64 ((c : Nat) : Int) ∧ E 36 = Value.slice none 0 0 ∧ E 37 = Value.int .i64 0 ∧ readL y c (since.drop k) = readL (secs.getD c default) c since ∧ k ≤ since.length) (fun (k, y) => (pt p 82 [Value.slice (some ⟨bs, 0, none⟩) secs.length secs.length, Value.slice none 0 0, Value.bool false, Value.int .i64 ((count : Nat) : Int), .func fn us vs]) :: (pt bs 9 (secs.map Value.string)) :: (mayR p (Value.func fn us vs) cut) :: F) (fun (k, y) => since.length - k) (0, secs.getD c default) ?_ ?_ ?_
      · exact ⟨rfl, rfl, rfl, rfl, rfl, rfl, (by omega)⟩
      · exact fun w hs => hs
      · rintro ⟨k, y⟩ E2 ⟨hE38_0, hE7_0, hE1_0, hE36_0, hE37_0, hp0, hp1⟩
        dsimp only at *
        have hsl : since.length = 0 := by rw [hnil]; rfl
        refine Wc.seq (Wc.region ?_)
        by_cases hlt : ((k : Nat) : Int) < 0
        ·
          exfalso; omega
        ·
          refine Wl.q (v := Value.bool false) (q_lss (r := false) hE38_0 hE37_0 (decide_eq_false hlt)) (Wl.done (Wx.go (Wc.seq (Wc.no rfl (Wc.exit (Wx.thenExit (Wx.thenExit (Wx.out (Wx.go (Wc.seq (Wc.region ?_)))))))))))
          refine Wl.q (v := Value.string y) (q_move hE7_0) (Wl.q (v := Value.string y) (q_assign rfl) (Wl.q (v := Value.int .i64 0) (q_assign rfl) (Wl.done (Wx.go (Wc.ret (Wx.fin2 rfl (.inl rfl) (fun w hs => ?_)))))))
          have hsl : since.length = 0 := by rw [hnil]; rfl
          have hend : k = since.length := by omega
          rw [hend, List.drop_length] at hp0
          simp only [readL] at hp0
          have e : DS.read ⟨secs, since, false, count, cut⟩ ((c : Nat) : Int) = _ := read_ok rfl hge
          rw [e, ← hp0]
          exact ⟨(), trivial, rfl, hs⟩

theorem read_any (W0 : World) (p bs : Nat) (secs : List ByteArray) (since : List (Nat × ByteArray)) (count : Nat) (cut : Option (Nat × Int)) (fn : Fn) (us vs : Array Value) (at_ : Int) (hsince : since.length < 1099511627776) (sv : Value) :
  Con Tryz.prog W0 74 #[Value.pointer (some ⟨p, 0, none⟩), Value.int .i64 at_] [sl 122 2 sv since.length (flat since), pt p 82 [Value.slice (some ⟨bs, 0, none⟩) secs.length secs.length, sv, Value.bool false, Value.int .i64 ((count : Nat) : Int), .func fn us vs], pt bs 9 (secs.map Value.string), mayR p (Value.func fn us vs) cut] (X := Unit) (fun _ => True) (fun _ => Value.tuple #[Value.string (DS.read ⟨secs, since, false, count, cut⟩ at_).1, Value.int .i64 (DS.read ⟨secs, since, false, count, cut⟩ at_).2]) (fun _ => [sl 122 2 sv since.length (flat since), pt p 82 [Value.slice (some ⟨bs, 0, none⟩) secs.length secs.length, sv, Value.bool false, Value.int .i64 ((count : Nat) : Int), .func fn us vs], pt bs 9 (secs.map Value.string), mayR p (Value.func fn us vs) cut]) := by
 refine Con.sl (fun e1 e2 e3 => ?_) (fun b cap e1 e2 e3 => ?_)
 · subst e1; have e4 := List.eq_nil_of_length_eq_zero e2; exact Con.post (read_nil W0 p bs secs since count cut fn us vs at_ hsince e4) (fun _ w F h => by rw [e2, e3]; exact st_sl_nil h)
 · subst e1; exact Con.post (read_blk W0 p bs secs since count cut fn us vs at_ hsince b cap e2) (fun _ w F h => st_sl_mk e3 e2 h)

theorem read_up (W0 : World) (p : Nat) (secs : List ByteArray) (since : List (Nat × ByteArray)) (count : Nat) (cut : Option (Nat × Int)) (at_ : Int) (hsince : since.length < 1099511627776) :
  Con Tryz.prog W0 74 #[Value.pointer (some ⟨p, 0, none⟩), Value.int .i64 at_] [isDisk p (⟨secs, since, false, count, cut⟩ : DS)] (X := Unit) (fun _ => True) (fun _ => Value.tuple #[Value.string (DS.read ⟨secs, since, false, count, cut⟩ at_).1, Value.int .i64 (DS.read ⟨secs, since, false, count, cut⟩ at_).2]) (fun _ => [isDisk p (⟨secs, since, false, count, cut⟩ : DS)]) :=
 Con.disk fun bs sv fn us vs => Con.pull [2] (fun _ => rfl) (Con.post (read_any W0 p bs secs since count cut fn us vs at_ hsince sv) (fun _ w F h => isDisk_mk rfl (st_pull [1, 1] h)))

theorem read_c (W0 : World) (p : Nat) (d : DS) (at_ : Int) (hsince : d.since.length < 1099511627776) :
  Con Tryz.prog W0 74 #[Value.pointer (some ⟨p, 0, none⟩), Value.int .i64 at_] [isDisk p d] (X := Unit) (fun _ => True) (fun _ => Value.tuple #[Value.string (d.read at_).1, Value.int .i64 (d.read at_).2]) (fun _ => [isDisk p d]) := by
 obtain ⟨secs, since, down, count, cut⟩ := d
 cases down
 · exact read_up W0 p secs since count cut at_ hsince
 · exact read_down W0 p secs since count cut at_

theorem write_c (W0 : World) (p : Nat) (d : DS) (at_ : Int) (s : ByteArray) (hw : WF d) (hsince : d.since.length < 1099511627776) (hcount : d.count < 4611686018427387904) :
    Con Tryz.prog W0 100 #[Value.pointer (some ⟨p, 0, none⟩), Value.int .i64 at_, Value.string s] [isDisk p d] (X := Unit) (fun _ => True) (fun _ => Value.int .i64 (d.write at_ s).1) (fun _ => [isDisk p (d.write at_ s).2]) := by
  obtain ⟨secs, since, down, count, cut⟩ := d
  cases down
  · cases cut with
    | none => exact write_alw W0 p secs since count at_ s hw.l hsince hcount
    | some q =>
      obtain ⟨n, bits⟩ := q
      have hleft := hw.left n bits rfl
      cases n with
      | zero => exact write_cut0 W0 p secs since count bits at_ s hw.l hsince hcount
      | succ n => exact write_cutS W0 p secs since count n bits at_ s hw.l hsince hcount (by omega)
  · exact write_down W0 p secs since count cut at_ s

theorem sync_c (W0 : World) (p : Nat) (d : DS) (hw : WF d) (hsince : d.since.length < 1099511627776) (hcount : d.count < 4611686018427387904) :
    Con Tryz.prog W0 101 #[Value.pointer (some ⟨p, 0, none⟩)] [isDisk p d] (X := Unit) (fun _ => True) (fun _ => Value.int .i64 d.sync.1) (fun _ => [isDisk p d.sync.2]) := by
  obtain ⟨secs, since, down, count, cut⟩ := d
  cases down
  · cases cut with
    | none => exact sync_alw W0 p secs since count hw.l hsince hcount
    | some q =>
      obtain ⟨n, bits⟩ := q
      have hleft := hw.left n bits rfl
      cases n with
      | zero => exact sync_cut0 W0 p secs since count bits hw.l hsince hcount
      | succ n => exact sync_cutS W0 p secs since count n bits hw.l hsince hcount (by omega)
  · exact sync_down W0 p secs since count cut

end Go.Proofs.YtkndmgfahghcjaaGreat

