/- The disk in memory, and contracts of its calls. -/
import Derived.Test.YtbnglfbfgannhaaDkG
import Derived.Test.YtbnglfbfgannhaaDkL
namespace Go.Proofs.Ytbnglfbfgannhaa
open Go Go.SL Go.Dk Go.RowKit
set_option linter.unusedVariables false
theorem zo_3 : zeroOf Try.prog 3 = some (Value.int .i64 0) := by kernel_rfl
theorem se_42 : sliceElem Try.prog 42 = some (45, 5) := by kernel_rfl
theorem fo_45_0 : fieldOff Try.prog 45 0 = some 0 := by kernel_rfl
theorem fo_45_1 : fieldOff Try.prog 45 1 = some 1 := by kernel_rfl
theorem fo_45_2 : fieldOff Try.prog 45 2 = some 2 := by kernel_rfl
theorem sc_5 : scalar Try.prog 5 = true := by kernel_rfl
theorem cut_beyond (W0 : World) (n : Int) (vl : Value) (l : List OpR) (hl : Rd W0 vl l.length (l.flatMap opCells)) (hlb : ∀ o ∈ l, o.b < 256) (hb0 : beyondB [(l.length : Int)] = true) (hlen : l.length ≤ 9223372036854775807) :
    Con Try.prog W0 7 #[Value.int .i64 n, vl] [] (X := Unit) (fun _ => True) (fun _ => .bool true) (fun _ => []) := by
  refine Con.of (args := [Value.int .i64 n, vl]) Try.func7 rfl Try.ntmps7 rfl (fun F => ?_)
  show Wc _ W0 _ _ _ _ _ (F)
  refine Wc.seq ?_
  refine Wc.region ?_
  refine Wl.q (v := Value.bool false) (q_assign rfl) ?_
  refine Wl.done ?_
  refine Wx.go ?_
  refine Wc.seq ?_
  refine Wc.region ?_
  refine Wl.e (e_call (F := F) (args := [Value.int .i64 4]) Try.call10 rfl (new_ok W0 4 (by omega) (by omega))) (fun pp _ => ?_)
  refine Wl.imp (L' := (isDisk pp (DS.new 4)) :: F) (fun _ h => h) ?_
  refine Wl.q (v := Value.tuple #[Value.pointer (some ⟨pp, 0, none⟩), Value.int .i64 0]) (q_move rfl) ?_
  refine Wl.q (v := Value.pointer (some ⟨pp, 0, none⟩)) (q_extract (i := 0) rfl rfl) ?_
  refine Wl.q (v := Value.int .i64 0) (q_extract (i := 1) rfl rfl) ?_
  refine Wl.q (v := Value.pointer (some ⟨pp, 0, none⟩)) (q_assign rfl) ?_
  refine Wl.q (v := Value.int .i64 0) (q_assign rfl) ?_
  refine Wl.done ?_
  refine Wx.go ?_
  refine Wc.seq ?_
  refine Wc.seq ?_
  refine Wc.region ?_
  refine Wl.q (v := Value.int .i64 0) (q_move rfl) ?_
  refine Wl.q (v := Value.bool false) (q_neq (r := true) rfl rfl (decide_eq_true (by decide))) ?_
  refine Wl.q (v := Value.bool false) (q_move rfl) ?_
  refine Wl.q (v := Value.pointer (some ⟨pp, 0, none⟩)) (q_move rfl) ?_
  refine Wl.q (v := Value.bool false) (q_eql_nil (r := false) rfl rfl Try.underlying23 rfl) ?_
  refine Wl.q (v := Value.bool false) (q_pick (t := false) rfl rfl) ?_
  refine Wl.q (v := Value.bool false) (q_move rfl) ?_
  refine Wl.q (v := vl) (q_move rfl) ?_
  refine Wl.q (v := Value.int .i64 ((l.length : Nat) : Int)) (q_len_is Try.underlying42 rfl hl.shape) ?_
  refine Wl.e (e_buildSlice (cs := [Value.int .i64 ((l.length : Nat) : Int)]) se_58 zo_3 (by decide) (by decide) (by kernel_rfl)) (fun b1 _ => ?_)
  refine Wl.imp (L' := (pt b1 3 [Value.int .i64 ((l.length : Nat) : Int)]) :: (isDisk pp (DS.new 4)) :: F) (fun _ h => h) ?_
  refine Wl.e (e_call (F := (isDisk pp (DS.new 4)) :: F) (args := [Value.slice (some ⟨b1, 0, none⟩) 1 1]) Try.call11 rfl (Con.eqs (val' := fun _ => Value.bool true) (post' := fun _ => [pt b1 3 [Value.int .i64 ((l.length : Nat) : Int)]]) (beyond_c W0 b1 ([((l.length : Nat) : Int)] : List Int) (by simp) (by simp; omega)) (fun _ => congrArg Value.bool hb0) (fun _ => rfl))) (fun _ _ => ?_)
  refine Wl.imp (L' := (pt b1 3 [Value.int .i64 ((l.length : Nat) : Int)]) :: (isDisk pp (DS.new 4)) :: F) (fun _ h => h) ?_
  refine Wl.q (v := Value.bool true) (q_pick (t := false) rfl rfl) ?_
  refine Wl.done ?_
  refine Wx.go ?_
  refine Wc.yes rfl ?_
  refine Wc.seq ?_
  refine Wc.region ?_
  refine Wl.q (v := Value.int .i64 0) (q_move rfl) ?_
  refine Wl.q (v := Value.bool true) (q_eql (r := true) rfl rfl (decide_eq_true (by decide))) ?_
  refine Wl.q (v := Value.bool true) (q_move rfl) ?_
  refine Wl.q (v := Value.pointer (some ⟨pp, 0, none⟩)) (q_move rfl) ?_
  refine Wl.q (v := Value.bool true) (q_neq_nil (r := false) rfl rfl Try.underlying23 rfl) ?_
  refine Wl.q (v := Value.bool true) (q_pick (t := true) rfl rfl) ?_
  refine Wl.q (v := Value.bool true) (q_assign rfl) ?_
  refine Wl.done ?_
  refine Wx.go ?_
  refine Wc.ret ?_
  refine Wx.thenRet ?_
  refine Wx.fin1 rfl (.inl rfl) (fun w hs => ?_)
  exact ⟨(), trivial, rfl, (st_drop (st_drop (st_pull [0, 0] hs)))⟩

theorem cut_neg (W0 : World) (n : Int) (hn : n < 0) (vl : Value) (l : List OpR) (hl : Rd W0 vl l.length (l.flatMap opCells)) (hlb : ∀ o ∈ l, o.b < 256) (hb0 : beyondB [(l.length : Int)] = false) :
    Con Try.prog W0 7 #[Value.int .i64 n, vl] [] (X := Unit) (fun _ => True) (fun _ => .bool true) (fun _ => []) := by
  refine Con.of (args := [Value.int .i64 n, vl]) Try.func7 rfl Try.ntmps7 rfl (fun F => ?_)
  have hlen := beyond_one hb0
  show Wc _ W0 _ _ _ _ _ (F)
  refine Wc.seq ?_
  refine Wc.region ?_
  refine Wl.q (v := Value.bool false) (q_assign rfl) ?_
  refine Wl.done ?_
  refine Wx.go ?_
  refine Wc.seq ?_
  refine Wc.region ?_
  refine Wl.e (e_call (F := F) (args := [Value.int .i64 4]) Try.call10 rfl (new_ok W0 4 (by omega) (by omega))) (fun pp _ => ?_)
  refine Wl.imp (L' := (isDisk pp (DS.new 4)) :: F) (fun _ h => h) ?_
  refine Wl.q (v := Value.tuple #[Value.pointer (some ⟨pp, 0, none⟩), Value.int .i64 0]) (q_move rfl) ?_
  refine Wl.q (v := Value.pointer (some ⟨pp, 0, none⟩)) (q_extract (i := 0) rfl rfl) ?_
  refine Wl.q (v := Value.int .i64 0) (q_extract (i := 1) rfl rfl) ?_
  refine Wl.q (v := Value.pointer (some ⟨pp, 0, none⟩)) (q_assign rfl) ?_
  refine Wl.q (v := Value.int .i64 0) (q_assign rfl) ?_
  refine Wl.done ?_
  refine Wx.go ?_
  refine Wc.seq ?_
  refine Wc.seq ?_
  refine Wc.region ?_
  refine Wl.q (v := Value.int .i64 0) (q_move rfl) ?_
  refine Wl.q (v := Value.bool false) (q_neq (r := true) rfl rfl (decide_eq_true (by decide))) ?_
  refine Wl.q (v := Value.bool false) (q_move rfl) ?_
  refine Wl.q (v := Value.pointer (some ⟨pp, 0, none⟩)) (q_move rfl) ?_
  refine Wl.q (v := Value.bool false) (q_eql_nil (r := false) rfl rfl Try.underlying23 rfl) ?_
  refine Wl.q (v := Value.bool false) (q_pick (t := false) rfl rfl) ?_
  refine Wl.q (v := Value.bool false) (q_move rfl) ?_
  refine Wl.q (v := vl) (q_move rfl) ?_
  refine Wl.q (v := Value.int .i64 ((l.length : Nat) : Int)) (q_len_is Try.underlying42 rfl hl.shape) ?_
  refine Wl.e (e_buildSlice (cs := [Value.int .i64 ((l.length : Nat) : Int)]) se_58 zo_3 (by decide) (by decide) (by kernel_rfl)) (fun b1 _ => ?_)
  refine Wl.imp (L' := (pt b1 3 [Value.int .i64 ((l.length : Nat) : Int)]) :: (isDisk pp (DS.new 4)) :: F) (fun _ h => h) ?_
  refine Wl.e (e_call (F := (isDisk pp (DS.new 4)) :: F) (args := [Value.slice (some ⟨b1, 0, none⟩) 1 1]) Try.call11 rfl (Con.eqs (val' := fun _ => Value.bool false) (post' := fun _ => [pt b1 3 [Value.int .i64 ((l.length : Nat) : Int)]]) (beyond_c W0 b1 ([((l.length : Nat) : Int)] : List Int) (by simp) (by simp; omega)) (fun _ => congrArg Value.bool hb0) (fun _ => rfl))) (fun _ _ => ?_)
  refine Wl.imp (L' := (pt b1 3 [Value.int .i64 ((l.length : Nat) : Int)]) :: (isDisk pp (DS.new 4)) :: F) (fun _ h => h) ?_
  refine Wl.q (v := Value.bool false) (q_pick (t := false) rfl rfl) ?_
  refine Wl.done ?_
  refine Wx.go ?_
  refine Wc.no rfl ?_
  refine Wc.skip ?_
  refine Wx.go ?_
  refine Wc.seq ?_
  refine Wc.region ?_
  refine Wl.q (v := Value.pointer (some ⟨pp, 0, none⟩)) (q_move rfl) ?_
  refine Wl.q (v := Value.int .i64 n) (q_move rfl) ?_
  refine Wl.imp (L' := (isDisk pp (DS.new 4)) :: (pt b1 3 [Value.int .i64 ((l.length : Nat) : Int)]) :: F) (fun _ h => st_pull [1] h) ?_
  refine Wl.e (e_call (F := (pt b1 3 [Value.int .i64 ((l.length : Nat) : Int)]) :: F) (args := [Value.pointer (some ⟨pp, 0, none⟩), Value.int .i64 n, Value.int .i64 0]) Try.call20 rfl (Con.eqs (val' := fun _ => Value.int .i64 1) (post' := fun _ => [isDisk pp (DS.new 4)]) (cut_c W0 pp (DS.new 4) n 0) (fun _ => (by rw [cutneg hn])) (fun _ => (by rw [cutneg hn])))) (fun _ _ => ?_)
  refine Wl.imp (L' := (isDisk pp (DS.new 4)) :: (pt b1 3 [Value.int .i64 ((l.length : Nat) : Int)]) :: F) (fun _ h => h) ?_
  refine Wl.q (v := Value.int .i64 1) (q_assign rfl) ?_
  refine Wl.done ?_
  refine Wx.go ?_
  refine Wc.seq ?_
  refine Wc.seq ?_
  refine Wc.region ?_
  refine Wl.q (v := Value.int .i64 n) (q_move rfl) ?_
  refine Wl.q (v := Value.bool true) (q_lss (r := true) rfl rfl (decide_eq_true (hn))) ?_
  refine Wl.done ?_
  refine Wx.go ?_
  refine Wc.yes rfl ?_
  refine Wc.seq ?_
  refine Wc.region ?_
  refine Wl.q (v := Value.int .i64 1) (q_move rfl) ?_
  refine Wl.q (v := Value.bool true) (q_eql (r := true) rfl rfl (decide_eq_true (by decide))) ?_
  refine Wl.q (v := Value.bool true) (q_move rfl) ?_
  refine Wl.e (e_call (F := (isDisk pp (DS.new 4)) :: (pt b1 3 [Value.int .i64 ((l.length : Nat) : Int)]) :: F) (args := []) Try.call12 rfl (alive_c W0)) (fun _ _ => ?_)
  refine Wl.imp (L' := (isDisk pp (DS.new 4)) :: (pt b1 3 [Value.int .i64 ((l.length : Nat) : Int)]) :: F) (fun _ h => h) ?_
  refine Wl.q (v := Value.bool true) (q_pick (t := true) rfl rfl) ?_
  refine Wl.q (v := Value.bool true) (q_assign rfl) ?_
  refine Wl.done ?_
  refine Wx.go ?_
  refine Wc.ret ?_
  refine Wx.thenRet ?_
  refine Wx.fin1 rfl (.inl rfl) (fun w hs => ?_)
  exact ⟨(), trivial, rfl, (st_drop (st_drop (st_pull [0, 0] hs)))⟩

set_option maxRecDepth 4000 in
set_option maxHeartbeats 4000000 in
theorem cut_law (W0 : World) (m : Nat) (hm : m ≤ 9223372036854775807) (vl : Value) (l : List OpR) (hl : Rd W0 vl l.length (l.flatMap opCells)) (hlb : ∀ o ∈ l, o.b < 256) (hb0 : beyondB [(l.length : Int)] = false) :
    Con Try.prog W0 7 #[Value.int .i64 ((m : Nat) : Int), vl] [] (X := Unit) (fun _ => True) (fun _ => .bool true) (fun _ => []) := by
  refine Con.of (args := [Value.int .i64 ((m : Nat) : Int), vl]) Try.func7 rfl Try.ntmps7 rfl (fun F => ?_)
  have hlen := beyond_one hb0
  show Wc _ W0 _ _ _ _ _ (F)
  refine Wc.seq ?_
  refine Wc.region ?_
  refine Wl.q (v := Value.bool false) (q_assign rfl) ?_
  refine Wl.done ?_
  refine Wx.go ?_
  refine Wc.seq ?_
  refine Wc.region ?_
  refine Wl.e (e_call (F := F) (args := [Value.int .i64 4]) Try.call10 rfl (new_ok W0 4 (by omega) (by omega))) (fun pp _ => ?_)
  refine Wl.imp (L' := (isDisk pp (DS.new 4)) :: F) (fun _ h => h) ?_
  refine Wl.q (v := Value.tuple #[Value.pointer (some ⟨pp, 0, none⟩), Value.int .i64 0]) (q_move rfl) ?_
  refine Wl.q (v := Value.pointer (some ⟨pp, 0, none⟩)) (q_extract (i := 0) rfl rfl) ?_
  refine Wl.q (v := Value.int .i64 0) (q_extract (i := 1) rfl rfl) ?_
  refine Wl.q (v := Value.pointer (some ⟨pp, 0, none⟩)) (q_assign rfl) ?_
  refine Wl.q (v := Value.int .i64 0) (q_assign rfl) ?_
  refine Wl.done ?_
  refine Wx.go ?_
  refine Wc.seq ?_
  refine Wc.seq ?_
  refine Wc.region ?_
  refine Wl.q (v := Value.int .i64 0) (q_move rfl) ?_
  refine Wl.q (v := Value.bool false) (q_neq (r := true) rfl rfl (decide_eq_true (by decide))) ?_
  refine Wl.q (v := Value.bool false) (q_move rfl) ?_
  refine Wl.q (v := Value.pointer (some ⟨pp, 0, none⟩)) (q_move rfl) ?_
  refine Wl.q (v := Value.bool false) (q_eql_nil (r := false) rfl rfl Try.underlying23 rfl) ?_
  refine Wl.q (v := Value.bool false) (q_pick (t := false) rfl rfl) ?_
  refine Wl.q (v := Value.bool false) (q_move rfl) ?_
  refine Wl.q (v := vl) (q_move rfl) ?_
  refine Wl.q (v := Value.int .i64 ((l.length : Nat) : Int)) (q_len_is Try.underlying42 rfl hl.shape) ?_
  refine Wl.e (e_buildSlice (cs := [Value.int .i64 ((l.length : Nat) : Int)]) se_58 zo_3 (by decide) (by decide) (by kernel_rfl)) (fun b1 _ => ?_)
  refine Wl.imp (L' := (pt b1 3 [Value.int .i64 ((l.length : Nat) : Int)]) :: (isDisk pp (DS.new 4)) :: F) (fun _ h => h) ?_
  refine Wl.e (e_call (F := (isDisk pp (DS.new 4)) :: F) (args := [Value.slice (some ⟨b1, 0, none⟩) 1 1]) Try.call11 rfl (Con.eqs (val' := fun _ => Value.bool false) (post' := fun _ => [pt b1 3 [Value.int .i64 ((l.length : Nat) : Int)]]) (beyond_c W0 b1 ([((l.length : Nat) : Int)] : List Int) (by simp) (by simp; omega)) (fun _ => congrArg Value.bool hb0) (fun _ => rfl))) (fun _ _ => ?_)
  refine Wl.imp (L' := (pt b1 3 [Value.int .i64 ((l.length : Nat) : Int)]) :: (isDisk pp (DS.new 4)) :: F) (fun _ h => h) ?_
  refine Wl.q (v := Value.bool false) (q_pick (t := false) rfl rfl) ?_
  refine Wl.done ?_
  refine Wx.go ?_
  refine Wc.no rfl ?_
  refine Wc.skip ?_
  refine Wx.go ?_
  refine Wc.seq ?_
  refine Wc.region ?_
  refine Wl.q (v := Value.pointer (some ⟨pp, 0, none⟩)) (q_move rfl) ?_
  refine Wl.q (v := Value.int .i64 ((m : Nat) : Int)) (q_move rfl) ?_
  refine Wl.imp (L' := (isDisk pp (DS.new 4)) :: (pt b1 3 [Value.int .i64 ((l.length : Nat) : Int)]) :: F) (fun _ h => st_pull [1] h) ?_
  refine Wl.e (e_call (F := (pt b1 3 [Value.int .i64 ((l.length : Nat) : Int)]) :: F) (args := [Value.pointer (some ⟨pp, 0, none⟩), Value.int .i64 ((m : Nat) : Int), Value.int .i64 0]) Try.call20 rfl (Con.eqs (val' := fun _ => Value.int .i64 0) (post' := fun _ => [isDisk pp (cutD (List.replicate 4 noughts) [] m 0)]) (cut_c W0 pp (DS.new 4) ((m : Nat) : Int) 0) (fun _ => (by rw [cut0])) (fun _ => (by rw [cut0])))) (fun _ _ => ?_)
  refine Wl.imp (L' := (isDisk pp (cutD (List.replicate 4 noughts) [] m 0)) :: (pt b1 3 [Value.int .i64 ((l.length : Nat) : Int)]) :: F) (fun _ h => h) ?_
  refine Wl.q (v := Value.int .i64 0) (q_assign rfl) ?_
  refine Wl.done ?_
  refine Wx.go ?_
  refine Wc.seq ?_
  refine Wc.seq ?_
  refine Wc.region ?_
  refine Wl.q (v := Value.int .i64 ((m : Nat) : Int)) (q_move rfl) ?_
  refine Wl.q (v := Value.bool false) (q_lss (r := false) rfl rfl (decide_eq_false (by omega))) ?_
  refine Wl.done ?_
  refine Wx.go ?_
  refine Wc.no rfl ?_
  refine Wc.skip ?_
  refine Wx.go ?_
  refine Wc.seq ?_
  refine Wc.region ?_
  refine Wl.q (v := Value.int .i64 0) (q_assign rfl) ?_
  refine Wl.done ?_
  refine Wx.go ?_
  refine Wc.seq ?_
  refine Wc.seq ?_
  refine Wc.region ?_
  refine Wl.q (v := Value.int .i64 0) (q_assign rfl) ?_
  refine Wl.done ?_
  refine Wx.go ?_
  refine Wc.block ?_
  refine Wc.loop (X := Nat × List ByteArray × List (Nat × ByteArray)) (fun (k, S, G) E => E 9 = Value.int .i64 ((k : Nat) : Int) ∧ E 8 = Value.int .i64 (((min k m) : Nat) : Int) ∧ E 0 = Value.int .i64 ((m : Nat) : Int) ∧ E 1 = vl ∧ E 5 = Value.pointer (some ⟨pp, 0, none⟩) ∧ k ≤ l.length ∧ CutI S G k) (fun (k, S, G) => (isDisk pp (cutD S G m k)) :: F) (fun (k, S, G) => l.length - k) (0, List.replicate 4 noughts, []) ?_ ?_ ?_
  · exact ⟨rfl, rfl, rfl, rfl, rfl, (by omega), CutI.start⟩
  · exact fun w hs => (st_drop (st_pull [1] hs))
  · rintro ⟨k, S, G⟩ E3 ⟨hE9_1, hE8_1, hE0_1, hE1_1, hE5_1, hp0, hC⟩
    dsimp only at *
    rcases Nat.lt_or_ge k m with hkm | hkm
    ·
      refine Wc.seq ?_
      refine Wc.seq ?_
      refine Wc.region ?_
      refine Wl.q (v := Value.int .i64 ((k : Nat) : Int)) (q_move hE9_1) ?_
      refine Wl.q (v := vl) (q_move hE1_1) ?_
      refine Wl.q (v := Value.int .i64 ((l.length : Nat) : Int)) (q_len_is Try.underlying42 rfl hl.shape) ?_
      by_cases hlt : ((k : Nat) : Int) < ((l.length : Nat) : Int)
      ·
        obtain ⟨o, hget⟩ : ∃ o, l[k]? = some o := ⟨l[k]'(by omega), by simp [List.getElem?_eq_getElem (show k < l.length by omega)]⟩
        have hob := hlb o (List.mem_of_getElem? hget)
        refine Wl.q (v := Value.bool true) (q_lss (r := true) rfl rfl (decide_eq_true hlt)) ?_
        refine Wl.done ?_
        refine Wx.go ?_
        refine Wc.yes rfl ?_
        refine Wc.skip ?_
        refine Wx.go ?_
        refine Wc.seq ?_
        refine Wc.block ?_
        refine Wc.seq ?_
        refine Wc.region ?_
        refine Wl.q (v := Value.int .i64 0) (q_assign rfl) ?_
        refine Wl.done ?_
        refine Wx.go ?_
        refine Wc.seq ?_
        refine Wc.seq ?_
        refine Wc.region ?_
        refine Wl.q (v := vl) (q_move hE1_1) ?_
        refine Wl.q (v := Value.int .i64 ((k : Nat) : Int)) (q_move hE9_1) ?_
        refine Wl.q (v := Value.pointer (some ⟨(rb vl), ro vl + k * 5, none⟩)) (q_idx_is (m := ro vl + k * 5) se_42 rfl (hl.some_ (by omega)) rfl (by omega) (by omega) rfl) ?_
        refine Wl.q (v := Value.pointer (some ⟨(rb vl), ro vl + k * 5, none⟩)) (q_field (m := ro vl + k * 5) fo_45_0 rfl rfl) ?_
        refine Wl.q (v := Value.int .i64 o.kind) (q_load sc_3 rfl (.old (rdO hl hget 0 rfl))) ?_
        by_cases hkind : o.kind = 1
        ·
          refine Wl.q (v := Value.bool true) (q_eql (r := true) rfl rfl (decide_eq_true hkind)) ?_
          refine Wl.done ?_
          refine Wx.go ?_
          refine Wc.yes rfl ?_
          refine Wc.region ?_
          refine Wl.q (v := Value.pointer (some ⟨pp, 0, none⟩)) (q_move hE5_1) ?_
          obtain ⟨S1, G1, hst, hC1⟩ := cut_sync (m := m) hC
          refine Wl.e (e_call (F := F) (args := [Value.pointer (some ⟨pp, 0, none⟩)]) Try.call18 rfl (Con.eqs (val' := fun _ => Value.int .i64 0) (post' := fun _ => [isDisk pp (cutD S1 G1 m (k + 1))]) (sync_c W0 pp (cutD S G m k)  (cut_wf hC hm) (Nat.lt_of_le_of_lt (cut_since hC) (by omega)) (by rw [cut_count]; omega)) (fun _ => (by rw [hst]; simp only; rw [if_pos hkm])) (fun _ => (by rw [hst])))) (fun _ _ => ?_)
          refine Wl.imp (L' := (isDisk pp (cutD S1 G1 m (k + 1))) :: F) (fun _ h => h) ?_
          refine Wl.q (v := Value.int .i64 0) (q_assign rfl) ?_
          refine Wl.done ?_
          refine Wx.go ?_
          refine Wc.seq ?_
          refine Wc.seq ?_
          refine Wc.region ?_
          refine Wl.q (v := Value.int .i64 0) (q_move rfl) ?_
          refine Wl.q (v := Value.bool true) (q_eql (r := true) rfl rfl (decide_eq_true (by decide))) ?_
          refine Wl.q (v := Value.int .i64 (((min k m) : Nat) : Int)) (q_move hE8_1) ?_
          refine Wl.q (v := Value.int .i64 ((m : Nat) : Int)) (q_move hE0_1) ?_
          refine Wl.q (v := Value.bool true) (q_lss (r := true) rfl rfl (decide_eq_true (by omega))) ?_
          refine Wl.q (v := Value.bool false) (q_neq_bool (r := true) rfl rfl Try.underlying4 rfl) ?_
          refine Wl.q (v := Value.bool false) (q_move rfl) ?_
          refine Wl.q (v := Value.int .i64 0) (q_move rfl) ?_
          refine Wl.q (v := Value.bool false) (q_neq (r := true) rfl rfl (decide_eq_true (by decide))) ?_
          refine Wl.q (v := Value.bool false) (q_move rfl) ?_
          refine Wl.no ?_
          refine Wl.no ?_
          refine Wl.q (v := Value.bool false) (q_pick (t := false) rfl rfl) ?_
          refine Wl.q (v := Value.bool false) (q_pick (t := false) rfl rfl) ?_
          refine Wl.q (v := Value.bool false) (q_move rfl) ?_
          refine Wl.q (v := Value.pointer (some ⟨pp, 0, none⟩)) (q_move hE5_1) ?_
          refine Wl.e (e_call (F := F) (args := [Value.pointer (some ⟨pp, 0, none⟩)]) Try.call22 rfl (Con.eqs (val' := fun _ => Value.bool true) (post' := fun _ => [isDisk pp (cutD S1 G1 m (k + 1))]) (up_c W0 pp (cutD S1 G1 m (k + 1)) ) (fun _ => (by rw [cutD_up hkm]; rfl)) (fun _ => rfl))) (fun _ _ => ?_)
          refine Wl.imp (L' := (isDisk pp (cutD S1 G1 m (k + 1))) :: F) (fun _ h => h) ?_
          refine Wl.q (v := Value.int .i64 0) (q_move rfl) ?_
          refine Wl.q (v := Value.bool true) (q_eql (r := true) rfl rfl (decide_eq_true (by decide))) ?_
          refine Wl.q (v := Value.bool false) (q_neq_bool (r := true) rfl rfl Try.underlying4 rfl) ?_
          refine Wl.q (v := Value.bool false) (q_pick (t := false) rfl rfl) ?_
          refine Wl.done ?_
          refine Wx.go ?_
          refine Wc.no rfl ?_
          refine Wc.skip ?_
          refine Wx.go ?_
          refine Wc.seq ?_
          refine Wc.region ?_
          refine Wl.q (v := Value.int .i64 0) (q_move rfl) ?_
          refine Wl.q (v := Value.bool true) (q_eql (r := true) rfl rfl (decide_eq_true (by decide))) ?_
          refine Wl.done ?_
          refine Wx.go ?_
          refine Wc.yes rfl ?_
          refine Wc.region ?_
          refine Wl.q (v := Value.int .i64 (((min k m) : Nat) : Int)) (q_move hE8_1) ?_
          refine Wl.q (v := Value.int .i64 (((min k m) + 1 : Nat) : Int)) (q_add (c := (((min k m) + 1 : Nat) : Int)) rfl rfl (by rw [wrap_i64] <;> omega)) ?_
          refine Wl.q (v := Value.int .i64 (((min k m) + 1 : Nat) : Int)) (q_assign rfl) ?_
          refine Wl.done ?_
          refine Wx.blockEnd ?_
          refine Wx.go ?_
          refine Wc.region ?_
          refine Wl.q (v := Value.int .i64 ((k : Nat) : Int)) (q_move hE9_1) ?_
          refine Wl.q (v := Value.int .i64 ((k + 1 : Nat) : Int)) (q_add (c := ((k + 1 : Nat) : Int)) rfl rfl (by rw [wrap_i64] <;> omega)) ?_
          refine Wl.q (v := Value.int .i64 ((k + 1 : Nat) : Int)) (q_assign rfl) ?_
          refine Wl.done ?_
          refine Wx.at (k + 1, S1, G1) ⟨(by simp only; omega), rfl, (by rw [show min (k + 1) m = min k m + 1 by omega]; exact rfl), hE0_1, hE1_1, hE5_1, (by omega), hC1⟩ (fun w hs => hs)
        ·
          refine Wl.q (v := Value.bool false) (q_eql (r := false) rfl rfl (decide_eq_false hkind)) ?_
          refine Wl.done ?_
          refine Wx.go ?_
          refine Wc.no rfl ?_
          refine Wc.drawsS [13] ((isDisk pp (cutD S G m k)) :: []) (by kernel_rfl) ?_
          refine Wr.pure (v := Value.pointer (some ⟨pp, 0, none⟩)) 0 rfl (by kernel_rfl) (.inr (fun _ h => st_take [0] h)) (.inl ⟨rfl, fun _ => q_move hE5_1⟩) ?_
          refine Wr.pure (v := vl) 1 rfl (by kernel_rfl) (.inr (fun _ h => st_take [0] h)) (.inl ⟨rfl, fun _ => q_move hE1_1⟩) ?_
          refine Wr.pure (v := Value.int .i64 ((k : Nat) : Int)) 2 rfl (by kernel_rfl) (.inr (fun _ h => st_take [0] h)) (.inl ⟨rfl, fun _ => q_move hE9_1⟩) ?_
          refine Wr.pure (v := Value.pointer (some ⟨(rb vl), ro vl + k * 5, none⟩)) 3 rfl (by kernel_rfl) (.inr (fun _ h => st_take [0] h)) (.inl ⟨rfl, fun _ => q_idx_is (m := ro vl + k * 5) se_42 rfl (hl.some_ (by omega)) rfl (by omega) (by omega) rfl⟩) ?_
          refine Wr.pure (v := Value.pointer (some ⟨(rb vl), ro vl + k * 5 + 1, none⟩)) 4 rfl (by kernel_rfl) (.inr (fun _ h => st_take [0] h)) (.inl ⟨rfl, fun _ => q_field (m := ro vl + k * 5 + 1) fo_45_1 rfl rfl⟩) ?_
          refine Wr.take (v := Value.int .i64 o.at_) 5 rfl (by kernel_rfl) (fun _ h => st_take [0] h) (.inl ⟨rfl, q_load sc_3 rfl (.old (rdO hl hget 1 rfl))⟩) ?_
          refine Wr.pure (v := Value.int .i64 (o.at_ % 4)) 6 rfl (by kernel_rfl) (.inr (fun _ h => st_take [0] h)) (.inl ⟨rfl, fun _ => q_and (c := (o.at_ % 4)) rfl rfl (and3 _)⟩) ?_
          refine Wr.pure (v := vl) 7 rfl (by kernel_rfl) (.inr (fun _ h => st_take [0] h)) (.inl ⟨rfl, fun _ => q_move hE1_1⟩) ?_
          refine Wr.pure (v := Value.int .i64 ((k : Nat) : Int)) 8 rfl (by kernel_rfl) (.inr (fun _ h => st_take [0] h)) (.inl ⟨rfl, fun _ => q_move hE9_1⟩) ?_
          refine Wr.pure (v := Value.pointer (some ⟨(rb vl), ro vl + k * 5, none⟩)) 9 rfl (by kernel_rfl) (.inr (fun _ h => st_take [0] h)) (.inl ⟨rfl, fun _ => q_idx_is (m := ro vl + k * 5) se_42 rfl (hl.some_ (by omega)) rfl (by omega) (by omega) rfl⟩) ?_
          refine Wr.pure (v := Value.pointer (some ⟨(rb vl), ro vl + k * 5 + 2, none⟩)) 10 rfl (by kernel_rfl) (.inr (fun _ h => st_take [0] h)) (.inl ⟨rfl, fun _ => q_field (m := ro vl + k * 5 + 2) fo_45_2 rfl rfl⟩) ?_
          refine Wr.take (v := Value.int .u8 ((o.b : Nat) : Int)) 11 rfl (by kernel_rfl) (fun _ h => st_take [0] h) (.inl ⟨rfl, q_load sc_5 rfl (.old (rdO hl hget 2 rfl))⟩) ?_
          refine Wr.e 12 (by kernel_rfl) rfl (e_call (F := (isDisk pp (cutD S G m k)) :: F) (args := [Value.int .u8 ((o.b : Nat) : Int), Value.int .i64 0]) Try.call21 rfl (filled_c W0 o.b (by first | decide | assumption | omega) 0)) (.inr fun _ _ _ h => st_take [0] h) (fun _ _ => ?_)
          refine Wr.imp (L' := (isDisk pp (cutD S G m k)) :: F) (fun _ h => h) ?_
          obtain ⟨S1, G1, hst, hC1⟩ := cut_write (m := m) hC (show 0 ≤ o.at_ % 4 by omega) (show o.at_ % 4 < 4 by omega) (alsz' o.b)
          refine Wr.e 13 (by kernel_rfl) rfl (e_call (F := F) (args := [Value.pointer (some ⟨pp, 0, none⟩), Value.int .i64 (o.at_ % 4), Value.string (filled o.b 0)]) Try.call13 rfl (Con.eqs (val' := fun _ => Value.int .i64 0) (post' := fun _ => [isDisk pp (cutD S1 G1 m (k + 1))]) (write_c W0 pp (cutD S G m k) (o.at_ % 4) (filled o.b 0) (cut_wf hC hm) (Nat.lt_of_le_of_lt (cut_since hC) (by omega)) (by rw [cut_count]; omega)) (fun _ => (by rw [hst]; simp only; rw [if_pos hkm])) (fun _ => (by rw [hst])))) (.inl (by kernel_rfl)) (fun _ _ => ?_)
          refine Wr.imp (L' := (isDisk pp (cutD S1 G1 m (k + 1))) :: F) (fun _ h => h) ?_
          refine Wr.rebaseS [] ((isDisk pp (cutD S1 G1 m (k + 1))) :: []) (by kernel_rfl) ?_
          refine Wr.pure (v := Value.int .i64 0) 14 rfl (by kernel_rfl) (.inr (fun _ h => st_take [0] h)) (.inl ⟨rfl, fun _ => q_assign rfl⟩) ?_
          refine Wr.done (by kernel_rfl) ?_
          refine Wx.go ?_
          refine Wc.seq ?_
          refine Wc.seq ?_
          refine Wc.region ?_
          refine Wl.q (v := Value.int .i64 0) (q_move rfl) ?_
          refine Wl.q (v := Value.bool true) (q_eql (r := true) rfl rfl (decide_eq_true (by decide))) ?_
          refine Wl.q (v := Value.int .i64 (((min k m) : Nat) : Int)) (q_move hE8_1) ?_
          refine Wl.q (v := Value.int .i64 ((m : Nat) : Int)) (q_move hE0_1) ?_
          refine Wl.q (v := Value.bool true) (q_lss (r := true) rfl rfl (decide_eq_true (by omega))) ?_
          refine Wl.q (v := Value.bool false) (q_neq_bool (r := true) rfl rfl Try.underlying4 rfl) ?_
          refine Wl.q (v := Value.bool false) (q_move rfl) ?_
          refine Wl.q (v := Value.int .i64 0) (q_move rfl) ?_
          refine Wl.q (v := Value.bool false) (q_neq (r := true) rfl rfl (decide_eq_true (by decide))) ?_
          refine Wl.q (v := Value.bool false) (q_move rfl) ?_
          refine Wl.no ?_
          refine Wl.no ?_
          refine Wl.q (v := Value.bool false) (q_pick (t := false) rfl rfl) ?_
          refine Wl.q (v := Value.bool false) (q_pick (t := false) rfl rfl) ?_
          refine Wl.q (v := Value.bool false) (q_move rfl) ?_
          refine Wl.q (v := Value.pointer (some ⟨pp, 0, none⟩)) (q_move hE5_1) ?_
          refine Wl.e (e_call (F := F) (args := [Value.pointer (some ⟨pp, 0, none⟩)]) Try.call22 rfl (Con.eqs (val' := fun _ => Value.bool true) (post' := fun _ => [isDisk pp (cutD S1 G1 m (k + 1))]) (up_c W0 pp (cutD S1 G1 m (k + 1)) ) (fun _ => (by rw [cutD_up hkm]; rfl)) (fun _ => rfl))) (fun _ _ => ?_)
          refine Wl.imp (L' := (isDisk pp (cutD S1 G1 m (k + 1))) :: F) (fun _ h => h) ?_
          refine Wl.q (v := Value.int .i64 0) (q_move rfl) ?_
          refine Wl.q (v := Value.bool true) (q_eql (r := true) rfl rfl (decide_eq_true (by decide))) ?_
          refine Wl.q (v := Value.bool false) (q_neq_bool (r := true) rfl rfl Try.underlying4 rfl) ?_
          refine Wl.q (v := Value.bool false) (q_pick (t := false) rfl rfl) ?_
          refine Wl.done ?_
          refine Wx.go ?_
          refine Wc.no rfl ?_
          refine Wc.skip ?_
          refine Wx.go ?_
          refine Wc.seq ?_
          refine Wc.region ?_
          refine Wl.q (v := Value.int .i64 0) (q_move rfl) ?_
          refine Wl.q (v := Value.bool true) (q_eql (r := true) rfl rfl (decide_eq_true (by decide))) ?_
          refine Wl.done ?_
          refine Wx.go ?_
          refine Wc.yes rfl ?_
          refine Wc.region ?_
          refine Wl.q (v := Value.int .i64 (((min k m) : Nat) : Int)) (q_move hE8_1) ?_
          refine Wl.q (v := Value.int .i64 (((min k m) + 1 : Nat) : Int)) (q_add (c := (((min k m) + 1 : Nat) : Int)) rfl rfl (by rw [wrap_i64] <;> omega)) ?_
          refine Wl.q (v := Value.int .i64 (((min k m) + 1 : Nat) : Int)) (q_assign rfl) ?_
          refine Wl.done ?_
          refine Wx.blockEnd ?_
          refine Wx.go ?_
          refine Wc.region ?_
          refine Wl.q (v := Value.int .i64 ((k : Nat) : Int)) (q_move hE9_1) ?_
          refine Wl.q (v := Value.int .i64 ((k + 1 : Nat) : Int)) (q_add (c := ((k + 1 : Nat) : Int)) rfl rfl (by rw [wrap_i64] <;> omega)) ?_
          refine Wl.q (v := Value.int .i64 ((k + 1 : Nat) : Int)) (q_assign rfl) ?_
          refine Wl.done ?_
          refine Wx.at (k + 1, S1, G1) ⟨(by simp only; omega), rfl, (by rw [show min (k + 1) m = min k m + 1 by omega]; exact rfl), hE0_1, hE1_1, hE5_1, (by omega), hC1⟩ (fun w hs => hs)
      ·
        have hend : k = l.length := by omega
        refine Wl.q (v := Value.bool false) (q_lss (r := false) rfl rfl (decide_eq_false hlt)) ?_
        refine Wl.done ?_
        refine Wx.go ?_
        refine Wc.no rfl ?_
        refine Wc.exit ?_
        refine Wx.thenExit ?_
        refine Wx.thenExit ?_
        refine Wx.out ?_
        refine Wx.go ?_
        refine Wc.seq ?_
        refine Wc.region ?_
        refine Wl.q (v := Value.pointer (some ⟨pp, 0, none⟩)) (q_move hE5_1) ?_
        refine Wl.e (e_call (F := F) (args := [Value.pointer (some ⟨pp, 0, none⟩)]) Try.call23 rfl (Con.eqs (val' := fun _ => Value.int .i64 (((min k m) : Nat) : Int)) (post' := fun _ => [isDisk pp (cutD S G m k)]) (count_c W0 pp (cutD S G m k) ) (fun _ => (by rw [cut_count])) (fun _ => rfl))) (fun _ _ => ?_)
        refine Wl.imp (L' := (isDisk pp (cutD S G m k)) :: F) (fun _ h => h) ?_
        refine Wl.q (v := Value.int .i64 (((min k m) : Nat) : Int)) (q_move hE8_1) ?_
        refine Wl.q (v := Value.bool true) (q_eql (r := true) rfl rfl (decide_eq_true (rfl))) ?_
        refine Wl.q (v := Value.bool true) (q_move rfl) ?_
        refine Wl.e (e_call (F := (isDisk pp (cutD S G m k)) :: F) (args := []) Try.call12 rfl (alive_c W0)) (fun _ _ => ?_)
        refine Wl.imp (L' := (isDisk pp (cutD S G m k)) :: F) (fun _ h => h) ?_
        refine Wl.q (v := Value.bool true) (q_pick (t := true) rfl rfl) ?_
        refine Wl.q (v := Value.bool true) (q_assign rfl) ?_
        refine Wl.done ?_
        refine Wx.go ?_
        refine Wc.ret ?_
        refine Wx.fin1 rfl (.inl rfl) (fun w hs => ?_)
        exact ⟨(), trivial, rfl, (st_drop (st_pull [0] hs))⟩
    ·
      refine Wc.seq ?_
      refine Wc.seq ?_
      refine Wc.region ?_
      refine Wl.q (v := Value.int .i64 ((k : Nat) : Int)) (q_move hE9_1) ?_
      refine Wl.q (v := vl) (q_move hE1_1) ?_
      refine Wl.q (v := Value.int .i64 ((l.length : Nat) : Int)) (q_len_is Try.underlying42 rfl hl.shape) ?_
      by_cases hlt : ((k : Nat) : Int) < ((l.length : Nat) : Int)
      ·
        obtain ⟨o, hget⟩ : ∃ o, l[k]? = some o := ⟨l[k]'(by omega), by simp [List.getElem?_eq_getElem (show k < l.length by omega)]⟩
        have hob := hlb o (List.mem_of_getElem? hget)
        refine Wl.q (v := Value.bool true) (q_lss (r := true) rfl rfl (decide_eq_true hlt)) ?_
        refine Wl.done ?_
        refine Wx.go ?_
        refine Wc.yes rfl ?_
        refine Wc.skip ?_
        refine Wx.go ?_
        refine Wc.seq ?_
        refine Wc.block ?_
        refine Wc.seq ?_
        refine Wc.region ?_
        refine Wl.q (v := Value.int .i64 0) (q_assign rfl) ?_
        refine Wl.done ?_
        refine Wx.go ?_
        refine Wc.seq ?_
        refine Wc.seq ?_
        refine Wc.region ?_
        refine Wl.q (v := vl) (q_move hE1_1) ?_
        refine Wl.q (v := Value.int .i64 ((k : Nat) : Int)) (q_move hE9_1) ?_
        refine Wl.q (v := Value.pointer (some ⟨(rb vl), ro vl + k * 5, none⟩)) (q_idx_is (m := ro vl + k * 5) se_42 rfl (hl.some_ (by omega)) rfl (by omega) (by omega) rfl) ?_
        refine Wl.q (v := Value.pointer (some ⟨(rb vl), ro vl + k * 5, none⟩)) (q_field (m := ro vl + k * 5) fo_45_0 rfl rfl) ?_
        refine Wl.q (v := Value.int .i64 o.kind) (q_load sc_3 rfl (.old (rdO hl hget 0 rfl))) ?_
        by_cases hkind : o.kind = 1
        ·
          refine Wl.q (v := Value.bool true) (q_eql (r := true) rfl rfl (decide_eq_true hkind)) ?_
          refine Wl.done ?_
          refine Wx.go ?_
          refine Wc.yes rfl ?_
          refine Wc.region ?_
          refine Wl.q (v := Value.pointer (some ⟨pp, 0, none⟩)) (q_move hE5_1) ?_
          obtain ⟨S1, G1, hst, hC1⟩ := cut_sync (m := m) hC
          refine Wl.e (e_call (F := F) (args := [Value.pointer (some ⟨pp, 0, none⟩)]) Try.call18 rfl (Con.eqs (val' := fun _ => Value.int .i64 6) (post' := fun _ => [isDisk pp (cutD S1 G1 m (k + 1))]) (sync_c W0 pp (cutD S G m k)  (cut_wf hC hm) (Nat.lt_of_le_of_lt (cut_since hC) (by omega)) (by rw [cut_count]; omega)) (fun _ => (by rw [hst]; simp only; rw [if_neg (by omega)])) (fun _ => (by rw [hst])))) (fun _ _ => ?_)
          refine Wl.imp (L' := (isDisk pp (cutD S1 G1 m (k + 1))) :: F) (fun _ h => h) ?_
          refine Wl.q (v := Value.int .i64 6) (q_assign rfl) ?_
          refine Wl.done ?_
          refine Wx.go ?_
          refine Wc.seq ?_
          refine Wc.seq ?_
          refine Wc.region ?_
          refine Wl.q (v := Value.int .i64 6) (q_move rfl) ?_
          refine Wl.q (v := Value.bool false) (q_eql (r := false) rfl rfl (decide_eq_false (by decide))) ?_
          refine Wl.q (v := Value.int .i64 (((min k m) : Nat) : Int)) (q_move hE8_1) ?_
          refine Wl.q (v := Value.int .i64 ((m : Nat) : Int)) (q_move hE0_1) ?_
          refine Wl.q (v := Value.bool false) (q_lss (r := false) rfl rfl (decide_eq_false (by omega))) ?_
          refine Wl.q (v := Value.bool false) (q_neq_bool (r := true) rfl rfl Try.underlying4 rfl) ?_
          refine Wl.q (v := Value.bool false) (q_move rfl) ?_
          refine Wl.q (v := Value.int .i64 6) (q_move rfl) ?_
          refine Wl.q (v := Value.bool true) (q_neq (r := false) rfl rfl (decide_eq_false (by decide))) ?_
          refine Wl.q (v := Value.bool true) (q_move rfl) ?_
          refine Wl.q (v := Value.int .i64 6) (q_move rfl) ?_
          refine Wl.q (v := Value.bool false) (q_neq (r := true) rfl rfl (decide_eq_true (by decide))) ?_
          refine Wl.q (v := Value.bool false) (q_pick (t := true) rfl rfl) ?_
          refine Wl.q (v := Value.bool false) (q_pick (t := false) rfl rfl) ?_
          refine Wl.q (v := Value.bool false) (q_move rfl) ?_
          refine Wl.q (v := Value.pointer (some ⟨pp, 0, none⟩)) (q_move hE5_1) ?_
          refine Wl.e (e_call (F := F) (args := [Value.pointer (some ⟨pp, 0, none⟩)]) Try.call22 rfl (Con.eqs (val' := fun _ => Value.bool false) (post' := fun _ => [isDisk pp (cutD S1 G1 m (k + 1))]) (up_c W0 pp (cutD S1 G1 m (k + 1)) ) (fun _ => (by rw [cutD_down hkm]; rfl)) (fun _ => rfl))) (fun _ _ => ?_)
          refine Wl.imp (L' := (isDisk pp (cutD S1 G1 m (k + 1))) :: F) (fun _ h => h) ?_
          refine Wl.q (v := Value.int .i64 6) (q_move rfl) ?_
          refine Wl.q (v := Value.bool false) (q_eql (r := false) rfl rfl (decide_eq_false (by decide))) ?_
          refine Wl.q (v := Value.bool false) (q_neq_bool (r := true) rfl rfl Try.underlying4 rfl) ?_
          refine Wl.q (v := Value.bool false) (q_pick (t := false) rfl rfl) ?_
          refine Wl.done ?_
          refine Wx.go ?_
          refine Wc.no rfl ?_
          refine Wc.skip ?_
          refine Wx.go ?_
          refine Wc.seq ?_
          refine Wc.region ?_
          refine Wl.q (v := Value.int .i64 6) (q_move rfl) ?_
          refine Wl.q (v := Value.bool false) (q_eql (r := false) rfl rfl (decide_eq_false (by decide))) ?_
          refine Wl.done ?_
          refine Wx.go ?_
          refine Wc.no rfl ?_
          refine Wc.skip ?_
          refine Wx.blockEnd ?_
          refine Wx.go ?_
          refine Wc.region ?_
          refine Wl.q (v := Value.int .i64 ((k : Nat) : Int)) (q_move hE9_1) ?_
          refine Wl.q (v := Value.int .i64 ((k + 1 : Nat) : Int)) (q_add (c := ((k + 1 : Nat) : Int)) rfl rfl (by rw [wrap_i64] <;> omega)) ?_
          refine Wl.q (v := Value.int .i64 ((k + 1 : Nat) : Int)) (q_assign rfl) ?_
          refine Wl.done ?_
          refine Wx.at (k + 1, S1, G1) ⟨(by simp only; omega), rfl, (by rw [show min (k + 1) m = min k m by omega]; exact hE8_1), hE0_1, hE1_1, hE5_1, (by omega), hC1⟩ (fun w hs => hs)
        ·
          refine Wl.q (v := Value.bool false) (q_eql (r := false) rfl rfl (decide_eq_false hkind)) ?_
          refine Wl.done ?_
          refine Wx.go ?_
          refine Wc.no rfl ?_
          refine Wc.drawsS [13] ((isDisk pp (cutD S G m k)) :: []) (by kernel_rfl) ?_
          refine Wr.pure (v := Value.pointer (some ⟨pp, 0, none⟩)) 0 rfl (by kernel_rfl) (.inr (fun _ h => st_take [0] h)) (.inl ⟨rfl, fun _ => q_move hE5_1⟩) ?_
          refine Wr.pure (v := vl) 1 rfl (by kernel_rfl) (.inr (fun _ h => st_take [0] h)) (.inl ⟨rfl, fun _ => q_move hE1_1⟩) ?_
          refine Wr.pure (v := Value.int .i64 ((k : Nat) : Int)) 2 rfl (by kernel_rfl) (.inr (fun _ h => st_take [0] h)) (.inl ⟨rfl, fun _ => q_move hE9_1⟩) ?_
          refine Wr.pure (v := Value.pointer (some ⟨(rb vl), ro vl + k * 5, none⟩)) 3 rfl (by kernel_rfl) (.inr (fun _ h => st_take [0] h)) (.inl ⟨rfl, fun _ => q_idx_is (m := ro vl + k * 5) se_42 rfl (hl.some_ (by omega)) rfl (by omega) (by omega) rfl⟩) ?_
          refine Wr.pure (v := Value.pointer (some ⟨(rb vl), ro vl + k * 5 + 1, none⟩)) 4 rfl (by kernel_rfl) (.inr (fun _ h => st_take [0] h)) (.inl ⟨rfl, fun _ => q_field (m := ro vl + k * 5 + 1) fo_45_1 rfl rfl⟩) ?_
          refine Wr.take (v := Value.int .i64 o.at_) 5 rfl (by kernel_rfl) (fun _ h => st_take [0] h) (.inl ⟨rfl, q_load sc_3 rfl (.old (rdO hl hget 1 rfl))⟩) ?_
          refine Wr.pure (v := Value.int .i64 (o.at_ % 4)) 6 rfl (by kernel_rfl) (.inr (fun _ h => st_take [0] h)) (.inl ⟨rfl, fun _ => q_and (c := (o.at_ % 4)) rfl rfl (and3 _)⟩) ?_
          refine Wr.pure (v := vl) 7 rfl (by kernel_rfl) (.inr (fun _ h => st_take [0] h)) (.inl ⟨rfl, fun _ => q_move hE1_1⟩) ?_
          refine Wr.pure (v := Value.int .i64 ((k : Nat) : Int)) 8 rfl (by kernel_rfl) (.inr (fun _ h => st_take [0] h)) (.inl ⟨rfl, fun _ => q_move hE9_1⟩) ?_
          refine Wr.pure (v := Value.pointer (some ⟨(rb vl), ro vl + k * 5, none⟩)) 9 rfl (by kernel_rfl) (.inr (fun _ h => st_take [0] h)) (.inl ⟨rfl, fun _ => q_idx_is (m := ro vl + k * 5) se_42 rfl (hl.some_ (by omega)) rfl (by omega) (by omega) rfl⟩) ?_
          refine Wr.pure (v := Value.pointer (some ⟨(rb vl), ro vl + k * 5 + 2, none⟩)) 10 rfl (by kernel_rfl) (.inr (fun _ h => st_take [0] h)) (.inl ⟨rfl, fun _ => q_field (m := ro vl + k * 5 + 2) fo_45_2 rfl rfl⟩) ?_
          refine Wr.take (v := Value.int .u8 ((o.b : Nat) : Int)) 11 rfl (by kernel_rfl) (fun _ h => st_take [0] h) (.inl ⟨rfl, q_load sc_5 rfl (.old (rdO hl hget 2 rfl))⟩) ?_
          refine Wr.e 12 (by kernel_rfl) rfl (e_call (F := (isDisk pp (cutD S G m k)) :: F) (args := [Value.int .u8 ((o.b : Nat) : Int), Value.int .i64 0]) Try.call21 rfl (filled_c W0 o.b (by first | decide | assumption | omega) 0)) (.inr fun _ _ _ h => st_take [0] h) (fun _ _ => ?_)
          refine Wr.imp (L' := (isDisk pp (cutD S G m k)) :: F) (fun _ h => h) ?_
          obtain ⟨S1, G1, hst, hC1⟩ := cut_write (m := m) hC (show 0 ≤ o.at_ % 4 by omega) (show o.at_ % 4 < 4 by omega) (alsz' o.b)
          refine Wr.e 13 (by kernel_rfl) rfl (e_call (F := F) (args := [Value.pointer (some ⟨pp, 0, none⟩), Value.int .i64 (o.at_ % 4), Value.string (filled o.b 0)]) Try.call13 rfl (Con.eqs (val' := fun _ => Value.int .i64 6) (post' := fun _ => [isDisk pp (cutD S1 G1 m (k + 1))]) (write_c W0 pp (cutD S G m k) (o.at_ % 4) (filled o.b 0) (cut_wf hC hm) (Nat.lt_of_le_of_lt (cut_since hC) (by omega)) (by rw [cut_count]; omega)) (fun _ => (by rw [hst]; simp only; rw [if_neg (by omega)])) (fun _ => (by rw [hst])))) (.inl (by kernel_rfl)) (fun _ _ => ?_)
          refine Wr.imp (L' := (isDisk pp (cutD S1 G1 m (k + 1))) :: F) (fun _ h => h) ?_
          refine Wr.rebaseS [] ((isDisk pp (cutD S1 G1 m (k + 1))) :: []) (by kernel_rfl) ?_
          refine Wr.pure (v := Value.int .i64 6) 14 rfl (by kernel_rfl) (.inr (fun _ h => st_take [0] h)) (.inl ⟨rfl, fun _ => q_assign rfl⟩) ?_
          refine Wr.done (by kernel_rfl) ?_
          refine Wx.go ?_
          refine Wc.seq ?_
          refine Wc.seq ?_
          refine Wc.region ?_
          refine Wl.q (v := Value.int .i64 6) (q_move rfl) ?_
          refine Wl.q (v := Value.bool false) (q_eql (r := false) rfl rfl (decide_eq_false (by decide))) ?_
          refine Wl.q (v := Value.int .i64 (((min k m) : Nat) : Int)) (q_move hE8_1) ?_
          refine Wl.q (v := Value.int .i64 ((m : Nat) : Int)) (q_move hE0_1) ?_
          refine Wl.q (v := Value.bool false) (q_lss (r := false) rfl rfl (decide_eq_false (by omega))) ?_
          refine Wl.q (v := Value.bool false) (q_neq_bool (r := true) rfl rfl Try.underlying4 rfl) ?_
          refine Wl.q (v := Value.bool false) (q_move rfl) ?_
          refine Wl.q (v := Value.int .i64 6) (q_move rfl) ?_
          refine Wl.q (v := Value.bool true) (q_neq (r := false) rfl rfl (decide_eq_false (by decide))) ?_
          refine Wl.q (v := Value.bool true) (q_move rfl) ?_
          refine Wl.q (v := Value.int .i64 6) (q_move rfl) ?_
          refine Wl.q (v := Value.bool false) (q_neq (r := true) rfl rfl (decide_eq_true (by decide))) ?_
          refine Wl.q (v := Value.bool false) (q_pick (t := true) rfl rfl) ?_
          refine Wl.q (v := Value.bool false) (q_pick (t := false) rfl rfl) ?_
          refine Wl.q (v := Value.bool false) (q_move rfl) ?_
          refine Wl.q (v := Value.pointer (some ⟨pp, 0, none⟩)) (q_move hE5_1) ?_
          refine Wl.e (e_call (F := F) (args := [Value.pointer (some ⟨pp, 0, none⟩)]) Try.call22 rfl (Con.eqs (val' := fun _ => Value.bool false) (post' := fun _ => [isDisk pp (cutD S1 G1 m (k + 1))]) (up_c W0 pp (cutD S1 G1 m (k + 1)) ) (fun _ => (by rw [cutD_down hkm]; rfl)) (fun _ => rfl))) (fun _ _ => ?_)
          refine Wl.imp (L' := (isDisk pp (cutD S1 G1 m (k + 1))) :: F) (fun _ h => h) ?_
          refine Wl.q (v := Value.int .i64 6) (q_move rfl) ?_
          refine Wl.q (v := Value.bool false) (q_eql (r := false) rfl rfl (decide_eq_false (by decide))) ?_
          refine Wl.q (v := Value.bool false) (q_neq_bool (r := true) rfl rfl Try.underlying4 rfl) ?_
          refine Wl.q (v := Value.bool false) (q_pick (t := false) rfl rfl) ?_
          refine Wl.done ?_
          refine Wx.go ?_
          refine Wc.no rfl ?_
          refine Wc.skip ?_
          refine Wx.go ?_
          refine Wc.seq ?_
          refine Wc.region ?_
          refine Wl.q (v := Value.int .i64 6) (q_move rfl) ?_
          refine Wl.q (v := Value.bool false) (q_eql (r := false) rfl rfl (decide_eq_false (by decide))) ?_
          refine Wl.done ?_
          refine Wx.go ?_
          refine Wc.no rfl ?_
          refine Wc.skip ?_
          refine Wx.blockEnd ?_
          refine Wx.go ?_
          refine Wc.region ?_
          refine Wl.q (v := Value.int .i64 ((k : Nat) : Int)) (q_move hE9_1) ?_
          refine Wl.q (v := Value.int .i64 ((k + 1 : Nat) : Int)) (q_add (c := ((k + 1 : Nat) : Int)) rfl rfl (by rw [wrap_i64] <;> omega)) ?_
          refine Wl.q (v := Value.int .i64 ((k + 1 : Nat) : Int)) (q_assign rfl) ?_
          refine Wl.done ?_
          refine Wx.at (k + 1, S1, G1) ⟨(by simp only; omega), rfl, (by rw [show min (k + 1) m = min k m by omega]; exact hE8_1), hE0_1, hE1_1, hE5_1, (by omega), hC1⟩ (fun w hs => hs)
      ·
        have hend : k = l.length := by omega
        refine Wl.q (v := Value.bool false) (q_lss (r := false) rfl rfl (decide_eq_false hlt)) ?_
        refine Wl.done ?_
        refine Wx.go ?_
        refine Wc.no rfl ?_
        refine Wc.exit ?_
        refine Wx.thenExit ?_
        refine Wx.thenExit ?_
        refine Wx.out ?_
        refine Wx.go ?_
        refine Wc.seq ?_
        refine Wc.region ?_
        refine Wl.q (v := Value.pointer (some ⟨pp, 0, none⟩)) (q_move hE5_1) ?_
        refine Wl.e (e_call (F := F) (args := [Value.pointer (some ⟨pp, 0, none⟩)]) Try.call23 rfl (Con.eqs (val' := fun _ => Value.int .i64 (((min k m) : Nat) : Int)) (post' := fun _ => [isDisk pp (cutD S G m k)]) (count_c W0 pp (cutD S G m k) ) (fun _ => (by rw [cut_count])) (fun _ => rfl))) (fun _ _ => ?_)
        refine Wl.imp (L' := (isDisk pp (cutD S G m k)) :: F) (fun _ h => h) ?_
        refine Wl.q (v := Value.int .i64 (((min k m) : Nat) : Int)) (q_move hE8_1) ?_
        refine Wl.q (v := Value.bool true) (q_eql (r := true) rfl rfl (decide_eq_true (rfl))) ?_
        refine Wl.q (v := Value.bool true) (q_move rfl) ?_
        refine Wl.e (e_call (F := (isDisk pp (cutD S G m k)) :: F) (args := []) Try.call12 rfl (alive_c W0)) (fun _ _ => ?_)
        refine Wl.imp (L' := (isDisk pp (cutD S G m k)) :: F) (fun _ h => h) ?_
        refine Wl.q (v := Value.bool true) (q_pick (t := true) rfl rfl) ?_
        refine Wl.q (v := Value.bool true) (q_assign rfl) ?_
        refine Wl.done ?_
        refine Wx.go ?_
        refine Wc.ret ?_
        refine Wx.fin1 rfl (.inl rfl) (fun w hs => ?_)
        exact ⟨(), trivial, rfl, (st_drop (st_pull [0] hs))⟩

end Go.Proofs.Ytbnglfbfgannhaa
