/- The disk in memory, and contracts of its calls. -/
import Derived.Test.YtbnglfbfgannhaaDkF
import Derived.Test.YtbnglfbfgannhaaDkL
namespace Go.Proofs.Ytbnglfbfgannhaa
open Go Go.SL Go.Dk Go.RowKit
set_option linter.unusedVariables false
theorem se_58 : sliceElem Try.prog 58 = some (3, 1) := by kernel_rfl
theorem beyond_c (W0 : World) (b : Nat) (ns : List Int) (hns : ns.length < 1000) (hwf : ∀ x ∈ ns, -9223372036854775808 ≤ x ∧ x ≤ 9223372036854775807) :
    Con Try.prog W0 11 #[Value.slice (some ⟨b, 0, none⟩) ns.length ns.length] [pt b 3 (ns.map (Value.int .i64))] (X := Unit) (fun _ => True) (fun _ => .bool (beyondB ns)) (fun _ => [pt b 3 (ns.map (Value.int .i64))]) := by
  refine Con.of (args := [Value.slice (some ⟨b, 0, none⟩) ns.length ns.length]) Try.func11 rfl Try.ntmps11 rfl (fun F => ?_)
  show Wc _ W0 _ _ _ _ _ ((pt b 3 (ns.map (Value.int .i64))) :: F)
  refine Wc.seq ?_
  refine Wc.region ?_
  refine Wl.q (v := Value.bool false) (q_assign rfl) ?_
  refine Wl.done ?_
  refine Wx.go ?_
  refine Wc.seq ?_
  refine Wc.region ?_
  refine Wl.q (v := Value.int .i64 0) (q_assign rfl) ?_
  refine Wl.done ?_
  refine Wx.go ?_
  refine Wc.seq ?_
  refine Wc.seq ?_
  refine Wc.region ?_
  refine Wl.q (v := Value.int .i64 0) (q_assign rfl) ?_
  refine Wl.done ?_
  refine Wx.go ?_
  refine Wc.block ?_
  refine Wc.loop (X := Nat × Int) (fun (k, acc) E => E 4 = Value.int .i64 ((k : Nat) : Int) ∧ E 3 = Value.int .i64 acc ∧ E 0 = Value.slice (some ⟨b, 0, none⟩) ns.length ns.length ∧ beyondF acc (ns.drop k) = beyondB ns ∧ 0 ≤ acc ∧ acc ≤ 262144 ∧ k ≤ ns.length) (fun (k, acc) => (pt b 3 (ns.map (Value.int .i64))) :: F) (fun (k, acc) => ns.length - k) (0, 0) ?_ ?_ ?_
  · exact ⟨rfl, rfl, rfl, rfl, (by omega), (by omega), (by omega)⟩
  · exact fun w hs => hs
  · rintro ⟨k, acc⟩ E2 ⟨hE4_0, hE3_0, hE0_0, hp0, hp1, hp2, hp3⟩
    dsimp only at *
    refine Wc.seq ?_
    refine Wc.seq ?_
    refine Wc.region ?_
    refine Wl.q (v := Value.int .i64 ((k : Nat) : Int)) (q_move hE4_0) ?_
    refine Wl.q (v := Value.slice (some ⟨b, 0, none⟩) ns.length ns.length) (q_move hE0_0) ?_
    refine Wl.q (v := Value.int .i64 ((ns.length : Nat) : Int)) (q_len_slice Try.underlying58 rfl) ?_
    by_cases hlt : ((k : Nat) : Int) < ((ns.length : Nat) : Int)
    ·
      obtain ⟨v, hget⟩ : ∃ q, ns[k]? = some q := ⟨ns[k]'(by omega), by simp [List.getElem?_eq_getElem (show k < ns.length by omega)]⟩
      refine Wl.q (v := Value.bool true) (q_lss (r := true) rfl rfl (decide_eq_true hlt)) ?_
      refine Wl.done ?_
      refine Wx.go ?_
      refine Wc.yes rfl ?_
      refine Wc.skip ?_
      refine Wx.go ?_
      refine Wc.seq ?_
      refine Wc.block ?_
      refine Wc.seq ?_
      refine Wc.seq ?_
      refine Wc.region ?_
      refine Wl.q (v := Value.slice (some ⟨b, 0, none⟩) ns.length ns.length) (q_move hE0_0) ?_
      refine Wl.q (v := Value.int .i64 ((k : Nat) : Int)) (q_move hE4_0) ?_
      refine Wl.q (v := Value.pointer (some ⟨b, k, none⟩)) (q_idx (m := k) se_58 rfl rfl (by omega) (by omega) (by simp)) ?_
      refine Wl.q (v := Value.int .i64 v) (q_load sc_3 rfl (.cel (i := 0) rfl (by rw [List.getElem?_map, hget]; rfl))) ?_
      by_cases h3 : v < 0
      ·
        refine Wl.q (v := Value.bool true) (q_lss (r := true) rfl rfl (decide_eq_true h3)) ?_
        refine Wl.q (v := Value.bool true) (q_move rfl) ?_
        refine Wl.no ?_
        refine Wl.no ?_
        refine Wl.no ?_
        refine Wl.no ?_
        refine Wl.no ?_
        refine Wl.q (v := Value.bool true) (q_pick (t := true) rfl rfl) ?_
        refine Wl.done ?_
        refine Wx.go ?_
        refine Wc.yes rfl ?_
        refine Wc.seq ?_
        refine Wc.region ?_
        refine Wl.q (v := Value.bool true) (q_assign rfl) ?_
        refine Wl.done ?_
        refine Wx.go ?_
        refine Wc.ret ?_
        refine Wx.thenRet ?_
        refine Wx.blockRet ?_
        refine Wx.thenRet ?_
        refine Wx.thenRet ?_
        refine Wx.blockRet ?_
        refine Wx.thenRet ?_
        refine Wx.fin1 rfl (.inl rfl) (fun w hs => ?_)
        have e : beyondB ns = true := by rw [← hp0, beyond_step hget]; first | exact if_pos (.inl ‹_›) | exact if_pos (.inr ‹_›) | (rw [if_neg (by omega)]; exact if_pos ‹_›)
        exact ⟨(), trivial, by rw [e]; rfl, hs⟩
      ·
        refine Wl.q (v := Value.bool false) (q_lss (r := false) rfl rfl (decide_eq_false h3)) ?_
        refine Wl.q (v := Value.bool false) (q_move rfl) ?_
        refine Wl.q (v := Value.slice (some ⟨b, 0, none⟩) ns.length ns.length) (q_move hE0_0) ?_
        refine Wl.q (v := Value.int .i64 ((k : Nat) : Int)) (q_move hE4_0) ?_
        refine Wl.q (v := Value.pointer (some ⟨b, k, none⟩)) (q_idx (m := k) se_58 rfl rfl (by omega) (by omega) (by simp)) ?_
        refine Wl.q (v := Value.int .i64 v) (q_load sc_3 rfl (.cel (i := 0) rfl (by rw [List.getElem?_map, hget]; rfl))) ?_
        by_cases h4 : v > 262144
        ·
          refine Wl.q (v := Value.bool true) (q_gtr (r := true) rfl rfl (decide_eq_true h4)) ?_
          refine Wl.q (v := Value.bool true) (q_pick (t := false) rfl rfl) ?_
          refine Wl.done ?_
          refine Wx.go ?_
          refine Wc.yes rfl ?_
          refine Wc.seq ?_
          refine Wc.region ?_
          refine Wl.q (v := Value.bool true) (q_assign rfl) ?_
          refine Wl.done ?_
          refine Wx.go ?_
          refine Wc.ret ?_
          refine Wx.thenRet ?_
          refine Wx.blockRet ?_
          refine Wx.thenRet ?_
          refine Wx.thenRet ?_
          refine Wx.blockRet ?_
          refine Wx.thenRet ?_
          refine Wx.fin1 rfl (.inl rfl) (fun w hs => ?_)
          have e : beyondB ns = true := by rw [← hp0, beyond_step hget]; first | exact if_pos (.inl ‹_›) | exact if_pos (.inr ‹_›) | (rw [if_neg (by omega)]; exact if_pos ‹_›)
          exact ⟨(), trivial, by rw [e]; rfl, hs⟩
        ·
          refine Wl.q (v := Value.bool false) (q_gtr (r := false) rfl rfl (decide_eq_false h4)) ?_
          refine Wl.q (v := Value.bool false) (q_pick (t := false) rfl rfl) ?_
          refine Wl.done ?_
          refine Wx.go ?_
          refine Wc.no rfl ?_
          refine Wc.skip ?_
          refine Wx.go ?_
          refine Wc.seq ?_
          refine Wc.region ?_
          refine Wl.q (v := Value.int .i64 acc) (q_move hE3_0) ?_
          refine Wl.q (v := Value.slice (some ⟨b, 0, none⟩) ns.length ns.length) (q_move hE0_0) ?_
          refine Wl.q (v := Value.int .i64 ((k : Nat) : Int)) (q_move hE4_0) ?_
          refine Wl.q (v := Value.pointer (some ⟨b, k, none⟩)) (q_idx (m := k) se_58 rfl rfl (by omega) (by omega) (by simp)) ?_
          refine Wl.q (v := Value.int .i64 v) (q_load sc_3 rfl (.cel (i := 0) rfl (by rw [List.getElem?_map, hget]; rfl))) ?_
          refine Wl.q (v := Value.int .i64 (acc + v)) (q_add (c := (acc + v)) rfl rfl (wrap_i64 (by omega) (by omega))) ?_
          refine Wl.q (v := Value.int .i64 (acc + v)) (q_assign rfl) ?_
          refine Wl.done ?_
          refine Wx.go ?_
          refine Wc.seq ?_
          refine Wc.region ?_
          refine Wl.q (v := Value.int .i64 (acc + v)) (q_move rfl) ?_
          by_cases h5 : (acc + v) > 262144
          ·
            refine Wl.q (v := Value.bool true) (q_gtr (r := true) rfl rfl (decide_eq_true h5)) ?_
            refine Wl.done ?_
            refine Wx.go ?_
            refine Wc.yes rfl ?_
            refine Wc.seq ?_
            refine Wc.region ?_
            refine Wl.q (v := Value.bool true) (q_assign rfl) ?_
            refine Wl.done ?_
            refine Wx.go ?_
            refine Wc.ret ?_
            refine Wx.blockRet ?_
            refine Wx.thenRet ?_
            refine Wx.thenRet ?_
            refine Wx.blockRet ?_
            refine Wx.thenRet ?_
            refine Wx.fin1 rfl (.inl rfl) (fun w hs => ?_)
            have e : beyondB ns = true := by rw [← hp0, beyond_step hget]; first | exact if_pos (.inl ‹_›) | exact if_pos (.inr ‹_›) | (rw [if_neg (by omega)]; exact if_pos ‹_›)
            exact ⟨(), trivial, by rw [e]; rfl, hs⟩
          ·
            refine Wl.q (v := Value.bool false) (q_gtr (r := false) rfl rfl (decide_eq_false h5)) ?_
            refine Wl.done ?_
            refine Wx.go ?_
            refine Wc.no rfl ?_
            refine Wc.skip ?_
            refine Wx.blockEnd ?_
            refine Wx.go ?_
            refine Wc.region ?_
            refine Wl.q (v := Value.int .i64 ((k : Nat) : Int)) (q_move hE4_0) ?_
            refine Wl.q (v := Value.int .i64 ((k + 1 : Nat) : Int)) (q_add (c := ((k + 1 : Nat) : Int)) rfl rfl (by rw [wrap_i64] <;> omega)) ?_
            refine Wl.q (v := Value.int .i64 ((k + 1 : Nat) : Int)) (q_assign rfl) ?_
            refine Wl.done ?_
            refine Wx.at (k + 1, acc + v) ⟨(by simp only; omega), rfl, rfl, hE0_0, (by rw [← hp0, beyond_step hget, if_neg (by omega), if_neg (by omega)]), (by omega), (by omega), (by omega)⟩ (fun w hs => hs)
    ·
      refine Wl.q (v := Value.bool false) (q_lss (r := false) rfl rfl (decide_eq_false hlt)) ?_
      refine Wl.done ?_
      refine Wx.go ?_
      refine Wc.no rfl ?_
      refine Wc.exit ?_
      refine Wx.thenExit ?_
      refine Wx.thenExit ?_
      refine Wx.out ?_
      refine Wx.go ?_
      refine Wc.seq ?_
      refine Wc.region ?_
      refine Wl.q (v := Value.bool false) (q_assign rfl) ?_
      refine Wl.done ?_
      refine Wx.go ?_
      refine Wc.ret ?_
      refine Wx.fin1 rfl (.inl rfl) (fun w hs => ?_)
      have hend : k = ns.length := by omega
      rw [hend, List.drop_length] at hp0
      exact ⟨(), trivial, by rw [← hp0]; rfl, hs⟩

theorem alive_c (W0 : World)  :
    Con Try.prog W0 12 #[] [] (X := Unit) (fun _ => True) (fun _ => .bool true) (fun _ => []) := by
  refine Con.of (args := []) Try.func12 rfl Try.ntmps12 rfl (fun F => ?_)
  show Wc _ W0 _ _ _ _ _ (F)
  refine Wc.seq ?_
  refine Wc.region ?_
  refine Wl.q (v := Value.bool false) (q_assign rfl) ?_
  refine Wl.done ?_
  refine Wx.go ?_
  refine Wc.seq ?_
  refine Wc.region ?_
  refine Wl.e (e_call (F := F) (args := [Value.int .i64 2]) Try.call10 rfl (new_ok W0 2 (by omega) (by omega))) (fun pp _ => ?_)
  refine Wl.imp (L' := (isDisk pp (DS.new 2)) :: F) (fun _ h => h) ?_
  refine Wl.q (v := Value.tuple #[Value.pointer (some ⟨pp, 0, none⟩), Value.int .i64 0]) (q_move rfl) ?_
  refine Wl.q (v := Value.pointer (some ⟨pp, 0, none⟩)) (q_extract (i := 0) rfl rfl) ?_
  refine Wl.q (v := Value.int .i64 0) (q_extract (i := 1) rfl rfl) ?_
  refine Wl.q (v := Value.pointer (some ⟨pp, 0, none⟩)) (q_assign rfl) ?_
  refine Wl.q (v := Value.int .i64 0) (q_assign rfl) ?_
  refine Wl.done ?_
  refine Wx.go ?_
  refine Wc.seq ?_
  refine Wc.seq ?_
  refine Wc.region ?_
  refine Wl.q (v := Value.int .i64 0) (q_move rfl) ?_
  refine Wl.q (v := Value.bool false) (q_neq (r := true) rfl rfl (decide_eq_true (by decide))) ?_
  refine Wl.q (v := Value.bool false) (q_move rfl) ?_
  refine Wl.q (v := Value.pointer (some ⟨pp, 0, none⟩)) (q_move rfl) ?_
  refine Wl.q (v := Value.bool false) (q_eql_nil (r := false) rfl rfl Try.underlying23 rfl) ?_
  refine Wl.q (v := Value.bool false) (q_pick (t := false) rfl rfl) ?_
  refine Wl.done ?_
  refine Wx.go ?_
  refine Wc.no rfl ?_
  refine Wc.skip ?_
  refine Wx.go ?_
  refine Wc.seq ?_
  refine Wc.region ?_
  refine Wl.q (v := Value.pointer (some ⟨pp, 0, none⟩)) (q_move rfl) ?_
  refine Wl.e (e_call (F := (isDisk pp (DS.new 2)) :: F) (args := [Value.int .u8 97, Value.int .i64 0]) Try.call21 rfl (filled_c W0 97 (by first | decide | assumption | omega) 0)) (fun _ _ => ?_)
  refine Wl.imp (L' := (isDisk pp (DS.new 2)) :: F) (fun _ h => h) ?_
  refine Wl.e (e_call (F := F) (args := [Value.pointer (some ⟨pp, 0, none⟩), Value.int .i64 0, Value.string (filled 97 0)]) Try.call13 rfl (Con.eqs (val' := fun _ => Value.int .i64 0) (post' := fun _ => [isDisk pp al1]) (write_c W0 pp (DS.new 2) 0 (filled 97 0) alwf0 (by decide) (by decide)) (fun _ => congrArg (Value.int .i64) alw1) (fun _ => rfl))) (fun _ _ => ?_)
  refine Wl.imp (L' := (isDisk pp al1) :: F) (fun _ h => h) ?_
  refine Wl.q (v := Value.int .i64 0) (q_assign rfl) ?_
  refine Wl.done ?_
  refine Wx.go ?_
  refine Wc.seq ?_
  refine Wc.region ?_
  refine Wl.q (v := Value.pointer (some ⟨pp, 0, none⟩)) (q_move rfl) ?_
  refine Wl.e (e_call (F := F) (args := [Value.pointer (some ⟨pp, 0, none⟩)]) Try.call18 rfl (Con.eqs (val' := fun _ => Value.int .i64 0) (post' := fun _ => [isDisk pp al2]) (sync_c W0 pp al1  alwf1 (by rw [als1]; decide) (by rw [alc1]; decide)) (fun _ => congrArg (Value.int .i64) alw2) (fun _ => rfl))) (fun _ _ => ?_)
  refine Wl.imp (L' := (isDisk pp al2) :: F) (fun _ h => h) ?_
  refine Wl.q (v := Value.int .i64 0) (q_assign rfl) ?_
  refine Wl.done ?_
  refine Wx.go ?_
  refine Wc.seq ?_
  refine Wc.region ?_
  refine Wl.q (v := Value.pointer (some ⟨pp, 0, none⟩)) (q_move rfl) ?_
  refine Wl.e (e_call (F := (isDisk pp al2) :: F) (args := [Value.int .u8 98, Value.int .i64 0]) Try.call21 rfl (filled_c W0 98 (by first | decide | assumption | omega) 0)) (fun _ _ => ?_)
  refine Wl.imp (L' := (isDisk pp al2) :: F) (fun _ h => h) ?_
  refine Wl.e (e_call (F := F) (args := [Value.pointer (some ⟨pp, 0, none⟩), Value.int .i64 0, Value.string (filled 98 0)]) Try.call13 rfl (Con.eqs (val' := fun _ => Value.int .i64 0) (post' := fun _ => [isDisk pp al3]) (write_c W0 pp al2 0 (filled 98 0) alwf2 (by rw [als2]; decide) (by rw [alc2]; decide)) (fun _ => congrArg (Value.int .i64) alw3) (fun _ => rfl))) (fun _ _ => ?_)
  refine Wl.imp (L' := (isDisk pp al3) :: F) (fun _ h => h) ?_
  refine Wl.q (v := Value.int .i64 0) (q_assign rfl) ?_
  refine Wl.done ?_
  refine Wx.go ?_
  refine Wc.seq ?_
  refine Wc.region ?_
  refine Wl.q (v := Value.pointer (some ⟨pp, 0, none⟩)) (q_move rfl) ?_
  refine Wl.e (e_call (F := F) (args := [Value.pointer (some ⟨pp, 0, none⟩), Value.int .i64 2]) Try.call14 rfl (Con.eqs (val' := fun _ => Value.int .i64 0) (post' := fun _ => [isDisk pp al4]) (crash_c W0 pp al3 2 alwf3) (fun _ => congrArg (Value.int .i64) alw4) (fun _ => rfl))) (fun _ _ => ?_)
  refine Wl.imp (L' := (isDisk pp al4) :: F) (fun _ h => h) ?_
  refine Wl.q (v := Value.int .i64 0) (q_assign rfl) ?_
  refine Wl.done ?_
  refine Wx.go ?_
  refine Wc.seq ?_
  refine Wc.region ?_
  refine Wl.q (v := Value.pointer (some ⟨pp, 0, none⟩)) (q_move rfl) ?_
  refine Wl.e (e_call (F := F) (args := [Value.pointer (some ⟨pp, 0, none⟩)]) Try.call15 rfl (Con.eqs (val' := fun _ => Value.int .i64 0) (post' := fun _ => [isDisk pp al5]) (start_c W0 pp al4 ) (fun _ => congrArg (Value.int .i64) alw5) (fun _ => rfl))) (fun _ _ => ?_)
  refine Wl.imp (L' := (isDisk pp al5) :: F) (fun _ h => h) ?_
  refine Wl.q (v := Value.int .i64 0) (q_assign rfl) ?_
  refine Wl.done ?_
  refine Wx.go ?_
  refine Wc.seq ?_
  refine Wc.region ?_
  refine Wl.q (v := Value.pointer (some ⟨pp, 0, none⟩)) (q_move rfl) ?_
  refine Wl.e (e_call (F := F) (args := [Value.pointer (some ⟨pp, 0, none⟩), Value.int .i64 0]) Try.call16 rfl (Con.eqs (val' := fun _ => Value.tuple #[Value.string alR, Value.int .i64 0]) (post' := fun _ => [isDisk pp al5]) (read_c W0 pp al5 0 (by rw [als5]; decide)) (fun _ => (by rw [alr])) (fun _ => rfl))) (fun _ _ => ?_)
  refine Wl.imp (L' := (isDisk pp al5) :: F) (fun _ h => h) ?_
  refine Wl.q (v := Value.tuple #[Value.string alR, Value.int .i64 0]) (q_move rfl) ?_
  refine Wl.q (v := Value.string alR) (q_extract (i := 0) rfl rfl) ?_
  refine Wl.q (v := Value.int .i64 0) (q_extract (i := 1) rfl rfl) ?_
  refine Wl.q (v := Value.string alR) (q_assign rfl) ?_
  refine Wl.q (v := Value.int .i64 0) (q_assign rfl) ?_
  refine Wl.done ?_
  refine Wx.go ?_
  refine Wc.seq ?_
  refine Wc.drawsS [24, 26, 33] ((isDisk pp al5) :: []) (by kernel_rfl) ?_
  refine Wr.pure (v := Value.int .i64 0) 0 rfl (by kernel_rfl) (.inr (fun _ h => st_take [0] h)) (.inl ⟨rfl, fun _ => q_move rfl⟩) ?_
  refine Wr.pure (v := Value.bool true) 1 rfl (by kernel_rfl) (.inr (fun _ h => st_take [0] h)) (.inl ⟨rfl, fun _ => q_eql (r := true) rfl rfl (decide_eq_true (by decide))⟩) ?_
  refine Wr.pure (v := Value.bool true) 2 rfl (by kernel_rfl) (.inr (fun _ h => st_take [0] h)) (.inl ⟨rfl, fun _ => q_move rfl⟩) ?_
  refine Wr.pure (v := Value.int .i64 0) 3 rfl (by kernel_rfl) (.inr (fun _ h => st_take [0] h)) (.inl ⟨rfl, fun _ => q_move rfl⟩) ?_
  refine Wr.pure (v := Value.bool true) 4 rfl (by kernel_rfl) (.inr (fun _ h => st_take [0] h)) (.inl ⟨rfl, fun _ => q_eql (r := true) rfl rfl (decide_eq_true (by decide))⟩) ?_
  refine Wr.pure (v := Value.bool true) 5 rfl (by kernel_rfl) (.inr (fun _ h => st_take [0] h)) (.inl ⟨rfl, fun _ => q_pick (t := true) rfl rfl⟩) ?_
  refine Wr.pure (v := Value.bool true) 6 rfl (by kernel_rfl) (.inr (fun _ h => st_take [0] h)) (.inl ⟨rfl, fun _ => q_move rfl⟩) ?_
  refine Wr.pure (v := Value.int .i64 0) 7 rfl (by kernel_rfl) (.inr (fun _ h => st_take [0] h)) (.inl ⟨rfl, fun _ => q_move rfl⟩) ?_
  refine Wr.pure (v := Value.bool true) 8 rfl (by kernel_rfl) (.inr (fun _ h => st_take [0] h)) (.inl ⟨rfl, fun _ => q_eql (r := true) rfl rfl (decide_eq_true (by decide))⟩) ?_
  refine Wr.pure (v := Value.bool true) 9 rfl (by kernel_rfl) (.inr (fun _ h => st_take [0] h)) (.inl ⟨rfl, fun _ => q_pick (t := true) rfl rfl⟩) ?_
  refine Wr.pure (v := Value.bool true) 10 rfl (by kernel_rfl) (.inr (fun _ h => st_take [0] h)) (.inl ⟨rfl, fun _ => q_move rfl⟩) ?_
  refine Wr.pure (v := Value.int .i64 0) 11 rfl (by kernel_rfl) (.inr (fun _ h => st_take [0] h)) (.inl ⟨rfl, fun _ => q_move rfl⟩) ?_
  refine Wr.pure (v := Value.bool true) 12 rfl (by kernel_rfl) (.inr (fun _ h => st_take [0] h)) (.inl ⟨rfl, fun _ => q_eql (r := true) rfl rfl (decide_eq_true (by decide))⟩) ?_
  refine Wr.pure (v := Value.bool true) 13 rfl (by kernel_rfl) (.inr (fun _ h => st_take [0] h)) (.inl ⟨rfl, fun _ => q_pick (t := true) rfl rfl⟩) ?_
  refine Wr.pure (v := Value.bool true) 14 rfl (by kernel_rfl) (.inr (fun _ h => st_take [0] h)) (.inl ⟨rfl, fun _ => q_move rfl⟩) ?_
  refine Wr.pure (v := Value.int .i64 0) 15 rfl (by kernel_rfl) (.inr (fun _ h => st_take [0] h)) (.inl ⟨rfl, fun _ => q_move rfl⟩) ?_
  refine Wr.pure (v := Value.bool true) 16 rfl (by kernel_rfl) (.inr (fun _ h => st_take [0] h)) (.inl ⟨rfl, fun _ => q_eql (r := true) rfl rfl (decide_eq_true (by decide))⟩) ?_
  refine Wr.pure (v := Value.bool true) 17 rfl (by kernel_rfl) (.inr (fun _ h => st_take [0] h)) (.inl ⟨rfl, fun _ => q_pick (t := true) rfl rfl⟩) ?_
  refine Wr.pure (v := Value.bool true) 18 rfl (by kernel_rfl) (.inr (fun _ h => st_take [0] h)) (.inl ⟨rfl, fun _ => q_move rfl⟩) ?_
  refine Wr.pure (v := Value.int .i64 0) 19 rfl (by kernel_rfl) (.inr (fun _ h => st_take [0] h)) (.inl ⟨rfl, fun _ => q_move rfl⟩) ?_
  refine Wr.pure (v := Value.bool true) 20 rfl (by kernel_rfl) (.inr (fun _ h => st_take [0] h)) (.inl ⟨rfl, fun _ => q_eql (r := true) rfl rfl (decide_eq_true (by decide))⟩) ?_
  refine Wr.pure (v := Value.bool true) 21 rfl (by kernel_rfl) (.inr (fun _ h => st_take [0] h)) (.inl ⟨rfl, fun _ => q_pick (t := true) rfl rfl⟩) ?_
  refine Wr.pure (v := Value.bool true) 22 rfl (by kernel_rfl) (.inr (fun _ h => st_take [0] h)) (.inl ⟨rfl, fun _ => q_move rfl⟩) ?_
  refine Wr.pure (v := Value.string alR) 23 rfl (by kernel_rfl) (.inr (fun _ h => st_take [0] h)) (.inl ⟨rfl, fun _ => q_move rfl⟩) ?_
  refine Wr.e 24 (by kernel_rfl) rfl (e_call (F := (isDisk pp al5) :: F) (args := [Value.int .u8 98, Value.int .i64 0]) Try.call21 rfl (filled_c W0 98 (by first | decide | assumption | omega) 0)) (.inl (by kernel_rfl)) (fun _ _ => ?_)
  refine Wr.imp (L' := (isDisk pp al5) :: F) (fun _ h => h) ?_
  refine Wr.rebaseS [26, 33] ((isDisk pp al5) :: []) (by kernel_rfl) ?_
  refine Wr.pure (v := Value.string ((filled 98 0).extract 0 32)) 25 rfl (by kernel_rfl) (.inr (fun _ h => st_take [0] h)) (.inl ⟨rfl, fun _ => q_slice_str (l := 0) (h := 32) Try.underlying9 rfl rfl ⟨_, rfl⟩ (by omega) (by rw [alsz]; omega) rfl⟩) ?_
  refine Wr.e 26 (by kernel_rfl) rfl (e_call (F := (isDisk pp al5) :: F) (args := [Value.int .u8 97, Value.int .i64 0]) Try.call21 rfl (filled_c W0 97 (by first | decide | assumption | omega) 0)) (.inl (by kernel_rfl)) (fun _ _ => ?_)
  refine Wr.imp (L' := (isDisk pp al5) :: F) (fun _ h => h) ?_
  refine Wr.rebaseS [33] ((isDisk pp al5) :: []) (by kernel_rfl) ?_
  refine Wr.pure (v := Value.string ((filled 97 0).extract 32 ((filled 97 0).size))) 27 rfl (by kernel_rfl) (.inr (fun _ h => st_take [0] h)) (.inl ⟨rfl, fun _ => q_slice_str (l := 32) (h := (filled 97 0).size) Try.underlying9 rfl ⟨_, rfl⟩ rfl (by rw [alsz]; omega) (by omega) rfl⟩) ?_
  refine Wr.pure (v := Value.string (((filled 98 0).extract 0 32) ++ ((filled 97 0).extract 32 ((filled 97 0).size)))) 28 rfl (by kernel_rfl) (.inr (fun _ h => st_take [0] h)) (.inl ⟨rfl, fun _ => q_cat rfl rfl (by simp only [ByteArray.size_extract, alsz]; omega) rfl⟩) ?_
  refine Wr.pure (v := Value.bool true) 29 rfl (by kernel_rfl) (.inr (fun _ h => st_take [0] h)) (.inl ⟨rfl, fun _ => q_eql_str (r := true) rfl rfl (text_true (rfl))⟩) ?_
  refine Wr.pure (v := Value.bool true) 30 rfl (by kernel_rfl) (.inr (fun _ h => st_take [0] h)) (.inl ⟨rfl, fun _ => q_pick (t := true) rfl rfl⟩) ?_
  refine Wr.pure (v := Value.bool true) 31 rfl (by kernel_rfl) (.inr (fun _ h => st_take [0] h)) (.inl ⟨rfl, fun _ => q_move rfl⟩) ?_
  refine Wr.pure (v := Value.pointer (some ⟨pp, 0, none⟩)) 32 rfl (by kernel_rfl) (.inr (fun _ h => st_take [0] h)) (.inl ⟨rfl, fun _ => q_move rfl⟩) ?_
  refine Wr.e 33 (by kernel_rfl) rfl (e_call (F := F) (args := [Value.pointer (some ⟨pp, 0, none⟩)]) Try.call23 rfl (count_c W0 pp al5 )) (.inl (by kernel_rfl)) (fun _ _ => ?_)
  refine Wr.imp (L' := (isDisk pp al5) :: F) (fun _ h => h) ?_
  refine Wr.rebaseS [] ((isDisk pp al5) :: []) (by kernel_rfl) ?_
  refine Wr.pure (v := Value.bool true) 34 rfl (by kernel_rfl) (.inr (fun _ h => st_take [0] h)) (.inl ⟨rfl, fun _ => q_eql (r := true) rfl rfl (decide_eq_true (by rw [alc5]; rfl))⟩) ?_
  refine Wr.pure (v := Value.bool true) 35 rfl (by kernel_rfl) (.inr (fun _ h => st_take [0] h)) (.inl ⟨rfl, fun _ => q_pick (t := true) rfl rfl⟩) ?_
  refine Wr.pure (v := Value.bool true) 36 rfl (by kernel_rfl) (.inr (fun _ h => st_take [0] h)) (.inl ⟨rfl, fun _ => q_assign rfl⟩) ?_
  refine Wr.done (by kernel_rfl) ?_
  refine Wx.go ?_
  refine Wc.ret ?_
  refine Wx.fin1 rfl (.inl rfl) (fun w hs => ?_)
  exact ⟨(), trivial, rfl, st_drop hs⟩

end Go.Proofs.Ytbnglfbfgannhaa
