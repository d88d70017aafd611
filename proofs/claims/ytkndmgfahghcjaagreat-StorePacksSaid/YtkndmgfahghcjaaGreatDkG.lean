import Derived.Test.YtkndmgfahghcjaaGreatDkF
import Derived.Test.YtkndmgfahghcjaaGreatDkL
/- Contracts of the calls. -/
namespace Go.Proofs.YtkndmgfahghcjaaGreat
open Go Go.SL Go.Dk Go.RowKit
set_option linter.unusedVariables false
set_option maxRecDepth 8000
theorem se_58 : sliceElem Tryz.prog 58 = some (3, 1) := by kernel_rfl
theorem beyond_c (W0 : World) (b : Nat) (ns : List Int) (hns : ns.length < 1000) (hwf : ∀ x ∈ ns, -9223372036854775808 ≤ x ∧ x ≤ 9223372036854775807) :
    Con Tryz.prog W0 10 #[Value.slice (some ⟨b, 0, none⟩) ns.length ns.length] [pt b 3 (ns.map (Value.int .i64))] (X := Unit) (fun _ => True) (fun _ => .bool (beyondB ns)) (fun _ => [pt b 3 (ns.map (Value.int .i64))]) := by
  refine Con.of (args := [Value.slice (some ⟨b, 0, none⟩) ns.length ns.length]) Tryz.func10 rfl Tryz.ntmps10 rfl (fun F => ?_)
  show Wc _ W0 _ _ _ _ _ ((pt b 3 (ns.map (Value.int .i64))) :: F)
  refine Wc.seq (Wc.region (Wl.q (v := Value.bool false) (q_assign rfl) (Wl.done (Wx.go (Wc.seq (Wc.region (Wl.q (v := Value.int .i64 0) (q_assign rfl) (Wl.done (Wx.go (Wc.seq (Wc.seq ?_)))))))))))
  refine Wc.region (Wl.q (v := Value.int .i64 0) (q_assign rfl) (Wl.done (Wx.go (Wc.block ?_))))
  refine Wc.loop (X := Nat × Int) (fun (k, acc) E => E 4 = Value.int .i64 ((k : Nat) : Int) ∧ E 3 = Value.int .i64 acc ∧ E 0 = Value.slice (some ⟨b, 0, none⟩) ns.length ns.length ∧ beyondF acc (ns.drop k) = beyondB ns ∧ 0 ≤ acc ∧ acc ≤ 262144 ∧ k ≤ ns.length) (fun (k, acc) => (pt b 3 (ns.map (Value.int .i64))) :: F) (fun (k, acc) => ns.length - k) (0, 0) ?_ ?_ ?_
  · exact ⟨rfl, rfl, rfl, rfl, (by omega), (by omega), (by omega)⟩
  · exact fun w hs => hs
  · rintro ⟨k, acc⟩ E2 ⟨hE4_0, hE3_0, hE0_0, hp0, hp1, hp2, hp3⟩
    dsimp only at *
    refine Wc.seq (Wc.seq (Wc.region (Wl.q (v := Value.int .i64 ((k : Nat) : Int)) (q_move hE4_0) (Wl.q (v := Value.slice (some ⟨b, 0, none⟩) ns.length ns.length) (q_move hE0_0) (Wl.q (v := Value.int .i64 ((ns.length : Nat) : Int)) (q_len_slice Tryz.underlying58 rfl) ?_)))))
    by_cases hlt : ((k : Nat) : Int) < ((ns.length : Nat) : Int)
    ·
      obtain ⟨v, hget⟩ : ∃ q, ns[k]? = some q := ⟨ns[k]'(by omega), by simp [List.getElem?_eq_getElem (show k < ns.length by omega)]⟩
      refine Wl.q (v := Value.bool true) (q_lss (r := true) rfl rfl (decide_eq_true hlt)) (Wl.done (Wx.go (Wc.yes rfl (Wc.skip (Wx.go (Wc.seq (Wc.block (Wc.seq (Wc.seq (Wc.region (Wl.q (v := Value.slice (some ⟨b, 0, none⟩) ns.length ns.length) (q_move hE0_0) ?_)))))))))))
      refine Wl.q (v := Value.int .i64 ((k : Nat) : Int)) (q_move hE4_0) (Wl.q (v := Value.pointer (some ⟨b, k, none⟩)) (q_idx (m := k) se_58 rfl rfl (by omega) (by omega) (by simp)) ?_)
      refine Wl.q (v := Value.int .i64 v) (q_load sc_3 rfl (.cel (i := 0) rfl (by rw [List.getElem?_map, hget]; rfl))) ?_
      by_cases h3 : v < 0
      ·
        refine Wl.q (v := Value.bool true) (q_lss (r := true) rfl rfl (decide_eq_true h3)) (Wl.q (v := Value.bool true) (q_move rfl) (Wl.no (Wl.no (Wl.no (Wl.no (Wl.no (Wl.q (v := Value.bool true) (q_pick (t := true) rfl rfl) (Wl.done (Wx.go (Wc.yes rfl (Wc.seq ?_)))))))))))
        refine Wc.region (Wl.q (v := Value.bool true) (q_assign rfl) (Wl.done (Wx.go (Wc.ret (Wx.thenRet (Wx.blockRet (Wx.thenRet (Wx.thenRet (Wx.blockRet (Wx.thenRet (Wx.fin1 rfl (.inl rfl) (fun w hs => ?_))))))))))))
        have e : beyondB ns = true := by rw [← hp0, beyond_step hget]; first | exact if_pos (.inl ‹_›) | exact if_pos (.inr ‹_›) | (rw [if_neg (by omega)]; exact if_pos ‹_›)
        exact ⟨(), trivial, by rw [e]; rfl, hs⟩
      ·
        refine Wl.q (v := Value.bool false) (q_lss (r := false) rfl rfl (decide_eq_false h3)) (Wl.q (v := Value.bool false) (q_move rfl) (Wl.q (v := Value.slice (some ⟨b, 0, none⟩) ns.length ns.length) (q_move hE0_0) (Wl.q (v := Value.int .i64 ((k : Nat) : Int)) (q_move hE4_0) (Wl.q (v := Value.pointer (some ⟨b, k, none⟩)) (q_idx (m := k) se_58 rfl rfl (by omega) (by omega) (by simp)) ?_))))
        refine Wl.q (v := Value.int .i64 v) (q_load sc_3 rfl (.cel (i := 0) rfl (by rw [List.getElem?_map, hget]; rfl))) ?_
        by_cases h4 : v > 262144
        ·
          refine Wl.q (v := Value.bool true) (q_gtr (r := true) rfl rfl (decide_eq_true h4)) (Wl.q (v := Value.bool true) (q_pick (t := false) rfl rfl) (Wl.done (Wx.go (Wc.yes rfl (Wc.seq (Wc.region (Wl.q (v := Value.bool true) (q_assign rfl) (Wl.done (Wx.go (Wc.ret (Wx.thenRet ?_)))))))))))
          refine Wx.blockRet (Wx.thenRet (Wx.thenRet (Wx.blockRet (Wx.thenRet (Wx.fin1 rfl (.inl rfl) (fun w hs => ?_))))))
          have e : beyondB ns = true := by rw [← hp0, beyond_step hget]; first | exact if_pos (.inl ‹_›) | exact if_pos (.inr ‹_›) | (rw [if_neg (by omega)]; exact if_pos ‹_›)
          exact ⟨(), trivial, by rw [e]; rfl, hs⟩
        ·
          refine Wl.q (v := Value.bool false) (q_gtr (r := false) rfl rfl (decide_eq_false h4)) (Wl.q (v := Value.bool false) (q_pick (t := false) rfl rfl) (Wl.done (Wx.go (Wc.no rfl (Wc.skip (Wx.go (Wc.seq (Wc.region (Wl.q (v := Value.int .i64 acc) (q_move hE3_0) (Wl.q (v := Value.slice (some ⟨b, 0, none⟩) ns.length ns.length) (q_move hE0_0) (Wl.q (v := Value.int .i64 ((k : Nat) : Int)) (q_move hE4_0) ?_)))))))))))
          refine Wl.q (v := Value.pointer (some ⟨b, k, none⟩)) (q_idx (m := k) se_58 rfl rfl (by omega) (by omega) (by simp)) ?_
          refine Wl.q (v := Value.int .i64 v) (q_load sc_3 rfl (.cel (i := 0) rfl (by rw [List.getElem?_map, hget]; rfl))) ?_
          refine Wl.q (v := Value.int .i64 (acc + v)) (q_add (c := (acc + v)) rfl rfl (wrap_i64 (by omega) (by omega))) (Wl.q (v := Value.int .i64 (acc + v)) (q_assign rfl) (Wl.done (Wx.go (Wc.seq (Wc.region (Wl.q (v := Value.int .i64 (acc + v)) (q_move rfl) ?_))))))
          by_cases h5 : (acc + v) > 262144
          ·
            refine Wl.q (v := Value.bool true) (q_gtr (r := true) rfl rfl (decide_eq_true h5)) (Wl.done (Wx.go (Wc.yes rfl (Wc.seq (Wc.region (Wl.q (v := Value.bool true) (q_assign rfl) (Wl.done (Wx.go (Wc.ret (Wx.blockRet (Wx.thenRet ?_)))))))))))
            refine Wx.thenRet (Wx.blockRet (Wx.thenRet (Wx.fin1 rfl (.inl rfl) (fun w hs => ?_))))
            have e : beyondB ns = true := by rw [← hp0, beyond_step hget]; first | exact if_pos (.inl ‹_›) | exact if_pos (.inr ‹_›) | (rw [if_neg (by omega)]; exact if_pos ‹_›)
            exact ⟨(), trivial, by rw [e]; rfl, hs⟩
          ·
            refine Wl.q (v := Value.bool false) (q_gtr (r := false) rfl rfl (decide_eq_false h5)) (Wl.done (Wx.go (Wc.no rfl (Wc.skip (Wx.blockEnd (Wx.go (Wc.region (Wl.q (v := Value.int .i64 ((k : Nat) : Int)) (q_move hE4_0) (Wl.q (v := Value.int .i64 ((k + 1 : Nat) : Int)) (q_add (c := ((k + 1 : Nat) : Int)) rfl rfl (by rw [wrap_i64] <;> omega)) (Wl.q (v := Value.int .i64 ((k + 1 : Nat) : Int)) (q_assign rfl) (Wl.done ?_)))))))))))
            refine Wx.at (k + 1, acc + v) ⟨(by simp only; omega), rfl, rfl, hE0_0, (by rw [← hp0, beyond_step hget, if_neg (by omega), if_neg (by omega)]), (by omega), (by omega), (by omega)⟩ (fun w hs => hs)
    ·
      refine Wl.q (v := Value.bool false) (q_lss (r := false) rfl rfl (decide_eq_false hlt)) (Wl.done (Wx.go (Wc.no rfl (Wc.exit (Wx.thenExit (Wx.thenExit (Wx.out (Wx.go (Wc.seq (Wc.region (Wl.q (v := Value.bool false) (q_assign rfl) ?_)))))))))))
      refine Wl.done (Wx.go (Wc.ret (Wx.fin1 rfl (.inl rfl) (fun w hs => ?_))))
      have hend : k = ns.length := by omega
      rw [hend, List.drop_length] at hp0
      exact ⟨(), trivial, by rw [← hp0]; rfl, hs⟩

end Go.Proofs.YtkndmgfahghcjaaGreat

