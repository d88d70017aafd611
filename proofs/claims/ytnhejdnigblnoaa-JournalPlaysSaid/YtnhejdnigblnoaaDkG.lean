/- Contracts of the calls. -/
import Derived.Test.YtnhejdnigblnoaaDkF
import Derived.Test.YtnhejdnigblnoaaDkL
namespace Go.Proofs.Ytnhejdnigblnoaa
open Go Go.SL Go.Dk Go.RowKit
set_option linter.unusedVariables false
set_option maxRecDepth 8000
theorem se_72 : sliceElem Try.prog 72 = some (3, 1) := by kernel_rfl
theorem beyond_c (W0 : World) (b : Nat) (ns : List Int) (hns : ns.length < 1000) (hwf : ∀ x ∈ ns, -9223372036854775808 ≤ x ∧ x ≤ 9223372036854775807) :
    Con Try.prog W0 20 #[Value.slice (some ⟨b, 0, none⟩) ns.length ns.length] [pt b 3 (ns.map (Value.int .i64))] (X := Unit) (fun _ => True) (fun _ => .bool (beyondB ns)) (fun _ => [pt b 3 (ns.map (Value.int .i64))]) := by
  refine Con.of (args := [Value.slice (some ⟨b, 0, none⟩) ns.length ns.length]) Try.func20 rfl Try.ntmps20 rfl (fun F => ?_)
  show Wc _ W0 _ _ _ _ _ ((pt b 3 (ns.map (Value.int .i64))) :: F)
  refine Wc.seq ?_
  refine Wc.region ?_
  refine Wl.q (v := Value.bool false) (q_assign rfl) ?_
  refine Wl.done ?_
  refine Wx.go ?_
  refine Wc.seq ?_
  refine Wc.region ?_
  refine Wl.q (v := Value.int .i64 0) (q_assign rfl) ?_
  refine Wl.done ?_
  refine Wx.go ?_
  refine Wc.seq ?_
  refine Wc.seq ?_
  refine Wc.region ?_
  refine Wl.q (v := Value.int .i64 0) (q_assign rfl) ?_
  refine Wl.done ?_
  refine Wx.go ?_
  refine Wc.block ?_
  refine Wc.loop (X := Nat × Int) (fun (k, acc) E => E 4 = Value.int .i64 ((k : Nat) : Int) ∧ E 3 = Value.int .i64 acc ∧ E 0 = Value.slice (some ⟨b, 0, none⟩) ns.length ns.length ∧ beyondF acc (ns.drop k) = beyondB ns ∧ 0 ≤ acc ∧ acc ≤ 262144 ∧ k ≤ ns.length) (fun (k, acc) => (pt b 3 (ns.map (Value.int .i64))) :: F) (fun (k, acc) => ns.length - k) (0, 0) ?_ ?_ ?_
  · exact ⟨rfl, rfl, rfl, rfl, (by omega), (by omega), (by omega)⟩
  · exact fun w hs => hs
  · rintro ⟨k, acc⟩ E2 ⟨hE4_0, hE3_0, hE0_0, hp0, hp1, hp2, hp3⟩
    dsimp only at *
    refine Wc.seq ?_
    refine Wc.seq ?_
    refine Wc.region ?_
    refine Wl.q (v := Value.int .i64 ((k : Nat) : Int)) (q_move hE4_0) ?_
    refine Wl.q (v := Value.slice (some ⟨b, 0, none⟩) ns.length ns.length) (q_move hE0_0) ?_
    refine Wl.q (v := Value.int .i64 ((ns.length : Nat) : Int)) (q_len_slice Try.underlying72 rfl) ?_
    by_cases hlt : ((k : Nat) : Int) < ((ns.length : Nat) : Int)
    ·
      obtain ⟨v, hget⟩ : ∃ q, ns[k]? = some q := ⟨ns[k]'(by omega), by simp [List.getElem?_eq_getElem (show k < ns.length by omega)]⟩
      refine Wl.q (v := Value.bool true) (q_lss (r := true) rfl rfl (decide_eq_true hlt)) ?_
      refine Wl.done ?_
      refine Wx.go ?_
      refine Wc.yes rfl ?_
      refine Wc.skip ?_
      refine Wx.go ?_
      refine Wc.seq ?_
      refine Wc.block ?_
      refine Wc.seq ?_
      refine Wc.seq ?_
      refine Wc.region ?_
      refine Wl.q (v := Value.slice (some ⟨b, 0, none⟩) ns.length ns.length) (q_move hE0_0) ?_
      refine Wl.q (v := Value.int .i64 ((k : Nat) : Int)) (q_move hE4_0) ?_
      refine Wl.q (v := Value.pointer (some ⟨b, k, none⟩)) (q_idx (m := k) se_72 rfl rfl (by omega) (by omega) (by simp)) ?_
      refine Wl.q (v := Value.int .i64 v) (q_load sc_3 rfl (.cel (i := 0) rfl (by rw [List.getElem?_map, hget]; rfl))) ?_
      by_cases h3 : v < 0
      ·
        refine Wl.q (v := Value.bool true) (q_lss (r := true) rfl rfl (decide_eq_true h3)) ?_
        refine Wl.q (v := Value.bool true) (q_move rfl) ?_
        refine Wl.no ?_
        refine Wl.no ?_
        refine Wl.no ?_
        refine Wl.no ?_
        refine Wl.no ?_
        refine Wl.q (v := Value.bool true) (q_pick (t := true) rfl rfl) ?_
        refine Wl.done ?_
        refine Wx.go ?_
        refine Wc.yes rfl ?_
        refine Wc.seq ?_
        refine Wc.region ?_
        refine Wl.q (v := Value.bool true) (q_assign rfl) ?_
        refine Wl.done ?_
        refine Wx.go ?_
        refine Wc.ret ?_
        refine Wx.thenRet ?_
        refine Wx.blockRet ?_
        refine Wx.thenRet ?_
        refine Wx.thenRet ?_
        refine Wx.blockRet ?_
        refine Wx.thenRet ?_
        refine Wx.fin1 rfl (.inl rfl) (fun w hs => ?_)
        have e : beyondB ns = true := by rw [← hp0, beyond_step hget]; first | exact if_pos (.inl ‹_›) | exact if_pos (.inr ‹_›) | (rw [if_neg (by omega)]; exact if_pos ‹_›)
        exact ⟨(), trivial, by rw [e]; rfl, hs⟩
      ·
        refine Wl.q (v := Value.bool false) (q_lss (r := false) rfl rfl (decide_eq_false h3)) ?_
        refine Wl.q (v := Value.bool false) (q_move rfl) ?_
        refine Wl.q (v := Value.slice (some ⟨b, 0, none⟩) ns.length ns.length) (q_move hE0_0) ?_
        refine Wl.q (v := Value.int .i64 ((k : Nat) : Int)) (q_move hE4_0) ?_
        refine Wl.q (v := Value.pointer (some ⟨b, k, none⟩)) (q_idx (m := k) se_72 rfl rfl (by omega) (by omega) (by simp)) ?_
        refine Wl.q (v := Value.int .i64 v) (q_load sc_3 rfl (.cel (i := 0) rfl (by rw [List.getElem?_map, hget]; rfl))) ?_
        by_cases h4 : v > 262144
        ·
          refine Wl.q (v := Value.bool true) (q_gtr (r := true) rfl rfl (decide_eq_true h4)) ?_
          refine Wl.q (v := Value.bool true) (q_pick (t := false) rfl rfl) ?_
          refine Wl.done ?_
          refine Wx.go ?_
          refine Wc.yes rfl ?_
          refine Wc.seq ?_
          refine Wc.region ?_
          refine Wl.q (v := Value.bool true) (q_assign rfl) ?_
          refine Wl.done ?_
          refine Wx.go ?_
          refine Wc.ret ?_
          refine Wx.thenRet ?_
          refine Wx.blockRet ?_
          refine Wx.thenRet ?_
          refine Wx.thenRet ?_
          refine Wx.blockRet ?_
          refine Wx.thenRet ?_
          refine Wx.fin1 rfl (.inl rfl) (fun w hs => ?_)
          have e : beyondB ns = true := by rw [← hp0, beyond_step hget]; first | exact if_pos (.inl ‹_›) | exact if_pos (.inr ‹_›) | (rw [if_neg (by omega)]; exact if_pos ‹_›)
          exact ⟨(), trivial, by rw [e]; rfl, hs⟩
        ·
          refine Wl.q (v := Value.bool false) (q_gtr (r := false) rfl rfl (decide_eq_false h4)) ?_
          refine Wl.q (v := Value.bool false) (q_pick (t := false) rfl rfl) ?_
          refine Wl.done ?_
          refine Wx.go ?_
          refine Wc.no rfl ?_
          refine Wc.skip ?_
          refine Wx.go ?_
          refine Wc.seq ?_
          refine Wc.region ?_
          refine Wl.q (v := Value.int .i64 acc) (q_move hE3_0) ?_
          refine Wl.q (v := Value.slice (some ⟨b, 0, none⟩) ns.length ns.length) (q_move hE0_0) ?_
          refine Wl.q (v := Value.int .i64 ((k : Nat) : Int)) (q_move hE4_0) ?_
          refine Wl.q (v := Value.pointer (some ⟨b, k, none⟩)) (q_idx (m := k) se_72 rfl rfl (by omega) (by omega) (by simp)) ?_
          refine Wl.q (v := Value.int .i64 v) (q_load sc_3 rfl (.cel (i := 0) rfl (by rw [List.getElem?_map, hget]; rfl))) ?_
          refine Wl.q (v := Value.int .i64 (acc + v)) (q_add (c := (acc + v)) rfl rfl (wrap_i64 (by omega) (by omega))) ?_
          refine Wl.q (v := Value.int .i64 (acc + v)) (q_assign rfl) ?_
          refine Wl.done ?_
          refine Wx.go ?_
          refine Wc.seq ?_
          refine Wc.region ?_
          refine Wl.q (v := Value.int .i64 (acc + v)) (q_move rfl) ?_
          by_cases h5 : (acc + v) > 262144
          ·
            refine Wl.q (v := Value.bool true) (q_gtr (r := true) rfl rfl (decide_eq_true h5)) ?_
            refine Wl.done ?_
            refine Wx.go ?_
            refine Wc.yes rfl ?_
            refine Wc.seq ?_
            refine Wc.region ?_
            refine Wl.q (v := Value.bool true) (q_assign rfl) ?_
            refine Wl.done ?_
            refine Wx.go ?_
            refine Wc.ret ?_
            refine Wx.blockRet ?_
            refine Wx.thenRet ?_
            refine Wx.thenRet ?_
            refine Wx.blockRet ?_
            refine Wx.thenRet ?_
            refine Wx.fin1 rfl (.inl rfl) (fun w hs => ?_)
            have e : beyondB ns = true := by rw [← hp0, beyond_step hget]; first | exact if_pos (.inl ‹_›) | exact if_pos (.inr ‹_›) | (rw [if_neg (by omega)]; exact if_pos ‹_›)
            exact ⟨(), trivial, by rw [e]; rfl, hs⟩
          ·
            refine Wl.q (v := Value.bool false) (q_gtr (r := false) rfl rfl (decide_eq_false h5)) ?_
            refine Wl.done ?_
            refine Wx.go ?_
            refine Wc.no rfl ?_
            refine Wc.skip ?_
            refine Wx.blockEnd ?_
            refine Wx.go ?_
            refine Wc.region ?_
            refine Wl.q (v := Value.int .i64 ((k : Nat) : Int)) (q_move hE4_0) ?_
            refine Wl.q (v := Value.int .i64 ((k + 1 : Nat) : Int)) (q_add (c := ((k + 1 : Nat) : Int)) rfl rfl (by rw [wrap_i64] <;> omega)) ?_
            refine Wl.q (v := Value.int .i64 ((k + 1 : Nat) : Int)) (q_assign rfl) ?_
            refine Wl.done ?_
            refine Wx.at (k + 1, acc + v) ⟨(by simp only; omega), rfl, rfl, hE0_0, (by rw [← hp0, beyond_step hget, if_neg (by omega), if_neg (by omega)]), (by omega), (by omega), (by omega)⟩ (fun w hs => hs)
    ·
      refine Wl.q (v := Value.bool false) (q_lss (r := false) rfl rfl (decide_eq_false hlt)) ?_
      refine Wl.done ?_
      refine Wx.go ?_
      refine Wc.no rfl ?_
      refine Wc.exit ?_
      refine Wx.thenExit ?_
      refine Wx.thenExit ?_
      refine Wx.out ?_
      refine Wx.go ?_
      refine Wc.seq ?_
      refine Wc.region ?_
      refine Wl.q (v := Value.bool false) (q_assign rfl) ?_
      refine Wl.done ?_
      refine Wx.go ?_
      refine Wc.ret ?_
      refine Wx.fin1 rfl (.inl rfl) (fun w hs => ?_)
      have hend : k = ns.length := by omega
      rw [hend, List.drop_length] at hp0
      exact ⟨(), trivial, by rw [← hp0]; rfl, hs⟩

end Go.Proofs.Ytnhejdnigblnoaa
