/- A part of the proof. -/
import Derived.Test.YtjnejkdamhefgaaGreatDoorWrC
namespace Go.Proofs.YtjnejkdamhefgaaGreatDoor
open Tryz
open Go Go.SL Go.Wr Go.RowKit
open Go.Dk (beyondF beyondB beyond_step beyond_le beyond_one beyond_two)
set_option linter.unusedVariables false
set_option maxRecDepth 8000
theorem fo_438_2 : fieldOff prog 438 2 = some 2 := by kernel_rfl
theorem fo_438_1 : fieldOff prog 438 1 = some 1 := by kernel_rfl
theorem sc_145 : scalar prog 145 = true := by kernel_rfl
theorem fo_438_0 : fieldOff prog 438 0 = some 0 := by kernel_rfl
theorem zo_3 : zeroOf prog 3 = some (Value.int .i64 0) := by kernel_rfl
theorem form_t (W0 : World)  :
  Con1 prog W0 270 #[Vt] [] (.int .i64 0) [] := by
 refine Con.of func270 rfl ntmps270 rfl (fun F => ?_)
 refine Wc.a 1 rfl (Wc.seq (Wc.a 1 rfl (Wc.yes rfl (Wc.a 1 rfl (Wc.ret (Wx.thenRet (Wx.f1 rfl (fun w hs => ?_))))))))
 exact ⟨(), trivial, rfl, hs⟩
theorem form_f (W0 : World)  :
  Con1 prog W0 270 #[Vf] [] (.int .i64 4) [] := by
 refine Con.of func270 rfl ntmps270 rfl (fun F => ?_)
 refine Wc.a 1 rfl (Wc.seq (Wc.a 1 rfl (Wc.no rfl (Wc.skip (Wx.go (Wc.a 1 rfl (Wc.ret (Wx.f1 rfl (fun w hs => ?_)))))))))
 exact ⟨(), trivial, rfl, hs⟩
theorem next_end (W0 : World) (r : Nat) (s : ByteArray) :
  Con1 prog W0 288 #[Vp r] [pt r 438 [Vt, Vs s, Vi ((s.size : Nat) : Int)]] (.tuple #[.int .u8 0, .bool false]) [pt r 438 [Vt, Vs s, Vi ((s.size : Nat) : Int)]] := by
 refine Con.of func288 rfl ntmps288 rfl (fun F => ?_)
 show Wc _ W0 _ _ _ _ _ ((pt r 438 [Vt, Vs s, Vi ((s.size : Nat) : Int)]) :: F)
 refine Wc.a 2 rfl (Wc.seq (Wc.seq (Wc.drawsS [] ((pt r 438 [Vt, Vs s, Vi ((s.size : Nat) : Int)]) :: []) (by kernel_rfl) (Wr.p 0 oo1 rfl (q_move rfl) (Wr.p 1 oo1 rfl (q_nil_ptr rfl) (Wr.p 2 oo1 rfl (q_field fo_438_2 rfl rfl) (Wr.t 3 oo1 rfl (q_c 0 sc_3 rfl rfl rfl) (Wr.p 4 oo1 rfl (q_move rfl) (Wr.p 5 oo1 rfl (q_nil_ptr rfl) (Wr.p 6 oo1 rfl (q_field fo_438_1 rfl rfl) (Wr.t 7 oo1 rfl (q_c 0 sc_9 rfl rfl rfl) (Wr.t 8 oo1 rfl (q_len_str underlying9 rfl) (Wr.p 9 oo1 rfl (q_eql rfl rfl (dt (rfl))) (Wr.z (Wx.go (Wc.yes rfl (Wc.a 2 rfl (Wc.ret (Wx.thenRet (Wx.f2 rfl (fun w hs => ?_)))))))))))))))))))))
 exact ⟨(), trivial, rfl, hs⟩
theorem next_ok (W0 : World) (r : Nat) (s : ByteArray) (at_ : Nat) (c : UInt8) (hget : s[at_]? = some c) (hat : at_ < s.size) (hsz : s.size ≤ 9223372036854775807) :
  Con1 prog W0 288 #[Vp r] [pt r 438 [Vt, Vs s, Vi ((at_ : Nat) : Int)]] (.tuple #[.int .u8 ((c.toNat : Nat) : Int), .bool true]) [pt r 438 [Vt, Vs s, Vi (((at_ + 1) : Nat) : Int)]] := by
 refine Con.of func288 rfl ntmps288 rfl (fun F => ?_)
 show Wc _ W0 _ _ _ _ _ ((pt r 438 [Vt, Vs s, Vi ((at_ : Nat) : Int)]) :: F)
 refine Wc.a 2 rfl (Wc.seq (Wc.seq (Wc.drawsS [] ((pt r 438 [Vt, Vs s, Vi ((at_ : Nat) : Int)]) :: []) (by kernel_rfl) (Wr.p 0 oo1 rfl (q_move rfl) (Wr.p 1 oo1 rfl (q_nil_ptr rfl) (Wr.p 2 oo1 rfl (q_field fo_438_2 rfl rfl) (Wr.t 3 oo1 rfl (q_c 0 sc_3 rfl rfl rfl) (Wr.p 4 oo1 rfl (q_move rfl) (Wr.p 5 oo1 rfl (q_nil_ptr rfl) (Wr.p 6 oo1 rfl (q_field fo_438_1 rfl rfl) (Wr.t 7 oo1 rfl (q_c 0 sc_9 rfl rfl rfl) (Wr.t 8 oo1 rfl (q_len_str underlying9 rfl) (Wr.p 9 oo1 rfl (q_eql rfl rfl (df (by omega))) (Wr.z (Wx.go (Wc.no rfl (Wc.skip (Wx.go (Wc.b 2 rfl (Wl.q (q_field fo_438_2 rfl rfl) (Wl.q (q_c 0 sc_3 rfl rfl rfl) (Wl.q (q_add (c := ((at_ + 1 : Nat) : Int)) rfl rfl (by rw [wrap_i64] <;> omega)) (Wl.run 1 rfl ?_)))))))))))))))))))))))
 refine Wl.q (q_field fo_438_2 rfl rfl) (Wl.e (e_store (i := 0) (v := Vi ((at_ + 1 : Nat) : Int)) sz_3 rfl rfl (fun _ _ => rfl) rfl (by simp)) (fun _ _ => Wl.dg (Wc.seq (Wc.drawsS [] ((pt r 438 [Vt, Vs s, Vi ((at_ + 1 : Nat) : Int)]) :: []) (by kernel_rfl) (Wr.p 0 oo1 rfl (q_move rfl) (Wr.p 1 oo1 rfl (q_nil_ptr rfl) (Wr.p 2 oo1 rfl (q_field fo_438_1 rfl rfl) (Wr.t 3 oo1 rfl (q_c 0 sc_9 rfl rfl rfl) (Wr.p 4 oo1 rfl (q_move rfl) (Wr.p 5 oo1 rfl (q_nil_ptr rfl) (Wr.p 6 oo1 rfl (q_field fo_438_2 rfl rfl) (Wr.t 7 oo1 rfl (q_c 0 sc_3 rfl rfl rfl) (Wr.p 8 oo1 rfl (q_sub (c := ((at_ : Nat) : Int)) rfl rfl (by rw [wrap_i64] <;> omega)) (Wr.p 9 oo1 rfl (q_idx_str underlying9 rfl rfl (by omega) (by simpa using hget)) (Wr.p 10 oo1 rfl (q_assign rfl) (Wr.p 11 oo1 rfl (q_assign rfl) (Wr.z (Wx.go (Wc.ret (Wx.f2 rfl (fun w hs => ?_)))))))))))))))))))))
 exact ⟨(), trivial, rfl, hs⟩
theorem getElem?_neg_of (s : ByteArray) {i : Nat} (h : s[i]? = none) : s.size ≤ i := by
 rcases Nat.lt_or_ge i s.size with h' | h'
 · rw [getElem?_pos s i h'] at h; cases h
 · exact h'
theorem lt_of_get (s : ByteArray) {i : Nat} {c : UInt8} (h : s[i]? = some c) : i < s.size := by
 rcases Nat.lt_or_ge i s.size with h' | h'
 · exact h'
 · rw [getElem?_neg s i (by omega)] at h; cases h
theorem pow_next {z c i : Nat} (hz : z < 128 ^ i) : z + c % 128 * 128 ^ i < 128 ^ (i + 1) := by
 have : c % 128 * 128 ^ i ≤ 127 * 128 ^ i := Nat.mul_le_mul_right _ (by omega)
 rw [Nat.pow_succ]; omega
theorem number_c (W0 : World) (r : Nat) (s : ByteArray) (a0 : Nat) (ha0 : a0 ≤ s.size) (hsz : s.size ≤ 9223372036854775807) :
    Con prog W0 268 #[Vp r] [pt r 438 [Vt, Vs s, Vi ((a0 : Nat) : Int)]] (X := Int × Bool × Nat) (fun y => NumR s a0 y.1 y.2.1 y.2.2) (fun y => .tuple #[.int .i64 y.1, .bool y.2.1]) (fun y => [pt r 438 [Vt, Vs s, Vi ((y.2.2 : Nat) : Int)]]) := by
  refine Con.of func268 rfl ntmps268 rfl (fun F => ?_)
  show Wc _ W0 _ _ _ _ _ ((pt r 438 [Vt, Vs s, Vi ((a0 : Nat) : Int)]) :: F)
  refine Wc.a 2 rfl (Wc.a 1 rfl (Wc.seq (Wc.a 1 rfl (Wc.block ?_))))
  refine Wc.loop (X := Nat × Nat) (fun (i, z) E => E 5 = Vi ((i : Nat) : Int) ∧ E 4 = Value.int .u64 ((z : Nat) : Int) ∧ E 0 = Vp r ∧ dec s a0 10 0 0 = dec s a0 (10 - i) i z ∧ z < 128 ^ i ∧ i ≤ 10 ∧ a0 + i ≤ s.size) (fun (i, z) => (pt r 438 [Vt, Vs s, Vi (((a0 + i) : Nat) : Int)]) :: F) (fun (i, z) => 10 - i) (0, 0) ?_ ?_ ?_
  · exact ⟨rfl, rfl, rfl, rfl, (by decide), (by omega), (by omega)⟩
  · exact fun w hs => hs
  · rintro ⟨i, z⟩ E2 ⟨hE5_0, hE4_0, hE0_0, hp0, hz, hi, ha⟩
    dsimp only at *
    rcases hget : s[a0 + i]? with _ | c
    ·
      have hend : a0 + i = s.size := by have := getElem?_neg_of s hget; omega
      refine Wc.seq (Wc.sr (Wl.q (v := Vi ((i : Nat) : Int)) (q_move hE5_0) ?_))
      by_cases hi10 : ((i : Nat) : Int) < 10
      ·
        refine Wl.q (q_lss rfl rfl (dt hi10)) (Wl.dg (Wc.yes rfl (Wc.skip (Wx.go (Wc.seq (Wc.block (Wc.sr (Wl.q (v := Vp r) (q_move hE0_0) (Wl.e (e_c call288 (Con.eqs (val' := fun _ => .tuple #[.int .u8 0, .bool false]) (post' := fun _ => [pt r 438 [Vt, Vs s, Vi (((a0 + i) : Nat) : Int)]]) (hend ▸ next_end W0 r s) (fun _ => rfl) (fun _ => rfl))) (fun _ _ => Wl.rg 5 rfl (Wc.seq (Wc.b 1 rfl (Wl.q (q_not rfl rfl) (Wl.rg 8 rfl (Wc.yes rfl (Wc.a 2 rfl (Wc.ret (Wx.thenRet (Wx.blockRet (Wx.thenRet (Wx.thenRet (Wx.blockRet (Wx.thenRet ?_)))))))))))))))))))))))
        refine Wx.f2 rfl (fun w hs => ?_)
        rw [show 10 - i = (10 - (i + 1)) + 1 by omega] at hp0
        have hN : NumR s a0 0 false (a0 + i) := NumR.none hp0 (dec_none hget) ha
        exact ⟨(0, false, a0 + i), hN, rfl, hs⟩
      ·
        refine Wl.q (q_lss rfl rfl (df hi10)) (Wl.dg (Wc.no rfl (Wc.exit (Wx.thenExit (Wx.thenExit (Wx.out (Wx.go (Wc.a 2 rfl (Wc.ret (Wx.f2 rfl (fun w hs => ?_)))))))))))
        have h10 : i = 10 := by omega
        subst h10
        have hN : NumR s a0 0 false (a0 + 10) := NumR.none hp0 rfl ha
        exact ⟨(0, false, a0 + 10), hN, rfl, hs⟩
    ·
      have hat : a0 + i < s.size := lt_of_get s hget
      refine Wc.seq (Wc.sr (Wl.q (v := Vi ((i : Nat) : Int)) (q_move hE5_0) ?_))
      by_cases hi10 : ((i : Nat) : Int) < 10
      ·
        refine Wl.q (q_lss rfl rfl (dt hi10)) (Wl.dg (Wc.yes rfl (Wc.skip (Wx.go (Wc.seq (Wc.block (Wc.sr (Wl.q (v := Vp r) (q_move hE0_0) (Wl.e (e_c call288 (next_ok W0 r s (a0 + i) c hget hat hsz)) (fun _ _ => Wl.rg 5 rfl (Wc.seq (Wc.b 1 rfl (Wl.q (q_not rfl rfl) (Wl.run 1 rfl (Wl.q (v := Vi ((i : Nat) : Int)) (q_move hE5_0) ?_)))))))))))))))
        by_cases hi9 : ((i : Nat) : Int) = 9
        ·
          refine Wl.q (q_eql rfl rfl (dt hi9)) (Wl.run 2 rfl ?_)
          by_cases hc1 : ((c.toNat : Nat) : Int) > 1
          ·
            refine Wl.q (q_gtr rfl rfl (dt hc1)) (Wl.rg 2 rfl (Wc.yes rfl (Wc.a 2 rfl (Wc.ret (Wx.thenRet (Wx.blockRet (Wx.thenRet (Wx.thenRet (Wx.blockRet (Wx.thenRet (Wx.f2 rfl (fun w hs => ?_))))))))))))
            rw [show 10 - i = (10 - (i + 1)) + 1 by omega] at hp0
            have hN : NumR s a0 0 false (a0 + i + 1) := NumR.none hp0 (dec_bad hget (.inl ⟨by omega, by omega⟩)) (by omega)
            exact ⟨(0, false, a0 + i + 1), hN, rfl, hs⟩
          ·
            have hc9 : i = 9 → c.toNat % 128 ≤ 1 := fun h => by omega
            refine Wl.q (q_gtr rfl rfl (df hc1)) (Wl.rg 2 rfl (Wc.no rfl (Wc.skip (Wx.go (Wc.sr (Wl.q (v := Value.int .u64 ((z : Nat) : Int)) (q_move hE4_0) (Wl.run 1 rfl (Wl.q (q_and (c := ((c.toNat % 128 : Nat) : Int)) rfl rfl (and127 c)) (Wl.q (q_conv_int (c := ((c.toNat % 128 : Nat) : Int)) underlying457 (by rw [underlying5]; rfl) rfl (wrap_u64 (by omega) (by omega))) (Wl.q (v := Vi ((i : Nat) : Int)) (q_move hE5_0) (Wl.q (q_mul (c := ((7 * i : Nat) : Int)) rfl rfl (by rw [wrap_i64] <;> omega)) (Wl.q (q_shl (c := ((c.toNat % 128 * 128 ^ i : Nat) : Int)) rfl rfl (by omega) (shl7 (by omega) hc9 (by omega))) (Wl.q (q_or (c := (((z + c.toNat % 128 * 128 ^ i) : Nat) : Int)) rfl rfl (or7 hz (by omega) hc9 (by omega)).2) (Wl.rg 1 rfl (Wc.b 1 rfl ?_)))))))))))))))
            by_cases hc128 : ((c.toNat : Nat) : Int) < 128
            ·
              refine Wl.q (q_lss rfl rfl (dt hc128)) (Wl.dg (Wc.yes rfl (Wc.b 1 rfl (Wl.q (q_shr (c := (((z + c.toNat % 128 * 128 ^ i) / 2 : Nat) : Int)) rfl rfl (by decide) (shr1 _)) (Wl.q (q_conv_int (c := (((z + c.toNat % 128 * 128 ^ i) / 2 : Nat) : Int)) underlying2 (by rw [underlying457]; rfl) rfl (wrap_i64 (by omega) (by have := (or7 hz (by omega) hc9 (by omega)).1; omega))) (Wl.run 1 rfl (Wl.q (q_and (c := (((z + c.toNat % 128 * 128 ^ i) % 2 : Nat) : Int)) rfl rfl (and1 (or7 hz (by omega) hc9 (by omega)).1)) (Wl.q (q_conv_int (c := (((z + c.toNat % 128 * 128 ^ i) % 2 : Nat) : Int)) underlying2 (by rw [underlying457]; rfl) rfl (wrap_i64 (by omega) (by omega))) (Wl.q (q_neg (c := (-(((z + c.toNat % 128 * 128 ^ i) % 2 : Nat) : Int))) rfl (wrap_i64 (by omega) (by omega))) (Wl.q (q_xor (c := (un (z + c.toNat % 128 * 128 ^ i))) rfl rfl (xor_un (or7 hz (by omega) hc9 (by omega)).1)) (Wl.q (v := Vi ((i : Nat) : Int)) (q_move hE5_0) ?_)))))))))))
              by_cases hi0 : ((i : Nat) : Int) = 0
              ·
                refine Wl.q (q_eql rfl rfl (dt hi0)) (Wl.rg 6 rfl (Wc.ret (Wx.blockRet (Wx.thenRet (Wx.thenRet (Wx.blockRet (Wx.thenRet (Wx.f2 rfl (fun w hs => ?_)))))))))
                rw [show 10 - i = (10 - (i + 1)) + 1 by omega] at hp0
                have hN : NumR s a0 (un (z + c.toNat % 128 * 128 ^ i)) true (a0 + i + 1) := NumR.some hp0 (dec_end hget (by omega) (by omega)) (by omega)
                exact ⟨((un (z + c.toNat % 128 * 128 ^ i)), true, a0 + i + 1), hN, rfl, hs⟩
              ·
                refine Wl.q (q_eql rfl rfl (df hi0)) (Wl.run 2 rfl ?_)
                by_cases hc0 : ((c.toNat : Nat) : Int) > 0
                ·
                  refine Wl.q (q_gtr rfl rfl (dt hc0)) (Wl.rg 3 rfl (Wc.ret (Wx.blockRet (Wx.thenRet (Wx.thenRet (Wx.blockRet (Wx.thenRet (Wx.f2 rfl (fun w hs => ?_)))))))))
                  rw [show 10 - i = (10 - (i + 1)) + 1 by omega] at hp0
                  have hN : NumR s a0 (un (z + c.toNat % 128 * 128 ^ i)) true (a0 + i + 1) := NumR.some hp0 (dec_end hget (by omega) (by omega)) (by omega)
                  exact ⟨((un (z + c.toNat % 128 * 128 ^ i)), true, a0 + i + 1), hN, rfl, hs⟩
                ·
                  refine Wl.q (q_gtr rfl rfl (df hc0)) (Wl.rg 3 rfl (Wc.ret (Wx.blockRet (Wx.thenRet (Wx.thenRet (Wx.blockRet (Wx.thenRet (Wx.f2 rfl (fun w hs => ?_)))))))))
                  rw [show 10 - i = (10 - (i + 1)) + 1 by omega] at hp0
                  have hN : NumR s a0 (un (z + c.toNat % 128 * 128 ^ i)) false (a0 + i + 1) := NumR.none hp0 (dec_bad hget (.inr ⟨by omega, by omega⟩)) (by omega)
                  exact ⟨((un (z + c.toNat % 128 * 128 ^ i)), false, a0 + i + 1), hN, rfl, hs⟩
            ·
              refine Wl.q (q_lss rfl rfl (df hc128)) (Wl.dg (Wc.no rfl (Wc.skip (Wx.blockEnd (Wx.go (Wc.region (Wl.q (v := Vi ((i : Nat) : Int)) (q_move hE5_0) (Wl.q (q_add (c := ((i + 1 : Nat) : Int)) rfl rfl (by rw [wrap_i64] <;> omega)) (Wl.run 1 rfl (Wl.done ?_))))))))))
              refine Wx.at (i + 1, (z + c.toNat % 128 * 128 ^ i)) ⟨(by simp only; omega), rfl, rfl, hE0_0, (by simp only; rw [hp0, show 10 - i = (10 - (i + 1)) + 1 by omega]; exact dec_more hget (by omega) (by omega)), (pow_next hz), (by simp only; omega), (by simp only; omega)⟩ (fun w hs => hs)
        ·
          have hc9 : i = 9 → c.toNat % 128 ≤ 1 := fun h => by omega
          refine Wl.q (q_eql rfl rfl (df hi9)) (Wl.rg 5 rfl (Wc.no rfl (Wc.skip (Wx.go (Wc.sr (Wl.q (v := Value.int .u64 ((z : Nat) : Int)) (q_move hE4_0) (Wl.run 1 rfl (Wl.q (q_and (c := ((c.toNat % 128 : Nat) : Int)) rfl rfl (and127 c)) (Wl.q (q_conv_int (c := ((c.toNat % 128 : Nat) : Int)) underlying457 (by rw [underlying5]; rfl) rfl (wrap_u64 (by omega) (by omega))) (Wl.q (v := Vi ((i : Nat) : Int)) (q_move hE5_0) (Wl.q (q_mul (c := ((7 * i : Nat) : Int)) rfl rfl (by rw [wrap_i64] <;> omega)) (Wl.q (q_shl (c := ((c.toNat % 128 * 128 ^ i : Nat) : Int)) rfl rfl (by omega) (shl7 (by omega) hc9 (by omega))) (Wl.q (q_or (c := (((z + c.toNat % 128 * 128 ^ i) : Nat) : Int)) rfl rfl (or7 hz (by omega) hc9 (by omega)).2) (Wl.rg 1 rfl (Wc.b 1 rfl ?_)))))))))))))))
          by_cases hc128 : ((c.toNat : Nat) : Int) < 128
          ·
            refine Wl.q (q_lss rfl rfl (dt hc128)) (Wl.dg (Wc.yes rfl (Wc.b 1 rfl (Wl.q (q_shr (c := (((z + c.toNat % 128 * 128 ^ i) / 2 : Nat) : Int)) rfl rfl (by decide) (shr1 _)) (Wl.q (q_conv_int (c := (((z + c.toNat % 128 * 128 ^ i) / 2 : Nat) : Int)) underlying2 (by rw [underlying457]; rfl) rfl (wrap_i64 (by omega) (by have := (or7 hz (by omega) hc9 (by omega)).1; omega))) (Wl.run 1 rfl (Wl.q (q_and (c := (((z + c.toNat % 128 * 128 ^ i) % 2 : Nat) : Int)) rfl rfl (and1 (or7 hz (by omega) hc9 (by omega)).1)) (Wl.q (q_conv_int (c := (((z + c.toNat % 128 * 128 ^ i) % 2 : Nat) : Int)) underlying2 (by rw [underlying457]; rfl) rfl (wrap_i64 (by omega) (by omega))) (Wl.q (q_neg (c := (-(((z + c.toNat % 128 * 128 ^ i) % 2 : Nat) : Int))) rfl (wrap_i64 (by omega) (by omega))) (Wl.q (q_xor (c := (un (z + c.toNat % 128 * 128 ^ i))) rfl rfl (xor_un (or7 hz (by omega) hc9 (by omega)).1)) (Wl.q (v := Vi ((i : Nat) : Int)) (q_move hE5_0) ?_)))))))))))
            by_cases hi0 : ((i : Nat) : Int) = 0
            ·
              refine Wl.q (q_eql rfl rfl (dt hi0)) (Wl.rg 6 rfl (Wc.ret (Wx.blockRet (Wx.thenRet (Wx.thenRet (Wx.blockRet (Wx.thenRet (Wx.f2 rfl (fun w hs => ?_)))))))))
              rw [show 10 - i = (10 - (i + 1)) + 1 by omega] at hp0
              have hN : NumR s a0 (un (z + c.toNat % 128 * 128 ^ i)) true (a0 + i + 1) := NumR.some hp0 (dec_end hget (by omega) (by omega)) (by omega)
              exact ⟨((un (z + c.toNat % 128 * 128 ^ i)), true, a0 + i + 1), hN, rfl, hs⟩
            ·
              refine Wl.q (q_eql rfl rfl (df hi0)) (Wl.run 2 rfl ?_)
              by_cases hc0 : ((c.toNat : Nat) : Int) > 0
              ·
                refine Wl.q (q_gtr rfl rfl (dt hc0)) (Wl.rg 3 rfl (Wc.ret (Wx.blockRet (Wx.thenRet (Wx.thenRet (Wx.blockRet (Wx.thenRet (Wx.f2 rfl (fun w hs => ?_)))))))))
                rw [show 10 - i = (10 - (i + 1)) + 1 by omega] at hp0
                have hN : NumR s a0 (un (z + c.toNat % 128 * 128 ^ i)) true (a0 + i + 1) := NumR.some hp0 (dec_end hget (by omega) (by omega)) (by omega)
                exact ⟨((un (z + c.toNat % 128 * 128 ^ i)), true, a0 + i + 1), hN, rfl, hs⟩
              ·
                refine Wl.q (q_gtr rfl rfl (df hc0)) (Wl.rg 3 rfl (Wc.ret (Wx.blockRet (Wx.thenRet (Wx.thenRet (Wx.blockRet (Wx.thenRet (Wx.f2 rfl (fun w hs => ?_)))))))))
                rw [show 10 - i = (10 - (i + 1)) + 1 by omega] at hp0
                have hN : NumR s a0 (un (z + c.toNat % 128 * 128 ^ i)) false (a0 + i + 1) := NumR.none hp0 (dec_bad hget (.inr ⟨by omega, by omega⟩)) (by omega)
                exact ⟨((un (z + c.toNat % 128 * 128 ^ i)), false, a0 + i + 1), hN, rfl, hs⟩
          ·
            refine Wl.q (q_lss rfl rfl (df hc128)) (Wl.dg (Wc.no rfl (Wc.skip (Wx.blockEnd (Wx.go (Wc.region (Wl.q (v := Vi ((i : Nat) : Int)) (q_move hE5_0) (Wl.q (q_add (c := ((i + 1 : Nat) : Int)) rfl rfl (by rw [wrap_i64] <;> omega)) (Wl.run 1 rfl (Wl.done ?_))))))))))
            refine Wx.at (i + 1, (z + c.toNat % 128 * 128 ^ i)) ⟨(by simp only; omega), rfl, rfl, hE0_0, (by simp only; rw [hp0, show 10 - i = (10 - (i + 1)) + 1 by omega]; exact dec_more hget (by omega) (by omega)), (pow_next hz), (by simp only; omega), (by simp only; omega)⟩ (fun w hs => hs)
      ·
        refine Wl.q (q_lss rfl rfl (df hi10)) (Wl.dg (Wc.no rfl (Wc.exit (Wx.thenExit (Wx.thenExit (Wx.out (Wx.go (Wc.a 2 rfl (Wc.ret (Wx.f2 rfl (fun w hs => ?_)))))))))))
        have h10 : i = 10 := by omega
        subst h10
        have hN : NumR s a0 0 false (a0 + 10) := NumR.none hp0 rfl ha
        exact ⟨(0, false, a0 + 10), hN, rfl, hs⟩
theorem take1_ok (W0 : World) (eb ab tb : Nat) :
  ConD prog W0 287 #[Vp eb, Vp ab, Vp tb] [pt eb 26 [Vi 0]] (X := Unit) (fun _ => True) (fun _ => [pt eb 26 [Vi 0]]) := by
 refine ConD.of (val := fun _ => .tuple #[]) (args := [Vp eb, Vp ab, Vp tb]) func287 rfl ntmps287 rfl (fun F => ?_)
 refine Wc.sr (Wl.q (q_c 0 sc_26 rfl rfl rfl) (Wl.q (q_neq rfl rfl (dt (by decide))) (Wl.dg (Wc.no rfl (Wc.skip (Wx.fin0 rfl (.inr rfl) (fun w hs => ?_)))))))
 exact ⟨(), trivial, rfl, hs⟩
theorem take1_bad (W0 : World) (eb ab tb r : Nat) (s : ByteArray) (at_ a : Nat) :
  ConD prog W0 287 #[Vp eb, Vp ab, Vp tb] [pt eb 26 [Vi 4], pt ab 3 [Vi ((at_ : Nat) : Int)], pt tb 145 [Vp r], pt r 438 [Vt, Vs s, Vi ((a : Nat) : Int)]] (X := Unit) (fun _ => True) (fun _ => [pt eb 26 [Vi 4], pt ab 3 [Vi ((at_ : Nat) : Int)], pt tb 145 [Vp r], pt r 438 [Vt, Vs s, Vi ((at_ : Nat) : Int)]]) := by
 refine ConD.of (val := fun _ => .tuple #[]) (args := [Vp eb, Vp ab, Vp tb]) func287 rfl ntmps287 rfl (fun F => ?_)
 show Wc _ W0 _ _ _ _ _ ((pt eb 26 [Vi 4]) :: (pt ab 3 [Vi ((at_ : Nat) : Int)]) :: (pt tb 145 [Vp r]) :: (pt r 438 [Vt, Vs s, Vi ((a : Nat) : Int)]) :: F)
 refine Wc.sr (Wl.q (q_c 0 sc_26 rfl rfl rfl) (Wl.q (q_neq rfl rfl (df (by decide))) (Wl.dg (Wc.yes rfl (Wc.region (Wl.q (q_c 2 sc_145 rfl rfl rfl) (Wl.q (q_c 1 sc_3 rfl rfl rfl) (Wl.run 1 rfl (Wl.q (q_field fo_438_2 rfl rfl) (Wl.e (e_store (i := 3) (v := Vi ((at_ : Nat) : Int)) sz_3 rfl rfl (fun _ _ => rfl) rfl (by simp)) (fun _ _ => Wl.done (Wx.fin0 rfl (.inr rfl) (fun w hs => ?_)))))))))))))
 exact ⟨(), trivial, rfl, hs⟩
theorem take_Text_ok (W0 : World) (r rb nb : Nat) (s : ByteArray) (at_ a : Nat) (v0 v1 : Value) (hcl : Con1 prog W0 269 #[Vp rb, Vp nb] [pt rb 145 [Vp r], pt nb 9 [v0], pt r 438 [Vt, Vs s, Vi ((at_ : Nat) : Int)]] (.int .i64 0) [pt rb 145 [Vp r], pt nb 9 [v1], pt r 438 [Vt, Vs s, Vi ((a : Nat) : Int)]]) :
  Con1 prog W0 266 #[Vp r, Value.func (.func 269) #[] #[Vp rb, Vp nb]] [pt rb 145 [Vp r], pt nb 9 [v0], pt r 438 [Vt, Vs s, Vi ((at_ : Nat) : Int)]] (.int .i64 0) [pt rb 145 [Vp r], pt nb 9 [v1], pt r 438 [Vt, Vs s, Vi ((a : Nat) : Int)]] := by
 refine Con.ofD (args := [Vp r, Value.func (.func 269) #[] #[Vp rb, Vp nb]]) func266 rfl ntmps266 rfl (fun F => ?_)
 refine Wc.sr (Wl.e (e_box (x := .tmp 0) (vs := [Vp r]) rfl) (fun tb _ => Wl.e (e_alloc (vs := [Vi 0]) zo_26 rfl) (fun eb _ => Wl.dg (Wc.seq (Wc.sr (Wl.q (q_c 1 sc_145 rfl rfl rfl) (Wl.q (q_eql_nil (r := false) rfl rfl underlying145 rfl) (Wl.run 1 rfl (Wl.q (q_c 1 sc_145 rfl rfl rfl) (Wl.run 1 rfl (Wl.q (q_field fo_438_0 rfl rfl) (Wl.q (q_c 4 sc_4 rfl rfl rfl) (Wl.q (q_not rfl rfl) (Wl.rg 1 rfl (Wc.no rfl (Wc.skip (Wx.go (Wc.sr (Wl.q (q_c 1 sc_145 rfl rfl rfl) (Wl.run 1 rfl (Wl.q (q_field fo_438_2 rfl rfl) (Wl.q (q_c 4 sc_3 rfl rfl rfl) (Wl.e (e_alloc (vs := [Vi 0]) zo_3 rfl) (fun ab _ => ?_))))))))))))))))))))))))
 refine Wl.e (e_store (i := 0) (v := Vi ((at_ : Nat) : Int)) sz_3 rfl rfl (fun _ _ => rfl) rfl (by simp)) (fun _ _ => Wl.dg (Wc.sr (Wl.q (q_makeFunc (us := []) (vs := [Vp eb, Vp ab, Vp tb]) rfl rfl) (Wl.defer rfl rfl (Wl.dg (Wc.b 1 rfl (Wl.pull [3, 3, 3] (Wl.e (e_callv (args := [Vp rb, Vp nb]) (mid := []) rfl call269 rfl rfl (hcl)) (fun _ _ => Wl.e (e_store (i := 4) (v := Vi 0) sz_26 rfl rfl (fun _ _ => rfl) rfl (by simp)) (fun _ _ => Wl.dg (Wc.ret (Wx.finD1 (args := [Vp eb, Vp ab, Vp tb]) (pre := [pt eb 26 [Vi 0]]) (R := (pt rb 145 [Vp r]) :: (pt nb 9 [v1]) :: (pt r 438 [Vt, Vs s, Vi ((a : Nat) : Int)]) :: F) (post := fun _ => [pt eb 26 [Vi 0]]) (v := fun _ => Vi 0) rfl (.inl rfl) sc_26 rfl call287 rfl (take1_ok W0 eb ab tb) (fun w hs => (st_pull [3, 0, 0, 0] (st_drop (st_drop (st_pull [3, 4] hs))))) (fun _ _ => .cel (i := 0) rfl rfl) (fun _ _ w hs => ?_)))))))))))))
 exact ⟨(), trivial, rfl, (st_drop (st_pull [0] hs))⟩
theorem take_Text_bad (W0 : World) (r rb nb : Nat) (s : ByteArray) (at_ : Nat) (v0 : Value) (hcl : Con prog W0 269 #[Vp rb, Vp nb] [pt rb 145 [Vp r], pt nb 9 [v0], pt r 438 [Vt, Vs s, Vi ((at_ : Nat) : Int)]] (X := Nat) (fun _ => True) (fun _ => .int .i64 4) (fun a => [pt rb 145 [Vp r], pt nb 9 [v0], pt r 438 [Vt, Vs s, Vi ((a : Nat) : Int)]])) :
  Con1 prog W0 266 #[Vp r, Value.func (.func 269) #[] #[Vp rb, Vp nb]] [pt rb 145 [Vp r], pt nb 9 [v0], pt r 438 [Vt, Vs s, Vi ((at_ : Nat) : Int)]] (.int .i64 4) [pt rb 145 [Vp r], pt nb 9 [v0], pt r 438 [Vt, Vs s, Vi ((at_ : Nat) : Int)]] := by
 refine Con.ofD (args := [Vp r, Value.func (.func 269) #[] #[Vp rb, Vp nb]]) func266 rfl ntmps266 rfl (fun F => ?_)
 refine Wc.sr (Wl.e (e_box (x := .tmp 0) (vs := [Vp r]) rfl) (fun tb _ => Wl.e (e_alloc (vs := [Vi 0]) zo_26 rfl) (fun eb _ => Wl.dg (Wc.seq (Wc.sr (Wl.q (q_c 1 sc_145 rfl rfl rfl) (Wl.q (q_eql_nil (r := false) rfl rfl underlying145 rfl) (Wl.run 1 rfl (Wl.q (q_c 1 sc_145 rfl rfl rfl) (Wl.run 1 rfl (Wl.q (q_field fo_438_0 rfl rfl) (Wl.q (q_c 4 sc_4 rfl rfl rfl) (Wl.q (q_not rfl rfl) (Wl.rg 1 rfl (Wc.no rfl (Wc.skip (Wx.go (Wc.sr (Wl.q (q_c 1 sc_145 rfl rfl rfl) (Wl.run 1 rfl (Wl.q (q_field fo_438_2 rfl rfl) (Wl.q (q_c 4 sc_3 rfl rfl rfl) (Wl.e (e_alloc (vs := [Vi 0]) zo_3 rfl) (fun ab _ => ?_))))))))))))))))))))))))
 refine Wl.e (e_store (i := 0) (v := Vi ((at_ : Nat) : Int)) sz_3 rfl rfl (fun _ _ => rfl) rfl (by simp)) (fun _ _ => Wl.dg (Wc.sr (Wl.q (q_makeFunc (us := []) (vs := [Vp eb, Vp ab, Vp tb]) rfl rfl) (Wl.defer rfl rfl (Wl.dg (Wc.b 1 rfl (Wl.pull [3, 3, 3] (Wl.e (e_callv (args := [Vp rb, Vp nb]) (mid := []) rfl call269 rfl rfl (hcl)) (fun a _ => Wl.e (e_store (i := 4) (v := Vi 4) sz_26 rfl rfl (fun _ _ => rfl) rfl (by simp)) (fun _ _ => Wl.dg (Wc.ret (Wx.finD1 (args := [Vp eb, Vp ab, Vp tb]) (pre := [pt eb 26 [Vi 4], pt ab 3 [Vi ((at_ : Nat) : Int)], pt tb 145 [Vp r], pt r 438 [Vt, Vs s, Vi ((a : Nat) : Int)]]) (R := (pt rb 145 [Vp r]) :: (pt nb 9 [v0]) :: F) (post := fun _ => [pt eb 26 [Vi 4], pt ab 3 [Vi ((at_ : Nat) : Int)], pt tb 145 [Vp r], pt r 438 [Vt, Vs s, Vi ((at_ : Nat) : Int)]]) (v := fun _ => Vi 4) rfl (.inl rfl) sc_26 rfl call287 rfl (take1_bad W0 eb ab tb r s at_ a) (fun w hs => (st_pull [4, 3, 3, 2, 0, 0] (hs))) (fun _ _ => .cel (i := 0) rfl rfl) (fun _ _ w hs => ?_)))))))))))))
 exact ⟨(), trivial, rfl, (st_pull [1, 1, 0] (st_drop (st_drop (st_drop (st_pull [0, 0, 0] hs)))))⟩
theorem take_List_ok (W0 : World) (r rb nb : Nat) (s : ByteArray) (at_ a : Nat) (v0 v1 : Value) (hcl : Con1 prog W0 267 #[Vp rb, Vp nb] [pt rb 145 [Vp r], pt nb 3 [v0], pt r 438 [Vt, Vs s, Vi ((at_ : Nat) : Int)]] (.int .i64 0) [pt rb 145 [Vp r], pt nb 3 [v1], pt r 438 [Vt, Vs s, Vi ((a : Nat) : Int)]]) :
  Con1 prog W0 266 #[Vp r, Value.func (.func 267) #[] #[Vp rb, Vp nb]] [pt rb 145 [Vp r], pt nb 3 [v0], pt r 438 [Vt, Vs s, Vi ((at_ : Nat) : Int)]] (.int .i64 0) [pt rb 145 [Vp r], pt nb 3 [v1], pt r 438 [Vt, Vs s, Vi ((a : Nat) : Int)]] := by
 refine Con.ofD (args := [Vp r, Value.func (.func 267) #[] #[Vp rb, Vp nb]]) func266 rfl ntmps266 rfl (fun F => ?_)
 refine Wc.sr (Wl.e (e_box (x := .tmp 0) (vs := [Vp r]) rfl) (fun tb _ => Wl.e (e_alloc (vs := [Vi 0]) zo_26 rfl) (fun eb _ => Wl.dg (Wc.seq (Wc.sr (Wl.q (q_c 1 sc_145 rfl rfl rfl) (Wl.q (q_eql_nil (r := false) rfl rfl underlying145 rfl) (Wl.run 1 rfl (Wl.q (q_c 1 sc_145 rfl rfl rfl) (Wl.run 1 rfl (Wl.q (q_field fo_438_0 rfl rfl) (Wl.q (q_c 4 sc_4 rfl rfl rfl) (Wl.q (q_not rfl rfl) (Wl.rg 1 rfl (Wc.no rfl (Wc.skip (Wx.go (Wc.sr (Wl.q (q_c 1 sc_145 rfl rfl rfl) (Wl.run 1 rfl (Wl.q (q_field fo_438_2 rfl rfl) (Wl.q (q_c 4 sc_3 rfl rfl rfl) (Wl.e (e_alloc (vs := [Vi 0]) zo_3 rfl) (fun ab _ => ?_))))))))))))))))))))))))
 refine Wl.e (e_store (i := 0) (v := Vi ((at_ : Nat) : Int)) sz_3 rfl rfl (fun _ _ => rfl) rfl (by simp)) (fun _ _ => Wl.dg (Wc.sr (Wl.q (q_makeFunc (us := []) (vs := [Vp eb, Vp ab, Vp tb]) rfl rfl) (Wl.defer rfl rfl (Wl.dg (Wc.b 1 rfl (Wl.pull [3, 3, 3] (Wl.e (e_callv (args := [Vp rb, Vp nb]) (mid := []) rfl call267 rfl rfl (hcl)) (fun _ _ => Wl.e (e_store (i := 4) (v := Vi 0) sz_26 rfl rfl (fun _ _ => rfl) rfl (by simp)) (fun _ _ => Wl.dg (Wc.ret (Wx.finD1 (args := [Vp eb, Vp ab, Vp tb]) (pre := [pt eb 26 [Vi 0]]) (R := (pt rb 145 [Vp r]) :: (pt nb 3 [v1]) :: (pt r 438 [Vt, Vs s, Vi ((a : Nat) : Int)]) :: F) (post := fun _ => [pt eb 26 [Vi 0]]) (v := fun _ => Vi 0) rfl (.inl rfl) sc_26 rfl call287 rfl (take1_ok W0 eb ab tb) (fun w hs => (st_pull [3, 0, 0, 0] (st_drop (st_drop (st_pull [3, 4] hs))))) (fun _ _ => .cel (i := 0) rfl rfl) (fun _ _ w hs => ?_)))))))))))))
 exact ⟨(), trivial, rfl, (st_drop (st_pull [0] hs))⟩
theorem take_List_bad (W0 : World) (r rb nb : Nat) (s : ByteArray) (at_ : Nat) (v0 : Value) (hcl : Con prog W0 267 #[Vp rb, Vp nb] [pt rb 145 [Vp r], pt nb 3 [v0], pt r 438 [Vt, Vs s, Vi ((at_ : Nat) : Int)]] (X := Nat) (fun _ => True) (fun _ => .int .i64 4) (fun a => [pt rb 145 [Vp r], pt nb 3 [v0], pt r 438 [Vt, Vs s, Vi ((a : Nat) : Int)]])) :
  Con1 prog W0 266 #[Vp r, Value.func (.func 267) #[] #[Vp rb, Vp nb]] [pt rb 145 [Vp r], pt nb 3 [v0], pt r 438 [Vt, Vs s, Vi ((at_ : Nat) : Int)]] (.int .i64 4) [pt rb 145 [Vp r], pt nb 3 [v0], pt r 438 [Vt, Vs s, Vi ((at_ : Nat) : Int)]] := by
 refine Con.ofD (args := [Vp r, Value.func (.func 267) #[] #[Vp rb, Vp nb]]) func266 rfl ntmps266 rfl (fun F => ?_)
 refine Wc.sr (Wl.e (e_box (x := .tmp 0) (vs := [Vp r]) rfl) (fun tb _ => Wl.e (e_alloc (vs := [Vi 0]) zo_26 rfl) (fun eb _ => Wl.dg (Wc.seq (Wc.sr (Wl.q (q_c 1 sc_145 rfl rfl rfl) (Wl.q (q_eql_nil (r := false) rfl rfl underlying145 rfl) (Wl.run 1 rfl (Wl.q (q_c 1 sc_145 rfl rfl rfl) (Wl.run 1 rfl (Wl.q (q_field fo_438_0 rfl rfl) (Wl.q (q_c 4 sc_4 rfl rfl rfl) (Wl.q (q_not rfl rfl) (Wl.rg 1 rfl (Wc.no rfl (Wc.skip (Wx.go (Wc.sr (Wl.q (q_c 1 sc_145 rfl rfl rfl) (Wl.run 1 rfl (Wl.q (q_field fo_438_2 rfl rfl) (Wl.q (q_c 4 sc_3 rfl rfl rfl) (Wl.e (e_alloc (vs := [Vi 0]) zo_3 rfl) (fun ab _ => ?_))))))))))))))))))))))))
 refine Wl.e (e_store (i := 0) (v := Vi ((at_ : Nat) : Int)) sz_3 rfl rfl (fun _ _ => rfl) rfl (by simp)) (fun _ _ => Wl.dg (Wc.sr (Wl.q (q_makeFunc (us := []) (vs := [Vp eb, Vp ab, Vp tb]) rfl rfl) (Wl.defer rfl rfl (Wl.dg (Wc.b 1 rfl (Wl.pull [3, 3, 3] (Wl.e (e_callv (args := [Vp rb, Vp nb]) (mid := []) rfl call267 rfl rfl (hcl)) (fun a _ => Wl.e (e_store (i := 4) (v := Vi 4) sz_26 rfl rfl (fun _ _ => rfl) rfl (by simp)) (fun _ _ => Wl.dg (Wc.ret (Wx.finD1 (args := [Vp eb, Vp ab, Vp tb]) (pre := [pt eb 26 [Vi 4], pt ab 3 [Vi ((at_ : Nat) : Int)], pt tb 145 [Vp r], pt r 438 [Vt, Vs s, Vi ((a : Nat) : Int)]]) (R := (pt rb 145 [Vp r]) :: (pt nb 3 [v0]) :: F) (post := fun _ => [pt eb 26 [Vi 4], pt ab 3 [Vi ((at_ : Nat) : Int)], pt tb 145 [Vp r], pt r 438 [Vt, Vs s, Vi ((at_ : Nat) : Int)]]) (v := fun _ => Vi 4) rfl (.inl rfl) sc_26 rfl call287 rfl (take1_bad W0 eb ab tb r s at_ a) (fun w hs => (st_pull [4, 3, 3, 2, 0, 0] (hs))) (fun _ _ => .cel (i := 0) rfl rfl) (fun _ _ w hs => ?_)))))))))))))
 exact ⟨(), trivial, rfl, (st_pull [1, 1, 0] (st_drop (st_drop (st_drop (st_pull [0, 0, 0] hs)))))⟩
end Go.Proofs.YtjnejkdamhefgaaGreatDoor
