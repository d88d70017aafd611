/- A part of the proof. -/
import Derived.Test.YtjnejkdamhefgaaGreatDoorDkE
namespace Go.Proofs.YtjnejkdamhefgaaGreatDoor
open Tryz
open Go Go.SL Go.Dk Go.RowKit
set_option linter.unusedVariables false
set_option maxRecDepth 8000
theorem by_9 : (prog.info? 9).map (·.bytes) = some 16 := by kernel_rfl
theorem zo_9 : zeroOf prog 9 = some (Value.string (⟨#[]⟩)) := by kernel_rfl
theorem zo_104 : zeroOf prog 104 = some (Value.agg #[Value.slice none 0 0, Value.slice none 0 0, Value.bool false, Value.int .i64 0, Value.nilFunc]) := by kernel_rfl
theorem sz_5 : sizeIs prog 5 = some 1 := by kernel_rfl
theorem by_5 : (prog.info? 5).map (·.bytes) = some 1 := by kernel_rfl
theorem zo_5 : zeroOf prog 5 = some (Value.int .u8 0) := by kernel_rfl
theorem new_low (W0 : World) (n : Int) (h0 : (n < 1)) :
  Con1 prog W0 6 #[Vi n] [] (.tuple #[.pointer none, .int .i64 1]) [] := by
 refine Con.of func6 rfl ntmps6 rfl (fun F => ?_)
 refine Wc.a 2 rfl (Wc.seq (Wc.block (Wc.b 1 rfl (Wl.q (q_lss rfl rfl (dt (by omega))) (Wl.rg 1 rfl (Wc.yes rfl (Wc.a 2 rfl (Wc.ret (Wx.blockRet (Wx.thenRet (Wx.f2 rfl (fun w hs => ?_))))))))))))
 exact ⟨(), trivial, rfl, hs⟩
theorem new_high (W0 : World) (n : Int) (h0 : (n > 4096)) :
  Con1 prog W0 6 #[Vi n] [] (.tuple #[.pointer none, .int .i64 3]) [] := by
 refine Con.of func6 rfl ntmps6 rfl (fun F => ?_)
 refine Wc.a 2 rfl (Wc.seq (Wc.block (Wc.b 1 rfl (Wl.q (q_lss rfl rfl (df (by omega))) (Wl.rg 1 rfl (Wc.no rfl (Wc.b 1 rfl (Wl.q (q_gtr rfl rfl (dt (by omega))) (Wl.rg 1 rfl (Wc.yes rfl (Wc.a 2 rfl (Wc.ret (Wx.blockRet (Wx.thenRet (Wx.f2 rfl (fun w hs => ?_))))))))))))))))
 exact ⟨(), trivial, rfl, hs⟩
theorem new_ok (W0 : World) (n : Nat) (h1 : 1 ≤ n) (h2 : n ≤ 4096) :
    Con prog W0 6 #[Vi ((n : Nat) : Int)] [] (X := Nat) (fun _ => True) (fun pp => .tuple #[.pointer (some ⟨pp, 0, none⟩), .int .i64 0]) (fun pp => [isDisk pp (DS.new n)]) := by
  refine Con.of func6 rfl ntmps6 rfl (fun F => ?_)
  refine Wc.a 2 rfl (Wc.seq (Wc.block (Wc.b 1 rfl (Wl.q (q_lss rfl rfl (df (by omega))) (Wl.rg 1 rfl (Wc.no rfl (Wc.b 1 rfl (Wl.q (q_gtr rfl rfl (df (by omega))) (Wl.rg 1 rfl (Wc.no rfl (Wc.skip (Wx.blockEnd (Wx.go (Wc.b 1 rfl (Wl.e (e_makeSlice (len := n) underlying57 sz_9 by_9 zo_9 rfl rfl (by omega) (by omega)) (fun bs _ => Wl.q (v := Value.agg #[Vl bs n n, Vn, Vf, Vi 0, Value.nilFunc]) (q_build (pl := [(0, 1), (1, 1), (2, 1), (3, 1), (4, 1)]) underlying104 zo_104 (by kernel_rfl) (by kernel_rfl)) (Wl.e (e_box (x := .tmp 14) (vs := [Vl bs n n, Vn, Vf, Vi 0, Value.nilFunc]) rfl) (fun pp _ => Wl.rg 1 rfl (Wc.seq (Wc.b 2 rfl (Wl.q (q_field fo_104_0 rfl rfl) (Wl.q (q_c 0 sc_57 rfl rfl rfl) (Wl.q (q_len_slice underlying57 rfl) ?_)))))))))))))))))))))))
  refine Wl.rg 1 rfl (Wc.block ?_)
  refine Wc.loop (X := Nat) (fun k E => E 21 = Vi ((k : Nat) : Int) ∧ E 4 = Vp pp ∧ E 20 = Vi ((n : Nat) : Int) ∧ k ≤ n) (fun k => (pt pp 104 [Vl bs n n, Vn, Vf, Vi 0, Value.nilFunc]) :: (pt bs 9 ((List.replicate k noughts ++ List.replicate (n - k) (ByteArray.mk #[])).map Value.string)) :: F) (fun k => n - k) 0 ?_ ?_ ?_
  · exact ⟨rfl, rfl, rfl, (by omega)⟩
  · exact fun w hs => by rw [made_texts] at hs; simpa using hs
  · rintro k E2 ⟨hE21_0, hE4_0, hE20_0, hp0⟩
    refine Wc.sr ?_
    by_cases hlt : ((k : Nat) : Int) < ((n : Nat) : Int)
    ·
      have hlt' : k < n := by omega
      refine Wl.q (q_lss hE21_0 hE20_0 (dt hlt)) (Wl.dg (Wc.seq (Wc.yes rfl (Wc.skip (Wx.go (Wc.seq (Wc.block (Wc.sr (Wl.q (v := Vi ((k : Nat) : Int)) (q_move hE21_0) (Wl.rg 1 rfl (Wc.drawsS [8] ((pt pp 104 [Vl bs n n, Vn, Vf, Vi 0, Value.nilFunc]) :: (pt bs 9 ((List.replicate k noughts ++ List.replicate (n - k) (ByteArray.mk #[])).map Value.string)) :: []) (by kernel_rfl) (Wr.p 0 oo2 rfl (q_move hE4_0) (Wr.p 1 oo2 rfl (q_nil_ptr rfl) (Wr.p 2 oo2 rfl (q_field fo_104_0 rfl rfl) (Wr.t 3 oo2 rfl (q_c 0 sc_57 rfl rfl rfl) (Wr.p 4 oo2 rfl (q_move rfl) (Wr.x 5 [1, 1] rfl (e_makeSlice (len := 64) underlying105 sz_5 by_5 zo_5 rfl rfl (by omega) (by omega)) (fun b3 _ => Wr.more (S' := (pt b3 5 ((madeCells (Value.int .u8 0 : Value).cells (64 * 1)).toList)) :: (pt pp 104 [Vl bs n n, Vn, Vf, Vi 0, Value.nilFunc]) :: (pt bs 9 ((List.replicate k noughts ++ List.replicate (n - k) (ByteArray.mk #[])).map Value.string)) :: []) (fun _ h => st_drop h) (Wr.t 6 oo3 rfl (q_str_of (l := (List.replicate 64 (0 : UInt8))) underlying105 underlying5 underlying9 rfl (by simp) (fun j u hj => .cel (i := 0) rfl (by rw [made_bytes, Nat.zero_add]; exact hj))) (Wr.p 7 oo3 rfl (q_idx (m := k) se_57 rfl rfl (by omega) (by omega) (by simp)) (Wr.x0 8 rfl (e_store (i := 2) (v := Vs (⟨((List.replicate 64 (0 : UInt8))).toArray⟩)) sz_9 rfl rfl (fun _ _ => rfl) rfl (by simp; omega)) (fun _ _ => Wr.imp (L' := (pt b3 5 ((madeCells (Value.int .u8 0 : Value).cells (64 * 1)).toList)) :: (pt pp 104 [Vl bs n n, Vn, Vf, Vi 0, Value.nilFunc]) :: (pt bs 9 ((List.replicate (k + 1) noughts ++ List.replicate (n - (k + 1)) (ByteArray.mk #[])).map Value.string)) :: F) (fun _ h => by rw [← new_step hlt' noughts (ByteArray.mk #[]), List.map_set]; exact h) (Wr.rebaseS [] ((pt b3 5 ((madeCells (Value.int .u8 0 : Value).cells (64 * 1)).toList)) :: (pt pp 104 [Vl bs n n, Vn, Vf, Vi 0, Value.nilFunc]) :: (pt bs 9 ((List.replicate (k + 1) noughts ++ List.replicate (n - (k + 1)) (ByteArray.mk #[])).map Value.string)) :: []) (by kernel_rfl) ?_)))))))))))))))))))))))
      refine Wr.z (Wx.blockEnd (Wx.go (Wc.region (Wl.q (q_add (c := ((k + 1 : Nat) : Int)) hE21_0 rfl (by rw [wrap_i64] <;> omega)) (Wl.run 1 rfl (Wl.done ?_))))))
      refine Wx.at (k + 1) ⟨(by omega), rfl, hE4_0, hE20_0, (by omega)⟩ (fun w hs => (st_drop (st_pull [0] hs)))
    ·
      refine Wl.q (q_lss hE21_0 hE20_0 (df hlt)) (Wl.dg (Wc.seq (Wc.no rfl (Wc.exit (Wx.thenExit (Wx.thenExit (Wx.out (Wx.go (Wc.sr (Wl.q (v := Vp pp) (q_move hE4_0) (Wl.q (v := Vp pp) (q_move hE4_0) (Wl.q (q_makeFunc (us := [Vp pp]) (vs := []) rfl rfl) (Wl.run 1 rfl (Wl.q (q_field fo_104_4 rfl rfl) (Wl.e (e_store (i := 0) (v := Value.func (.func 30) #[Vp pp] #[]) sz_32 rfl rfl (fun _ _ => rfl) rfl (by simp)) (fun _ _ => Wl.dg (Wc.sr (Wl.q (v := Vp pp) (q_move hE4_0) (Wl.rg 2 rfl (Wc.ret (Wx.f2 rfl (fun w hs => ?_))))))))))))))))))))))
      have hend : k = n := by omega
      subst hend
      exact ⟨pp, trivial, rfl, isDisk_mk (d := DS.new k) (n := k) (by simp [DS.new]) (by simp only [Nat.sub_self, List.replicate_zero, List.append_nil] at hs; exact st_pull [2, 2] (st_sl_nil (mayR_none hs)))⟩
theorem noughts_c (W0 : World)  :
  Con1 prog W0 31 #[] [] (.string noughts) [] := by
 refine Con.of func31 rfl ntmps31 rfl (fun F => ?_)
 refine Wc.a 1 rfl (Wc.sr (Wl.e (e_makeSlice (len := 64) underlying105 sz_5 by_5 zo_5 rfl rfl (by omega) (by omega)) (fun b1 _ => Wl.q (q_str_of (l := (List.replicate 64 (0 : UInt8))) underlying105 underlying5 underlying9 rfl (by simp) (fun j u hj => .cel (i := 0) rfl (by rw [made_bytes, Nat.zero_add]; exact hj))) (Wl.rg 1 rfl (Wc.ret (Wx.f1 rfl (fun w hs => ?_)))))))
 exact ⟨(), trivial, rfl, st_drop hs⟩
theorem se_101 : sliceElem prog 101 = some (3, 1) := by kernel_rfl
theorem beyond_c (W0 : World) (b : Nat) (ns : List Int) (hns : ns.length < 1000) (hwf : ∀ x ∈ ns, -9223372036854775808 ≤ x ∧ x ≤ 9223372036854775807) :
    Con1 prog W0 4 #[Vl b ns.length ns.length] [pt b 3 (ns.map (Value.int .i64))] (.bool (beyondB ns)) [pt b 3 (ns.map (Value.int .i64))] := by
  refine Con.of func4 rfl ntmps4 rfl (fun F => ?_)
  show Wc _ W0 _ _ _ _ _ ((pt b 3 (ns.map (Value.int .i64))) :: F)
  refine Wc.a 1 rfl (Wc.a 1 rfl (Wc.seq (Wc.a 1 rfl (Wc.block ?_))))
  refine Wc.loop (X := Nat × Int) (fun (k, acc) E => E 4 = Vi ((k : Nat) : Int) ∧ E 3 = Vi acc ∧ E 0 = Vl b ns.length ns.length ∧ beyondF acc (ns.drop k) = beyondB ns ∧ 0 ≤ acc ∧ acc ≤ 262144 ∧ k ≤ ns.length) (fun (k, acc) => (pt b 3 (ns.map (Value.int .i64))) :: F) (fun (k, acc) => ns.length - k) (0, 0) ?_ ?_ ?_
  · exact ⟨rfl, rfl, rfl, rfl, (by omega), (by omega), (by omega)⟩
  · exact fun w hs => hs
  · rintro ⟨k, acc⟩ E2 ⟨hE4_0, hE3_0, hE0_0, hp0, hp1, hp2, hp3⟩
    dsimp only at *
    refine Wc.seq (Wc.sr (Wl.q (v := Vi ((k : Nat) : Int)) (q_move hE4_0) (Wl.q (v := Vl b ns.length ns.length) (q_move hE0_0) (Wl.q (q_len_slice underlying101 rfl) ?_))))
    by_cases hlt : ((k : Nat) : Int) < ((ns.length : Nat) : Int)
    ·
      obtain ⟨v, hget⟩ : ∃ q, ns[k]? = some q := ⟨ns[k]'(by omega), by simp [List.getElem?_eq_getElem (show k < ns.length by omega)]⟩
      refine Wl.q (q_lss rfl rfl (dt hlt)) (Wl.dg (Wc.yes rfl (Wc.skip (Wx.go (Wc.seq (Wc.block (Wc.seq (Wc.sr (Wl.q (v := Vl b ns.length ns.length) (q_move hE0_0) (Wl.q (v := Vi ((k : Nat) : Int)) (q_move hE4_0) (Wl.q (q_idx (m := k) se_101 rfl rfl (by omega) (by omega) (by simp)) ?_)))))))))))
      refine Wl.q (v := Vi v) (q_load sc_3 rfl (.cel (i := 0) rfl (by rw [List.getElem?_map, hget]; rfl))) ?_
      by_cases h3 : v < 0
      ·
        refine Wl.q (q_lss rfl rfl (dt h3)) (Wl.rg 7 rfl (Wc.yes rfl (Wc.a 1 rfl (Wc.ret (Wx.thenRet (Wx.blockRet (Wx.thenRet (Wx.thenRet (Wx.blockRet (Wx.thenRet (Wx.f1 rfl (fun w hs => ?_))))))))))))
        have e : beyondB ns = true := by rw [← hp0, beyond_step hget]; first | exact if_pos (.inl ‹_›) | exact if_pos (.inr ‹_›) | (rw [if_neg (by omega)]; exact if_pos ‹_›)
        exact ⟨(), trivial, by rw [e]; rfl, hs⟩
      ·
        refine Wl.q (q_lss rfl rfl (df h3)) (Wl.run 1 rfl (Wl.q (v := Vl b ns.length ns.length) (q_move hE0_0) (Wl.q (v := Vi ((k : Nat) : Int)) (q_move hE4_0) (Wl.q (q_idx (m := k) se_101 rfl rfl (by omega) (by omega) (by simp)) ?_))))
        refine Wl.q (v := Vi v) (q_load sc_3 rfl (.cel (i := 0) rfl (by rw [List.getElem?_map, hget]; rfl))) ?_
        by_cases h4 : v > 262144
        ·
          refine Wl.q (q_gtr rfl rfl (dt h4)) (Wl.rg 1 rfl (Wc.yes rfl (Wc.a 1 rfl (Wc.ret (Wx.thenRet (Wx.blockRet (Wx.thenRet (Wx.thenRet (Wx.blockRet (Wx.thenRet (Wx.f1 rfl (fun w hs => ?_))))))))))))
          have e : beyondB ns = true := by rw [← hp0, beyond_step hget]; first | exact if_pos (.inl ‹_›) | exact if_pos (.inr ‹_›) | (rw [if_neg (by omega)]; exact if_pos ‹_›)
          exact ⟨(), trivial, by rw [e]; rfl, hs⟩
        ·
          refine Wl.q (q_gtr rfl rfl (df h4)) (Wl.rg 1 rfl (Wc.no rfl (Wc.skip (Wx.go (Wc.sr (Wl.q (v := Vi acc) (q_move hE3_0) (Wl.q (v := Vl b ns.length ns.length) (q_move hE0_0) (Wl.q (v := Vi ((k : Nat) : Int)) (q_move hE4_0) (Wl.q (q_idx (m := k) se_101 rfl rfl (by omega) (by omega) (by simp)) ?_)))))))))
          refine Wl.q (v := Vi v) (q_load sc_3 rfl (.cel (i := 0) rfl (by rw [List.getElem?_map, hget]; rfl))) ?_
          refine Wl.q (q_add (c := (acc + v)) rfl rfl (wrap_i64 (by omega) (by omega))) (Wl.rg 1 rfl (Wc.b 1 rfl ?_))
          by_cases h5 : (acc + v) > 262144
          ·
            refine Wl.q (q_gtr rfl rfl (dt h5)) (Wl.dg (Wc.yes rfl (Wc.a 1 rfl (Wc.ret (Wx.blockRet (Wx.thenRet (Wx.thenRet (Wx.blockRet (Wx.thenRet (Wx.f1 rfl (fun w hs => ?_)))))))))))
            have e : beyondB ns = true := by rw [← hp0, beyond_step hget]; first | exact if_pos (.inl ‹_›) | exact if_pos (.inr ‹_›) | (rw [if_neg (by omega)]; exact if_pos ‹_›)
            exact ⟨(), trivial, by rw [e]; rfl, hs⟩
          ·
            refine Wl.q (q_gtr rfl rfl (df h5)) (Wl.dg (Wc.no rfl (Wc.skip (Wx.blockEnd (Wx.go (Wc.region (Wl.q (v := Vi ((k : Nat) : Int)) (q_move hE4_0) (Wl.q (q_add (c := ((k + 1 : Nat) : Int)) rfl rfl (by rw [wrap_i64] <;> omega)) (Wl.run 1 rfl (Wl.done ?_))))))))))
            refine Wx.at (k + 1, acc + v) ⟨(by simp only; omega), rfl, rfl, hE0_0, (by rw [← hp0, beyond_step hget, if_neg (by omega), if_neg (by omega)]), (by omega), (by omega), (by omega)⟩ (fun w hs => hs)
    ·
      refine Wl.q (q_lss rfl rfl (df hlt)) (Wl.dg (Wc.no rfl (Wc.exit (Wx.thenExit (Wx.thenExit (Wx.out (Wx.go (Wc.a 1 rfl (Wc.ret (Wx.f1 rfl (fun w hs => ?_)))))))))))
      have hend : k = ns.length := by omega
      rw [hend, List.drop_length] at hp0
      exact ⟨(), trivial, by rw [← hp0]; rfl, hs⟩
end Go.Proofs.YtjnejkdamhefgaaGreatDoor
namespace Go.Jn
open Go Go.SL Go.Dk
set_option linter.unusedVariables false
theorem wrap64 (a : Int) : IntKind.i64.wrap a = (a + 9223372036854775808) % 18446744073709551616 - 9223372036854775808 := by
 simp only [IntKind.wrap, IntKind.signed, IntKind.bits]
 simp
 split <;> omega
theorem wrap8 (a : Int) : IntKind.u8.wrap a = a % 256 := by
 simp only [IntKind.wrap, IntKind.signed, IntKind.bits, Bool.false_and, Bool.false_eq_true, if_false]
 rfl
def hByte (n : Int) (k : Nat) : UInt8 := UInt8.ofNat (n / 256 ^ k % 256).toNat
theorem hByte_nat (n : Int) (k : Nat) : ((hByte n k).toNat : Int) = n / 256 ^ k % 256 := by
 unfold hByte
 have h1 := Int.emod_nonneg (n / 256 ^ k) (b := 256) (by decide)
 have h2 := Int.emod_lt_of_pos (n / 256 ^ k) (b := 256) (by decide)
 rw [UInt8.toNat_ofNat_of_lt' (by simp [UInt8.size]; omega)]
 omega
def bytesOf (n : Int) : Nat → List UInt8
 | 0 => []
 | k + 1 => hByte n k :: bytesOf n k
theorem bytesOf_len (n : Int) : ∀ k, (bytesOf n k).length = k
 | 0 => rfl
 | k + 1 => by rw [bytesOf, List.length_cons, bytesOf_len n k]
def headL (n l : Int) : List UInt8 := 74 :: (bytesOf n 8 ++ (bytesOf l 4 ++ List.replicate 51 0))
def headB (n l : Int) : ByteArray := ⟨(headL n l).toArray⟩
theorem headL_len (n l : Int) : (headL n l).length = 64 := by simp [headL, bytesOf_len]
theorem headB_size (n l : Int) : (headB n l).size = 64 := by
 show (headL n l).toArray.size = 64
 rw [List.size_toArray, headL_len]
def num (a : Int) (l : List UInt8) : Int := l.foldl (fun a c => IntKind.i64.wrap (a * 256 + (c.toNat : Int))) a
def fits (n : Int) : Prop := 0 ≤ n ∧ n ≤ 9223372036854775807
theorem num_bytes {n : Int} (h : fits n) : ∀ k, num (n / 256 ^ k) (bytesOf n k) = n
 | 0 => by simp [bytesOf, num]
 | k + 1 => by
  have h1 : IntKind.i64.wrap (n / 256 ^ (k + 1) * 256 + ((hByte n k).toNat : Int)) = n / 256 ^ k := by
   rw [hByte_nat, Int.pow_succ, ← Int.ediv_ediv_of_nonneg (Int.pow_nonneg (by decide))]
   have h2 : n / 256 ^ k ≤ n := Int.ediv_le_self _ h.1
   have h3 : 0 ≤ n / 256 ^ k := Int.ediv_nonneg h.1 (Int.pow_nonneg (by decide))
   rw [wrap64]
   have := h.2
   omega
  show num (IntKind.i64.wrap (n / 256 ^ (k + 1) * 256 + ((hByte n k).toNat : Int))) (bytesOf n k) = n
  rw [h1]
  exact num_bytes h k
def sNum (s : ByteArray) : Int := num 0 ((s.data.toList.drop 1).take 8)
def sLen (s : ByteArray) : Int := num 0 ((s.data.toList.drop 9).take 4)
theorem sNum_head {n l : Int} (h : fits n) : sNum (headB n l) = n := by
 have e : ((headB n l).data.toList.drop 1).take 8 = bytesOf n 8 := by
  show (((headL n l).toArray).toList.drop 1).take 8 = _
  rw [List.toList_toArray]
  show (bytesOf n 8 ++ (bytesOf l 4 ++ List.replicate 51 0)).take 8 = _
  rw [List.take_append_of_le_length (by rw [bytesOf_len]; exact Nat.le_refl _), List.take_of_length_le (by rw [bytesOf_len]; exact Nat.le_refl _)]
 unfold sNum
 rw [e]
 have := num_bytes h 8
 rwa [show n / 256 ^ 8 = 0 from Int.ediv_eq_zero_of_lt h.1 (by have := h.2; omega)] at this
theorem sLen_head {n l : Int} (h1 : 0 ≤ l) (h2 : l < 4294967296) : sLen (headB n l) = l := by
 have e : ((headB n l).data.toList.drop 9).take 4 = bytesOf l 4 := by
  show (((headL n l).toArray).toList.drop 9).take 4 = _
  rw [List.toList_toArray]
  show (((bytesOf n 8 ++ (bytesOf l 4 ++ List.replicate 51 0))).drop 8).take 4 = _
  rw [List.drop_append_of_le_length (by rw [bytesOf_len]; exact Nat.le_refl _), List.drop_of_length_le (by rw [bytesOf_len]; exact Nat.le_refl _), List.nil_append, List.take_append_of_le_length (by rw [bytesOf_len]; exact Nat.le_refl _), List.take_of_length_le (by rw [bytesOf_len]; exact Nat.le_refl _)]
 unfold sLen
 rw [e]
 have := num_bytes (n := l) ⟨h1, by omega⟩ 4
 rwa [show l / 256 ^ 4 = 0 from Int.ediv_eq_zero_of_lt h1 (by omega)] at this
theorem wrap_rng (a : Int) : -9223372036854775808 ≤ IntKind.i64.wrap a ∧ IntKind.i64.wrap a ≤ 9223372036854775807 := by rw [wrap64]; omega
theorem num_le : ∀ (l : List UInt8) (a : Int), -9223372036854775808 ≤ a ∧ a ≤ 9223372036854775807 → -9223372036854775808 ≤ num a l ∧ num a l ≤ 9223372036854775807
 | [], _, h => h
 | c :: l, a, _ => num_le l _ (wrap_rng _)
theorem pow_le (a b : Nat) (h : a ≤ b) : (256 : Int) ^ a ≤ 256 ^ b := by
 have := Int.ofNat_le.2 (Nat.pow_le_pow_right (n := 256) (by decide) h)
 rwa [Int.natCast_pow, Int.natCast_pow] at this
theorem num_small : ∀ (l : List UInt8) (a : Int) (k : Nat), 0 ≤ a → a < 256 ^ k → k + l.length ≤ 7 → 0 ≤ num a l ∧ num a l < 256 ^ (k + l.length)
 | [], _, _, h1, h2, _ => ⟨h1, h2⟩
 | c :: l, a, k, h1, h2, h3 => by
  have hc : (c.toNat : Int) < 256 := by have := c.toNat_lt; omega
  have e : 256 ^ (k + 1) = (256 : Int) ^ k * 256 := Int.pow_succ ..
  have hle : (256 : Int) ^ (k + 1) ≤ 256 ^ 7 := by
   have : k + 1 ≤ 7 := by simp only [List.length_cons] at h3; omega
   exact pow_le _ _ this
  have e7 : (256 : Int) ^ 7 = 72057594037927936 := by rfl
  have hw : IntKind.i64.wrap (a * 256 + (c.toNat : Int)) = a * 256 + (c.toNat : Int) := wrap_i64 (by omega) (by omega)
  have := num_small l (a * 256 + (c.toNat : Int)) (k + 1) (by omega) (by omega) (by simp only [List.length_cons] at h3; omega)
  show 0 ≤ num (IntKind.i64.wrap (a * 256 + (c.toNat : Int))) l ∧ num (IntKind.i64.wrap (a * 256 + (c.toNat : Int))) l < _
  rw [hw, List.length_cons, show k + (l.length + 1) = k + 1 + l.length by omega]
  exact this
theorem sLen_rng (s : ByteArray) : 0 ≤ sLen s ∧ sLen s < 4294967296 := by
 have hl : ((s.data.toList.drop 9).take 4).length ≤ 4 := by rw [List.length_take]; omega
 have := num_small ((s.data.toList.drop 9).take 4) 0 0 (by decide) (by decide) (by omega)
 refine ⟨this.1, Int.lt_of_lt_of_le this.2 ?_⟩
 have h2 : (256 : Int) ^ (0 + ((s.data.toList.drop 9).take 4).length) ≤ 256 ^ 4 := pow_le _ _ (by omega)
 have e : (256 : Int) ^ 4 = 4294967296 := by rfl
 omega
theorem sNum_le (s : ByteArray) : sNum s ≤ 9223372036854775807 := (num_le _ _ (by decide)).2
def parse (s : ByteArray) : Option (Int × Int) :=
 if s = noughts then some (0, 0) else if 0 < sNum s ∧ s = headB (sNum s) (sLen s) then some (sNum s, sLen s) else none
theorem head_first {n l : Int} : (headB n l).data.toList[0]? = some 74 := rfl
theorem head_ne {n l : Int} : headB n l ≠ noughts := fun h => by
 have := congrArg (fun s : ByteArray => s.data.toList[0]?) h
 simp only [head_first] at this
 rw [show noughts.data.toList[0]? = some 0 from rfl] at this
 cases this
theorem parse_noughts : parse noughts = some (0, 0) := if_pos rfl
theorem parse_head {n l : Int} (h : fits n) (h0 : 0 < n) (h1 : 0 ≤ l) (h2 : l < 4294967296) : parse (headB n l) = some (n, l) := by
 unfold parse
 rw [if_neg head_ne, sNum_head h, sLen_head h1 h2, if_pos ⟨h0, rfl⟩]
theorem parse_some {s : ByteArray} {n l : Int} (h : parse s = some (n, l)) : (n = 0 ∧ l = 0 ∧ s = noughts) ∨ (0 < n ∧ fits n ∧ 0 ≤ l ∧ l < 4294967296 ∧ s = headB n l) := by
  unfold parse at h
  split at h
  · cases h; exact .inl ⟨rfl, rfl, by assumption⟩
  split at h
  · rename_i h1
    cases h
    have := sLen_rng s
    exact .inr ⟨h1.1, ⟨by omega, sNum_le s⟩, this.1, this.2, h1.2⟩
  · cases h
def half (S : List ByteArray) : Nat := (S.length - 2) / 2
def first (S : List ByteArray) (n : Int) : Nat := if n % 2 = 1 then 2 else 2 + half S
def catR (R : Nat → ByteArray) (f : Nat) : Nat → ByteArray
 | 0 => ByteArray.empty
 | k + 1 => catR R f k ++ R (f + k)
def textR (R : Nat → ByteArray) (f : Nat) (l : Int) : ByteArray := (catR R f ((l.toNat + 63) / 64)).extract 0 l.toNat
def openR (R : Nat → ByteArray) (S : List ByteArray) : Int × Option (ByteArray × Int) :=
 if S.length < 4 then (1, none) else
 match parse (R 0), parse (R 1) with
 | some (a, la), some (b, lb) =>
  if la > ((half S * 64 : Nat) : Int) ∨ lb > ((half S * 64 : Nat) : Int) ∨ (0 < a ∧ a % 2 = 0) ∨ (0 < b ∧ b % 2 = 1) then (14, none)
  else if a = 0 ∧ b = 0 then (0, some (ByteArray.empty, 0))
  else if a = b + 1 then (0, some (textR R (first S a) la, a))
  else if 0 < a ∧ b = a + 1 then (0, some (textR R (first S b) lb, b))
  else (14, none)
 | _, _ => (14, none)
def rd (d : DS) (i : Nat) : ByteArray := readL (d.secs.getD i default) i d.since
def openD (d : DS) : Int × Option (ByteArray × Int) := if d.down = true then (6, none) else openR (rd d) d.secs
def padB (r : ByteArray) : ByteArray := r.extract 0 (min r.size 64) ++ noughts.extract (min r.size 64) 64
def rest (s : ByteArray) (i : Nat) : ByteArray := s.extract (i * 64) s.size
def piece (s : ByteArray) (i : Nat) : ByteArray := padB (rest s i)
def nPieces (s : ByteArray) : Nat := (s.size + 63) / 64
def pieces (s : ByteArray) (f : Nat) : List (Nat × ByteArray) := (List.range (nPieces s)).map fun i => (f + i, piece s i)
theorem pieces_len (s : ByteArray) (f : Nat) : (pieces s f).length = nPieces s := by simp [pieces]
theorem pieces_get {s : ByteArray} {f i : Nat} (h : i < nPieces s) : (pieces s f)[i]? = some (f + i, piece s i) := by simp [pieces, h]
def wall : DS → List (Nat × ByteArray) → Int × DS
 | d, [] => (0, d)
 | d, p :: r => if (d.write p.1 p.2).1 = 0 then wall (d.write p.1 p.2).2 r else d.write p.1 p.2
def headD (d : DS) (q l : Int) : Int × DS :=
 if (d.write (q % 2) (headB (q + 1) l)).1 = 0 then (d.write (q % 2) (headB (q + 1) l)).2.sync else d.write (q % 2) (headB (q + 1) l)
def syncD (d : DS) (q l : Int) : Int × DS := if d.sync.1 = 0 then headD d.sync.2 q l else d.sync
def putD (d : DS) (q : Int) (s : ByteArray) : Int × DS :=
 if (wall d (pieces s (first d.secs (q + 1)))).1 = 0 then syncD (wall d (pieces s (first d.secs (q + 1)))).2 q (s.size : Int) else wall d (pieces s (first d.secs (q + 1)))
structure JS where
 text : ByteArray
 seq : Int
 dead : Bool
def JS.put (j : JS) (d : DS) (s : ByteArray) : Int × DS × JS :=
 if j.dead = true ∨ d.down = true then (6, d, j) else if half d.secs * 64 < s.size then (5, d, j)
 else if (putD d j.seq s).1 = 0 then (0, (putD d j.seq s).2, ⟨s, j.seq + 1, false⟩) else ((putD d j.seq s).1, (putD d j.seq s).2, { j with dead := true })
end Go.Jn
