import Derived.Test.YtkndmgfahghcjaaGreatWrE
import Derived.Test.YtkndmgfahghcjaaGreatWrL
import Derived.Test.YtkndmgfahghcjaaGreatSLD
/- Contracts of the calls. -/
namespace Go.Proofs.YtkndmgfahghcjaaGreat
open Go Go.SL Go.Wr Go.RowKit
open Go.Dk (beyondF beyondB beyond_step beyond_le beyond_one beyond_two)
set_option linter.unusedVariables false
set_option maxRecDepth 8000







theorem wlist_neg (W0 : World) (q : Nat) (l : List UInt8) (n : Int) (sv : Value) (hn : n < 0) :
  Con Tryz.prog W0 33 #[Value.pointer (some ⟨q, 0, none⟩), Value.int .i64 n] [pt q 96 [Value.bool true, sv], sl 5 1 sv l.length (l.map u8v)] (X := Unit) (fun _ => True) (fun _ => .int .i64 1) (fun _ => [pt q 96 [Value.bool true, sv], sl 5 1 sv l.length (l.map u8v)]) := by
 refine Con.of (args := [Value.pointer (some ⟨q, 0, none⟩), Value.int .i64 n]) Tryz.func33 rfl Tryz.ntmps33 rfl (fun F => ?_)
 show Wc _ W0 _ _ _ _ _ ((pt q 96 [Value.bool true, sv]) :: (sl 5 1 sv l.length (l.map u8v)) :: F)
 refine Wc.seq (Wc.region (Wl.q (v := Value.int .i64 0) (q_assign rfl) (Wl.done (Wx.go (Wc.seq (Wc.block (Wc.seq (Wc.region (Wl.q (v := Value.pointer (some ⟨q, 0, none⟩)) (q_move rfl) (Wl.e (e_call (F := (sl 5 1 sv l.length (l.map u8v)) :: F) (args := [Value.pointer (some ⟨q, 0, none⟩)]) Tryz.call60 rfl (wthere_yes W0 q (sv))) (fun _ _ => Wl.imp (L' := (pt q 96 [Value.bool true, sv]) :: (sl 5 1 sv l.length (l.map u8v)) :: F) (fun _ h => h) ?_)))))))))))
 refine Wl.q (v := Value.bool false) (q_not rfl rfl) (Wl.q (v := Value.bool false) (q_assign rfl) (Wl.done (Wx.go (Wc.no rfl (Wc.seq (Wc.region (Wl.q (v := Value.int .i64 n) (q_move rfl) (Wl.q (v := Value.bool true) (q_lss (r := true) rfl rfl (decide_eq_true (hn))) (Wl.q (v := Value.bool true) (q_assign rfl) (Wl.done (Wx.go ?_)))))))))))
 refine Wc.yes rfl (Wc.seq (Wc.region (Wl.q (v := Value.int .i64 1) (q_assign rfl) (Wl.done (Wx.go (Wc.ret (Wx.blockRet (Wx.thenRet (Wx.fin1 rfl (.inl rfl) (fun w hs => ?_))))))))))
 exact ⟨(), trivial, rfl, hs⟩

theorem wlist_big (W0 : World) (q : Nat) (l : List UInt8) (n : Int) (sv : Value) (h0 : 0 ≤ n) (hn : 65536 < n) :
  Con Tryz.prog W0 33 #[Value.pointer (some ⟨q, 0, none⟩), Value.int .i64 n] [pt q 96 [Value.bool true, sv], sl 5 1 sv l.length (l.map u8v)] (X := Unit) (fun _ => True) (fun _ => .int .i64 3) (fun _ => [pt q 96 [Value.bool true, sv], sl 5 1 sv l.length (l.map u8v)]) := by
 refine Con.of (args := [Value.pointer (some ⟨q, 0, none⟩), Value.int .i64 n]) Tryz.func33 rfl Tryz.ntmps33 rfl (fun F => ?_)
 show Wc _ W0 _ _ _ _ _ ((pt q 96 [Value.bool true, sv]) :: (sl 5 1 sv l.length (l.map u8v)) :: F)
 refine Wc.seq (Wc.region (Wl.q (v := Value.int .i64 0) (q_assign rfl) (Wl.done (Wx.go (Wc.seq (Wc.block (Wc.seq (Wc.region (Wl.q (v := Value.pointer (some ⟨q, 0, none⟩)) (q_move rfl) (Wl.e (e_call (F := (sl 5 1 sv l.length (l.map u8v)) :: F) (args := [Value.pointer (some ⟨q, 0, none⟩)]) Tryz.call60 rfl (wthere_yes W0 q (sv))) (fun _ _ => Wl.imp (L' := (pt q 96 [Value.bool true, sv]) :: (sl 5 1 sv l.length (l.map u8v)) :: F) (fun _ h => h) ?_)))))))))))
 refine Wl.q (v := Value.bool false) (q_not rfl rfl) (Wl.q (v := Value.bool false) (q_assign rfl) (Wl.done (Wx.go (Wc.no rfl (Wc.seq (Wc.region (Wl.q (v := Value.int .i64 n) (q_move rfl) (Wl.q (v := Value.bool false) (q_lss (r := false) rfl rfl (decide_eq_false (by omega))) (Wl.q (v := Value.bool false) (q_assign rfl) (Wl.done (Wx.go ?_)))))))))))
 refine Wc.no rfl (Wc.seq (Wc.region (Wl.q (v := Value.int .i64 n) (q_move rfl) (Wl.q (v := Value.bool true) (q_gtr (r := true) rfl rfl (decide_eq_true (hn))) (Wl.q (v := Value.bool true) (q_assign rfl) (Wl.done (Wx.go (Wc.yes rfl (Wc.seq (Wc.region (Wl.q (v := Value.int .i64 3) (q_assign rfl) ?_)))))))))))
 refine Wl.done (Wx.go (Wc.ret (Wx.blockRet (Wx.thenRet (Wx.fin1 rfl (.inl rfl) (fun w hs => ?_))))))
 exact ⟨(), trivial, rfl, hs⟩

theorem wlist_o (W0 : World) (q : Nat) (l : List UInt8) (n : Int) (sv : Value) (h0 : 0 ≤ n) (hn : n ≤ 65536) (hl : l.length < 100000000000000) :
  Con Tryz.prog W0 33 #[Value.pointer (some ⟨q, 0, none⟩), Value.int .i64 n] [pt q 96 [Value.bool true, sv], sl 5 1 sv l.length (l.map u8v)] (X := Value) (fun _ => True) (fun _ => .int .i64 0) (fun v => [pt q 96 [Value.bool true, v], sl 5 1 v ((l ++ enc (zz n)).length) ((l ++ enc (zz n)).map u8v)]) := by
 refine Con.of (args := [Value.pointer (some ⟨q, 0, none⟩), Value.int .i64 n]) Tryz.func33 rfl Tryz.ntmps33 rfl (fun F => ?_)
 show Wc _ W0 _ _ _ _ _ ((pt q 96 [Value.bool true, sv]) :: (sl 5 1 sv l.length (l.map u8v)) :: F)
 refine Wc.seq (Wc.region (Wl.q (v := Value.int .i64 0) (q_assign rfl) (Wl.done (Wx.go (Wc.seq (Wc.block (Wc.seq (Wc.region (Wl.q (v := Value.pointer (some ⟨q, 0, none⟩)) (q_move rfl) (Wl.e (e_call (F := (sl 5 1 sv l.length (l.map u8v)) :: F) (args := [Value.pointer (some ⟨q, 0, none⟩)]) Tryz.call60 rfl (wthere_yes W0 q (sv))) (fun _ _ => Wl.imp (L' := (pt q 96 [Value.bool true, sv]) :: (sl 5 1 sv l.length (l.map u8v)) :: F) (fun _ h => h) ?_)))))))))))
 refine Wl.q (v := Value.bool false) (q_not rfl rfl) (Wl.q (v := Value.bool false) (q_assign rfl) (Wl.done (Wx.go (Wc.no rfl (Wc.seq (Wc.region (Wl.q (v := Value.int .i64 n) (q_move rfl) (Wl.q (v := Value.bool false) (q_lss (r := false) rfl rfl (decide_eq_false (by omega))) (Wl.q (v := Value.bool false) (q_assign rfl) (Wl.done (Wx.go ?_)))))))))))
 refine Wc.no rfl (Wc.seq (Wc.region (Wl.q (v := Value.int .i64 n) (q_move rfl) (Wl.q (v := Value.bool false) (q_gtr (r := false) rfl rfl (decide_eq_false (by omega))) (Wl.q (v := Value.bool false) (q_assign rfl) (Wl.done (Wx.go (Wc.no rfl (Wc.skip (Wx.blockEnd (Wx.go ?_)))))))))))
 refine Wc.seq (Wc.region (Wl.q (v := Value.pointer (some ⟨q, 0, none⟩)) (q_move rfl) (Wl.q (v := Value.int .i64 n) (q_move rfl) (Wl.e (e_call (F := F) (args := [Value.pointer (some ⟨q, 0, none⟩), Value.int .i64 n]) Tryz.call61 rfl (wnumber_o W0 q l n sv (by omega) (by omega) hl)) (fun v1 _ => Wl.imp (L' := (pt q 96 [Value.bool true, v1]) :: (sl 5 1 v1 ((l ++ enc (zz n)).length) ((l ++ enc (zz n)).map u8v)) :: F) (fun _ h => h) (Wl.q (v := Value.int .i64 0) (q_assign rfl) (Wl.done (Wx.go (Wc.ret (Wx.fin1 rfl (.inl rfl) (fun w hs => ?_)))))))))))
 exact ⟨v1, trivial, rfl, hs⟩

theorem wlist_c (W0 : World) (q : Nat) (l : List UInt8) (n : Int) (hl : l.length < 50000000000000) :
    Con Tryz.prog W0 33 #[Value.pointer (some ⟨q, 0, none⟩), Value.int .i64 n] [isW q l] (X := Unit) (fun _ => True) (fun _ => .int .i64 (listW n).1) (fun _ => [isW q (l ++ (listW n).2)]) := Con.wr fun sv => by
  by_cases h0 : n < 0
  · have e : listW n = (1, []) := if_pos h0
    rw [e]; exact (wlist_neg W0 q l n sv h0).mono fun _ _ => ⟨(), trivial, rfl, fun _ _ h => isW_mk (by rw [List.append_nil]; exact h)⟩
  by_cases h1 : n > 65536
  · have e : listW n = (3, []) := by rw [listW, if_neg h0, if_pos h1]
    rw [e]; exact (wlist_big W0 q l n sv (by omega) h1).mono fun _ _ => ⟨(), trivial, rfl, fun _ _ h => isW_mk (by rw [List.append_nil]; exact h)⟩
  have e : listW n = (0, enc (zz n)) := by rw [listW, if_neg h0, if_neg h1]
  rw [e]; exact (wlist_o W0 q l n sv (by omega) (by omega) (by omega)).mono fun _ _ => ⟨(), trivial, rfl, fun _ _ h => isW_mk h⟩
theorem wtextW_c (W0 : World) (q : Nat) (l : List UInt8) (s : ByteArray) (hl : l.length < 50000000000000) :
    Con Tryz.prog W0 34 #[Value.pointer (some ⟨q, 0, none⟩), Value.string s] [isW q l] (X := Unit) (fun _ => True) (fun _ => .int .i64 (textW s).1) (fun _ => [isW q (l ++ (textW s).2)]) := Con.wr fun sv => by
  by_cases h0 : 65536 < s.size
  · have e : textW s = (3, []) := if_pos h0
    rw [e]; exact (wtext_big W0 q l s sv h0).mono fun _ _ => ⟨(), trivial, rfl, fun _ _ h => isW_mk (by rw [List.append_nil]; exact h)⟩
  have e : textW s = (0, enc (zz (s.size : Int)) ++ s.data.toList) := if_neg h0
  rw [e]; exact (wtext_o W0 q l s sv (by omega) (by omega)).mono fun _ _ => ⟨(), trivial, rfl, fun _ _ h => isW_mk (by rw [← List.append_assoc]; exact h)⟩

end Go.Proofs.YtkndmgfahghcjaaGreat

/- The wire: the document's answer, in plain data. -/
namespace Go.SL
open Go Go.RowKit
section
variable {P : Program} {W0 : World} {E : Nat → Value} {L : List HP} {x : Operand} {ty : TypeId}
end
end Go.SL
namespace Go.Wr
open Go Go.SL
/-! ### The document's answer -/
theorem textW_len (s : ByteArray) : (textW s).2.length ≤ 65546 := by
  unfold textW; split
  · simp
  · have := enc_len_le 9 _ (Nat.lt_trans (zz_lt (n := (s.size : Int)) (by omega) (by omega)) (by decide))
    simp only [List.length_append, Array.length_toList]
    have : s.data.size = s.size := rfl
    omega
end Go.Wr

/- The wire: what stands at a place, in plain data. -/
namespace Go.Wr
open Go Go.SL

def takeList (s : ByteArray) (a : Nat) : Option (Nat × Nat) := match takeNum s a with
 | some p => if 0 ≤ p.1 ∧ p.1 ≤ 65536 then some (p.1.toNat, p.2) else none
 | none => none
def takeText (s : ByteArray) (a : Nat) : Option (ByteArray × Nat) := match takeList s a with
 | some p => if p.2 + p.1 ≤ s.size then some (s.extract p.2 (p.2 + p.1), p.2 + p.1) else none
 | none => none
def gv {α : Type} (d : α) : Option (α × Nat) → α
 | some p => p.1
 | none => d
def gn {α : Type} (a : Nat) : Option (α × Nat) → Nat
 | some p => p.2
 | none => a
def ge {α : Type} : Option (α × Nat) → Int
 | some _ => 0
 | none => 4
theorem get_lt {s : ByteArray} {i : Nat} {c : UInt8} (h : s[i]? = some c) : i < s.size := by
 rcases Nat.lt_or_ge i s.size with h' | h'
 · exact h'
 · rw [getElem?_neg s i (by omega)] at h; cases h
theorem dec_le {s : ByteArray} {a : Nat} : ∀ (f i z : Nat) {p : Nat × Nat}, dec s a f i z = some p → p.2 ≤ s.size ∧ a + i < p.2
  | 0, _, _, _, h => by cases h
  | f + 1, i, z, p, h => by
    rw [dec] at h
    split at h
    · cases h
    · rename_i c hc
      have := get_lt hc
      split at h
      · cases h
      split at h
      · cases h; simp only; omega
      · have := dec_le f (i + 1) _ h; omega
theorem takeNum_le {s : ByteArray} {a : Nat} {p : Int × Nat} (h : takeNum s a = some p) : p.2 ≤ s.size ∧ a < p.2 := by
 unfold takeNum at h
 cases hd : dec s a 10 0 0 with
 | none => rw [hd] at h; cases h
 | some q => rw [hd] at h; cases h; have := dec_le _ _ _ hd; simp only; omega
theorem takeList_le {s : ByteArray} {a : Nat} {p : Nat × Nat} (h : takeList s a = some p) : p.2 ≤ s.size ∧ a < p.2 ∧ p.1 ≤ 65536 := by
  unfold takeList at h
  split at h
  · rename_i q hq
    split at h
    · cases h; have := takeNum_le hq; simp only; omega
    · cases h
  · cases h
theorem takeList_ok {s : ByteArray} {a b : Nat} {n : Nat} (h : takeNum s a = some ((n : Int), b)) (hn : n ≤ 65536) : takeList s a = some (n, b) := by
 unfold takeList; rw [h]; simp only; rw [if_pos (by omega)]; simp
theorem takeList_of {s : ByteArray} {a : Nat} {p : Nat × Nat} (h : takeList s a = some p) : takeNum s a = some ((p.1 : Int), p.2) := by
  unfold takeList at h
  split at h
  · rename_i q hq
    split at h
    · rename_i hr; cases h; rw [hq]; simp only; congr 1; ext <;> simp [Int.toNat_of_nonneg hr.1]
    · cases h
  · cases h
end Go.Wr

/- The wire: what is taken is what was written, in plain data. -/
namespace Go.Wr
open Go Go.SL

theorem get_list (s : ByteArray) (i : Nat) : s[i]? = s.data.toList[i]? := by
 by_cases h : i < s.size
 · rw [getElem?_pos s i h, List.getElem?_eq_getElem (by simpa using h)]; rfl
 · rw [getElem?_neg s i h, List.getElem?_eq_none (by simp only [Array.length_toList]; exact Nat.le_of_not_lt h)]
theorem size_list (s : ByteArray) : s.data.toList.length = s.size := by rw [Array.length_toList]; rfl
theorem drop_take {α : Type} {l : List α} {i n : Nat} {c : α} (h : l[i]? = some c) : (l.drop i).take (n + 1) = c :: (l.drop (i + 1)).take n := by
 obtain ⟨hl, he⟩ := List.getElem?_eq_some_iff.1 h
 rw [List.drop_eq_getElem_cons hl, List.take_succ_cons, he]
theorem pow_nx {z c i : Nat} (hz : z < 128 ^ i) : z + c % 128 * 128 ^ i < 128 ^ (i + 1) := by
 have : c % 128 * 128 ^ i ≤ 127 * 128 ^ i := Nat.mul_le_mul_right _ (by omega)
 rw [Nat.pow_succ]; omega
theorem mul_nx (z m y P : Nat) : z + m * P + y * (P * 128) = z + (m + 128 * y) * P := by
 rw [Nat.add_mul, Nat.mul_comm P 128, ← Nat.mul_assoc, Nat.mul_comm y 128]; omega
theorem dec_inv {s : ByteArray} {a : Nat} : ∀ (f i z : Nat) {p : Nat × Nat}, dec s a f i z = some p → i + f = 10 → z < 128 ^ i →
    ∃ y, p.1 = z + y * 128 ^ i ∧ (s.data.toList.drop (a + i)).take (p.2 - (a + i)) = enc y ∧ (0 < i → 0 < y) ∧ a + i < p.2 ∧ p.1 < 18446744073709551616
  | 0, _, _, _, h, _, _ => by cases h
  | f + 1, i, z, p, h, hf, hz => by
    rw [dec] at h
    split at h
    · cases h
    rename_i c hc
    rw [get_list] at hc
    split at h
    · cases h
    rename_i hb
    have hc8 : c.toNat < 256 := c.toNat_lt
    split at h
    · rename_i hlt
      cases h
      refine ⟨c.toNat, rfl, ?_, fun h => by omega, by simp only; omega, (or7 hz (by omega) (fun h => by omega) hlt).1⟩
      rw [enc_lt hlt, show (a + i + 1) - (a + i) = 0 + 1 by omega, drop_take hc, UInt8.ofNat_toNat]
      rfl
    · rename_i hge
      obtain ⟨y, h1, h2, h3, h4, h5⟩ := dec_inv f (i + 1) _ h (by omega) (pow_nx hz)
      have hy := h3 (by omega)
      refine ⟨c.toNat % 128 + 128 * y, ?_, ?_, fun _ => by omega, by omega, h5⟩
      · rw [h1, Nat.pow_succ, mul_nx]
      · rw [enc_ge (by omega), show (c.toNat % 128 + 128 * y) % 128 + 128 = c.toNat by omega, show (c.toNat % 128 + 128 * y) / 128 = y by omega, UInt8.ofNat_toNat, ← h2, show p.2 - (a + i) = (p.2 - (a + (i + 1))) + 1 by omega, drop_take hc]
        rfl
theorem un_range {Z : Nat} (h : Z < 18446744073709551616) : -9223372036854775808 ≤ un Z ∧ un Z ≤ 9223372036854775807 := by
 unfold un; split <;> omega
theorem takeNum_enc {s : ByteArray} {a : Nat} {p : Int × Nat} (h : takeNum s a = some p) : (s.data.toList.drop a).take (p.2 - a) = enc (zz p.1) ∧ -9223372036854775808 ≤ p.1 ∧ p.1 ≤ 9223372036854775807 := by
 unfold takeNum at h
 cases hd : dec s a 10 0 0 with
 | none => rw [hd] at h; cases h
 | some q =>
  rw [hd] at h; cases h
  obtain ⟨y, h1, h2, _, _, h5⟩ := dec_inv 10 0 0 hd rfl (by decide)
  simp only [Nat.pow_zero, Nat.mul_one, Nat.zero_add] at h1
  refine ⟨?_, un_range h5⟩
  simp only
  rw [zz_un, h1]; exact h2
theorem dec_put {s : ByteArray} {a : Nat} : ∀ (f i z y : Nat) (rest : List UInt8), i + f = 10 → (0 < i → 0 < y) → y * 128 ^ i < 18446744073709551616 → s.data.toList.drop (a + i) = enc y ++ rest →
    dec s a f i z = some (z + y * 128 ^ i, a + i + (enc y).length)
  | 0, i, z, y, rest, hf, hy, hb, _ => by
    obtain rfl : i = 10 := by omega
    have : 1 * 128 ^ 10 ≤ y * 128 ^ 10 := Nat.mul_le_mul_right _ (hy (by decide))
    have e : (128 : Nat) ^ 10 = 1180591620717411303424 := by decide
    omega
  | f + 1, i, z, y, rest, hf, hy, hb, hl => by
    have hget : ∀ c r, s.data.toList.drop (a + i) = c :: r → s[a + i]? = some c := fun c r h => by
      rw [get_list]
      have := congrArg (fun l : List UInt8 => l[0]?) h
      simpa using this
    have h9 : i = 9 → y ≤ 1 := fun h => by
      subst h
      have e : (128 : Nat) ^ 9 = 9223372036854775808 := by decide
      omega
    by_cases hlt : y < 128
    · rw [enc_lt hlt] at hl ⊢
      have ht : (UInt8.ofNat y).toNat = y := UInt8.toNat_ofNat_of_lt' (by simp only [UInt8.size]; omega)
      rw [dec, hget _ _ hl]
      simp only [ht]
      rw [if_neg (by omega), if_pos hlt]; rfl
    · rw [enc_ge hlt] at hl ⊢
      have ht : (UInt8.ofNat (y % 128 + 128)).toNat = y % 128 + 128 := UInt8.toNat_ofNat_of_lt' (by simp only [UInt8.size]; omega)
      rw [dec, hget _ _ hl]
      simp only [ht]
      rw [if_neg (by omega), if_neg (by omega), show (y % 128 + 128) % 128 = y % 128 by omega]
      have hm : y % 128 * 128 ^ i + y / 128 * (128 ^ i * 128) = y * 128 ^ i := by
        have := mul_nx 0 (y % 128) (y / 128) (128 ^ i)
        rw [show y % 128 + 128 * (y / 128) = y by omega] at this
        simpa using this
      have hd : s.data.toList.drop (a + (i + 1)) = enc (y / 128) ++ rest := by
        have := congrArg (List.drop 1) hl
        rw [List.drop_drop] at this
        simpa [Nat.add_assoc] using this
      rw [dec_put f (i + 1) _ (y / 128) rest (by omega) (fun _ => by omega) (by rw [Nat.pow_succ]; omega) hd, Nat.pow_succ]
      simp only [List.length_cons, Option.some.injEq, Prod.mk.injEq]
      omega
theorem takeNum_put {s : ByteArray} {a : Nat} {n : Int} {rest : List UInt8} (h1 : -9223372036854775808 ≤ n) (h2 : n ≤ 9223372036854775807) (h : s.data.toList.drop a = enc (zz n) ++ rest) : takeNum s a = some (n, a + (enc (zz n)).length) := by
 rw [takeNum, dec_put 10 0 0 (zz n) rest rfl (fun h => by omega) (by have := zz_lt h1 h2; simpa using this) h]
 simp [un_zz]

/-! ### What is taken is written so -/
theorem ge_ok {α : Type} {o : Option (α × Nat)} (h : ge o = 0) : ∃ p, o = some p := by
 cases o with
 | none => cases h
 | some p => exact ⟨p, rfl⟩
theorem ba_list (s : ByteArray) : ba s.data.toList = s := by simp [ba]
theorem takeList_enc {s : ByteArray} {a : Nat} {p : Nat × Nat} (h : takeList s a = some p) : (s.data.toList.drop a).take (p.2 - a) = enc (zz (p.1 : Int)) := (takeNum_enc (takeList_of h)).1
/-! ### What was written is taken so -/
theorem bytes_at {T : List ItemR} {k : Nat} {o : ItemR} (hg : T[k]? = some o) : ∃ rest, (ba (bytesW T)).data.toList.drop (bytesW (T.take k)).length = (itemW o).2 ++ rest := by
 refine ⟨bytesW (T.drop (k + 1)), ?_⟩
 obtain ⟨hl, he⟩ := List.getElem?_eq_some_iff.1 hg
 have e : T = T.take k ++ o :: T.drop (k + 1) := by rw [← he, ← List.drop_eq_getElem_cons hl, List.take_append_drop]
 have e2 : bytesW T = bytesW (T.take k) ++ ((itemW o).2 ++ bytesW (T.drop (k + 1))) := (congrArg bytesW e).trans (by simp [bytesW])
 show (bytesW T).toArray.toList.drop _ = _
 rw [show (bytesW T).toArray.toList = bytesW T from rfl, e2, List.drop_left]
def BackI {α : Type} (x : ItemR) (a : Nat) (o : Option (α × Nat)) (v : α → Prop) (d : α) : Prop := ge o = 0 ∧ v (gv d o) ∧ gn a o = a + (itemW x).2.length
theorem back_text {s : ByteArray} {x : ItemR} {a : Nat} (hk0 : ¬ x.kind = 0) (hk1 : ¬ x.kind = 1) (hk2 : ¬ x.kind = 2) (hk : x.kind = 3) (hok : (itemW x).1 = 0) (hp : ∃ rest, s.data.toList.drop a = (itemW x).2 ++ rest) : BackI x a (takeText s a) (fun v => v = x.s) ⟨#[]⟩ := by
 obtain ⟨rest, hp⟩ := hp
 have e : itemW x = textW x.s := by rw [itemW, if_neg hk0, if_neg hk1, if_neg hk2, if_pos hk]
 unfold BackI
 rw [e] at hok hp ⊢
 unfold textW at hok hp ⊢
 split at hok
 · cases hok
 rename_i hs
 rw [if_neg hs] at hp ⊢
 simp only at hp ⊢
 rw [List.append_assoc] at hp
 have hl := takeList_ok (takeNum_put (by omega) (by omega) hp) (by omega)
 have hlen := congrArg List.length hp
 simp only [List.length_drop, size_list, List.length_append] at hlen
 rw [takeText, hl]
 simp only
 have hne := enc_ne (zz (x.s.size : Int))
 rw [if_pos (by omega)]
 refine ⟨rfl, ?_, by simp only [gn, List.length_append, size_list]; omega⟩
 simp only [gv]
 rw [← ba_list (s.extract _ _), Lib.extract_data]
 rw [← List.drop_drop, hp, List.drop_left, show a + (enc (zz (x.s.size : Int))).length + x.s.size - (a + (enc (zz (x.s.size : Int))).length) = x.s.data.toList.length by rw [size_list]; omega, List.take_left]
 exact ba_list _
end Go.Wr

