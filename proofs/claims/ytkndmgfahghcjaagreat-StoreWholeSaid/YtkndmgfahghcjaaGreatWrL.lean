import Derived.Test.YtkndmgfahghcjaaGreatJnY
import Derived.Test.YtkndmgfahghcjaaGreatJnW
import Derived.Test.YtkndmgfahghcjaaGreatSLR
import Derived.Test.YtkndmgfahghcjaaGreatDkL
import Derived.Lib.Strings
/- Contracts of the calls. -/
namespace Go.Proofs.YtkndmgfahghcjaaGreat
open Go Go.SL Go.Dk Go.Jn Go.RowKit
set_option linter.unusedVariables false
set_option maxRecDepth 8000

theorem Put_on (W0 : World) (j dp : Nat) (t : ByteArray) (q : Int) (d : DS) (s : ByteArray) (hw : WF d) (hn1 : 1 ≤ d.secs.length) (hsn : d.since.length < 1000000000000) (hct : d.count < 4000000000000000000) (hq0 : 0 ≤ q) (hq : q < 9223372036854775807) (hd : d.down = false) :
  Con Tryz.prog W0 55 #[Value.pointer (some ⟨j, 0, none⟩), Value.string s] [pt j 117 [Value.pointer (some ⟨dp, 0, none⟩), Value.string t, Value.int .i64 q, Value.bool false], isDisk dp d] (X := Unit) (fun _ => True) (fun _ => .int .i64 ((JS.mk t q false).put d s).1) (fun _ => [isJ j dp ((JS.mk t q false).put d s).2.2, isDisk dp ((JS.mk t q false).put d s).2.1]) := by
 refine Con.of (args := [Value.pointer (some ⟨j, 0, none⟩), Value.string s]) Tryz.func55 rfl Tryz.ntmps55 rfl (fun F => ?_)
 have hm := hw.l.len
 have hh : half d.secs ≤ 2047 := by unfold half; omega
 show Wc _ W0 _ _ _ _ _ ((pt j 117 [Value.pointer (some ⟨dp, 0, none⟩), Value.string t, Value.int .i64 q, Value.bool false]) :: (isDisk dp d) :: F)
 refine Wc.seq (Wc.region (Wl.q (v := Value.int .i64 0) (q_assign rfl) (Wl.done (Wx.go (Wc.seq (Wc.seq (Wc.region (Wl.q (v := Value.pointer (some ⟨j, 0, none⟩)) (q_move rfl) (Wl.e (e_call (F := F) (args := [Value.pointer (some ⟨j, 0, none⟩)]) Tryz.call79 rfl (jstate_on W0 j dp t q d hd)) (fun _ _ => Wl.imp (L' := (pt j 117 [Value.pointer (some ⟨dp, 0, none⟩), Value.string t, Value.int .i64 q, Value.bool false]) :: (isDisk dp d) :: F) (fun _ h => h) (Wl.q (v := Value.int .i64 0) (q_assign rfl) ?_)))))))))))
 refine Wl.done (Wx.go (Wc.seq (Wc.region (Wl.q (v := Value.int .i64 0) (q_move rfl) (Wl.q (v := Value.bool false) (q_neq (r := true) rfl rfl (decide_eq_true (by decide))) (Wl.done (Wx.go (Wc.no rfl (Wc.skip (Wx.go (Wc.seq ?_)))))))))))
 refine Wc.seq (Wc.region (Wl.q (v := Value.string s) (q_move rfl) (Wl.q (v := Value.int .i64 ((s.size : Nat) : Int)) (q_len_str Tryz.underlying9 rfl) (Wl.q (v := Value.pointer (some ⟨j, 0, none⟩)) (q_move rfl) (Wl.e (e_call (F := F) (args := [Value.pointer (some ⟨j, 0, none⟩)]) Tryz.call84 rfl (room_in W0 j dp (⟨t, q, false⟩ : JS).text (⟨t, q, false⟩ : JS).seq d (⟨t, q, false⟩ : JS).dead hn1 hm)) (fun _ _ => Wl.imp (L' := (pt j 117 [Value.pointer (some ⟨dp, 0, none⟩), Value.string t, Value.int .i64 q, Value.bool false]) :: (isDisk dp d) :: F) (fun _ h => h) ?_))))))
 by_cases hbig : ((s.size : Nat) : Int) > ((half d.secs * 64 : Nat) : Int)
 ·
  refine Wl.q (v := Value.bool true) (q_gtr (r := true) rfl rfl (decide_eq_true hbig)) (Wl.done (Wx.go (Wc.yes rfl (Wc.seq (Wc.region (Wl.q (v := Value.int .i64 5) (q_assign rfl) (Wl.done (Wx.go (Wc.ret (Wx.thenRet (Wx.fin1 rfl (.inl rfl) (fun w hs => ?_))))))))))))
  have e : ((JS.mk t q false).put d s) = (5, d, ⟨t, q, false⟩) := by rw [JS.put, if_neg (by simp [hd]), if_pos (by omega)]
  exact ⟨(), trivial, (by first | (rw [e]; done) | (rw [e]; rfl)), by rw [e]; exact hs⟩
 ·
  refine Wl.q (v := Value.bool false) (q_gtr (r := false) rfl rfl (decide_eq_false hbig)) (Wl.done (Wx.go (Wc.no rfl (Wc.skip (Wx.go (Wc.seq (Wc.region (Wl.q (v := Value.pointer (some ⟨j, 0, none⟩)) (q_move rfl) (Wl.q (v := Value.string s) (q_move rfl) (Wl.e (e_call (F := F) (args := [Value.pointer (some ⟨j, 0, none⟩), Value.string s]) Tryz.call85 rfl (put_in W0 j dp t q d s hw hn1 hsn hct hq0 hq (by omega))) (fun _ _ => Wl.imp (L' := (pt j 117 [Value.pointer (some ⟨dp, 0, none⟩), Value.string t, Value.int .i64 q, Value.bool false]) :: (isDisk dp ((putD d q s).2)) :: F) (fun _ h => h) ?_)))))))))))
  refine Wl.q (v := Value.int .i64 ((putD d q s).1)) (q_assign rfl) (Wl.done (Wx.go (Wc.seq (Wc.seq (Wc.region (Wl.q (v := Value.int .i64 ((putD d q s).1)) (q_move rfl) ?_))))))
  by_cases hp : (putD d q s).1 = 0
  ·
   refine Wl.q (v := Value.bool false) (q_neq (r := true) rfl rfl (decide_eq_true hp)) (Wl.done (Wx.go (Wc.no rfl (Wc.skip (Wx.go (Wc.seq (Wc.region (Wl.q (v := Value.pointer (some ⟨j, 0, none⟩)) (q_move rfl) (Wl.q (v := Value.string s) (q_move rfl) (Wl.q (v := Value.pointer (some ⟨j, 0, none⟩)) (q_nil_ptr rfl) (Wl.q (v := Value.pointer (some ⟨j, 1, none⟩)) (q_field (m := 1) fo_117_1 rfl rfl) ?_)))))))))))
   refine Wl.e (e_store (i := 0) (v := Value.string s) sz_9 rfl rfl (fun _ _ => rfl) rfl (by simp)) (fun _ _ => Wl.imp (L' := (pt j 117 [Value.pointer (some ⟨dp, 0, none⟩), Value.string s, Value.int .i64 q, Value.bool false]) :: (isDisk dp ((putD d q s).2)) :: F) (fun _ h => h) (Wl.done (Wx.go (Wc.seq (Wc.region (Wl.q (v := Value.pointer (some ⟨j, 0, none⟩)) (q_move rfl) (Wl.q (v := Value.pointer (some ⟨j, 0, none⟩)) (q_nil_ptr rfl) (Wl.q (v := Value.pointer (some ⟨j, 2, none⟩)) (q_field (m := 2) fo_117_2 rfl rfl) (Wl.q (v := Value.int .i64 q) (q_load sc_3 rfl (.cel (i := 0) rfl rfl)) (Wl.q (v := Value.int .i64 (q + 1)) (q_add (c := (q + 1)) rfl rfl (wrap_i64 (by omega) (by omega))) (Wl.q (v := Value.pointer (some ⟨j, 0, none⟩)) (q_nil_ptr rfl) ?_)))))))))))
   refine Wl.q (v := Value.pointer (some ⟨j, 2, none⟩)) (q_field (m := 2) fo_117_2 rfl rfl) (Wl.e (e_store (i := 0) (v := Value.int .i64 (q + 1)) sz_3 rfl rfl (fun _ _ => rfl) rfl (by simp)) (fun _ _ => Wl.imp (L' := (pt j 117 [Value.pointer (some ⟨dp, 0, none⟩), Value.string s, Value.int .i64 (q + 1), Value.bool false]) :: (isDisk dp ((putD d q s).2)) :: F) (fun _ h => h) (Wl.done (Wx.go (Wc.seq (Wc.region (Wl.q (v := Value.int .i64 0) (q_assign rfl) (Wl.done (Wx.go (Wc.ret (Wx.fin1 rfl (.inl rfl) (fun w hs => ?_))))))))))))
   have e : ((JS.mk t q false).put d s) = (0, (putD d q s).2, ⟨s, q + 1, false⟩) := by rw [JS.put, if_neg (by simp [hd]), if_neg (by omega), if_pos hp]
   exact ⟨(), trivial, (by first | (rw [e]; done) | (rw [e]; rfl)), by rw [e]; exact hs⟩
  ·
   refine Wl.q (v := Value.bool true) (q_neq (r := false) rfl rfl (decide_eq_false hp)) (Wl.done (Wx.go (Wc.yes rfl (Wc.seq (Wc.region (Wl.q (v := Value.pointer (some ⟨j, 0, none⟩)) (q_move rfl) (Wl.q (v := Value.pointer (some ⟨j, 0, none⟩)) (q_nil_ptr rfl) (Wl.q (v := Value.pointer (some ⟨j, 3, none⟩)) (q_field (m := 3) fo_117_3 rfl rfl) (Wl.e (e_store (i := 0) (v := Value.bool true) sz_4 rfl rfl (fun _ _ => rfl) rfl (by simp)) (fun _ _ => Wl.imp (L' := (pt j 117 [Value.pointer (some ⟨dp, 0, none⟩), Value.string t, Value.int .i64 q, Value.bool true]) :: (isDisk dp ((putD d q s).2)) :: F) (fun _ h => h) (Wl.done ?_)))))))))))
   refine Wx.go (Wc.seq (Wc.region (Wl.q (v := Value.int .i64 ((putD d q s).1)) (q_move rfl) (Wl.q (v := Value.int .i64 ((putD d q s).1)) (q_assign rfl) (Wl.done (Wx.go (Wc.ret (Wx.thenRet (Wx.fin1 rfl (.inl rfl) (fun w hs => ?_))))))))))
   have e : ((JS.mk t q false).put d s) = ((putD d q s).1, (putD d q s).2, ⟨t, q, true⟩) := by rw [JS.put, if_neg (by simp [hd]), if_neg (by omega), if_neg hp]
   exact ⟨(), trivial, (by first | (rw [e]; done) | (rw [e]; rfl)), by rw [e]; exact hs⟩

theorem Put_off (W0 : World) (j dp : Nat) (t : ByteArray) (q : Int) (d : DS) (s : ByteArray) (dead : Bool) (h : dead = true ∨ d.down = true) :
  Con Tryz.prog W0 55 #[Value.pointer (some ⟨j, 0, none⟩), Value.string s] [pt j 117 [Value.pointer (some ⟨dp, 0, none⟩), Value.string t, Value.int .i64 q, Value.bool dead], isDisk dp d] (X := Unit) (fun _ => True) (fun _ => .int .i64 6) (fun _ => [pt j 117 [Value.pointer (some ⟨dp, 0, none⟩), Value.string t, Value.int .i64 q, Value.bool dead], isDisk dp d]) := by
 refine Con.of (args := [Value.pointer (some ⟨j, 0, none⟩), Value.string s]) Tryz.func55 rfl Tryz.ntmps55 rfl (fun F => ?_)
 show Wc _ W0 _ _ _ _ _ ((pt j 117 [Value.pointer (some ⟨dp, 0, none⟩), Value.string t, Value.int .i64 q, Value.bool dead]) :: (isDisk dp d) :: F)
 refine Wc.seq (Wc.region (Wl.q (v := Value.int .i64 0) (q_assign rfl) (Wl.done (Wx.go (Wc.seq (Wc.seq (Wc.region (Wl.q (v := Value.pointer (some ⟨j, 0, none⟩)) (q_move rfl) (Wl.e (e_call (F := F) (args := [Value.pointer (some ⟨j, 0, none⟩)]) Tryz.call79 rfl (jstate_off W0 j dp t q d dead h)) (fun _ _ => Wl.imp (L' := (pt j 117 [Value.pointer (some ⟨dp, 0, none⟩), Value.string t, Value.int .i64 q, Value.bool dead]) :: (isDisk dp d) :: F) (fun _ h => h) (Wl.q (v := Value.int .i64 6) (q_assign rfl) ?_)))))))))))
 refine Wl.done (Wx.go (Wc.seq (Wc.region (Wl.q (v := Value.int .i64 6) (q_move rfl) (Wl.q (v := Value.bool true) (q_neq (r := false) rfl rfl (decide_eq_false (by decide))) (Wl.done (Wx.go (Wc.yes rfl (Wc.seq (Wc.region (Wl.q (v := Value.int .i64 6) (q_move rfl) ?_)))))))))))
 refine Wl.q (v := Value.int .i64 6) (q_assign rfl) (Wl.done (Wx.go (Wc.ret (Wx.thenRet (Wx.fin1 rfl (.inl rfl) (fun w hs => ?_))))))
 exact ⟨(), trivial, rfl, hs⟩

theorem Put_c (W0 : World) (j dp : Nat) (js : JS) (d : DS) (s : ByteArray) (hw : WF d) (hn1 : 1 ≤ d.secs.length) (hsn : d.since.length < 1000000000000) (hct : d.count < 4000000000000000000) (hq0 : 0 ≤ js.seq) (hq : js.seq < 9223372036854775807) : Con Tryz.prog W0 55 #[.pointer (some ⟨j, 0, none⟩), .string s] [isJ j dp js, isDisk dp d] (X := Unit) (fun _ => True) (fun _ => .int .i64 (js.put d s).1) (fun _ => [isJ j dp (js.put d s).2.2, isDisk dp (js.put d s).2.1]) := by
  obtain ⟨t, q, dead⟩ := js
  by_cases h : dead = true ∨ d.down = true
  · have e : (JS.mk t q dead).put d s = (6, d, ⟨t, q, dead⟩) := if_pos h
    rw [e]
    exact Put_off W0 j dp t q d s dead h
  · obtain rfl : dead = false := by cases dead; rfl; exact absurd (.inl rfl) h
    exact Put_on W0 j dp t q d s hw hn1 hsn hct hq0 hq (by cases hx : d.down; rfl; exact absurd (.inr hx) h)

end Go.Proofs.YtkndmgfahghcjaaGreat

/- The laws' plain part: calls on journals whose state is known. -/
namespace Go.Jn
open Go Go.SL Go.Dk
set_option linter.unusedVariables false
section
variable {S : List ByteArray} {t s : ByteArray} {q : Int} {dn : Bool} {k : Nat}
theorem Ok.wf (h : Ok S t q) : WF ⟨S, [], dn, k, none⟩ := ⟨h.wfl, fun _ _ h => by cases h⟩
theorem Ok.wfc (h : Ok S t q) {c : Nat} {b : Int} (hc : c ≤ 9223372036854775807) : WF ⟨S, [], dn, k, some (c, b)⟩ := ⟨h.wfl, fun n b' e => by cases e; exact hc⟩
theorem Ok.rng (h : Ok S t q) : 0 ≤ q ∧ q ≤ 9223372036854775807 ∧ 4 ≤ S.length := opens_rng h.opens
theorem low_any (d : DS) : LowD 9223372036854775807 d := ⟨fun _ _ _ _ hn _ => hn.2, fun _ _ _ _ _ hn _ => hn.2⟩
theorem put_kp {d : DS} (h : WF d) (h0 : 0 ≤ q) (hq : q < 9223372036854775807) : Kp d (putD d q s).2 (nPieces s + 3) := (put_keeps h (low_any d) h0 (by omega) (Int.le_refl _)).1
theorem put_js (h : Ok S t q) (hq : q < 9223372036854775807) (hs : s.size ≤ half S * 64) (k : Nat) :
  ∃ S', S'.length = S.length ∧ Ok S' s (q + 1) ∧ (JS.mk t q false).put ⟨S, [], false, k, none⟩ s = (0, ⟨S', [], false, k + nPieces s + 3, none⟩, ⟨s, q + 1, false⟩) := by
 obtain ⟨S', h1, h2, h3⟩ := put_ends h hq hs k
 refine ⟨S', h1, h2, ?_⟩
 rw [JS.put, if_neg (by simp), if_neg (by show ¬ half S * 64 < s.size; omega), h3, if_pos rfl]
theorem put_big {c : Option (Nat × Int)} (hs : half S * 64 < s.size) : (JS.mk t q false).put ⟨S, [], false, k, c⟩ s = (5, ⟨S, [], false, k, c⟩, ⟨t, q, false⟩) := by
 rw [JS.put, if_neg (by simp), if_pos hs]
theorem cut_js (h : Ok S t q) (hq : q < 9223372036854775807) (hs : s.size ≤ half S * 64) (k : Nat) {c : Nat} (bits : Int) (hc : c ≤ 9223372036854775807) :
    ∃ S' k' t' q', S'.length = S.length ∧ Ok S' t' q' ∧ k' ≤ k + nPieces s + 3 ∧
      ((nPieces s + 3 ≤ c ∧ t' = s ∧ q' = q + 1 ∧ (JS.mk t q false).put ⟨S, [], false, k, some (c, bits)⟩ s = (0, ⟨S', [], false, k', some (c - nPieces s - 3, bits)⟩, ⟨s, q + 1, false⟩)) ∨
       (c < nPieces s + 3 ∧ (c < nPieces s + 2 → t' = t ∧ q' = q) ∧ ((t' = t ∧ q' = q) ∨ (t' = s ∧ q' = q + 1)) ∧ (JS.mk t q false).put ⟨S, [], false, k, some (c, bits)⟩ s = (6, ⟨S', [], true, k', none⟩, ⟨t, q, true⟩))) := by
  obtain ⟨S', k', t', q', h1, h2, h3⟩ := cut_ends h hq hs k c bits
  have hk := (put_kp (s := s) (h.wfc (dn := false) (k := k) (c := c) (b := bits) hc) h.rng.1 hq).count
  have e : ∀ r, putD ⟨S, [], false, k, some (c, bits)⟩ q s = r → (JS.mk t q false).put ⟨S, [], false, k, some (c, bits)⟩ s = if r.1 = 0 then (0, r.2, ⟨s, q + 1, false⟩) else (r.1, r.2, ⟨t, q, true⟩) := fun r hr => by
    rw [JS.put, if_neg (by simp), if_neg (by show ¬ half S * 64 < s.size; omega), hr]
  refine ⟨S', k', t', q', h1, h2, ?_, ?_⟩
  · rcases h3 with ⟨_, _, _, hp⟩ | ⟨_, _, _, hp⟩ <;> (rw [hp] at hk; have hk : k' ≤ k + (nPieces s + 3) := hk; omega)
  · rcases h3 with ⟨g1, g2, g3, hp⟩ | ⟨g1, g2, g3, hp⟩
    · exact .inl ⟨g1, g2, g3, by rw [e _ hp, if_pos rfl]⟩
    · exact .inr ⟨g1, g2, g3, by rw [e _ hp, if_neg (by show ¬ (6 : Int) = 0; decide)]⟩
end
theorem cut_ok {S : List ByteArray} {G : List (Nat × ByteArray)} {k : Nat} {c : Option (Nat × Int)} {n b : Int} (hn : ¬ n < 0) : (⟨S, G, false, k, c⟩ : DS).cutTo n b = (0, ⟨S, G, false, k, some (n.toNat, b)⟩) := by
 rw [DS.cutTo, if_neg (by simp), if_neg hn]
theorem few (s : ByteArray) {n : Nat} (h : s.size ≤ n) : nPieces s ≤ (n + 63) / 64 := by unfold nPieces; omega
/-! ### Texts -/
end Go.Jn

/- Numbers as bytes, of plain data: what the wire's Writer and Reader compute. -/
namespace Go.Wr
open Go Go.SL

def zz (n : Int) : Nat := if 0 ≤ n then (2 * n).toNat else (-2 * n - 1).toNat
def un (z : Nat) : Int := if z % 2 = 0 then ((z / 2 : Nat) : Int) else -((z / 2 : Nat) : Int) - 1
theorem un_zz (n : Int) : un (zz n) = n := by
 unfold un zz
 split <;> split <;> omega
theorem zz_un (z : Nat) : zz (un z) = z := by
 unfold un zz
 split <;> split <;> omega
theorem zz_lt {n : Int} (h1 : -9223372036854775808 ≤ n) (h2 : n ≤ 9223372036854775807) : zz n < 18446744073709551616 := by
 unfold zz; split <;> omega

def enc (z : Nat) : List UInt8 := if z < 128 then [UInt8.ofNat z] else UInt8.ofNat (z % 128 + 128) :: enc (z / 128)
termination_by z
theorem enc_lt {z : Nat} (h : z < 128) : enc z = [UInt8.ofNat z] := by rw [enc, if_pos h]
theorem enc_ge {z : Nat} (h : ¬ z < 128) : enc z = UInt8.ofNat (z % 128 + 128) :: enc (z / 128) := by rw [enc, if_neg h]

def u8v (c : UInt8) : Value := .int .u8 ((c.toNat : Nat) : Int)
theorem u8v_ofNat {x : Nat} (h : x < 256) : u8v (UInt8.ofNat x) = .int .u8 ((x : Nat) : Int) := by
 rw [u8v, UInt8.toNat_ofNat_of_lt' (by simpa using h)]
theorem u8_snoc (m : List UInt8) {x : Nat} (h : x < 256) : (m ++ [UInt8.ofNat x]).map u8v = m.map u8v ++ [Value.int .u8 ((x : Nat) : Int)] := by
 rw [List.map_append, List.map_singleton, u8v_ofNat h]

/-! ### What the code's operations on unsigned numbers are -/
theorem wrap_u64 {a : Int} (h1 : 0 ≤ a) (h2 : a < 18446744073709551616) : IntKind.u64.wrap a = a := by
 simp only [IntKind.wrap, IntKind.signed, IntKind.bits, Bool.false_and, Bool.false_eq_true, if_false]
 omega
theorem wrap_u64' (a : Int) : IntKind.u64.wrap a = a % 18446744073709551616 := by
 simp only [IntKind.wrap, IntKind.signed, IntKind.bits, Bool.false_and, Bool.false_eq_true, if_false]
 rfl
theorem wrap_u8' (a : Int) : IntKind.u8.wrap a = a % 256 := by
 simp only [IntKind.wrap, IntKind.signed, IntKind.bits, Bool.false_and, Bool.false_eq_true, if_false]
 rfl
theorem or128 (z : Nat) : IntKind.u8.wrap ((BitVec.ofInt IntKind.u8.bits (((z % 256 : Nat) : Int)) ||| BitVec.ofInt IntKind.u8.bits 128).toNat) = ((z % 128 + 128 : Nat) : Int) := by
 have key : ∀ x : Fin 256, (BitVec.ofInt 8 ((x.val : Nat) : Int) ||| BitVec.ofInt 8 128).toNat = x.val % 128 + 128 := by decide +kernel
 have h := key ⟨z % 256, Nat.mod_lt _ (by decide)⟩
 show IntKind.u8.wrap ((BitVec.ofInt 8 (((z % 256 : Nat) : Int)) ||| BitVec.ofInt 8 128).toNat) = _
 rw [h, wrap_u8']
 simp only; omega
theorem sh63 {n : Int} (h1 : -9223372036854775808 ≤ n) (h2 : n ≤ 9223372036854775807) : n.fdiv (2 ^ min (Int.toNat 63) IntKind.i64.bits) = if 0 ≤ n then 0 else -1 := by
 show n.fdiv 9223372036854775808 = _
 rw [Int.fdiv_eq_ediv_of_nonneg _ (by omega)]
 split <;> omega
theorem zzcode {n : Int} (h1 : -9223372036854775808 ≤ n) (h2 : n ≤ 9223372036854775807) :
    IntKind.u64.wrap ((BitVec.ofInt IntKind.u64.bits (IntKind.u64.wrap (IntKind.u64.wrap n * 2 ^ min (Int.toNat 1) IntKind.u64.bits)) ^^^ BitVec.ofInt IntKind.u64.bits (IntKind.u64.wrap (if 0 ≤ n then 0 else -1))).toNat) = ((zz n : Nat) : Int) := by
  have e1 : IntKind.u64.wrap (IntKind.u64.wrap n * 2 ^ min (Int.toNat 1) IntKind.u64.bits) = (2 * n) % 18446744073709551616 := by
    rw [wrap_u64', wrap_u64']
    show (n % 18446744073709551616 * 2) % 18446744073709551616 = _
    omega
  rw [e1]
  show IntKind.u64.wrap ((BitVec.ofInt 64 (2 * n % 18446744073709551616) ^^^ BitVec.ofInt 64 (IntKind.u64.wrap (if 0 ≤ n then 0 else -1))).toNat) = _
  have hz := zz_lt h1 h2
  by_cases h : 0 ≤ n
  · rw [if_pos h, wrap_u64 (a := 0) (by decide) (by decide)]
    have : BitVec.ofInt 64 0 = 0#64 := rfl
    rw [this, BitVec.xor_zero, BitVec.toNat_ofInt]
    have : zz n = (2 * n).toNat := by unfold zz; rw [if_pos h]
    rw [this] at hz ⊢
    rw [wrap_u64 (by omega) (by omega)]
    omega
  · rw [if_neg h]
    have e2 : BitVec.ofInt 64 (IntKind.u64.wrap (-1)) = BitVec.allOnes 64 := by decide
    rw [e2, BitVec.xor_allOnes, BitVec.toNat_not, BitVec.toNat_ofInt]
    have : zz n = (-2 * n - 1).toNat := by unfold zz; rw [if_neg h]
    rw [this] at hz ⊢
    rw [wrap_u64 (by omega) (by omega)]
    omega
theorem shr7 (z : Nat) : ((z : Nat) : Int).fdiv (2 ^ min (Int.toNat 7) IntKind.u64.bits) = ((z / 128 : Nat) : Int) := by
 show ((z : Nat) : Int).fdiv 128 = _
 rw [Int.fdiv_eq_ediv_of_nonneg _ (by omega)]
 omega
theorem conv8 (z : Nat) : IntKind.u8.wrap ((z : Nat) : Int) = ((z % 256 : Nat) : Int) := by rw [wrap_u8']; omega

/-! ### Rows of bytes, compared -/
theorem enc_ne (z : Nat) : 1 ≤ (enc z).length := by
 by_cases h : z < 128
 · rw [enc_lt h]; simp
 · rw [enc_ge h]; simp
theorem enc_len_le : ∀ (k z : Nat), z < 128 ^ (k + 1) → (enc z).length ≤ k + 1
  | 0, z, h => by rw [enc_lt (by simpa using h)]; simp
  | k + 1, z, h => by
    by_cases hz : z < 128
    · rw [enc_lt hz]; simp
    · rw [enc_ge hz]
      have := enc_len_le k (z / 128) (by rw [Nat.div_lt_iff_lt_mul (by decide)]; rw [Nat.pow_succ] at h; exact h)
      simp only [List.length_cons]; omega
/-! ### Numbers taken -/
/-- What stands at a place: the number without a sign, and the place behind it. -/
def dec (s : ByteArray) (at_ : Nat) : Nat → Nat → Nat → Option (Nat × Nat)
 | 0, _, _ => none
 | f + 1, i, z => match s[at_ + i]? with
  | none => none
  | some c => if (i = 9 ∧ 1 < c.toNat) ∨ (0 < i ∧ c.toNat = 0) then none else if c.toNat < 128 then some (z + c.toNat * 128 ^ i, at_ + i + 1) else dec s at_ f (i + 1) (z + c.toNat % 128 * 128 ^ i)
def takeNum (s : ByteArray) (at_ : Nat) : Option (Int × Nat) := (dec s at_ 10 0 0).map fun p => (un p.1, p.2)
theorem and127 (c : UInt8) : IntKind.u8.wrap ((BitVec.ofInt IntKind.u8.bits ((c.toNat : Nat) : Int) &&& BitVec.ofInt IntKind.u8.bits 127).toNat) = ((c.toNat % 128 : Nat) : Int) := by
 have key : ∀ x : Fin 256, (BitVec.ofInt 8 ((x.val : Nat) : Int) &&& BitVec.ofInt 8 127).toNat = x.val % 128 := by decide +kernel
 have h := key ⟨c.toNat, c.toNat_lt⟩
 show IntKind.u8.wrap ((BitVec.ofInt 8 ((c.toNat : Nat) : Int) &&& BitVec.ofInt 8 127).toNat) = _
 rw [h, wrap_u8']
 simp only; omega
theorem two7 (i : Nat) : (2 : Nat) ^ (7 * i) = 128 ^ i := by rw [Nat.pow_mul]
/-- What is put in from above. -/
theorem or7 {z c i : Nat} (hz : z < 128 ^ i) (hi : i ≤ 9) (hc : i = 9 → c ≤ 1) (hc2 : c < 128) : z + c * 128 ^ i < 18446744073709551616 ∧
    IntKind.u64.wrap ((BitVec.ofInt IntKind.u64.bits ((z : Nat) : Int) ||| BitVec.ofInt IntKind.u64.bits ((c * 128 ^ i : Nat) : Int)).toNat) = ((z + c * 128 ^ i : Nat) : Int) := by
  have hp : 128 ^ i ≤ 128 ^ 9 := Nat.pow_le_pow_right (by decide) hi
  have h9 : c * 128 ^ i < 18446744073709551616 - 128 ^ i + 1 := by
    by_cases h : i = 9
    · subst h; have := hc rfl
      have : c * 128 ^ 9 ≤ 1 * 128 ^ 9 := Nat.mul_le_mul_right _ this
      have e9 : (128 : Nat) ^ 9 = 9223372036854775808 := by decide
      omega
    · have h8 : 128 ^ i ≤ 128 ^ 8 := Nat.pow_le_pow_right (by decide) (by omega)
      have h3 : c * 128 ^ i ≤ 127 * 128 ^ i := Nat.mul_le_mul_right _ (by omega)
      have e8 : (128 : Nat) ^ 8 = 72057594037927936 := by decide
      omega
  have e9 : (128 : Nat) ^ 9 = 9223372036854775808 := by decide
  have hlt : z + c * 128 ^ i < 18446744073709551616 := by omega
  refine ⟨hlt, ?_⟩
  show IntKind.u64.wrap ((BitVec.ofInt 64 ((z : Nat) : Int) ||| BitVec.ofInt 64 ((c * 128 ^ i : Nat) : Int)).toNat) = _
  have e1 : (BitVec.ofInt 64 ((z : Nat) : Int)).toNat = z := by
    rw [BitVec.ofInt_natCast, BitVec.toNat_ofNat]; exact Nat.mod_eq_of_lt (by omega)
  have e2 : (BitVec.ofInt 64 ((c * 128 ^ i : Nat) : Int)).toNat = c * 128 ^ i := by
    rw [BitVec.ofInt_natCast, BitVec.toNat_ofNat]; exact Nat.mod_eq_of_lt (by omega)
  rw [BitVec.toNat_or, e1, e2, ← two7 i, Nat.mul_comm c, Nat.or_comm, ← Nat.two_pow_add_eq_or_of_lt (by rw [two7]; exact hz) c, Nat.add_comm]
  rw [wrap_u64 (by omega) (by rw [two7, Nat.mul_comm]; omega)]
theorem shl7 {c i : Nat} (hi : i ≤ 9) (hc : i = 9 → c ≤ 1) (hc2 : c < 128) : IntKind.u64.wrap (((c : Nat) : Int) * 2 ^ min (Int.toNat ((7 * i : Nat) : Int)) IntKind.u64.bits) = ((c * 128 ^ i : Nat) : Int) := by
 have h := (or7 (z := 0) (Nat.pow_pos (by decide)) hi hc hc2).1
 have e : (((c : Nat) : Int) * 2 ^ min (Int.toNat ((7 * i : Nat) : Int)) IntKind.u64.bits) = ((c * 128 ^ i : Nat) : Int) := by
  rw [show min (Int.toNat ((7 * i : Nat) : Int)) IntKind.u64.bits = 7 * i from by simp only [Int.toNat_natCast, IntKind.bits]; omega, ← two7]
  push_cast; rfl
 rw [e, wrap_u64 (by omega) (by omega)]

theorem and1 {Z : Nat} (h : Z < 18446744073709551616) : IntKind.u64.wrap ((BitVec.ofInt IntKind.u64.bits ((Z : Nat) : Int) &&& BitVec.ofInt IntKind.u64.bits 1).toNat) = ((Z % 2 : Nat) : Int) := by
 show IntKind.u64.wrap ((BitVec.ofInt 64 ((Z : Nat) : Int) &&& BitVec.ofInt 64 1).toNat) = _
 have e1 : (BitVec.ofInt 64 ((Z : Nat) : Int)).toNat = Z := by
  rw [BitVec.ofInt_natCast, BitVec.toNat_ofNat]; exact Nat.mod_eq_of_lt (by omega)
 have e2 : (BitVec.ofInt 64 1).toNat = 1 := by decide
 rw [BitVec.toNat_and, e1, e2, Nat.and_one_is_mod, wrap_u64 (by omega) (by omega)]
theorem shr1 (Z : Nat) : ((Z : Nat) : Int).fdiv (2 ^ min (Int.toNat 1) IntKind.u64.bits) = ((Z / 2 : Nat) : Int) := by
 show ((Z : Nat) : Int).fdiv 2 = _
 rw [Int.fdiv_eq_ediv_of_nonneg _ (by omega)]
 omega
theorem xor_un {Z : Nat} (h : Z < 18446744073709551616) : IntKind.i64.wrap ((BitVec.ofInt IntKind.i64.bits ((Z / 2 : Nat) : Int) ^^^ BitVec.ofInt IntKind.i64.bits (-((Z % 2 : Nat) : Int))).toNat) = un Z := by
  show IntKind.i64.wrap ((BitVec.ofInt 64 ((Z / 2 : Nat) : Int) ^^^ BitVec.ofInt 64 (-((Z % 2 : Nat) : Int))).toNat) = un Z
  have e1 : (BitVec.ofInt 64 ((Z / 2 : Nat) : Int)).toNat = Z / 2 := by
    rw [BitVec.ofInt_natCast, BitVec.toNat_ofNat]; exact Nat.mod_eq_of_lt (by omega)
  unfold un
  by_cases hz : Z % 2 = 0
  · rw [if_pos hz, hz]
    have : BitVec.ofInt 64 (-((0 : Nat) : Int)) = 0#64 := by decide
    rw [this, BitVec.xor_zero, e1, wrap_i64 (by omega) (by omega)]
  · rw [if_neg hz, show Z % 2 = 1 by omega]
    have : BitVec.ofInt 64 (-((1 : Nat) : Int)) = BitVec.allOnes 64 := by decide
    rw [this, BitVec.xor_allOnes, BitVec.toNat_not, e1]
    simp only [IntKind.wrap, IntKind.signed, IntKind.bits, Bool.true_and]
    rw [if_pos (by simp; omega)]
    omega
/-- What the Reader's number says, and where it leaves the Reader. -/
def NumR (s : ByteArray) (at_ : Nat) (v : Int) (ok : Bool) (a : Nat) : Prop := (match takeNum s at_ with | some (v0, a0) => ok = true ∧ v = v0 ∧ a = a0 | none => ok = false) ∧ a ≤ s.size
theorem NumR.none {s : ByteArray} {at_ a f i z : Nat} {v : Int} (h : dec s at_ 10 0 0 = dec s at_ f i z) (hn : dec s at_ f i z = none) (ha : a ≤ s.size) : NumR s at_ v false a := by
 refine ⟨?_, ha⟩
 rw [takeNum, h, hn]; rfl
theorem NumR.some {s : ByteArray} {at_ a f i z Z : Nat} (h : dec s at_ 10 0 0 = dec s at_ f i z) (hn : dec s at_ f i z = .some (Z, a)) (ha : a ≤ s.size) : NumR s at_ (un Z) true a := by
 refine ⟨?_, ha⟩
 rw [takeNum, h, hn]; exact ⟨rfl, rfl, rfl⟩
theorem dec_none {s : ByteArray} {at_ f i z : Nat} (h : s[at_ + i]? = none) : dec s at_ (f + 1) i z = none := by rw [dec, h]
theorem dec_bad {s : ByteArray} {at_ f i z : Nat} {c : UInt8} (h : s[at_ + i]? = some c) (hb : (i = 9 ∧ 1 < c.toNat) ∨ (0 < i ∧ c.toNat = 0)) : dec s at_ (f + 1) i z = none := by rw [dec, h]; simp only; rw [if_pos hb]
theorem dec_end {s : ByteArray} {at_ f i z : Nat} {c : UInt8} (h : s[at_ + i]? = some c) (hb : ¬ ((i = 9 ∧ 1 < c.toNat) ∨ (0 < i ∧ c.toNat = 0))) (hc : c.toNat < 128) : dec s at_ (f + 1) i z = some (z + c.toNat % 128 * 128 ^ i, at_ + i + 1) := by
 rw [dec, h]; simp only; rw [if_neg hb, if_pos hc, Nat.mod_eq_of_lt hc]
theorem dec_more {s : ByteArray} {at_ f i z : Nat} {c : UInt8} (h : s[at_ + i]? = some c) (hb : ¬ (i = 9 ∧ 1 < c.toNat)) (hc : ¬ c.toNat < 128) : dec s at_ (f + 1) i z = dec s at_ f (i + 1) (z + c.toNat % 128 * 128 ^ i) := by
 rw [dec, h]; simp only; rw [if_neg (by omega), if_neg hc]
end Go.Wr

/- The wire's laws, of plain data alone. -/
namespace Go.Wr
open Go Go.SL

def ba (l : List UInt8) : ByteArray := ⟨l.toArray⟩
theorem ba_size (l : List UInt8) : (ba l).size = l.length := by simp [ba, ByteArray.size]
theorem ba_inj {l m : List UInt8} (h : ba l = ba m) : l = m := by
 have := congrArg (fun s : ByteArray => s.data.toList) h
 simpa [ba] using this
theorem wrap_range (a : Int) : -9223372036854775808 ≤ IntKind.i64.wrap a ∧ IntKind.i64.wrap a ≤ 9223372036854775807 := by
 simp only [IntKind.wrap, IntKind.signed, IntKind.bits, Bool.true_and]
 have h0 := Int.emod_nonneg a (show (2 ^ 64 : Int) ≠ 0 by decide)
 have h1 := Int.emod_lt_of_pos a (show (0 : Int) < 2 ^ 64 by decide)
 split <;> rename_i h <;> simp only [ge_iff_le, decide_eq_true_eq] at h <;> omega
theorem few {r1 r2 : Int} {n m : Nat} (h : Go.Dk.beyondB [r1, r2] = false) (h1 : 268435456 ≤ n → r1 = (n : Int)) (h2 : 268435456 ≤ m → r2 = (m : Int)) : n < 268435456 ∧ m < 268435456 := by
  have e1 := Go.Dk.beyond_le h r1 (by simp)
  have e2 := Go.Dk.beyond_le h r2 (by simp)
  constructor
  · rcases Nat.lt_or_ge n 268435456 with h' | h'
    · exact h'
    · have := h1 h'; omega
  · rcases Nat.lt_or_ge m 268435456 with h' | h'
    · exact h'
    · have := h2 h'; omega
/-! ### What is written of a thing: the answer, the bytes -/
def byteW (n : Int) : Int × List UInt8 := if n < 0 ∨ n > 255 then (1, []) else (0, [UInt8.ofNat n.toNat])
def listW (n : Int) : Int × List UInt8 := if n < 0 then (1, []) else if n > 65536 then (3, []) else (0, enc (zz n))
def textW (s : ByteArray) : Int × List UInt8 := if 65536 < s.size then (3, []) else (0, enc (zz (s.size : Int)) ++ s.data.toList)
structure ItemR where
 kind : Int
 n : Int
 s : ByteArray
def itemW (x : ItemR) : Int × List UInt8 := if x.kind = 0 then byteW x.n else if x.kind = 1 then (0, enc (zz x.n)) else if x.kind = 2 then byteW (if x.n > 0 then 1 else 0) else if x.kind = 3 then textW x.s else listW x.n

def bytesW (l : List ItemR) : List UInt8 := l.flatMap fun x => (itemW x).2
end Go.Wr

