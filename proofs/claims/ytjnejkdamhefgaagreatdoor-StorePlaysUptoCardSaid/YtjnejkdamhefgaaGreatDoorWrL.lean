/- A part of the proof. -/
import Derived.Test.YtjnejkdamhefgaaGreatDoorJnY
namespace Go.Proofs.YtjnejkdamhefgaaGreatDoor
open Tryz
open Go Go.SL Go.Dk Go.Jn Go.RowKit
set_option linter.unusedVariables false
set_option maxRecDepth 8000
theorem Put_on (W0 : World) (j dp : Nat) (t : ByteArray) (q : Int) (d : DS) (s : ByteArray) (hw : WF d) (hn1 : 1 ≤ d.secs.length) (hsn : d.since.length < 1000000000000) (hct : d.count < 4000000000000000000) (hq0 : 0 ≤ q) (hq : q < 9223372036854775807) (hd : d.down = false) :
  Con1 prog W0 43 #[Vp j, Vs s] [pt j 144 [Vp dp, Vs t, Vi q, Vf], isDisk dp d] (.int .i64 ((JS.mk t q false).put d s).1) [isJ j dp ((JS.mk t q false).put d s).2.2, isDisk dp ((JS.mk t q false).put d s).2.1] := by
 refine Con.of func43 rfl ntmps43 rfl (fun F => ?_)
 have hm := hw.l.len
 have hh : half d.secs ≤ 2047 := by unfold half; omega
 show Wc _ W0 _ _ _ _ _ ((pt j 144 [Vp dp, Vs t, Vi q, Vf]) :: (isDisk dp d) :: F)
 refine Wc.a 1 rfl (Wc.seq (Wc.b 1 rfl (Wl.e (e_c call165 (jstate_on W0 j dp t q d hd)) (fun _ _ => Wl.rg 1 rfl (Wc.b 1 rfl (Wl.q (q_neq rfl rfl (dt (by decide))) (Wl.dg (Wc.no rfl (Wc.skip (Wx.go (Wc.seq (Wc.b 1 rfl (Wl.q (q_len_str underlying9 rfl) (Wl.run 1 rfl (Wl.e (e_c call180 (room_in W0 j dp (⟨t, q, false⟩ : JS).text (⟨t, q, false⟩ : JS).seq d (⟨t, q, false⟩ : JS).dead hn1 hm)) (fun _ _ => ?_))))))))))))))))
 by_cases hbig : ((s.size : Nat) : Int) > ((half d.secs * 64 : Nat) : Int)
 ·
  refine Wl.q (q_gtr rfl rfl (dt hbig)) (Wl.dg (Wc.yes rfl (Wc.a 1 rfl (Wc.ret (Wx.thenRet (Wx.f1 rfl (fun w hs => ?_)))))))
  have e : ((JS.mk t q false).put d s) = (5, d, ⟨t, q, false⟩) := by rw [JS.put, if_neg (by simp [hd]), if_pos (by omega)]
  exact ⟨(), trivial, (by first | (rw [e]; done) | (rw [e]; rfl)), by rw [e]; exact hs⟩
 ·
  refine Wl.q (q_gtr rfl rfl (df hbig)) (Wl.dg (Wc.no rfl (Wc.skip (Wx.go (Wc.b 2 rfl (Wl.e (e_c call181 (put_in W0 j dp t q d s hw hn1 hsn hct hq0 hq (by omega))) (fun _ _ => Wl.rg 1 rfl (Wc.seq (Wc.b 1 rfl ?_)))))))))
  by_cases hp : (putD d q s).1 = 0
  ·
   refine Wl.q (q_neq rfl rfl (dt hp)) (Wl.dg (Wc.no rfl (Wc.skip (Wx.go (Wc.b 3 rfl (Wl.q (q_field fo_144_1 rfl rfl) (Wl.e (e_store (i := 0) (v := Vs s) sz_9 rfl rfl (fun _ _ => rfl) rfl (by simp)) (fun _ _ => Wl.dg (Wc.b 2 rfl (Wl.q (q_field fo_144_2 rfl rfl) (Wl.q (q_c 0 sc_3 rfl rfl rfl) (Wl.q (q_add (c := (q + 1)) rfl rfl (wrap_i64 (by omega) (by omega))) (Wl.run 1 rfl (Wl.q (q_field fo_144_2 rfl rfl) (Wl.e (e_store (i := 0) (v := Vi (q + 1)) sz_3 rfl rfl (fun _ _ => rfl) rfl (by simp)) (fun _ _ => Wl.dg (Wc.a 1 rfl (Wc.ret (Wx.f1 rfl (fun w hs => ?_))))))))))))))))))))
   have e : ((JS.mk t q false).put d s) = (0, (putD d q s).2, ⟨s, q + 1, false⟩) := by rw [JS.put, if_neg (by simp [hd]), if_neg (by omega), if_pos hp]
   exact ⟨(), trivial, (by first | (rw [e]; done) | (rw [e]; rfl)), by rw [e]; exact hs⟩
  ·
   refine Wl.q (q_neq rfl rfl (df hp)) (Wl.dg (Wc.yes rfl (Wc.b 2 rfl (Wl.q (q_field fo_144_3 rfl rfl) (Wl.e (e_store (i := 0) (v := Vt) sz_4 rfl rfl (fun _ _ => rfl) rfl (by simp)) (fun _ _ => Wl.dg (Wc.a 2 rfl (Wc.ret (Wx.thenRet (Wx.f1 rfl (fun w hs => ?_)))))))))))
   have e : ((JS.mk t q false).put d s) = ((putD d q s).1, (putD d q s).2, ⟨t, q, true⟩) := by rw [JS.put, if_neg (by simp [hd]), if_neg (by omega), if_neg hp]
   exact ⟨(), trivial, (by first | (rw [e]; done) | (rw [e]; rfl)), by rw [e]; exact hs⟩
theorem Put_off (W0 : World) (j dp : Nat) (t : ByteArray) (q : Int) (d : DS) (s : ByteArray) (dead : Bool) (h : dead = true ∨ d.down = true) :
  Con1 prog W0 43 #[Vp j, Vs s] [pt j 144 [Vp dp, Vs t, Vi q, Value.bool dead], isDisk dp d] (.int .i64 6) [pt j 144 [Vp dp, Vs t, Vi q, Value.bool dead], isDisk dp d] := by
 refine Con.of func43 rfl ntmps43 rfl (fun F => ?_)
 show Wc _ W0 _ _ _ _ _ ((pt j 144 [Vp dp, Vs t, Vi q, Value.bool dead]) :: (isDisk dp d) :: F)
 refine Wc.a 1 rfl (Wc.seq (Wc.b 1 rfl (Wl.e (e_c call165 (jstate_off W0 j dp t q d dead h)) (fun _ _ => Wl.rg 1 rfl (Wc.b 1 rfl (Wl.q (q_neq rfl rfl (df (by decide))) (Wl.dg (Wc.yes rfl (Wc.a 2 rfl (Wc.ret (Wx.thenRet (Wx.f1 rfl (fun w hs => ?_)))))))))))))
 exact ⟨(), trivial, rfl, hs⟩
theorem Put_c (W0 : World) (j dp : Nat) (js : JS) (d : DS) (s : ByteArray) (hw : WF d) (hn1 : 1 ≤ d.secs.length) (hsn : d.since.length < 1000000000000) (hct : d.count < 4000000000000000000) (hq0 : 0 ≤ js.seq) (hq : js.seq < 9223372036854775807) : Con1 prog W0 43 #[.pointer (some ⟨j, 0, none⟩), .string s] [isJ j dp js, isDisk dp d] (.int .i64 (js.put d s).1) [isJ j dp (js.put d s).2.2, isDisk dp (js.put d s).2.1] := by
  obtain ⟨t, q, dead⟩ := js
  by_cases h : dead = true ∨ d.down = true
  · have e : (JS.mk t q dead).put d s = (6, d, ⟨t, q, dead⟩) := if_pos h
    rw [e]
    exact Put_off W0 j dp t q d s dead h
  · obtain rfl : dead = false := by cases dead; rfl; exact absurd (.inl rfl) h
    exact Put_on W0 j dp t q d s hw hn1 hsn hct hq0 hq (by cases hx : d.down; rfl; exact absurd (.inr hx) h)
end Go.Proofs.YtjnejkdamhefgaaGreatDoor
namespace Go.Jn
open Go Go.SL Go.Dk
set_option linter.unusedVariables false
section
variable {S : List ByteArray} {t s : ByteArray} {q : Int} {dn : Bool} {k : Nat}
theorem Ok.wf (h : Ok S t q) : WF ⟨S, [], dn, k, none⟩ := ⟨h.wfl, fun _ _ h => by cases h⟩
theorem Ok.rng (h : Ok S t q) : 0 ≤ q ∧ q ≤ 9223372036854775807 ∧ 4 ≤ S.length := opens_rng h.opens
theorem put_js (h : Ok S t q) (hq : q < 9223372036854775807) (hs : s.size ≤ half S * 64) (k : Nat) :
  ∃ S', S'.length = S.length ∧ Ok S' s (q + 1) ∧ (JS.mk t q false).put ⟨S, [], false, k, none⟩ s = (0, ⟨S', [], false, k + nPieces s + 3, none⟩, ⟨s, q + 1, false⟩) := by
 obtain ⟨S', h1, h2, h3⟩ := put_ends h hq hs k
 refine ⟨S', h1, h2, ?_⟩
 rw [JS.put, if_neg (by simp), if_neg (by show ¬ half S * 64 < s.size; omega), h3, if_pos rfl]
theorem put_big {c : Option (Nat × Int)} (hs : half S * 64 < s.size) : (JS.mk t q false).put ⟨S, [], false, k, c⟩ s = (5, ⟨S, [], false, k, c⟩, ⟨t, q, false⟩) := by
 rw [JS.put, if_neg (by simp), if_pos hs]
end
theorem few (s : ByteArray) {n : Nat} (h : s.size ≤ n) : nPieces s ≤ (n + 63) / 64 := by unfold nPieces; omega
def txtB (b i : Nat) : UInt8 := UInt8.ofNat (b + i % 7)
def txtL (b n : Nat) : List UInt8 := (List.range n).map (txtB b)
def txt (n : Int) (b : Nat) : ByteArray := if n < 0 ∨ n > 131072 then ⟨#[]⟩ else ⟨(txtL b n.toNat).toArray⟩
theorem txtL_len (b n : Nat) : (txtL b n).length = n := by simp [txtL]
theorem txt_size {n : Int} {b : Nat} (h0 : 0 ≤ n) (h1 : n ≤ 131072) : (((txt n b).size : Nat) : Int) = n := by
 rw [txt, if_neg (by omega)]
 show (((txtL b n.toNat).toArray.size : Nat) : Int) = n
 rw [List.size_toArray, txtL_len]
 omega
theorem txt_le (n : Int) (b : Nat) : (txt n b).size ≤ 131072 := by
  by_cases h : n < 0 ∨ n > 131072
  · rw [txt, if_pos h]; exact Nat.zero_le _
  · have := txt_size (n := n) (b := b) (by omega) (by omega)
    omega
end Go.Jn
namespace Go.Wr
open Go Go.SL
def zz (n : Int) : Nat := if 0 ≤ n then (2 * n).toNat else (-2 * n - 1).toNat
def un (z : Nat) : Int := if z % 2 = 0 then ((z / 2 : Nat) : Int) else -((z / 2 : Nat) : Int) - 1
theorem zz_un (z : Nat) : zz (un z) = z := by
 unfold un zz
 split <;> split <;> omega
theorem zz_lt {n : Int} (h1 : -9223372036854775808 ≤ n) (h2 : n ≤ 9223372036854775807) : zz n < 18446744073709551616 := by
 unfold zz; split <;> omega
def enc (z : Nat) : List UInt8 := if z < 128 then [UInt8.ofNat z] else UInt8.ofNat (z % 128 + 128) :: enc (z / 128)
termination_by z
theorem enc_lt {z : Nat} (h : z < 128) : enc z = [UInt8.ofNat z] := by rw [enc, if_pos h]
theorem enc_ge {z : Nat} (h : ¬ z < 128) : enc z = UInt8.ofNat (z % 128 + 128) :: enc (z / 128) := by rw [enc, if_neg h]
def u8v (c : UInt8) : Value := .int .u8 ((c.toNat : Nat) : Int)
theorem u8v_ofNat {x : Nat} (h : x < 256) : u8v (UInt8.ofNat x) = .int .u8 ((x : Nat) : Int) := by
 rw [u8v, UInt8.toNat_ofNat_of_lt' (by simpa using h)]
theorem u8_snoc (m : List UInt8) {x : Nat} (h : x < 256) : (m ++ [UInt8.ofNat x]).map u8v = m.map u8v ++ [Value.int .u8 ((x : Nat) : Int)] := by
 rw [List.map_append, List.map_singleton, u8v_ofNat h]
theorem wrap_u64 {a : Int} (h1 : 0 ≤ a) (h2 : a < 18446744073709551616) : IntKind.u64.wrap a = a := by
 simp only [IntKind.wrap, IntKind.signed, IntKind.bits, Bool.false_and, Bool.false_eq_true, if_false]
 omega
theorem wrap_u64' (a : Int) : IntKind.u64.wrap a = a % 18446744073709551616 := by
 simp only [IntKind.wrap, IntKind.signed, IntKind.bits, Bool.false_and, Bool.false_eq_true, if_false]
 rfl
theorem wrap_u8' (a : Int) : IntKind.u8.wrap a = a % 256 := by
 simp only [IntKind.wrap, IntKind.signed, IntKind.bits, Bool.false_and, Bool.false_eq_true, if_false]
 rfl
theorem or128 (z : Nat) : IntKind.u8.wrap ((BitVec.ofInt IntKind.u8.bits (((z % 256 : Nat) : Int)) ||| BitVec.ofInt IntKind.u8.bits 128).toNat) = ((z % 128 + 128 : Nat) : Int) := by
 have key : ∀ x : Fin 256, (BitVec.ofInt 8 ((x.val : Nat) : Int) ||| BitVec.ofInt 8 128).toNat = x.val % 128 + 128 := by decide +kernel
 have h := key ⟨z % 256, Nat.mod_lt _ (by decide)⟩
 show IntKind.u8.wrap ((BitVec.ofInt 8 (((z % 256 : Nat) : Int)) ||| BitVec.ofInt 8 128).toNat) = _
 rw [h, wrap_u8']
 simp only; omega
theorem sh63 {n : Int} (h1 : -9223372036854775808 ≤ n) (h2 : n ≤ 9223372036854775807) : n.fdiv (2 ^ min (Int.toNat 63) IntKind.i64.bits) = if 0 ≤ n then 0 else -1 := by
 show n.fdiv 9223372036854775808 = _
 rw [Int.fdiv_eq_ediv_of_nonneg _ (by omega)]
 split <;> omega
theorem zzcode {n : Int} (h1 : -9223372036854775808 ≤ n) (h2 : n ≤ 9223372036854775807) :
    IntKind.u64.wrap ((BitVec.ofInt IntKind.u64.bits (IntKind.u64.wrap (IntKind.u64.wrap n * 2 ^ min (Int.toNat 1) IntKind.u64.bits)) ^^^ BitVec.ofInt IntKind.u64.bits (IntKind.u64.wrap (if 0 ≤ n then 0 else -1))).toNat) = ((zz n : Nat) : Int) := by
  have e1 : IntKind.u64.wrap (IntKind.u64.wrap n * 2 ^ min (Int.toNat 1) IntKind.u64.bits) = (2 * n) % 18446744073709551616 := by
    rw [wrap_u64', wrap_u64']
    show (n % 18446744073709551616 * 2) % 18446744073709551616 = _
    omega
  rw [e1]
  show IntKind.u64.wrap ((BitVec.ofInt 64 (2 * n % 18446744073709551616) ^^^ BitVec.ofInt 64 (IntKind.u64.wrap (if 0 ≤ n then 0 else -1))).toNat) = _
  have hz := zz_lt h1 h2
  by_cases h : 0 ≤ n
  · rw [if_pos h, wrap_u64 (a := 0) (by decide) (by decide)]
    have : BitVec.ofInt 64 0 = 0#64 := rfl
    rw [this, BitVec.xor_zero, BitVec.toNat_ofInt]
    have : zz n = (2 * n).toNat := by unfold zz; rw [if_pos h]
    rw [this] at hz ⊢
    rw [wrap_u64 (by omega) (by omega)]
    omega
  · rw [if_neg h]
    have e2 : BitVec.ofInt 64 (IntKind.u64.wrap (-1)) = BitVec.allOnes 64 := by decide
    rw [e2, BitVec.xor_allOnes, BitVec.toNat_not, BitVec.toNat_ofInt]
    have : zz n = (-2 * n - 1).toNat := by unfold zz; rw [if_neg h]
    rw [this] at hz ⊢
    rw [wrap_u64 (by omega) (by omega)]
    omega
theorem shr7 (z : Nat) : ((z : Nat) : Int).fdiv (2 ^ min (Int.toNat 7) IntKind.u64.bits) = ((z / 128 : Nat) : Int) := by
 show ((z : Nat) : Int).fdiv 128 = _
 rw [Int.fdiv_eq_ediv_of_nonneg _ (by omega)]
 omega
theorem conv8 (z : Nat) : IntKind.u8.wrap ((z : Nat) : Int) = ((z % 256 : Nat) : Int) := by rw [wrap_u8']; omega
theorem enc_ne (z : Nat) : 1 ≤ (enc z).length := by
 by_cases h : z < 128
 · rw [enc_lt h]; simp
 · rw [enc_ge h]; simp
theorem enc_len_le : ∀ (k z : Nat), z < 128 ^ (k + 1) → (enc z).length ≤ k + 1
  | 0, z, h => by rw [enc_lt (by simpa using h)]; simp
  | k + 1, z, h => by
    by_cases hz : z < 128
    · rw [enc_lt hz]; simp
    · rw [enc_ge hz]
      have := enc_len_le k (z / 128) (by rw [Nat.div_lt_iff_lt_mul (by decide)]; rw [Nat.pow_succ] at h; exact h)
      simp only [List.length_cons]; omega
def dec (s : ByteArray) (at_ : Nat) : Nat → Nat → Nat → Option (Nat × Nat)
 | 0, _, _ => none
 | f + 1, i, z => match s[at_ + i]? with
  | none => none
  | some c => if (i = 9 ∧ 1 < c.toNat) ∨ (0 < i ∧ c.toNat = 0) then none else if c.toNat < 128 then some (z + c.toNat * 128 ^ i, at_ + i + 1) else dec s at_ f (i + 1) (z + c.toNat % 128 * 128 ^ i)
def takeNum (s : ByteArray) (at_ : Nat) : Option (Int × Nat) := (dec s at_ 10 0 0).map fun p => (un p.1, p.2)
theorem and127 (c : UInt8) : IntKind.u8.wrap ((BitVec.ofInt IntKind.u8.bits ((c.toNat : Nat) : Int) &&& BitVec.ofInt IntKind.u8.bits 127).toNat) = ((c.toNat % 128 : Nat) : Int) := by
 have key : ∀ x : Fin 256, (BitVec.ofInt 8 ((x.val : Nat) : Int) &&& BitVec.ofInt 8 127).toNat = x.val % 128 := by decide +kernel
 have h := key ⟨c.toNat, c.toNat_lt⟩
 show IntKind.u8.wrap ((BitVec.ofInt 8 ((c.toNat : Nat) : Int) &&& BitVec.ofInt 8 127).toNat) = _
 rw [h, wrap_u8']
 simp only; omega
theorem two7 (i : Nat) : (2 : Nat) ^ (7 * i) = 128 ^ i := by rw [Nat.pow_mul]
theorem or7 {z c i : Nat} (hz : z < 128 ^ i) (hi : i ≤ 9) (hc : i = 9 → c ≤ 1) (hc2 : c < 128) : z + c * 128 ^ i < 18446744073709551616 ∧
    IntKind.u64.wrap ((BitVec.ofInt IntKind.u64.bits ((z : Nat) : Int) ||| BitVec.ofInt IntKind.u64.bits ((c * 128 ^ i : Nat) : Int)).toNat) = ((z + c * 128 ^ i : Nat) : Int) := by
  have hp : 128 ^ i ≤ 128 ^ 9 := Nat.pow_le_pow_right (by decide) hi
  have h9 : c * 128 ^ i < 18446744073709551616 - 128 ^ i + 1 := by
    by_cases h : i = 9
    · subst h; have := hc rfl
      have : c * 128 ^ 9 ≤ 1 * 128 ^ 9 := Nat.mul_le_mul_right _ this
      have e9 : (128 : Nat) ^ 9 = 9223372036854775808 := by decide
      omega
    · have h8 : 128 ^ i ≤ 128 ^ 8 := Nat.pow_le_pow_right (by decide) (by omega)
      have h3 : c * 128 ^ i ≤ 127 * 128 ^ i := Nat.mul_le_mul_right _ (by omega)
      have e8 : (128 : Nat) ^ 8 = 72057594037927936 := by decide
      omega
  have e9 : (128 : Nat) ^ 9 = 9223372036854775808 := by decide
  have hlt : z + c * 128 ^ i < 18446744073709551616 := by omega
  refine ⟨hlt, ?_⟩
  show IntKind.u64.wrap ((BitVec.ofInt 64 ((z : Nat) : Int) ||| BitVec.ofInt 64 ((c * 128 ^ i : Nat) : Int)).toNat) = _
  have e1 : (BitVec.ofInt 64 ((z : Nat) : Int)).toNat = z := by
    rw [BitVec.ofInt_natCast, BitVec.toNat_ofNat]; exact Nat.mod_eq_of_lt (by omega)
  have e2 : (BitVec.ofInt 64 ((c * 128 ^ i : Nat) : Int)).toNat = c * 128 ^ i := by
    rw [BitVec.ofInt_natCast, BitVec.toNat_ofNat]; exact Nat.mod_eq_of_lt (by omega)
  rw [BitVec.toNat_or, e1, e2, ← two7 i, Nat.mul_comm c, Nat.or_comm, ← Nat.two_pow_add_eq_or_of_lt (by rw [two7]; exact hz) c, Nat.add_comm]
  rw [wrap_u64 (by omega) (by rw [two7, Nat.mul_comm]; omega)]
theorem shl7 {c i : Nat} (hi : i ≤ 9) (hc : i = 9 → c ≤ 1) (hc2 : c < 128) : IntKind.u64.wrap (((c : Nat) : Int) * 2 ^ min (Int.toNat ((7 * i : Nat) : Int)) IntKind.u64.bits) = ((c * 128 ^ i : Nat) : Int) := by
 have h := (or7 (z := 0) (Nat.pow_pos (by decide)) hi hc hc2).1
 have e : (((c : Nat) : Int) * 2 ^ min (Int.toNat ((7 * i : Nat) : Int)) IntKind.u64.bits) = ((c * 128 ^ i : Nat) : Int) := by
  rw [show min (Int.toNat ((7 * i : Nat) : Int)) IntKind.u64.bits = 7 * i from by simp only [Int.toNat_natCast, IntKind.bits]; omega, ← two7]
  push_cast; rfl
 rw [e, wrap_u64 (by omega) (by omega)]
theorem and1 {Z : Nat} (h : Z < 18446744073709551616) : IntKind.u64.wrap ((BitVec.ofInt IntKind.u64.bits ((Z : Nat) : Int) &&& BitVec.ofInt IntKind.u64.bits 1).toNat) = ((Z % 2 : Nat) : Int) := by
 show IntKind.u64.wrap ((BitVec.ofInt 64 ((Z : Nat) : Int) &&& BitVec.ofInt 64 1).toNat) = _
 have e1 : (BitVec.ofInt 64 ((Z : Nat) : Int)).toNat = Z := by
  rw [BitVec.ofInt_natCast, BitVec.toNat_ofNat]; exact Nat.mod_eq_of_lt (by omega)
 have e2 : (BitVec.ofInt 64 1).toNat = 1 := by decide
 rw [BitVec.toNat_and, e1, e2, Nat.and_one_is_mod, wrap_u64 (by omega) (by omega)]
theorem shr1 (Z : Nat) : ((Z : Nat) : Int).fdiv (2 ^ min (Int.toNat 1) IntKind.u64.bits) = ((Z / 2 : Nat) : Int) := by
 show ((Z : Nat) : Int).fdiv 2 = _
 rw [Int.fdiv_eq_ediv_of_nonneg _ (by omega)]
 omega
theorem xor_un {Z : Nat} (h : Z < 18446744073709551616) : IntKind.i64.wrap ((BitVec.ofInt IntKind.i64.bits ((Z / 2 : Nat) : Int) ^^^ BitVec.ofInt IntKind.i64.bits (-((Z % 2 : Nat) : Int))).toNat) = un Z := by
  show IntKind.i64.wrap ((BitVec.ofInt 64 ((Z / 2 : Nat) : Int) ^^^ BitVec.ofInt 64 (-((Z % 2 : Nat) : Int))).toNat) = un Z
  have e1 : (BitVec.ofInt 64 ((Z / 2 : Nat) : Int)).toNat = Z / 2 := by
    rw [BitVec.ofInt_natCast, BitVec.toNat_ofNat]; exact Nat.mod_eq_of_lt (by omega)
  unfold un
  by_cases hz : Z % 2 = 0
  · rw [if_pos hz, hz]
    have : BitVec.ofInt 64 (-((0 : Nat) : Int)) = 0#64 := by decide
    rw [this, BitVec.xor_zero, e1, wrap_i64 (by omega) (by omega)]
  · rw [if_neg hz, show Z % 2 = 1 by omega]
    have : BitVec.ofInt 64 (-((1 : Nat) : Int)) = BitVec.allOnes 64 := by decide
    rw [this, BitVec.xor_allOnes, BitVec.toNat_not, e1]
    simp only [IntKind.wrap, IntKind.signed, IntKind.bits, Bool.true_and]
    rw [if_pos (by simp; omega)]
    omega
def NumR (s : ByteArray) (at_ : Nat) (v : Int) (ok : Bool) (a : Nat) : Prop := (match takeNum s at_ with | some (v0, a0) => ok = true ∧ v = v0 ∧ a = a0 | none => ok = false) ∧ a ≤ s.size
theorem NumR.none {s : ByteArray} {at_ a f i z : Nat} {v : Int} (h : dec s at_ 10 0 0 = dec s at_ f i z) (hn : dec s at_ f i z = none) (ha : a ≤ s.size) : NumR s at_ v false a := by
 refine ⟨?_, ha⟩
 rw [takeNum, h, hn]; rfl
theorem NumR.some {s : ByteArray} {at_ a f i z Z : Nat} (h : dec s at_ 10 0 0 = dec s at_ f i z) (hn : dec s at_ f i z = .some (Z, a)) (ha : a ≤ s.size) : NumR s at_ (un Z) true a := by
 refine ⟨?_, ha⟩
 rw [takeNum, h, hn]; exact ⟨rfl, rfl, rfl⟩
theorem dec_none {s : ByteArray} {at_ f i z : Nat} (h : s[at_ + i]? = none) : dec s at_ (f + 1) i z = none := by rw [dec, h]
theorem dec_bad {s : ByteArray} {at_ f i z : Nat} {c : UInt8} (h : s[at_ + i]? = some c) (hb : (i = 9 ∧ 1 < c.toNat) ∨ (0 < i ∧ c.toNat = 0)) : dec s at_ (f + 1) i z = none := by rw [dec, h]; simp only; rw [if_pos hb]
theorem dec_end {s : ByteArray} {at_ f i z : Nat} {c : UInt8} (h : s[at_ + i]? = some c) (hb : ¬ ((i = 9 ∧ 1 < c.toNat) ∨ (0 < i ∧ c.toNat = 0))) (hc : c.toNat < 128) : dec s at_ (f + 1) i z = some (z + c.toNat % 128 * 128 ^ i, at_ + i + 1) := by
 rw [dec, h]; simp only; rw [if_neg hb, if_pos hc, Nat.mod_eq_of_lt hc]
theorem dec_more {s : ByteArray} {at_ f i z : Nat} {c : UInt8} (h : s[at_ + i]? = some c) (hb : ¬ (i = 9 ∧ 1 < c.toNat)) (hc : ¬ c.toNat < 128) : dec s at_ (f + 1) i z = dec s at_ f (i + 1) (z + c.toNat % 128 * 128 ^ i) := by
 rw [dec, h]; simp only; rw [if_neg (by omega), if_neg hc]
def ba (l : List UInt8) : ByteArray := ⟨l.toArray⟩
theorem ba_size (l : List UInt8) : (ba l).size = l.length := by simp [ba, ByteArray.size]
theorem wrap_range (a : Int) : -9223372036854775808 ≤ IntKind.i64.wrap a ∧ IntKind.i64.wrap a ≤ 9223372036854775807 := by
 simp only [IntKind.wrap, IntKind.signed, IntKind.bits, Bool.true_and]
 have h0 := Int.emod_nonneg a (show (2 ^ 64 : Int) ≠ 0 by decide)
 have h1 := Int.emod_lt_of_pos a (show (0 : Int) < 2 ^ 64 by decide)
 split <;> rename_i h <;> simp only [ge_iff_le, decide_eq_true_eq] at h <;> omega
theorem few {r1 r2 : Int} {n m : Nat} (h : Go.Dk.beyondB [r1, r2] = false) (h1 : 268435456 ≤ n → r1 = (n : Int)) (h2 : 268435456 ≤ m → r2 = (m : Int)) : n < 268435456 ∧ m < 268435456 := by
  have e1 := Go.Dk.beyond_le h r1 (by simp)
  have e2 := Go.Dk.beyond_le h r2 (by simp)
  constructor
  · rcases Nat.lt_or_ge n 268435456 with h' | h'
    · exact h'
    · have := h1 h'; omega
  · rcases Nat.lt_or_ge m 268435456 with h' | h'
    · exact h'
    · have := h2 h'; omega
def byteW (n : Int) : Int × List UInt8 := if n < 0 ∨ n > 255 then (1, []) else (0, [UInt8.ofNat n.toNat])
def listW (n : Int) : Int × List UInt8 := if n < 0 then (1, []) else if n > 65536 then (3, []) else (0, enc (zz n))
def textW (s : ByteArray) : Int × List UInt8 := if 65536 < s.size then (3, []) else (0, enc (zz (s.size : Int)) ++ s.data.toList)
structure ItemR where
 kind : Int
 n : Int
 s : ByteArray
def itemW (x : ItemR) : Int × List UInt8 := if x.kind = 0 then byteW x.n else if x.kind = 1 then (0, enc (zz x.n)) else if x.kind = 2 then byteW (if x.n > 0 then 1 else 0) else if x.kind = 3 then textW x.s else listW x.n
def bytesW (l : List ItemR) : List UInt8 := l.flatMap fun x => (itemW x).2
theorem ba_cat (l m : List UInt8) : ba l ++ ba m = ba (l ++ m) := by
 apply congrArg ByteArray.mk (a₁ := (ba l ++ ba m).data) (a₂ := (l ++ m).toArray)
 apply Array.ext'
 simp [ba]
end Go.Wr
