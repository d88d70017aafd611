/- A part of the proof. -/
import Derived.Test.YtjnejkdamhefgaaGreatDoorSLW
namespace Go.SL
open Go Go.RowKit
def fieldOff (P : Program) (s : TypeId) (i : Nat) : Option Nat :=
 match P.underlying s with
 | some (.struct fs) => match fs[i]? with
  | some f => match P.info? f.type with
   | some inf => if inf.size = 0 then none else some f.offset
   | none => none
  | none => none
 | _ => none
def scalar (P : Program) (t : TypeId) : Bool :=
 match P.underlying t with
 | some (.struct _) | some (.array _ _) | none => false
 | _ => true
def aggSize (P : Program) (t : TypeId) : Option Nat :=
 match P.underlying t with
 | some (.struct _) | some (.array _ _) => (P.info? t).map (·.size)
 | _ => none
def sliceElem (P : Program) (t : TypeId) : Option (TypeId × Nat) :=
 match P.underlying t with
 | some (.slice e) => (P.info? e).map fun i => (e, i.size)
 | _ => none
def sizeIs (P : Program) (t : TypeId) : Option Nat := (P.info? t).map (·.size)
def zeroOf (P : Program) (t : TypeId) : Option Value := (P.info? t).bind (·.zero)
theorem add_mk (b off k : Nat) : (Addr.mk b off none).add k = ⟨b, off + k, none⟩ := by
 unfold Addr.add
 split
 · rename_i h; subst h; rfl
 · rfl
section
variable {P : Program} {W0 : World} {E : Nat → Value} {L : List HP} {ty : TypeId} {x y : Operand} {v : Value}
theorem sizeOf_run {t k : Nat} (h : sizeIs P t = some k) (w : World) : (sizeOf t).run P w = .ok k w := by
 unfold sizeIs at h
 cases hi : P.info? t with
 | none => simp [hi] at h
 | some i => simp [hi] at h; simp [sizeOf, typeInfo, hi, h]
theorem zero_run {t : TypeId} {z : Value} (h : zeroOf P t = some z) (w : World) : (zeroValue t).run P w = .ok z w := by
 unfold zeroOf at h
 cases hi : P.info? t with
 | none => simp [hi] at h
 | some i => simp [hi] at h; simp [zeroValue, typeInfo, hi, h]
theorem isAgg_scalar {t : TypeId} (h : scalar P t = true) (w : World) : (isAgg t).run P w = .ok false w := by
 unfold scalar at h
 cases hd : P.underlying t with
 | none => simp [hd] at h
 | some d => cases d <;> first | (simp [hd] at h; done) | simp [isAgg, run_underlying hd]
theorem isAgg_agg {t k : Nat} (h : aggSize P t = some k) (w : World) : (isAgg t).run P w = .ok true w ∧ (sizeOf t).run P w = .ok k w := by
 unfold aggSize at h
 cases hd : P.underlying t with
 | none => simp [hd] at h
 | some d => cases d <;> first | (simp [hd] at h; done) | exact ⟨by simp [isAgg, run_underlying hd], sizeOf_run (by simpa [hd, sizeIs] using h) w⟩
theorem sliceElem_parts {t e k : Nat} (h : sliceElem P t = some (e, k)) : P.underlying t = some (.slice e) ∧ sizeIs P e = some k := by
 unfold sliceElem at h
 cases hd : P.underlying t with
 | none => simp [hd] at h
 | some d =>
  cases d <;> simp [hd] at h
  rename_i e'
  obtain ⟨i, hi, h1, h2⟩ := h
  subst h1
  exact ⟨rfl, by simp [sizeIs, hi, h2]⟩
theorem q_move (hx : evE E x = v) : Quiet P W0 E L (.move x) ty v := fun w d pos aft g _ => by simp [execOp, hx]
theorem q_assign (hx : evE E x = v) : Quiet P W0 E L (.assign x) ty v := fun w d pos aft g _ => by simp [execOp, hx]
theorem q_pick {c a b : Operand} {t : Bool} (hc : evE E c = .bool t) (hv : (match t with | true => evE E a | false => evE E b) = v) : Quiet P W0 E L (.pick c a b) ty v := fun w d pos aft g _ => by
 cases t <;> simp [execOp, hc, asBool] <;> exact hv
theorem q_nil_ptr {a : Addr} (hx : evE E x = .pointer (some a)) : Quiet P W0 E L (.nilCheck x) ty (.pointer (some a)) := fun w d pos aft g _ => by simp [execOp, hx]
theorem q_field {s : TypeId} {i b off k m : Nat} (hk : fieldOff P s i = some k) (hx : evE E x = .pointer (some ⟨b, off, none⟩)) (hm : off + k = m) :
    Quiet P W0 E L (.fieldAddr s x i) ty (.pointer (some ⟨b, m, none⟩)) := fun w d pos aft g _ => by
  unfold fieldOff at hk
  cases hd : P.underlying s with
  | none => simp [hd] at hk
  | some dsc =>
    cases dsc <;> simp only [hd] at hk <;> first | (cases hk; done) | skip
    rename_i fs
    cases hf : fs[i]? with
    | none => simp [hf] at hk
    | some f =>
      simp only [hf] at hk
      cases hi : P.info? f.type with
      | none => simp [hi] at hk
      | some inf =>
        simp only [hi] at hk
        split at hk
        · cases hk
        · rename_i hne
          cases hk
          subst hm
          simp [execOp, Instr.fieldAt, run_underlying hd, hf, Instr.sureAddr, hx, fieldPlace, sizeOf, typeInfo, hi, hne, add_mk]
theorem q_idx {t e k b off len cap m : Nat} {ik : IntKind} {i : Int} (he : sliceElem P t = some (e, k)) (hx : evE E x = .slice (some ⟨b, off, none⟩) len cap) (hy : evE E y = .int ik i)
  (h0 : 0 ≤ i) (h1 : i < len) (hm : off + i.toNat * k = m) : Quiet P W0 E L (.indexAddr t x y) ty (.pointer (some ⟨b, m, none⟩)) := fun w d pos aft g _ => by
 obtain ⟨hu, hs⟩ := sliceElem_parts he
 subst hm
 simp [execOp, Instr.indexAt, asIntOf, hx, hy, run_underlying hu, h0, h1, sizeOf_run hs, add_mk]
theorem q_idx_str {t : TypeId} {s : ByteArray} {ik : IntKind} {i : Int} {b : UInt8} (hu : P.underlying t = some .string) (hx : evE E x = .string s) (hy : evE E y = .int ik i) (h0 : 0 ≤ i) (h1 : s[i.toNat]? = some b) :
  Quiet P W0 E L (.index t x y) ty (.int .u8 b.toNat) := fun w d pos aft g _ => by
 simp [execOp, Instr.index, asIntOf, hx, hy, run_underlying hu, h0, h1]
theorem q_idx_agg {t e n k : Nat} {cs : Array Value} {ik : IntKind} {i : Int} (hu : P.underlying t = some (.array n e)) (hs : sizeIs P e = some 1) (hsc : scalar P e = true) (hx : evE E x = .agg cs) (hy : evE E y = .int ik i) (h0 : 0 ≤ i) (h1 : i < n)
  (hk : i.toNat = k) (hv : cs[k]? = some v) : Quiet P W0 E L (.index t x y) ty v := fun w d pos aft g _ => by
 subst hk
 simp [execOp, Instr.index, asIntOf, hx, hy, run_underlying hu, h0, h1, sizeOf_run hs, part, isAgg_scalar hsc, hv]
theorem q_len_slice {t e : TypeId} {a : Option Addr} {n c : Nat} (hu : P.underlying t = some (.slice e)) (hx : evE E x = .slice a n c) : Quiet P W0 E L (.call { callee := .builtin .len, args := #[x], argTypes := #[t] }) ty (.int .i64 n) := fun w d pos aft g _ => by
 simp [execOp, resolve, invoke, builtin, Builtin.len_, hx, goInt, run_underlying hu]
theorem q_len_str {t : TypeId} {s : ByteArray} (hu : P.underlying t = some .string) (hx : evE E x = .string s) : Quiet P W0 E L (.call { callee := .builtin .len, args := #[x], argTypes := #[t] }) ty (.int .i64 s.size) := fun w d pos aft g _ => by
 simp [execOp, resolve, invoke, builtin, Builtin.len_, hx, goInt, run_underlying hu]
theorem q_extract {vs : Array Value} {i : Nat} (hx : evE E x = .tuple vs) (hv : vs[i]? = some v) : Quiet P W0 E L (.extract x i) ty v := fun w d pos aft g _ => by
 simp [execOp, Instr.extract, hx, hv]
theorem q_not {t : TypeId} {b c : Bool} (hx : evE E x = .bool b) (hc : (!b) = c) : Quiet P W0 E L (.unOp .not t x) ty (.bool c) := fun w d pos aft g _ => by
 subst hc; simp [execOp, Op.unary, hx]
theorem map_of_list {as : Array Operand} {args : List Value} {ρ : Operand → Value} (h : as.toList.map ρ = args) : as.map ρ = args.toArray := by
 subst h; apply Array.ext'; simp
theorem q_makeFunc {fn : Fn} {fs cs : Array Operand} {us vs : List Value} (hf : fs.toList.map (evE E) = us) (hc : cs.toList.map (evE E) = vs) : Quiet P W0 E L (.makeFunc fn fs cs) ty (.func fn us.toArray vs.toArray) := fun w d pos aft g _ => by
 simp [execOp, Instr.makeFunc, map_of_list hf, map_of_list hc]
theorem wrap_i64 {a : Int} (h1 : -9223372036854775808 ≤ a) (h2 : a ≤ 9223372036854775807) : IntKind.i64.wrap a = a := by
 simp only [IntKind.wrap, IntKind.bits, IntKind.signed]
 simp only [Bool.true_and]
 split <;> rename_i h <;> simp at h <;> omega
section
variable {t t' : TypeId} {k : IntKind} {a b c : Int} {r : Bool}
theorem q_add (hx : evE E x = .int k a) (hy : evE E y = .int k b) (hc : k.wrap (a + b) = c) : Quiet P W0 E L (.binOp .add t x y t') ty (.int k c) := fun w d pos aft g _ => by
 subst hc; simp [execOp, eqGuard, binOp, Op.intArith, hx, hy]
theorem q_sub (hx : evE E x = .int k a) (hy : evE E y = .int k b) (hc : k.wrap (a - b) = c) : Quiet P W0 E L (.binOp .sub t x y t') ty (.int k c) := fun w d pos aft g _ => by
 subst hc; simp [execOp, eqGuard, binOp, Op.intArith, hx, hy]
theorem q_mul (hx : evE E x = .int k a) (hy : evE E y = .int k b) (hc : k.wrap (a * b) = c) : Quiet P W0 E L (.binOp .mul t x y t') ty (.int k c) := fun w d pos aft g _ => by
 subst hc; simp [execOp, eqGuard, binOp, Op.intArith, hx, hy]
theorem q_quo (hx : evE E x = .int k a) (hy : evE E y = .int k b) (hb : b ≠ 0) (hc : k.wrap (a.tdiv b) = c) : Quiet P W0 E L (.binOp .quo t x y t') ty (.int k c) := fun w d pos aft g _ => by
 subst hc; simp [execOp, eqGuard, binOp, Op.intDiv, hx, hy, hb]
theorem q_rem (hx : evE E x = .int k a) (hy : evE E y = .int k b) (hb : b ≠ 0) (hc : a.tmod b = c) : Quiet P W0 E L (.binOp .rem t x y t') ty (.int k c) := fun w d pos aft g _ => by
 subst hc; simp [execOp, eqGuard, binOp, Op.intDiv, hx, hy, hb]
theorem q_and (hx : evE E x = .int k a) (hy : evE E y = .int k b) (hc : k.wrap ((BitVec.ofInt k.bits a &&& BitVec.ofInt k.bits b).toNat) = c) : Quiet P W0 E L (.binOp .and t x y t') ty (.int k c) := fun w d pos aft g _ => by
 subst hc; simp [execOp, eqGuard, binOp, Op.intBits, hx, hy]
theorem q_or (hx : evE E x = .int k a) (hy : evE E y = .int k b) (hc : k.wrap ((BitVec.ofInt k.bits a ||| BitVec.ofInt k.bits b).toNat) = c) : Quiet P W0 E L (.binOp .or t x y t') ty (.int k c) := fun w d pos aft g _ => by
 subst hc; simp [execOp, eqGuard, binOp, Op.intBits, hx, hy]
theorem q_xor (hx : evE E x = .int k a) (hy : evE E y = .int k b) (hc : k.wrap ((BitVec.ofInt k.bits a ^^^ BitVec.ofInt k.bits b).toNat) = c) : Quiet P W0 E L (.binOp .xor t x y t') ty (.int k c) := fun w d pos aft g _ => by
 subst hc; simp [execOp, eqGuard, binOp, Op.intBits, hx, hy]
theorem q_shl {yk : IntKind} (hx : evE E x = .int k a) (hy : evE E y = .int yk b) (hb : 0 ≤ b) (hc : k.wrap (a * 2 ^ min b.toNat k.bits) = c) : Quiet P W0 E L (.binOp .shl t x y t') ty (.int k c) := fun w d pos aft g _ => by
 subst hc; simp [execOp, eqGuard, binOp, Op.shift, hx, hy, Int.not_lt.2 hb]
theorem q_shr {yk : IntKind} (hx : evE E x = .int k a) (hy : evE E y = .int yk b) (hb : 0 ≤ b) (hc : a.fdiv (2 ^ min b.toNat k.bits) = c) : Quiet P W0 E L (.binOp .shr t x y t') ty (.int k c) := fun w d pos aft g _ => by
 subst hc; simp [execOp, eqGuard, binOp, Op.shift, hx, hy, Int.not_lt.2 hb]
theorem q_lss (hx : evE E x = .int k a) (hy : evE E y = .int k b) (hc : decide (a < b) = r) : Quiet P W0 E L (.binOp .lss t x y t') ty (.bool r) := fun w d pos aft g _ => by
 subst hc; simp [execOp, eqGuard, binOp, Op.intCmp, hx, hy]
theorem q_leq (hx : evE E x = .int k a) (hy : evE E y = .int k b) (hc : decide (a ≤ b) = r) : Quiet P W0 E L (.binOp .leq t x y t') ty (.bool r) := fun w d pos aft g _ => by
 subst hc; simp [execOp, eqGuard, binOp, Op.intCmp, hx, hy]
theorem q_gtr (hx : evE E x = .int k a) (hy : evE E y = .int k b) (hc : decide (a > b) = r) : Quiet P W0 E L (.binOp .gtr t x y t') ty (.bool r) := fun w d pos aft g _ => by
 subst hc; simp [execOp, eqGuard, binOp, Op.intCmp, hx, hy]
theorem q_geq (hx : evE E x = .int k a) (hy : evE E y = .int k b) (hc : decide (a ≥ b) = r) : Quiet P W0 E L (.binOp .geq t x y t') ty (.bool r) := fun w d pos aft g _ => by
 subst hc; simp [execOp, eqGuard, binOp, Op.intCmp, hx, hy]
theorem q_eql (hx : evE E x = .int k a) (hy : evE E y = .int k b) (hc : decide (a = b) = r) : Quiet P W0 E L (.binOp .eql t x y t') ty (.bool r) := fun w d pos aft g _ => by
 subst hc; simp [execOp, eqGuard, binOp, Op.intCmp, hx, hy, BEq.beq]
theorem q_neq (hx : evE E x = .int k a) (hy : evE E y = .int k b) (hc : decide (a = b) = r) : Quiet P W0 E L (.binOp .neq t x y t') ty (.bool (!r)) := fun w d pos aft g _ => by
 subst hc; simp [execOp, eqGuard, binOp, Op.intCmp, hx, hy, bne, BEq.beq]
theorem q_conv_int {src dst : TypeId} {k' : IntKind} (hd : P.underlying dst = some (.int k)) (hs : (P.underlying src).isSome = true) (hx : evE E x = .int k' a) (hc : k.wrap a = c) : Quiet P W0 E L (.convert src dst x) ty (.int k c) := fun w d pos aft g _ => by
 subst hc
 obtain ⟨ds, hds⟩ := Option.isSome_iff_exists.1 hs
 simp [execOp, convert, run_underlying hd, run_underlying hds, hx, Conv.intToInt]
theorem equalIn_bool (d : Nat) (p q : Bool) (hu : P.underlying t = some .bool) (w : World) : (Op.equalIn (d + 1) t (.bool p) (.bool q)).run P w = .ok (p == q) w := by
 simp [Op.equalIn, run_underlying hu]
theorem equalIn_ptr_nil (d : Nat) {e : TypeId} (a : Option Addr) (hu : P.underlying t = some (.pointer e)) (w : World) : (Op.equalIn (d + 1) t (.pointer a) (.pointer none)).run P w = .ok a.isNone w := by
 cases a <;> simp [Op.equalIn, run_underlying hu]
def plainEq : Value → Value → Bool
 | .bool _, .bool _ | .pointer _, .pointer _ | .slice .., .slice .. | .map _, .map _ | .func .., .nilFunc | .nilFunc, .nilFunc => true
 | _, _ => false
theorem q_eql_gen {u v : Value} (hx : evE E x = u) (hy : evE E y = v) (hp : plainEq u v = true) (hr : ∀ w, (Op.equalIn (9999 + 1) t u v).run P w = .ok r w) : Quiet P W0 E L (.binOp .eql t x y t') ty (.bool r) := fun w d pos aft g _ => by
 have h := hr w
 cases u <;> cases v <;> simp [plainEq] at hp <;> simp [execOp, eqGuard, hx, hy, binOp, Op.equal, Op.maxDepth, h]
theorem q_neq_gen {u v : Value} (hx : evE E x = u) (hy : evE E y = v) (hp : plainEq u v = true) (hr : ∀ w, (Op.equalIn (9999 + 1) t u v).run P w = .ok r w) : Quiet P W0 E L (.binOp .neq t x y t') ty (.bool (!r)) := fun w d pos aft g _ => by
 have h := hr w
 cases u <;> cases v <;> simp [plainEq] at hp <;> simp [execOp, eqGuard, hx, hy, binOp, Op.equal, Op.maxDepth, h]
theorem q_eql_bool {p q : Bool} (hx : evE E x = .bool p) (hy : evE E y = .bool q) (hu : P.underlying t = some .bool) (hc : (p == q) = r) : Quiet P W0 E L (.binOp .eql t x y t') ty (.bool r) :=
 q_eql_gen hx hy rfl fun w => by rw [equalIn_bool _ _ _ hu, hc]
theorem q_neq_bool {p q : Bool} (hx : evE E x = .bool p) (hy : evE E y = .bool q) (hu : P.underlying t = some .bool) (hc : (p == q) = r) : Quiet P W0 E L (.binOp .neq t x y t') ty (.bool (!r)) :=
 q_neq_gen hx hy rfl fun w => by rw [equalIn_bool _ _ _ hu, hc]
theorem q_eql_nil {e : TypeId} {a : Option Addr} (hx : evE E x = .pointer a) (hy : evE E y = .pointer none) (hu : P.underlying t = some (.pointer e)) (hc : a.isNone = r) : Quiet P W0 E L (.binOp .eql t x y t') ty (.bool r) :=
 q_eql_gen hx hy rfl fun w => by rw [equalIn_ptr_nil _ _ hu, hc]
theorem q_neq_nil {e : TypeId} {a : Option Addr} (hx : evE E x = .pointer a) (hy : evE E y = .pointer none) (hu : P.underlying t = some (.pointer e)) (hc : a.isNone = r) : Quiet P W0 E L (.binOp .neq t x y t') ty (.bool (!r)) :=
 q_neq_gen hx hy rfl fun w => by rw [equalIn_ptr_nil _ _ hu, hc]
theorem equalIn_func (d : Nat) {fn : Fn} {a b : Array Value} {dsc : TypeDesc} (hu : P.underlying t = some dsc) (hd : (match dsc with | .func .. => true | _ => false) = true) (w : World) :
  (Op.equalIn (d + 1) t (.func fn a b) .nilFunc).run P w = .ok false w := by
 cases dsc <;> simp at hd
 simp [Op.equalIn, run_underlying hu]
theorem q_neq_func {fn : Fn} {a b : Array Value} {dsc : TypeDesc} (hx : evE E x = .func fn a b) (hy : evE E y = .nilFunc) (hu : P.underlying t = some dsc) (hd : (match dsc with | .func .. => true | _ => false) = true) :
  Quiet P W0 E L (.binOp .neq t x y t') ty (.bool true) := q_neq_gen (r := false) hx hy rfl fun w => equalIn_func _ hu hd w
theorem q_min {at_ : Array TypeId} (hx : evE E x = .int k a) (hy : evE E y = .int k b) (hc : min a b = c) : Quiet P W0 E L (.call { callee := .builtin .min, args := #[x, y], argTypes := at_ }) ty (.int k c) := fun w d pos aft g _ => by
 subst hc
 simp [execOp, resolve, invoke, builtin, Builtin.min_, Builtin.min2, hx, hy]
 split <;> omega
end
theorem text_eq {s u : ByteArray} : (s.toList == u.toList) = decide (s.data.toList = u.data.toList) := by
 rw [ByteArray.toList_eq, ByteArray.toList_eq, Bool.eq_iff_iff]; simp
theorem text_true {s u : ByteArray} (h : s = u) : (s.toList == u.toList) = true := by subst h; simp
theorem text_false {s u : ByteArray} (h : ¬ s = u) : (s.toList == u.toList) = false := by
 rw [text_eq, decide_eq_false_iff_not]
 intro he; apply h; cases s; cases u; congr 1; exact Array.ext' he
section
variable {t t' : TypeId} {s u : ByteArray} {r : Bool}
theorem q_eql_str (hx : evE E x = .string s) (hy : evE E y = .string u) (hc : (s.toList == u.toList) = r) : Quiet P W0 E L (.binOp .eql t x y t') ty (.bool r) := fun w d pos aft g _ => by
 subst hc; simp [execOp, eqGuard, binOp, Op.stringOp, hx, hy]
theorem q_neq_str (hx : evE E x = .string s) (hy : evE E y = .string u) (hc : (s.toList == u.toList) = r) : Quiet P W0 E L (.binOp .neq t x y t') ty (.bool (!r)) := fun w d pos aft g _ => by
 subst hc; simp [execOp, eqGuard, binOp, Op.stringOp, hx, hy]
theorem q_leq_str (hx : evE E x = .string s) (hy : evE E y = .string u) (hc : (Op.bytesLess s.toList u.toList || s.toList == u.toList) = r) : Quiet P W0 E L (.binOp .leq t x y t') ty (.bool r) := fun w d pos aft g _ => by
 subst hc; simp [execOp, eqGuard, binOp, Op.stringOp, hx, hy]
theorem q_geq_str (hx : evE E x = .string s) (hy : evE E y = .string u) (hc : Op.bytesLess s.toList u.toList = r) : Quiet P W0 E L (.binOp .geq t x y t') ty (.bool (!r)) := fun w d pos aft g _ => by
 subst hc; simp [execOp, eqGuard, binOp, Op.stringOp, hx, hy]
theorem q_cat {z : ByteArray} (hx : evE E x = .string s) (hy : evE E y = .string u) (hb : s.size + u.size ≤ 9223372036854775807) (hz : s ++ u = z) : Quiet P W0 E L (.binOp .add t x y t') ty (.string z) := fun w d pos aft g _ => by
 subst hz
 have : ¬ ((s.size + u.size : Nat) : Int) > IntKind.i64.max := by simp [IntKind.max, IntKind.signed, IntKind.bits]; omega
 simp only [execOp, eqGuard, binOp, hx, hy, Op.stringOp]
 rw [if_neg this]
 simp
theorem q_slice_str {lo hi : Option Operand} {l h : Nat} {z : ByteArray} (hu : P.underlying t = some .string) (hx : evE E x = .string s)
    (hl : match lo with | none => l = 0 | some o => ∃ k, evE E o = .int k (l : Int)) (hh : match hi with | none => h = s.size | some o => ∃ k, evE E o = .int k (h : Int)) (h1 : l ≤ h) (h2 : h ≤ s.size) (hz : s.extract l h = z) :
    Quiet P W0 E L (.slice t x lo hi none) ty (.string z) := fun w d pos aft g _ => by
  subst hz
  cases lo <;> cases hi <;> simp only at hl hh
  · subst hl; subst hh
    simp [execOp, Instr.sliceAt, Instr.slice, run_underlying hu, hx, Instr.sliceBounds]
  · subst hl
    obtain ⟨k, hk⟩ := hh
    simp [execOp, Instr.sliceAt, Instr.slice, run_underlying hu, hx, hk, Instr.sliceBounds, Instr.sliceBound, asIntOf, h2]
  · subst hh
    obtain ⟨k, hk⟩ := hl
    simp [execOp, Instr.sliceAt, Instr.slice, run_underlying hu, hx, hk, Instr.sliceBounds, Instr.sliceBound, asIntOf, h1]
  · obtain ⟨k, hk⟩ := hl
    obtain ⟨k', hk'⟩ := hh
    simp [execOp, Instr.sliceAt, Instr.slice, run_underlying hu, hx, hk, hk', Instr.sliceBounds, Instr.sliceBound, asIntOf, h1, h2]
end
end
def slp (e k b cap : Nat) (xs : List Value) : HP := fun h => ∃ cur : List Value, cur.length = cap * k ∧ xs.length ≤ cur.length ∧ cap ≤ maxLen ∧ cur.take xs.length = xs ∧ h b = some (.cells cur.toArray e (0, 0))
def sl (e k : Nat) (v : Value) (n : Nat) (xs : List Value) : HP := fun h => xs.length = n * k ∧ ((v = .slice none 0 0 ∧ n = 0) ∨ ∃ b cap, v = .slice (some ⟨b, 0, none⟩) n cap ∧ n ≤ cap ∧ slp e k b cap xs h)
section
variable {P : Program} {W0 w : World} {E : Nat → Value} {L : List HP} {ty : TypeId} {x y : Operand} {v : Value}
theorem stL_get {p : HP} : ∀ {i : Nat} {L : List HP} {h : Hp}, stL L h → L[i]? = some p → ∃ a, Hp.le a h ∧ p a := by
 intro i
 induction i with
 | zero => intro L h hs hi; cases L with
  | nil => cases hi
  | cons q L => simp at hi; subst hi; obtain ⟨a, b, _, h2, _, hp, _⟩ := hs; exact ⟨a, h2, hp⟩
 | succ i ih => intro L h hs hi; cases L with
  | nil => cases hi
  | cons q L => simp at hi; obtain ⟨a, b, _, _, h3, _, hr⟩ := hs; obtain ⟨a', h4, h5⟩ := ih hr hi; exact ⟨a', Hp.le_trans h4 h3, h5⟩
def ptf (b : Nat) (e : TypeId) (c : List Value) : HP := fun h => ∃ fz : Nat × Nat, h b = some (.cells c.toArray e fz)
inductive Has (W0 : World) (L : List HP) (b off : Nat) (v : Value) : Prop where
 | frz {i e : Nat} {c : List Value} (hi : L[i]? = some (ptf b e c)) (hc : c[off]? = some v)
 | cel {i e : Nat} {c : List Value} (hi : L[i]? = some (pt b e c)) (hc : c[off]? = some v)
 | row {i e k cap : Nat} {c : List Value} (hi : L[i]? = some (slp e k b cap c)) (hc : c[off]? = some v)
 | old (h : W0.cell? ⟨b, off, none⟩ = some v)
theorem Has.cell {b off : Nat} (h : Has W0 L b off v) (hs : st W0 w L) : w.cell? ⟨b, off, none⟩ = some v := by
 cases h with
 | frz hi hc =>
  obtain ⟨_, x, hL, hx⟩ := hs
  obtain ⟨a, ha, fz, h5⟩ := stL_get hL hi
  have := (hx _ _ (ha _ _ h5)).2
  simp [World.cell?, this, hc]
 | cel hi hc => exact st_cell hs hi hc
 | row hi hc =>
  obtain ⟨_, x, hL, hx⟩ := hs
  obtain ⟨a, ha, cur, h1, h2, h3, h4, h5⟩ := stL_get hL hi
  have := (hx _ _ (ha _ _ h5)).2
  have hoff := (List.getElem?_eq_some_iff.1 hc).1
  rw [← h4] at hc
  rw [List.getElem?_take, if_pos hoff] at hc
  simp [World.cell?, this, hc]
 | old h => exact st_ro hs h
theorem q_load {t b off : Nat} (hs : scalar P t = true) (hx : evE E x = .pointer (some ⟨b, off, none⟩)) (h : Has W0 L b off v) : Quiet P W0 E L (.load t x) ty v := fun w d pos aft g hst => by
 simp [execOp, Instr.loadAt, Instr.sureAddr, hx, loadVar, isAgg_scalar hs, h.cell hst]
theorem q_c {t b off e : Nat} {c : List Value} (i : Nat) (hs : scalar P t = true) (hx : evE E x = .pointer (some ⟨b, off, none⟩)) (hi : L[i]? = some (pt b e c)) (hv : c[off]? = some v) : Quiet P W0 E L (.load t x) ty v := q_load hs hx (.cel hi hv)
theorem q_loadAgg {t b off : Nat} {vs : List Value} (hs : aggSize P t = some vs.length) (hx : evE E x = .pointer (some ⟨b, off, none⟩)) (h : ∀ j u, vs[j]? = some u → Has W0 L b (off + j) u) : Quiet P W0 E L (.load t x) ty (.agg vs.toArray) := fun w d pos aft g hst => by
 have := isAgg_agg hs
 simp only [execOp, Instr.loadAt, Instr.sureAddr, hx, loadVar]
 simp [(this w).1, (this w).2]
 rw [run_loadCells_list (P := P) w ⟨b, off, none⟩ vs (fun j u hj => by rw [add_mk]; exact (h j u hj).cell hst)]
 simp
theorem Has.of_pt {b off i e : Nat} {c vs : List Value} (hi : L[i]? = some (pt b e c)) (hv : (c.drop off).take vs.length = vs) : ∀ j u, vs[j]? = some u → Has W0 L b (off + j) u := fun j u hj => by
 have hl := (List.getElem?_eq_some_iff.1 hj).1
 refine .cel hi ?_
 rw [← hv, List.getElem?_take, if_pos hl, List.getElem?_drop] at hj
 exact hj
def rb : Value → Nat
 | .slice (some a) _ _ => a.block
 | _ => 0
def ro : Value → Nat
 | .slice (some a) _ _ => a.off
 | _ => 0
structure Rd (W0 : World) (v : Value) (n : Nat) (cells : List Value) : Prop where
 shape : ∃ a c, v = .slice a n c
 some_ : 0 < n → ∃ b off c, v = .slice (some ⟨b, off, none⟩) n c
 cell : ∀ j u, cells[j]? = some u → W0.cell? ⟨rb v, ro v + j, none⟩ = some u
theorem q_len_is {t e' n : Nat} (hu : P.underlying t = some (.slice e')) (hx : evE E x = v) (h : ∃ a c, v = .slice a n c) :
  Quiet P W0 E L (.call { callee := .builtin .len, args := #[x], argTypes := #[t] }) ty (.int .i64 n) := fun w d pos aft g hst => by
 obtain ⟨a, c, rfl⟩ := h
 simp [execOp, resolve, invoke, builtin, Builtin.len_, hx, goInt, run_underlying hu]
theorem q_idx_is {t e k n m : Nat} {ik : IntKind} {i : Int} (he : sliceElem P t = some (e, k)) (hx : evE E x = v) (h : ∃ b off c, v = .slice (some ⟨b, off, none⟩) n c) (hy : evE E y = .int ik i)
  (h0 : 0 ≤ i) (h1 : i < n) (hm : ro v + i.toNat * k = m) : Quiet P W0 E L (.indexAddr t x y) ty (.pointer (some ⟨rb v, m, none⟩)) := by
 obtain ⟨b, off, c, rfl⟩ := h
 exact q_idx he hx hy h0 h1 hm
theorem q_str_of {src dst e b off cap : Nat} {l : List UInt8} {n : Nat} (hs : P.underlying src = some (.slice e)) (he : P.underlying e = some (.int .u8)) (hd : P.underlying dst = some .string)
  (hx : evE E x = .slice (some ⟨b, off, none⟩) n cap) (hn : l.length = n) (h : ∀ j u, (l.map fun c => Value.int .u8 (c.toNat : Int))[j]? = some u → Has W0 L b (off + j) u) : Quiet P W0 E L (.convert src dst x) ty (.string ⟨l.toArray⟩) := fun w d pos aft g hst => by
 subst hn
 have := run_convert_bytes_back (P := P) w src dst e ⟨b, off, none⟩ cap l hs he hd (fun j hj => by rw [add_mk]; exact (h j _ (by simp [hj])).cell hst)
 simp [execOp, hx, this]
theorem q_str_nil {src dst e : Nat} {n cap : Nat} (hs : P.underlying src = some (.slice e)) (he : P.underlying e = some (.int .u8)) (hd : P.underlying dst = some .string)
  (hx : evE E x = .slice none n cap) : Quiet P W0 E L (.convert src dst x) ty (.string ByteArray.empty) := fun w d pos aft g hst => by
 have := run_convert_bytes_string (P := P) w src dst e none n cap hs he hd
 simp [execOp, hx, this, Conv.bytesToString]
theorem q_slice {t e k b off len cap : Nat} {lo hi : Option Operand} {l h : Nat} {a : Option Addr} (hu : sliceElem P t = some (e, k)) (hx : evE E x = .slice (some ⟨b, off, none⟩) len cap)
    (hl : match lo with | none => l = 0 | some o => ∃ k, evE E o = .int k (l : Int)) (hh : match hi with | none => h = len | some o => ∃ k, evE E o = .int k (h : Int)) (h1 : l ≤ h) (h2 : h ≤ cap)
    (ha : (if cap = l then some (Addr.mk b off none) else some ⟨b, off + l * k, none⟩) = a) :
    Quiet P W0 E L (.slice t x lo hi none) ty (.slice a (h - l) (cap - l)) := fun w d pos aft g _ => by
  subst ha
  obtain ⟨hu, hs⟩ := sliceElem_parts hu
  cases lo <;> cases hi <;> simp only at hl hh
  · subst hl; subst hh
    simp [execOp, Instr.sliceAt, Instr.slice, run_underlying hu, hx, Instr.sliceBounds, sizeOf_run hs, add_mk]
  · subst hl
    obtain ⟨k', hk⟩ := hh
    simp [execOp, Instr.sliceAt, Instr.slice, run_underlying hu, hx, hk, Instr.sliceBounds, Instr.sliceBound, asIntOf, h2, sizeOf_run hs, add_mk]
  · subst hh
    obtain ⟨k', hk⟩ := hl
    simp [execOp, Instr.sliceAt, Instr.slice, run_underlying hu, hx, hk, Instr.sliceBounds, Instr.sliceBound, asIntOf, h1, sizeOf_run hs, add_mk]
  · obtain ⟨k', hk⟩ := hl
    obtain ⟨k'', hk'⟩ := hh
    simp [execOp, Instr.sliceAt, Instr.slice, run_underlying hu, hx, hk, hk', Instr.sliceBounds, Instr.sliceBound, asIntOf, h1, h2, sizeOf_run hs, add_mk]
theorem q_slice_low {t e k b off len cap : Nat} {lo hi : Option Operand} {h : Nat} (hu : sliceElem P t = some (e, k)) (hx : evE E x = .slice (some ⟨b, off, none⟩) len cap)
  (hl : match lo with | none => 0 = 0 | some o => ∃ k, evE E o = .int k ((0 : Nat) : Int)) (hh : match hi with | none => h = len | some o => ∃ k, evE E o = .int k (h : Int)) (_h1 : 0 ≤ h) (h2 : h ≤ cap) :
  Quiet P W0 E L (.slice t x lo hi none) ty (.slice (some ⟨b, off, none⟩) h cap) := by
 have := q_slice (P := P) (W0 := W0) (L := L) (ty := ty) (l := 0) (h := h) (lo := lo) (hi := hi) hu hx hl hh (Nat.zero_le _) h2 rfl
 simpa using this
theorem q_slice_nil {t e : Nat} {lo hi : Option Operand} (hu : P.underlying t = some (.slice e)) (hx : evE E x = .slice none 0 0)
    (hl : match lo with | none => 0 = 0 | some o => ∃ k, evE E o = .int k ((0 : Nat) : Int)) (hh : match hi with | none => 0 = 0 | some o => ∃ k, evE E o = .int k ((0 : Nat) : Int)) (hs : (sizeIs P e).isSome = true) :
    Quiet P W0 E L (.slice t x lo hi none) ty (.slice none 0 0) := fun w d pos aft g _ => by
  obtain ⟨k, hs⟩ := Option.isSome_iff_exists.1 hs
  cases lo <;> cases hi <;> simp only at hl hh
  · simp [execOp, Instr.sliceAt, Instr.slice, run_underlying hu, hx, Instr.sliceBounds, sizeOf_run hs]
  · obtain ⟨k', hk⟩ := hh
    simp [execOp, Instr.sliceAt, Instr.slice, run_underlying hu, hx, hk, Instr.sliceBounds, Instr.sliceBound, asIntOf, sizeOf_run hs]
  · obtain ⟨k', hk⟩ := hl
    simp [execOp, Instr.sliceAt, Instr.slice, run_underlying hu, hx, hk, Instr.sliceBounds, Instr.sliceBound, asIntOf, sizeOf_run hs]
  · obtain ⟨k', hk⟩ := hl
    obtain ⟨k'', hk'⟩ := hh
    simp [execOp, Instr.sliceAt, Instr.slice, run_underlying hu, hx, hk, hk', Instr.sliceBounds, Instr.sliceBound, asIntOf, sizeOf_run hs]
theorem st_row {b e : Nat} {c c' : List Value} (h : st W0 w (pt b e c :: L)) : st W0 (w.setRow b c'.toArray) (pt b e c' :: L) := by
 have hb := (st_own (i := 0) h rfl).2
 have hlt : b < w.heap.size := (Array.getElem?_eq_some_iff.1 hb).1
 refine st_upd h rfl rfl rfl (by simp [World.setRow]) (by simp [World.setRow, Array.getElem?_modify, hb]) (fun k hk _ => ?_)
 simp [World.setRow, Array.getElem?_modify, Ne.symm hk]
def splice (c : List Value) (off : Nat) (vs : List Value) : List Value := c.take off ++ vs ++ c.drop (off + vs.length)
theorem e_storeAgg {t b off i e : Nat} {c c' vs : List Value} (hs : sizeIs P t = some vs.length) (hx : evE E x = .pointer (some ⟨b, off, none⟩)) (hy : evE E y = .agg vs.toArray) (h1 : vs.all (·.oneCell') = true)
  (hi : L[i]? = some (pt b e c)) (hl : off + vs.length ≤ c.length) (hc : splice c off vs = c') : Eff P W0 E L (.store t x y) ty (X := Unit) (fun _ => True) (fun _ => undef) (fun _ => L.set i (pt b e c')) := fun w d pos aft g hst => by
 subst hc
 have hb := (st_own hst hi).2
 have := run_storeCells_at (P := P) b off e vs 0 c.toArray w hb (by simpa using hl) (by simpa using h1)
 simp only [Nat.add_zero] at this
 have hr : (execOp (evE E) { dst := d, op := .store t x y, type := ty, pos := pos, after := aft, guard := g }).run P w = .ok .skip (w.setRow b (splice c off vs).toArray) := by
  simp only [execOp, Instr.storeAt, Instr.sureAddr, hx, hy, storeVar]
  simp [Value.cells, sizeOf_run hs, this, splice]
 rw [hr]
 exact ⟨(), trivial, rfl, st_set hi (st_row (st_at hst hi))⟩
theorem e_store {t b off i e : Nat} {c : List Value} (hs : sizeIs P t = some 1) (hx : evE E x = .pointer (some ⟨b, off, none⟩)) (hy : evE E y = v) (h1 : ∀ w, st W0 w L → v.oneCell' = true)
  (hi : L[i]? = some (pt b e c)) (hl : off < c.length) : Eff P W0 E L (.store t x y) ty (X := Unit) (fun _ => True) (fun _ => undef) (fun _ => L.set i (pt b e (c.set off v))) := fun w d pos aft g hst => by
 have h1 := h1 w hst
 have hb := (st_own hst hi).2
 have hc : w.cell? ⟨b, off, none⟩ = some c[off] := st_cell hst hi (by simp [hl])
 have hf : w.frozen? ⟨b, off, none⟩ = false := by simp [World.frozen?, hb]
 have hv : v.cells = #[v] := by cases v <;> simp_all [Value.cells, Value.oneCell']
 have hr : (execOp (evE E) { dst := d, op := .store t x y, type := ty, pos := pos, after := aft, guard := g }).run P w = .ok .skip (w.setCell ⟨b, off, none⟩ v) := by
  simp only [execOp, Instr.storeAt, Instr.sureAddr, hx, hy, storeVar]
  simp [hv, sizeOf_run hs, storeCells, add_mk, run_store, h1, hc, hf]
 rw [hr]
 exact ⟨(), trivial, rfl, st_set hi (st_setCell (st_at hst hi))⟩
theorem e_store_slp {t b off i e k cap : Nat} {c c' vs : List Value} (hs : sizeIs P t = some vs.length) (hx : evE E x = .pointer (some ⟨b, off, none⟩)) (hy : (evE E y).cells = vs.toArray) (h1 : vs.all (·.oneCell') = true)
    (hi : L[i]? = some (slp e k b cap c)) (hl : off + vs.length ≤ c.length) (hc : splice c off vs = c') : Eff P W0 E L (.store t x y) ty (X := Unit) (fun _ => True) (fun _ => undef) (fun _ => L.set i (slp e k b cap c')) := fun w d pos aft g hst => by
  subst hc
  have h0 := st_at hst hi
  obtain ⟨cur, hcur⟩ := st_ex.1 (show st W0 w (ex (fun cur : List Value => fun h => cur.length = cap * k ∧ c.length ≤ cur.length ∧ cap ≤ maxLen ∧ cur.take c.length = c ∧ h b = some (.cells cur.toArray e (0, 0))) :: L.eraseIdx i) from h0)
  obtain ⟨⟨e1, e2, e3, e4⟩, h0'⟩ : (cur.length = cap * k ∧ c.length ≤ cur.length ∧ cap ≤ maxLen ∧ cur.take c.length = c) ∧ st W0 w (pt b e cur :: L.eraseIdx i) :=
    ⟨by obtain ⟨_, x, ⟨_, _, _, _, _, hp, _⟩, _⟩ := hcur; exact ⟨hp.1, hp.2.1, hp.2.2.1, hp.2.2.2.1⟩, st_head (fun h hp => hp.2.2.2.2) hcur⟩
  have hb := (st_own (i := 0) h0' rfl).2
  have := run_storeCells_at (P := P) b off e vs 0 cur.toArray w hb (by simp; omega) (by simpa using h1)
  simp only [Nat.add_zero] at this
  have hr : (execOp (evE E) { dst := d, op := .store t x y, type := ty, pos := pos, after := aft, guard := g }).run P w = .ok .skip (w.setRow b (splice cur off vs).toArray) := by
    simp only [execOp, Instr.storeAt, Instr.sureAddr, hx, storeVar]
    simp [hy, sizeOf_run hs, this, splice]
  rw [hr]
  refine ⟨(), trivial, rfl, st_set hi (st_head (fun h hp => ⟨splice cur off vs, ?_, ?_, e3, ?_, hp⟩) (st_row (c' := splice cur off vs) h0'))⟩
  · simp [splice]; omega
  · simp [splice]; omega
  · have hcl : (splice c off vs).length = c.length := by simp [splice]; omega
    rw [hcl]
    conv => rhs; rw [← e4]
    simp only [splice, List.take_append, List.take_take, List.length_take, List.drop_take]
    rw [show min off cur.length = off from by omega]
    congr 1
    · congr 1
      · congr 1; omega
      · rw [List.take_of_length_le (by omega)]
    · congr 1
      simp; omega
theorem e_box {t : Nat} {vs : List Value} (hx : (evE E x).cells = vs.toArray) : Eff P W0 E L (.box t x) ty (X := Nat) (fun _ => True) (fun b => .pointer (some ⟨b, 0, none⟩)) (fun b => pt b t vs :: L) := fun w d pos aft g hst => by
 have hr : (execOp (evE E) { dst := d, op := .box t x, type := ty, pos := pos, after := aft, guard := g }).run P w = .ok (.value (.pointer (some ⟨w.heap.size, 0, none⟩))) (w.alloc (.cells vs.toArray t (0, 0))) := by
  simp [execOp, Instr.box, newVar, newRow, hx]
 rw [hr]
 exact ⟨w.heap.size, trivial, rfl, st_new hst⟩
theorem e_alloc {t : Nat} {z : Value} {vs : List Value} (hz : zeroOf P t = some z) (hv : z.cells = vs.toArray) : Eff P W0 E L (.alloc t) ty (X := Nat) (fun _ => True) (fun b => .pointer (some ⟨b, 0, none⟩)) (fun b => pt b t vs :: L) := fun w d pos aft g hst => by
 have hr : (execOp (evE E) { dst := d, op := .alloc t, type := ty, pos := pos, after := aft, guard := g }).run P w = .ok (.value (.pointer (some ⟨w.heap.size, 0, none⟩))) (w.alloc (.cells vs.toArray t (0, 0))) := by
  simp [execOp, Instr.alloc, newVar, newRow, zero_run hz, hv]
 rw [hr]
 exact ⟨w.heap.size, trivial, rfl, st_new hst⟩
theorem e_buildSlice {t e k len : Nat} {parts : Array (Nat × Operand)} {z : Value} {cs : List Value} (hu : sliceElem P t = some (e, k)) (hz : zeroOf P e = some z) (hn : len * k ≠ 0) (hm : len * k ≤ 16777216)
  (hf : Instr.fill (fun i => some (i * k, k)) ((Array.range (len * k)).map (z.cells[· % z.cells.size]!)) (parts.map fun p => (p.1, evE E p.2)).toList = some cs.toArray) :
  Eff P W0 E L (.buildSlice t len parts) ty (X := Nat) (fun _ => True) (fun b => .slice (some ⟨b, 0, none⟩) len len) (fun b => pt b e cs :: L) := fun w d pos aft g hst => by
 obtain ⟨hu, hs⟩ := sliceElem_parts hu
 have hm' : ¬ 2 ^ 24 < len * k := by omega
 simp only [execOp, Instr.buildSlice]
 simp only [Sem.run_bind, run_underlying hu, Result.andThen_ok, sizeOf_run hs, gt_iff_lt, if_neg hm', if_neg hn, zero_run hz, Sem.run_pure, hf, newRow, run_newObj, Upon]
 exact ⟨w.heap.size, trivial, rfl, st_new hst⟩
def places (P : Program) (fs : List Field) : Option (List (Nat × Nat)) := fs.mapM fun f => (P.info? f.type).map fun i => (f.offset, i.size)
theorem q_build {t : Nat} {fs : Array Field} {parts : Array (Nat × Operand)} {z : Value} {pl : List (Nat × Nat)} {cs : Array Value} (hu : P.underlying t = some (.struct fs)) (hz : zeroOf P t = some z) (hp : places P fs.toList = some pl)
  (hf : Instr.fill (pl[·]?) z.cells (parts.map fun p => (p.1, evE E p.2)).toList = some cs) : Quiet P W0 E L (.build t parts) ty (.agg cs) := fun w d pos aft g hst => by
 have hmap : ∀ (l : List Field) (pl : List (Nat × Nat)), places P l = some pl → (l.mapM (m := Sem) fun f => Prod.mk f.offset <$> sizeOf f.type).run P w = .ok pl w := by
  intro l
  induction l with
  | nil => intro pl h; simp [places] at h; subst h; simp
  | cons f l ih =>
   intro pl h
   simp only [places, List.mapM_cons] at h
   cases hi : P.info? f.type with
   | none => simp [hi] at h
   | some i =>
    simp only [hi, Option.map_some, Option.bind_eq_bind, Option.bind_some] at h
    cases hr : places P l with
    | none => simp only [places] at hr; simp [hr] at h
    | some pl' =>
     have := ih pl' hr
     simp only [places] at hr
     simp [hr] at h
     subst h
     have hsz := sizeOf_run (P := P) (t := f.type) (k := i.size) (by simp [sizeIs, hi]) w
     simp [List.mapM_cons, this, hsz]
 have h2 : (fs.mapM (m := Sem) fun f => do pure (f.offset, ← sizeOf f.type)).run P w = .ok pl.toArray w := by
  rw [Array.mapM_eq_mapM_toList]
  simp [hmap _ _ hp]
 simp only [execOp, Instr.build]
 simp only [Sem.run_bind, zero_run hz, run_underlying hu, Result.andThen_ok, h2]
 have h3 : (fun x : Nat => pl.toArray[x]?) = (fun x : Nat => pl[x]?) := by funext x; simp
 simp only [h3]
 rw [hf]
 rfl
theorem q_buildArr {t e n : Nat} {parts : Array (Nat × Operand)} {z : Value} {cs : Array Value} (hu : P.underlying t = some (.array n e)) (hz : zeroOf P t = some z) (hs : sizeIs P e = some 1)
  (hf : Instr.fill (fun i => some (i * 1, 1)) z.cells (parts.map fun p => (p.1, evE E p.2)).toList = some cs) : Quiet P W0 E L (.build t parts) ty (.agg cs) := fun w d pos aft g hst => by
 simp only [execOp, Instr.build]
 simp only [Sem.run_bind, zero_run hz, run_underlying hu, Result.andThen_ok, sizeOf_run hs]
 rw [hf]
 rfl
theorem e_makeSlice {t e k b len : Nat} {z : Value} {lx cx : Operand} {kl kc : IntKind} (hu : P.underlying t = some (.slice e)) (hs : sizeIs P e = some k) (hb : (P.info? e).map (·.bytes) = some b) (hz : zeroOf P e = some z)
  (hl : evE E lx = .int kl (len : Int)) (hc : evE E cx = .int kc (len : Int)) (h1 : b * len ≤ 281474976710656) (h2 : len ≤ 9223372036854775807) :
  Eff P W0 E L (.makeSlice t lx cx) ty (X := Nat) (fun _ => True) (fun b => .slice (some ⟨b, 0, none⟩) len len) (fun b => pt b e (madeCells z.cells (len * k)).toList :: L) := fun w d pos aft g hst => by
 unfold sizeIs at hs
 unfold zeroOf at hz
 cases hi : P.info? e with
 | none => simp [hi] at hs
 | some i =>
  simp [hi] at hs hz hb
  have hb' : (i.bytes : Int) * (len : Int) ≤ 281474976710656 := by
   have : ((b * len : Nat) : Int) ≤ 281474976710656 := by omega
   rw [hb]; rwa [Int.natCast_mul] at this
  have := run_make (P := P) w t e i z hu hi hz kl kc (len : Int) len (by omega) (by omega) hb' (by omega)
  simp only [Int.toNat_natCast, hs] at this
  have hr : (execOp (evE E) { dst := d, op := .makeSlice t lx cx, type := ty, pos := pos, after := aft, guard := g }).run P w = .ok (.value (.slice (some ⟨w.heap.size, 0, none⟩) len len)) (w.alloc (.cells (madeCells z.cells (len * k)) e (0, 0))) := by
   simp [execOp, hl, hc, this]
  rw [hr]
  exact ⟨w.heap.size, trivial, rfl, by simpa [pt] using st_new (o := .cells (madeCells z.cells (len * k)) e (0, 0)) hst⟩
theorem st_sl {e k n b cap : Nat} {xs : List Value} (h : st W0 w (sl e k (.slice (some ⟨b, 0, none⟩) n cap) n xs :: L)) : (xs.length = n * k ∧ n ≤ cap) ∧ st W0 w (slp e k b cap xs :: L) := by
  have h1 := h
  obtain ⟨_, x, ⟨a, _, _, _, _, hp, _⟩, _⟩ := h1
  obtain ⟨hl, hp⟩ := hp
  rcases hp with ⟨hp, _⟩ | ⟨b', cap', hv, hn, _⟩
  · cases hp
  · simp only [Value.slice.injEq, Option.some.injEq, Addr.mk.injEq, and_true, true_and] at hv
    obtain ⟨rfl, rfl⟩ := hv
    refine ⟨⟨hl, hn⟩, st_head (fun h hp => ?_) h⟩
    rcases hp.2 with ⟨hp, _⟩ | ⟨b', cap', hv, _, hs⟩
    · cases hp
    · simp only [Value.slice.injEq, Option.some.injEq, Addr.mk.injEq, and_true, true_and] at hv
      obtain ⟨rfl, rfl⟩ := hv
      exact hs
theorem st_sl_cases {e k n : Nat} {v : Value} {xs : List Value} (h : st W0 w (sl e k v n xs :: L)) : (v = .slice none 0 0 ∧ n = 0 ∧ xs = []) ∨ ∃ b cap, v = .slice (some ⟨b, 0, none⟩) n cap ∧ n ≤ cap ∧ xs.length = n * k ∧ st W0 w (slp e k b cap xs :: L) := by
  have h1 := h
  obtain ⟨_, x, ⟨a, _, _, _, _, hp, _⟩, _⟩ := h1
  obtain ⟨hl, hp⟩ := hp
  rcases hp with ⟨rfl, rfl⟩ | ⟨b, cap, rfl, hn, _⟩
  · exact .inl ⟨rfl, rfl, by simpa using hl⟩
  · have := st_sl h
    exact .inr ⟨b, cap, rfl, hn, hl, this.2⟩
theorem st_sl_mk {e k n b cap : Nat} {xs : List Value} (hl : xs.length = n * k) (hn : n ≤ cap) (h : st W0 w (slp e k b cap xs :: L)) : st W0 w (sl e k (.slice (some ⟨b, 0, none⟩) n cap) n xs :: L) :=
 st_head (fun _ hs => ⟨hl, .inr ⟨b, cap, rfl, hn, hs⟩⟩) h
theorem st_sl_nil {e k : Nat} (h : st W0 w L) : st W0 w (sl e k (.slice none 0 0) 0 [] :: L) :=
 st_head (p := pr True) (fun _ _ => ⟨by simp, .inl ⟨rfl, rfl⟩⟩) (st_pr.2 ⟨trivial, h⟩)
theorem st_slp_pt {e k b cap : Nat} {xs : List Value} (hl : xs.length = cap * k) (hc : cap ≤ maxLen) (h : st W0 w (pt b e xs :: L)) : st W0 w (slp e k b cap xs :: L) :=
 st_head (fun _ hs => ⟨xs, hl, Nat.le_refl _, hc, by simp, hs⟩) h
theorem sl_val {e k n i : Nat} {v : Value} {xs : List Value} (h : st W0 w L) (hi : L[i]? = some (sl e k v n xs)) : ∃ a c, v = .slice a n c := by
 rcases st_sl_cases (st_at h hi) with ⟨e1, e2, _⟩ | ⟨b, cap, e1, _⟩
 · exact ⟨none, 0, by rw [e1, e2]⟩
 · exact ⟨_, _, e1⟩
theorem sl_one {e k n i : Nat} {v : Value} {xs : List Value} (h : st W0 w L) (hi : L[i]? = some (sl e k v n xs)) : v.oneCell' = true := by
 obtain ⟨a, c, rfl⟩ := sl_val h hi; rfl
theorem q_len_sl {t e' e k n i : Nat} {v : Value} {xs : List Value} (hu : P.underlying t = some (.slice e')) (hx : evE E x = v) (hi : L[i]? = some (sl e k v n xs)) :
  Quiet P W0 E L (.call { callee := .builtin .len, args := #[x], argTypes := #[t] }) ty (.int .i64 n) := fun w d pos aft g hst => by
 obtain ⟨a, c, rfl⟩ := sl_val hst hi
 simp [execOp, resolve, invoke, builtin, Builtin.len_, hx, goInt, run_underlying hu]
theorem slp_open {e k b cap : Nat} {xs : List Value} (h : st W0 w (slp e k b cap xs :: L)) : ∃ cur : List Value, (cur.length = cap * k ∧ xs.length ≤ cur.length ∧ cap ≤ maxLen ∧ cur.take xs.length = xs) ∧ st W0 w (pt b e cur :: L) := by
 have h0 : st W0 w (ex (fun cur : List Value => fun h => cur.length = cap * k ∧ xs.length ≤ cur.length ∧ cap ≤ maxLen ∧ cur.take xs.length = xs ∧ h b = some (.cells cur.toArray e (0, 0))) :: L) := h
 obtain ⟨cur, hcur⟩ := st_ex.1 h0
 exact ⟨cur, by obtain ⟨_, x, ⟨_, _, _, _, _, hp, _⟩, _⟩ := hcur; exact ⟨hp.1, hp.2.1, hp.2.2.1, hp.2.2.2.1⟩, st_head (fun h hp => hp.2.2.2.2) hcur⟩
theorem e_append {t e k bt n m c b off i : Nat} {z : Value} {xs news : List Value} (hu : P.underlying t = some (.slice e)) (hs : sizeIs P e = some k) (hb : (P.info? e).map (·.bytes) = some bt) (hz : zeroOf P e = some z) (hzk : z.cells.size = k)
    (hx : evE E x = v) (hi : L[i]? = some (sl e k v n xs)) (hy : evE E y = .slice (some ⟨b, off, none⟩) m c) (hl : news.length = m * k) (hnews : ∀ j u, news[j]? = some u → Has W0 L b (off + j) u) (h1 : news.all (·.oneCell') = true)
    (h0 : 0 < m) (h63 : n + m ≤ maxLen) (hbytes : (n + m) * bt ≤ 140737488355328) :
    Eff P W0 E L (.call { callee := .builtin .append, args := #[x, y], argTypes := #[t, t] }) ty (X := Value) (fun _ => True) (fun v' => v') (fun v' => L.set i (sl e k v' (n + m) (xs ++ news))) := fun w d pos aft g hst => by
  have hnews' : ∀ j u, news[j]? = some u → w.cell? ((⟨b, off, none⟩ : Addr).add j) = some u := fun j u hj => by rw [add_mk]; exact (hnews j u hj).cell hst
  have h1' : ∀ u ∈ news, u.oneCell' = true := by simpa using h1
  unfold sizeIs at hs
  unfold zeroOf at hz
  cases hinf : P.info? e with
  | none => simp [hinf] at hs
  | some inf =>
    simp only [hinf, Option.map_some, Option.some.injEq, Option.bind_some] at hs hb hz
    subst hs; subst hb
    have hml : n + m ≤ 9223372036854775807 := by simpa [maxLen] using h63
    have hat := st_at hst hi
    have fin : ∀ (v' : Value) (w' : World), (Builtin.append_ #[t, t] ty #[v, .slice (some ⟨b, off, none⟩) m c]).run P w = .ok v' w' → st W0 w' (sl e inf.size v' (n + m) (xs ++ news) :: L.eraseIdx i) →
        Upon P (fun u w' => ∃ x, True ∧ u = x ∧ st W0 w' (L.set i (sl e inf.size x (n + m) (xs ++ news)))) ((execOp (evE E) { dst := d, op := .call { callee := .builtin .append, args := #[x, y], argTypes := #[t, t] }, type := ty, pos := pos, after := aft, guard := g }).run P w) := fun v' w' hr hst' => by
      have : (execOp (evE E) { dst := d, op := .call { callee := .builtin .append, args := #[x, y], argTypes := #[t, t] }, type := ty, pos := pos, after := aft, guard := g }).run P w = .ok (.value v') w' := by
        simp [execOp, resolve, invoke, builtin, hx, hy, hr]
      rw [this]
      exact ⟨v', trivial, rfl, st_set hi hst'⟩
    -- what a new block is
    have grown : ∀ (old : Nat) (w2 : World), st W0 w2 (L.eraseIdx i) → xs.length = n * inf.size → (∀ k, (grownCap w (n + m) old e) = k → n + m ≤ k → k ≤ maxLen →
        st W0 (w2.alloc (.cells (xs.toArray ++ news.toArray ++ Builtin.zeroCells z.cells (k - (n + m))) e)) (sl e inf.size (.slice (some ⟨w2.heap.size, 0, none⟩) (n + m) k) (n + m) (xs ++ news) :: L.eraseIdx i)) := fun old w2 hw2 hxl k _ hge hle => by
      have hlen : (xs ++ news).length = (n + m) * inf.size := by rw [List.length_append, hxl, hl, Nat.add_mul]
      refine st_sl_mk hlen hge ?_
      have hcur : (xs.toArray ++ news.toArray ++ Builtin.zeroCells z.cells (k - (n + m))) = (xs ++ news ++ (Builtin.zeroCells z.cells (k - (n + m))).toList).toArray := by simp
      rw [hcur]
      refine st_head (fun h hp => ⟨xs ++ news ++ (Builtin.zeroCells z.cells (k - (n + m))).toList, ?_, ?_, hle, ?_, hp⟩) (st_new (o := .cells (xs ++ news ++ (Builtin.zeroCells z.cells (k - (n + m))).toList).toArray e (0, 0)) hw2)
      · simp only [List.length_append, Array.length_toList, size_zeroCells, hzk, hxl, hl, ← Nat.add_mul]
        congr 1; omega
      · simp
      · rw [List.take_left]
    rcases st_sl_cases hat with ⟨rfl, rfl, rfl⟩ | ⟨g', cap, rfl, hnc, hxl, hs2⟩
    · have hr := run_append_nil (P := P) w t ty e inf z hu hinf hz ⟨b, off, none⟩ m c news hl hnews' h0 (by omega) (by have hb := hbytes; simp only [Nat.zero_add] at hb; omega)
      refine fin _ _ hr ?_
      have := grown 0 w.drew (st_drew (st_drop hat)) (by simp) _ rfl (grownCap_ge _ _ _ _) (grownCap_le_maxLen _ _ _ _ h63)
      simpa using this
    · obtain ⟨cur, ⟨e1, e2, e3, e4⟩, hpt⟩ := slp_open hs2
      have hg := (st_own (i := 0) hpt rfl).2
      by_cases hroom : n + m ≤ cap
      · have hfit : n * inf.size + news.length ≤ cur.toArray.size := by simp only [List.size_toArray]; rw [hl, e1, ← Nat.add_mul]; exact Nat.mul_le_mul_right _ hroom
        have hr := run_append_room (P := P) w t ty e inf hu hinf g' n cap cur.toArray hg ⟨b, off, none⟩ m c news hl hnews' h1' hroom hfit
        refine fin _ _ hr (st_sl_mk (by rw [List.length_append, hxl, hl, Nat.add_mul]) hroom ?_)
        refine st_head (fun h hp => ⟨_, ?_, ?_, e3, ?_, hp⟩) (st_row hpt)
        · simp only [List.length_append, List.length_take, List.length_drop] at hfit ⊢
          simp only [List.size_toArray] at hfit
          omega
        · simp only [List.length_append, List.length_take, List.length_drop]
          simp only [List.size_toArray] at hfit
          omega
        · simp only
          rw [show cur.take (n * inf.size) = xs from by rw [← hxl]; exact e4]
          exact List.take_left
      · have holds : ∀ j u, xs[j]? = some u → w.cell? ((⟨g', 0, none⟩ : Addr).add j) = some u := fun j u hj => by
          rw [add_mk]
          exact (Has.row (i := 0) (L := slp e inf.size g' cap xs :: L.eraseIdx i) (W0 := W0) rfl (by simpa using hj)).cell hs2
        have hr := run_append_grow (P := P) w t ty e inf z hu hinf hz ⟨g', 0, none⟩ n cap xs hxl holds ⟨b, off, none⟩ m c news hl hnews' (by omega) (by omega) (growslice_fits (by omega) hbytes)
        refine fin _ _ hr ?_
        exact grown cap w.drew (st_drew (st_drop hat)) hxl _ rfl (grownCap_ge _ _ _ _) (grownCap_le_maxLen _ _ _ _ h63)
theorem Con.sl {f : FuncId} {args : Array Value} {e k n : Nat} {v : Value} {xs : List Value} {pre : List HP} {X : Type} {φ : X → Prop} {val : X → Value} {post : X → List HP}
  (h0 : v = .slice none 0 0 → n = 0 → xs = [] → Con P W0 f args pre φ val post)
  (h1 : ∀ b cap, v = .slice (some ⟨b, 0, none⟩) n cap → n ≤ cap → xs.length = n * k → Con P W0 f args (slp e k b cap xs :: pre) φ val post) : Con P W0 f args (sl e k v n xs :: pre) φ val post := fun w F hs => by
 rcases st_sl_cases hs with ⟨e1, e2, e3⟩ | ⟨b, cap, e1, e2, e3, hs'⟩
 · exact h0 e1 e2 e3 w F (st_drop hs)
 · exact h1 b cap e1 e2 e3 w F hs'
theorem Wc.sl {i e k m n' : Nat} {Q : Exit → Act → World → Prop} {D : List Deferred} {xs : List Value} {c : Code} (hi : L[i]? = some (sl e k v m xs)) (hm : 0 < m)
  (kk : ∀ b cap, v = .slice (some ⟨b, 0, none⟩) m cap → m ≤ cap → Wc P W0 Q n' D c E (L.set i (slp e k b cap xs))) : Wc P W0 Q n' D c E L := fun a w ha hs => by
 rcases st_sl_cases (st_at hs hi) with ⟨_, e2, _⟩ | ⟨b, cap, e1, e2, _, hs'⟩
 · omega
 · exact kk b cap e1 e2 a w ha (st_set hi hs')
theorem Wl.sl {i e k m n' : Nat} {Q : Exit → Act → World → Prop} {D : List Deferred} {xs : List Value} {ops : Array Oper} {os : List Oper} (hi : L[i]? = some (sl e k v m xs)) (hm : 0 < m)
  (kk : ∀ b cap, v = .slice (some ⟨b, 0, none⟩) m cap → m ≤ cap → Wl P W0 Q n' D ops os E (L.set i (slp e k b cap xs))) : Wl P W0 Q n' D ops os E L := fun a w ha hs => by
 rcases st_sl_cases (st_at hs hi) with ⟨_, e2, _⟩ | ⟨b, cap, e1, e2, _, hs'⟩
 · omega
 · exact kk b cap e1 e2 a w ha (st_set hi hs')
theorem Con.ex {f : FuncId} {args : Array Value} {Y : Type} {p : Y → HP} {pre : List HP} {X : Type} {φ : X → Prop} {val : X → Value} {post : X → List HP}
  (h : ∀ y, Con P W0 f args (p y :: pre) φ val post) : Con P W0 f args (ex p :: pre) φ val post := fun w F hs => let ⟨y, hy⟩ := st_ex.1 hs; h y w F hy
theorem Con.grp {f : FuncId} {args : Array Value} {M pre : List HP} {X : Type} {φ : X → Prop} {val : X → Value} {post : X → List HP}
  (h : Con P W0 f args (M ++ pre) φ val post) : Con P W0 f args (grp M :: pre) φ val post := fun w F hs => h w F (by rw [List.append_assoc]; exact st_grp.1 hs)
theorem Con.pr {f : FuncId} {args : Array Value} {ψ : Prop} {pre : List HP} {X : Type} {φ : X → Prop} {val : X → Value} {post : X → List HP}
  (h : ψ → Con P W0 f args pre φ val post) : Con P W0 f args (pr ψ :: pre) φ val post := fun w F hs => let ⟨h1, h2⟩ := st_pr.1 hs; h h1 w F h2
theorem Con.post {f : FuncId} {args : Array Value} {pre : List HP} {X : Type} {φ : X → Prop} {val : X → Value} {post post' : X → List HP}
  (h : Con P W0 f args pre φ val post) (hk : ∀ x w F, st W0 w (post x ++ F) → st W0 w (post' x ++ F)) : Con P W0 f args pre φ val post' := h.mono fun x hx => ⟨x, hx, rfl, hk x⟩
theorem Con.eqs {f : FuncId} {args : Array Value} {pre : List HP} {X : Type} {φ : X → Prop} {val val' : X → Value} {post post' : X → List HP}
  (h : Con P W0 f args pre φ val post) (hv : ∀ x, val x = val' x) (hp : ∀ x, post x = post' x) : Con P W0 f args pre φ val' post' := h.mono fun x hx => ⟨x, hx, hv x, fun _ _ h => by rw [← hp]; exact h⟩
theorem stL_grpAt {a : HP} {M L : List HP} {h : Hp} (hs : stL (a :: (M ++ L)) h) : stL (a :: grp M :: L) h :=
 stL_cons_mono (fun _ hs => let ⟨x, y, g1, g2, g3, g4, g5⟩ := stL_append hs; ⟨x, y, g1, g2, g3, g4, g5⟩) hs
theorem stL_grpAt' {a : HP} {M L : List HP} {h : Hp} (hs : stL (a :: grp M :: L) h) : stL (a :: (M ++ L)) h :=
 stL_cons_mono (fun _ hs => by obtain ⟨_, _, g1, g2, g3, g4, g5⟩ := hs; exact stL_append_mk g1 g2 g3 g4 g5) hs
theorem st_grpAt {w : World} {a : HP} {M L : List HP} (h : st W0 w (a :: (M ++ L))) : st W0 w (a :: grp M :: L) := st_imp (fun _ => stL_grpAt) h
theorem Con.grpAt {f : FuncId} {args : Array Value} {a : HP} {M : List HP} {X : Type} {φ : X → Prop} {val : X → Value} {post : X → List HP}
  (h : Con P W0 f args (a :: M) φ val post) : Con P W0 f args [a, SL.grp M] φ val post := fun w F hs => h w F (st_imp (fun _ => stL_grpAt') hs)
theorem Con.pull {f : FuncId} {args : Array Value} {pre pre' : List HP} {X : Type} {φ : X → Prop} {val : X → Value} {post : X → List HP} (is : List Nat)
  (hp : ∀ F, SL.pull is (pre' ++ F) = pre ++ F) (h : Con P W0 f args pre φ val post) : Con P W0 f args pre' φ val post := fun w F hs => h w F (by rw [← hp]; exact st_pull is hs)
theorem mnil {ρ : Operand → Value} : ([] : List Operand).map ρ = [] := rfl
theorem mcons {ρ : Operand → Value} {x : Operand} {v : Value} {xs : List Operand} {vs : List Value} (h : ρ x = v) (hs : xs.map ρ = vs) : (x :: xs).map ρ = v :: vs := by subst h; subst hs; rfl
theorem e_call {f : FuncId} {args : List Value} {as : Array Operand} {ats : Array TypeId} {pre F : List HP} {X : Type} {φ : X → Prop} {val : X → Value} {post : X → List HP}
  (hc : ∀ args w, (callFunc f args).run P w = .ok (.enter f args) w) (hargs : as.toList.map (evE E) = args) (hS : Con P W0 f args.toArray pre φ val post) :
  Eff P W0 E (pre ++ F) (.call { callee := .value (.func f), args := as, argTypes := ats }) ty φ val (fun x => post x ++ F) := fun w d pos aft g hst => by
 have hr : (execOp (evE E) { dst := d, op := .call { callee := .value (.func f), args := as, argTypes := ats }, type := ty, pos := pos, after := aft, guard := g }).run P w = .ok (.enter f args.toArray) w := by
  simp [execOp, resolve, evE, Deferred.ofValue, invoke, hc, map_of_list hargs]
 rw [hr]
 exact hS w F hst
theorem e_c {f : FuncId} {args : List Value} {as : Array Operand} {ats : Array TypeId} {pre F : List HP} {X : Type} {φ : X → Prop} {val : X → Value} {post : X → List HP}
  (hc : ∀ args w, (callFunc f args).run P w = .ok (.enter f args) w) (hS : Con P W0 f args.toArray pre φ val post) (hargs : as.toList.map (evE E) = args := by rfl) :
  Eff P W0 E (pre ++ F) (.call { callee := .value (.func f), args := as, argTypes := ats }) ty φ val (fun x => post x ++ F) := e_call hc hargs hS
theorem e_callv {f : FuncId} {fv : Operand} {args mid : List Value} {as : Array Operand} {ats : Array TypeId} {us vs : Array Value} {pre F : List HP} {X : Type} {φ : X → Prop} {val : X → Value} {post : X → List HP}
  (hv : evE E fv = .func (.func f) us vs) (hc : ∀ args w, (callFunc f args).run P w = .ok (.enter f args) w) (hmid : as.toList.map (evE E) = mid) (hargs : us.toList ++ mid ++ vs.toList = args) (hS : Con P W0 f args.toArray pre φ val post) :
  Eff P W0 E (pre ++ F) (.call { callee := .value fv, args := as, argTypes := ats }) ty φ val (fun x => post x ++ F) := fun w d pos aft g hst => by
 have hr : (execOp (evE E) { dst := d, op := .call { callee := .value fv, args := as, argTypes := ats }, type := ty, pos := pos, after := aft, guard := g }).run P w = .ok (.enter f args.toArray) w := by
  have hargs' : us ++ (mid.toArray ++ vs) = args.toArray := by subst hargs; apply Array.ext'; simp
  simp [execOp, resolve, hv, Deferred.ofValue, invoke, hc, map_of_list hmid, hargs']
 rw [hr]
 exact hS w F hst
end
end Go.SL
