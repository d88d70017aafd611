/- A part of the proof. -/
import Derived.Test.YtjnejkdamhefgaaGreatDoorJnQ
import Derived.Lib.AppendStr
import Derived.Defers
namespace Go.Jn
open Go Go.SL Go.Dk
set_option linter.unusedVariables false
theorem bytesOf_get {n : Int} : ∀ {k i : Nat}, i < k → (bytesOf n k)[i]? = some (hByte n (k - 1 - i))
 | k + 1, 0, _ => rfl
 | k + 1, i + 1, h => by
  rw [bytesOf, List.getElem?_cons_succ, bytesOf_get (by omega)]
  congr 2; omega
theorem shr_byte (n : Int) {k : Nat} (hk : k ≤ 7) : IntKind.u8.wrap (n.fdiv (2 ^ min (Int.toNat ((8 * k : Nat) : Int)) IntKind.i64.bits)) = ((hByte n k).toNat : Int) := by
 rw [hByte_nat, wrap8, Int.toNat_natCast, show min (8 * k) IntKind.i64.bits = 8 * k from Nat.min_eq_left (by show 8 * k ≤ 64; omega), Int.pow_mul, Int.fdiv_eq_ediv_of_nonneg _ (Int.pow_nonneg (by decide))]
 rfl
theorem or_byte {a c : Int} (h0 : 0 ≤ c) (h1 : c < 256) : IntKind.i64.wrap ((BitVec.ofInt IntKind.i64.bits (IntKind.i64.wrap (a * 2 ^ min (Int.toNat 8) IntKind.i64.bits)) ||| BitVec.ofInt IntKind.i64.bits c).toNat) = IntKind.i64.wrap (a * 256 + c) := by
 show IntKind.i64.wrap ((BitVec.ofInt 64 (IntKind.i64.wrap (a * 256)) ||| BitVec.ofInt 64 c).toNat) = _
 obtain ⟨m, hm⟩ : ∃ m : Nat, (m : Int) = a % 72057594037927936 := ⟨(a % 72057594037927936).toNat, by omega⟩
 obtain ⟨k, rfl⟩ := Int.eq_ofNat_of_zero_le h0
 have e1 : (BitVec.ofInt 64 (IntKind.i64.wrap (a * 256))).toNat = m <<< 8 := by
  rw [BitVec.toNat_ofInt, wrap64, Nat.shiftLeft_eq]
  have : ((2 ^ 64 : Nat) : Int) = 18446744073709551616 := rfl
  rw [this]
  omega
 have e2 : (BitVec.ofInt 64 ((k : Nat) : Int)).toNat = k := by
  rw [BitVec.toNat_ofInt]
  have : ((2 ^ 64 : Nat) : Int) = 18446744073709551616 := rfl
  rw [this]
  omega
 rw [BitVec.toNat_or, e1, e2, ← Nat.shiftLeft_add_eq_or_of_lt (by omega), Nat.shiftLeft_eq, wrap64, wrap64]
 omega
theorem mul_byte {a c : Int} : IntKind.i64.wrap (IntKind.i64.wrap (a * 256) + c) = IntKind.i64.wrap (a * 256 + c) := by
 rw [wrap64, wrap64, wrap64]; omega
theorem num_snoc (l : List UInt8) (c : UInt8) (a : Int) : num a (l ++ [c]) = IntKind.i64.wrap (num a l * 256 + (c.toNat : Int)) := by simp [num, List.foldl_append]
def hd1 (n : Int) (i : Nat) : List UInt8 := 74 :: ((bytesOf n 8).take i ++ List.replicate (63 - i) 0)
def hd2 (n l : Int) (i : Nat) : List UInt8 := 74 :: (bytesOf n 8 ++ ((bytesOf l 4).take i ++ List.replicate (55 - i) 0))
theorem set_at {A : List UInt8} {i m : Nat} {x : UInt8} (h : i = A.length) : (A ++ List.replicate (m + 1) 0).set i x = A ++ [x] ++ List.replicate m 0 := by
 subst h
 rw [List.set_append_right _ _ (Nat.le_refl _), Nat.sub_self, List.replicate_succ, List.set_cons_zero, List.append_assoc, List.singleton_append]
theorem hd1_step {n : Int} {i : Nat} (h : i < 8) : (hd1 n i).set (1 + i) (hByte n (7 - i)) = hd1 n (i + 1) := by
 have hg := bytesOf_get (n := n) (k := 8) h
 obtain ⟨hl, he⟩ := List.getElem?_eq_some_iff.1 hg
 unfold hd1
 rw [Nat.add_comm 1 i, List.set_cons_succ, show 63 - i = (63 - (i + 1)) + 1 by omega, set_at (by rw [List.length_take, bytesOf_len]; omega), List.take_succ_eq_append_getElem hl, he]
theorem hd1_len (n : Int) {i : Nat} (h : i ≤ 8) : (hd1 n i).length = 64 := by simp [hd1, bytesOf_len]; omega
theorem hd2_start (n l : Int) : hd1 n 8 = hd2 n l 0 := by
 unfold hd1 hd2
 rw [List.take_of_length_le (by rw [bytesOf_len]; exact Nat.le_refl _)]; rfl
theorem hd2_step {n l : Int} {i : Nat} (h : i < 4) : (hd2 n l i).set (9 + i) (hByte l (3 - i)) = hd2 n l (i + 1) := by
 have hg := bytesOf_get (n := l) (k := 4) h
 obtain ⟨hl, he⟩ := List.getElem?_eq_some_iff.1 hg
 unfold hd2
 rw [show 9 + i = (8 + i) + 1 by omega, List.set_cons_succ, List.set_append_right _ _ (by rw [bytesOf_len]; omega), bytesOf_len, show 8 + i - 8 = i by omega, show 55 - i = (55 - (i + 1)) + 1 by omega, set_at (by rw [List.length_take, bytesOf_len]; omega), List.take_succ_eq_append_getElem hl, he]
theorem hd2_len (n l : Int) {i : Nat} (h : i ≤ 4) : (hd2 n l i).length = 64 := by simp [hd2, bytesOf_len]; omega
theorem hd2_end (n l : Int) : hd2 n l 4 = headL n l := by
 unfold hd2 headL
 rw [List.take_of_length_le (by rw [bytesOf_len]; exact Nat.le_refl _)]
def rh1 (n : Int) (i : Nat) : List UInt8 := 74 :: (List.replicate (8 - i) 0 ++ (bytesOf n i ++ List.replicate 55 0))
def rh2 (n l : Int) (i : Nat) : List UInt8 := 74 :: (bytesOf n 8 ++ (List.replicate (4 - i) 0 ++ (bytesOf l i ++ List.replicate 51 0)))
theorem set_last {B : List UInt8} {m : Nat} {x : UInt8} : (List.replicate (m + 1) 0 ++ B).set m x = List.replicate m 0 ++ (x :: B) := by
 rw [List.replicate_succ', List.append_assoc, List.set_append_right _ _ (by simp), List.length_replicate, Nat.sub_self]
 rfl
theorem rh1_step {n : Int} {i : Nat} (h : i < 8) : (rh1 n i).set (8 - i) (hByte n i) = rh1 n (i + 1) := by
 unfold rh1
 rw [show 8 - i = (8 - (i + 1)) + 1 by omega, List.set_cons_succ, set_last]
 rfl
theorem rh1_len (n : Int) {i : Nat} (h : i ≤ 8) : (rh1 n i).length = 64 := by simp [rh1, bytesOf_len]; omega
theorem rh2_start (n l : Int) : rh1 n 8 = rh2 n l 0 := rfl
theorem rh2_step {n l : Int} {i : Nat} (h : i < 4) : (rh2 n l i).set (12 - i) (hByte l i) = rh2 n l (i + 1) := by
 unfold rh2
 rw [show 12 - i = (11 - i) + 1 by omega, List.set_cons_succ, List.set_append_right _ _ (by rw [bytesOf_len]; omega), bytesOf_len, show 11 - i - 8 = 4 - (i + 1) by omega, show 4 - i = (4 - (i + 1)) + 1 by omega, set_last]
 rfl
theorem rh2_len (n l : Int) {i : Nat} (h : i ≤ 4) : (rh2 n l i).length = 64 := by simp [rh2, bytesOf_len]; omega
theorem rh2_end (n l : Int) : rh2 n l 4 = headL n l := rfl
theorem sectors_eq {n : Nat} (h : 1 ≤ n) : (((n : Nat) : Int) - 2).tdiv 2 = (((n - 2) / 2 : Nat) : Int) := by
  rcases Nat.lt_or_ge n 2 with h2 | h2
  · obtain rfl : n = 1 := by omega
    rfl
  · rw [show ((n : Nat) : Int) - 2 = ((n - 2 : Nat) : Int) by omega]
    rfl
theorem tmod2_eq {q : Int} (h : 0 ≤ q) : q.tmod 2 = q % 2 := Int.tmod_eq_emod_of_nonneg h
theorem tdiv64 {n : Int} (h : 0 ≤ n) : n.tdiv 64 = n / 64 := Int.tdiv_eq_ediv_of_nonneg h
theorem bytes_at {s : ByteArray} {i : Nat} (h : i < s.size) : ∃ c, s.data.toList[i]? = some c := ⟨_, List.getElem?_eq_getElem (by simpa using h)⟩
theorem take_at {s : ByteArray} {i : Nat} {c : UInt8} (h : s.data.toList[i]? = some c) : s.data.toList.take (i + 1) = s.data.toList.take i ++ [c] := by
 obtain ⟨hl, he⟩ := List.getElem?_eq_some_iff.1 h
 rw [List.take_succ_eq_append_getElem hl, he]
theorem str_at {s : ByteArray} {i m : Nat} {c : UInt8} {z : Value} (h : s.data.toList[i]? = some c) : ((s.data.toList.map fun b => Value.int .u8 b.toNat) ++ List.replicate m z)[i]? = some (.int .u8 ((c.toNat : Nat) : Int)) := by
 have hl := (List.getElem?_eq_some_iff.1 h).1
 rw [List.getElem?_append_left (by simpa using hl), List.getElem?_map, h]; rfl
def parseT (s : ByteArray) : Int × Int × Bool := if s = noughts then (0, 0, true) else (sNum s, sLen s, decide (0 < sNum s ∧ s = headB (sNum s) (sLen s)))
theorem cut_num {s : ByteArray} (h : s.size = 64) : num 0 ((s.extract 1 9).data.toList.take 8) = sNum s := by
 unfold sNum
 rw [ByteArray.data_extract, Array.toList_extract, List.extract_eq_take_drop, List.take_take]; rfl
theorem cut_len {s : ByteArray} (h : s.size = 64) : num 0 ((s.extract 9 13).data.toList.take 4) = sLen s := by
 unfold sLen
 rw [ByteArray.data_extract, Array.toList_extract, List.extract_eq_take_drop, List.take_take]; rfl
theorem rd_read {d : DS} {i : Nat} (hd : d.down = false) (h : i < d.secs.length) : d.read (i : Int) = (rd d i, 0) := read_ok hd (by omega)
theorem rd_size {d : DS} (hw : WF d) {i : Nat} (h : i < d.secs.length) : (rd d i).size = 64 := by
 have key : ∀ (l : List (Nat × ByteArray)) (x : ByteArray), x.size = 64 → (∀ p ∈ l, p.2.size = 64) → (readL x i l).size = 64 := by
  intro l
  induction l with
  | nil => intro x hx _; exact hx
  | cons p r ih =>
   intro x hx hl
   rw [readL]
   refine ih _ ?_ (fun q hq => hl q (List.mem_cons_of_mem _ hq))
   split
   · exact hl p List.mem_cons_self
   · exact hx
 exact key _ _ (by rw [List.getD_eq_getElem?_getD, List.getElem?_eq_getElem h]; exact hw.l.size _ (List.getElem_mem _)) hw.l.size'
theorem catR_size {R : Nat → ByteArray} {f : Nat} : ∀ k, (∀ i, i < k → (R (f + i)).size = 64) → (catR R f k).size = k * 64
 | 0, _ => rfl
 | k + 1, h => by rw [catR, ByteArray.size_append, catR_size k (fun i hi => h i (by omega)), h k (by omega)]; omega
theorem first_le {d : DS} (h4 : 4 ≤ d.secs.length) (q : Int) {k : Nat} (hk : k < half d.secs) : first d.secs q + k < d.secs.length := by
 unfold first half at *; split <;> omega
theorem wrap_succ {a : Int} (h0 : 0 ≤ a) (h1 : a ≤ 9223372036854775807) : (a < 9223372036854775807 ∧ IntKind.i64.wrap (a + 1) = a + 1) ∨ (a = 9223372036854775807 ∧ IntKind.i64.wrap (a + 1) = -9223372036854775808) := by
 rw [wrap64]; omega
theorem parse_T (s : ByteArray) : parse s = if (parseT s).2.2 = true then some ((parseT s).1, (parseT s).2.1) else none := by
  unfold parse parseT
  by_cases h : s = noughts
  · rw [if_pos h, if_pos h]; rfl
  · rw [if_neg h, if_neg h]
    by_cases h2 : 0 < sNum s ∧ s = headB (sNum s) (sLen s)
    · rw [if_pos h2, if_pos (decide_eq_true h2)]
    · rw [if_neg h2, if_neg (by simpa using h2)]
theorem parseT_rng {s : ByteArray} (h : (parseT s).2.2 = true) : 0 ≤ (parseT s).1 ∧ (parseT s).1 ≤ 9223372036854775807 ∧ 0 ≤ (parseT s).2.1 ∧ (parseT s).2.1 < 4294967296 := by
 have := parse_T s
 rw [if_pos h] at this
 rcases parse_some this with ⟨h1, h2, _⟩ | ⟨h1, h2, h3, h4, _⟩
 · omega
 · have := h2.2; omega
def openT (m : Nat) (x y : Int × Int × Bool) (f : Int → Int → ByteArray) : Int × Option (ByteArray × Int) :=
 if x.2.2 = true ∧ y.2.2 = true then
  if x.2.1 > (m : Int) ∨ y.2.1 > (m : Int) ∨ (0 < x.1 ∧ x.1 % 2 = 0) ∨ (0 < y.1 ∧ y.1 % 2 = 1) then (14, none)
  else if x.1 = 0 ∧ y.1 = 0 then (0, some (ByteArray.empty, 0))
  else if x.1 = y.1 + 1 then (0, some (f x.1 x.2.1, x.1))
  else if 0 < x.1 ∧ y.1 = x.1 + 1 then (0, some (f y.1 y.2.1, y.1))
  else (14, none)
 else (14, none)
theorem openD_T {d : DS} (hd : d.down = false) (h4 : 4 ≤ d.secs.length) : openD d = openT (half d.secs * 64) (parseT (rd d 0)) (parseT (rd d 1)) (fun a l => textR (rd d) (first d.secs a) l) := by
  rw [openD, if_neg (by simp [hd]), openR, if_neg (by omega), parse_T, parse_T, openT]
  by_cases h0 : (parseT (rd d 0)).2.2 = true
  · by_cases h1 : (parseT (rd d 1)).2.2 = true
    · rw [if_pos h0, if_pos h1, if_pos ⟨h0, h1⟩]
    · rw [if_pos h0, if_neg h1, if_neg (fun h => h1 h.2)]
  · rw [if_neg h0, if_neg (show ¬ ((parseT (rd d 0)).2.2 = true ∧ (parseT (rd d 1)).2.2 = true) from fun h => h0 h.1)]
section
variable {m : Nat} {x y : Int × Int × Bool} {f : Int → Int → ByteArray}
theorem openT_bad1 (h : x.2.2 = false ∨ y.2.2 = false) : openT m x y f = (14, none) := by
 rw [openT, if_neg]
 rintro ⟨h1, h2⟩
 rcases h with h | h
 · rw [h1] at h; cases h
 · rw [h2] at h; cases h
theorem openT_bad2 (h : x.2.1 > (m : Int) ∨ y.2.1 > (m : Int) ∨ (0 < x.1 ∧ x.1 % 2 = 0) ∨ (0 < y.1 ∧ y.1 % 2 = 1)) : openT m x y f = (14, none) := by
 rw [openT]
 by_cases hh : x.2.2 = true ∧ y.2.2 = true
 · rw [if_pos hh, if_pos h]
 · rw [if_neg hh]
theorem openT_bad3 (h : ¬ (x.1 = 0 ∧ y.1 = 0)) (h2 : ¬ x.1 = y.1 + 1) (h3 : ¬ (0 < x.1 ∧ y.1 = x.1 + 1)) : openT m x y f = (14, none) := by
  rw [openT]
  by_cases hh : x.2.2 = true ∧ y.2.2 = true
  · rw [if_pos hh, if_neg h, if_neg h2, if_neg h3]
    split <;> rfl
  · rw [if_neg hh]
theorem openT_zero (hx : x.2.2 = true) (hy : y.2.2 = true) (h : ¬ (x.2.1 > (m : Int) ∨ y.2.1 > (m : Int) ∨ (0 < x.1 ∧ x.1 % 2 = 0) ∨ (0 < y.1 ∧ y.1 % 2 = 1))) (h1 : x.1 = 0 ∧ y.1 = 0) : openT m x y f = (0, some (ByteArray.empty, 0)) := by
 rw [openT, if_pos ⟨hx, hy⟩, if_neg h, if_pos h1]
theorem openT_a (hx : x.2.2 = true) (hy : y.2.2 = true) (h : ¬ (x.2.1 > (m : Int) ∨ y.2.1 > (m : Int) ∨ (0 < x.1 ∧ x.1 % 2 = 0) ∨ (0 < y.1 ∧ y.1 % 2 = 1))) (h1 : ¬ (x.1 = 0 ∧ y.1 = 0)) (h2 : x.1 = y.1 + 1) : openT m x y f = (0, some (f x.1 x.2.1, x.1)) := by
 rw [openT, if_pos ⟨hx, hy⟩, if_neg h, if_neg h1, if_pos h2]
theorem openT_b (hx : x.2.2 = true) (hy : y.2.2 = true) (h : ¬ (x.2.1 > (m : Int) ∨ y.2.1 > (m : Int) ∨ (0 < x.1 ∧ x.1 % 2 = 0) ∨ (0 < y.1 ∧ y.1 % 2 = 1))) (h1 : ¬ (x.1 = 0 ∧ y.1 = 0)) (h2 : ¬ x.1 = y.1 + 1) (h3 : 0 < x.1 ∧ y.1 = x.1 + 1) : openT m x y f = (0, some (f y.1 y.2.1, y.1)) := by
 rw [openT, if_pos ⟨hx, hy⟩, if_neg h, if_neg h1, if_neg h2, if_pos h3]
end
theorem strCells_app (a b : ByteArray) : Lib.strCells (a ++ b) = Lib.strCells a ++ Lib.strCells b := by simp [Lib.strCells, ByteArray.data_append]
end Go.Jn
namespace Go.SL
open Go Go.RowKit
def ConD (P : Program) (W0 : World) (f : FuncId) (args : Array Value) (pre : List HP) {X : Type} (φ : X → Prop) (post : X → List HP) : Prop :=
 ∀ (w : World) (u : FrameMode) (F : List HP), st W0 w (pre ++ F) → CallsD P f args u w fun e u' w' => u' = u ∧ Ret (fun _ w' => ∃ x, φ x ∧ st W0 w' (post x ++ F)) e w'
section
variable {P : Program} {W0 : World} {Q : Exit → Act → World → Prop} {n : Nat} {D : List Deferred} {ops : Array Oper} {E : Nat → Value} {L : List HP}
 {d : Option Tmp} {ty : TypeId} {pos : String} {aft : Array Edge} {os : List Oper}
theorem Wl.defer {c : Op} {fv : Operand} {fn : Fn} {us vs : Array Value} (hc : c = .defer { callee := .value fv, args := #[], argTypes := #[] }) (hx : evE E fv = .func fn us vs)
  (k : Wl P W0 Q n ({ target := .fn fn vs, args := us ++ #[] } :: D) ops os E L) :
  Wl P W0 Q n D ops ({ dst := none, op := c, type := ty, pos := pos, after := aft, guard := none } :: os) E L := fun a w ha hs => by
 subst hc
 unfold wpList
 rw [if_pos (by rw [ha.wanted]; rfl)]
 refine .inl ?_
 unfold Oper.wp
 rw [ha.eval]
 have hr : (execOp (evE E) { dst := none, op := .defer { callee := .value fv, args := #[], argTypes := #[] }, type := ty, pos := pos, after := aft, guard := none }).run P w = .ok (.defer { target := .fn fn vs, args := us ++ #[] }) w := by
  simp [execOp, resolve, hx, Deferred.ofValue]
 rw [hr, Oper.upon_defer]
 exact k _ _ ⟨ha.size, by show _ :: a.defers = _; rw [ha.defers], ha.val⟩ hs
theorem ConD.of {f : FuncId} {fn : Func} {c : Code} {args : List Value} {pre : List HP} {X : Type} {φ : X → Prop} {val : X → Value} {post : X → List HP} {n : Nat}
    (hf : P.funcs[f]? = some fn) (hb : fn.body = some c) (hn : fn.ntmps = n) (hle : Nat.ble args.length n = true)
    (k : ∀ F, Wc P W0 (bodyPost P fn (Ret fun v w' => ∃ x, φ x ∧ v = val x ∧ st W0 w' (post x ++ F))) n [] c (fun t => args.getD t undef) (pre ++ F)) :
    ConD P W0 f args.toArray pre φ post := fun w u F hs => by
  have hle' : args.length ≤ n := Nat.le_of_ble_eq_true hle
  refine CallsD.mono (callsD_of_wp hf hb (k F _ w ⟨?_, rfl, fun t => ?_⟩ hs)) fun e u' w' h => ⟨h.1, ?_⟩
  · simp [hn]; omega
  · simp only [Array.getD_eq_getD_getElem?, List.getD_eq_getElem?_getD, Array.getElem?_append, hn]
    by_cases ht : t < args.length
    · rw [if_pos (by simpa using ht)]; simp [ht]
    · rw [if_neg (by simpa using ht)]
      simp [List.getElem?_eq_none (Nat.le_of_not_lt ht), Array.getElem?_replicate]
      split <;> rfl
  · cases e with
    | returned v => obtain ⟨x, hx, _, hs⟩ := h.2; exact ⟨x, hx, hs⟩
    | panicked c => exact h.2
    | outgrown => exact h.2
theorem Con.ofD {f : FuncId} {fn : Func} {c : Code} {args : List Value} {pre : List HP} {X : Type} {φ : X → Prop} {val : X → Value} {post : X → List HP} {n : Nat}
    (hf : P.funcs[f]? = some fn) (hb : fn.body = some c) (hn : fn.ntmps = n) (hle : Nat.ble args.length n = true)
    (k : ∀ F, Wc P W0 (bodyPostD P fn (Ret fun v w' => ∃ x, φ x ∧ v = val x ∧ st W0 w' (post x ++ F))) n [] c (fun t => args.getD t undef) (pre ++ F)) :
    Con P W0 f args.toArray pre φ val post := fun w F hs => by
  have hle' : args.length ≤ n := Nat.le_of_ble_eq_true hle
  refine calls_of_wp_defers hf hb (k F _ w ⟨?_, rfl, fun t => ?_⟩ hs)
  · simp [hn]; omega
  · simp only [Array.getD_eq_getD_getElem?, List.getD_eq_getElem?_getD, Array.getElem?_append, hn]
    by_cases ht : t < args.length
    · rw [if_pos (by simpa using ht)]; simp [ht]
    · rw [if_neg (by simpa using ht)]
      simp [List.getElem?_eq_none (Nat.le_of_not_lt ht), Array.getElem?_replicate]
      split <;> rfl
theorem results_cell {fn : Func} {t ty' b off : Nat} {v : Value} {tmps : Array Value} {w : World} (hr : fn.results = #[.cell t ty']) (hsc : scalar P ty' = true) (hp : tmps.getD t undef = .pointer (some ⟨b, off, none⟩)) (hc : w.cell? ⟨b, off, none⟩ = some v) :
  (results fn tmps).run P w = .ok v w := by
 rw [Array.getD_eq_getD_getElem?] at hp
 simp [results, hr, hp, asAddr, loadVar, isAgg_scalar hsc, hc]
theorem results_cell_tmp {fn : Func} {t u ty' b off : Nat} {v : Value} {tmps : Array Value} {w : World} (hr : fn.results = #[.cell t ty', .tmp u]) (hsc : scalar P ty' = true) (hp : tmps.getD t undef = .pointer (some ⟨b, off, none⟩)) (hc : w.cell? ⟨b, off, none⟩ = some v) :
  (results fn tmps).run P w = .ok (.tuple #[v, tmps.getD u undef]) w := by
 rw [Array.getD_eq_getD_getElem?] at hp
 simp [results, hr, hp, asAddr, loadVar, isAgg_scalar hsc, hc]
theorem Wx.finC2 {fn : Func} {t u ty' b off : Nat} {v : Value} {X : Type} {φ : X → Prop} {val : X → Value} {M : X → List HP} {F : List HP} {e : Exit} (hr : fn.results = #[.cell t ty', .tmp u]) (he : e = .ret ∨ e = .normal) (hsc : scalar P ty' = true)
  (hp : E t = .pointer (some ⟨b, off, none⟩)) (hc : Has W0 L b off v) (h : ∀ w, st W0 w L → ∃ x, φ x ∧ Value.tuple #[v, E u] = val x ∧ st W0 w (M x ++ F)) :
  Wx (bodyPost P fn (Ret fun v w' => ∃ x, φ x ∧ v = val x ∧ st W0 w' (M x ++ F))) n [] e E L (W0 := W0) := fun a w ha hs => by
 rcases he with rfl | rfl
 all_goals exact ⟨ha.defers, _, results_cell_tmp hr hsc (by rw [ha.val]; exact hp) (hc.cell hs), by rw [ha.val]; exact h w hs⟩
theorem Wx.finD1 {fn : Func} {g t ty' b off : Nat} {us vs : Array Value} {args : List Value} {X Y : Type} {φ : X → Prop} {val : X → Value} {M : X → List HP} {F pre R : List HP} {ψ : Y → Prop} {post : Y → List HP} {v : Y → Value} {e : Exit}
  (hr : fn.results = #[.cell t ty']) (he : e = .ret ∨ e = .normal) (hsc : scalar P ty' = true) (hp : E t = .pointer (some ⟨b, off, none⟩))
  (hcall : ∀ args w, (callFunc g args).run P w = .ok (.enter g args) w) (hargs : us.toList ++ vs.toList = args) (hcon : ConD P W0 g args.toArray pre ψ post) (hL : ∀ w, st W0 w L → st W0 w (pre ++ R))
  (hc : ∀ y, ψ y → Has W0 (post y ++ R) b off (v y)) (h : ∀ y, ψ y → ∀ w, st W0 w (post y ++ R) → ∃ x, φ x ∧ v y = val x ∧ st W0 w (M x ++ F)) :
  Wx (bodyPostD P fn (Ret fun v w' => ∃ x, φ x ∧ v = val x ∧ st W0 w' (M x ++ F))) n [{ target := .fn (.func g) vs, args := us ++ #[] }] e E L (W0 := W0) := fun a w ha hs => by
 have hargs' : us ++ vs = args.toArray := by subst hargs; apply Array.ext'; simp
 have hl : Leaves P fn a.tmps (Ret fun v w' => ∃ x, φ x ∧ v = val x ∧ st W0 w' (M x ++ F)) a.defers .returning w := by
  rw [ha.defers]
  refine leaves_cons (fun h => by cases h) (f := g) (args := args.toArray) (by simp only [Array.append_empty, invoke, hargs']; exact hcall _ _) (CallsD.mono (hcon w .returning R (hL w hs)) ?_)
  rintro e' u' w' ⟨rfl, h'⟩
  cases e' with
  | returned v' =>
   obtain ⟨y, hy, hs'⟩ := h'
   exact ⟨_, results_cell hr hsc (by rw [ha.val]; exact hp) ((hc y hy).cell hs'), h y hy w' hs'⟩
  | panicked c => exact h'.elim
  | outgrown => exact h'.elim
 rcases he with rfl | rfl
 all_goals exact hl
end
section
variable {P : Program} {W0 : World} {E : Nat → Value} {L : List HP} {x : Operand} {ty : TypeId}
theorem q_neg {t : TypeId} {k : IntKind} {a c : Int} (hx : evE E x = .int k a) (hc : k.wrap (-a) = c) : Quiet P W0 E L (.unOp .neg t x) ty (.int k c) := fun w d pos aft g _ => by
 subst hc; simp [execOp, Op.unary, Op.intArith, hx]
end
section
variable {P : Program} {W0 : World} {E : Nat → Value} {L : List HP} {x y : Operand} {v : Value} {ty : TypeId}
theorem e_appendStr {t u e n i : Nat} {s : ByteArray} {xs : List Value} (hu : P.underlying t = some (.slice e)) (hus : P.underlying u = some .string) (hs : sizeIs P e = some 1) (hb : (P.info? e).map (·.bytes) = some 1) (hz : zeroOf P e = some (.int .u8 0))
    (hx : evE E x = v) (hi : L[i]? = some (sl e 1 v n xs)) (hy : evE E y = .string s) (h63 : n + s.size ≤ maxLen) (hbytes : n + s.size ≤ 140737488355328) :
    Eff P W0 E L (.call { callee := .builtin .append, args := #[x, y], argTypes := #[t, u] }) ty (X := Value) (fun _ => True) (fun v' => v') (fun v' => L.set i (sl e 1 v' (n + s.size) (xs ++ Lib.strCells s))) := fun w d pos aft g hst => by
  unfold sizeIs at hs
  unfold zeroOf at hz
  cases hinf : P.info? e with
  | none => simp [hinf] at hs
  | some inf =>
    simp only [hinf, Option.map_some, Option.some.injEq, Option.bind_some] at hs hb hz
    have hml : n + s.size ≤ 9223372036854775807 := by simpa [maxLen] using h63
    have hat := st_at hst hi
    have fin : ∀ (v' : Value) (w' : World), (Builtin.append_ #[t, u] ty #[v, .string s]).run P w = .ok v' w' → st W0 w' (sl e 1 v' (n + s.size) (xs ++ Lib.strCells s) :: L.eraseIdx i) →
        Upon P (fun u' w' => ∃ x, True ∧ u' = x ∧ st W0 w' (L.set i (sl e 1 x (n + s.size) (xs ++ Lib.strCells s)))) ((execOp (evE E) { dst := d, op := .call { callee := .builtin .append, args := #[x, y], argTypes := #[t, u] }, type := ty, pos := pos, after := aft, guard := g }).run P w) := fun v' w' hr hst' => by
      have : (execOp (evE E) { dst := d, op := .call { callee := .builtin .append, args := #[x, y], argTypes := #[t, u] }, type := ty, pos := pos, after := aft, guard := g }).run P w = .ok (.value v') w' := by
        simp [execOp, resolve, invoke, builtin, hx, hy, hr]
      rw [this]
      exact ⟨v', trivial, rfl, st_set hi hst'⟩
    have hsl := Lib.strCells_length s
    have grown : ∀ (old : Nat) (w2 : World), st W0 w2 (L.eraseIdx i) → xs.length = n * 1 → (∀ k, (grownCap w (n + s.size) old e) = k → n + s.size ≤ k → k ≤ maxLen →
        st W0 (w2.alloc (.cells (xs.toArray ++ (Lib.strCells s).toArray ++ Builtin.zeroCells (Value.int .u8 0).cells (k - (n + s.size))) e)) (sl e 1 (.slice (some ⟨w2.heap.size, 0, none⟩) (n + s.size) k) (n + s.size) (xs ++ Lib.strCells s) :: L.eraseIdx i)) := fun old w2 hw2 hxl k _ hge hle => by
      have hlen : (xs ++ Lib.strCells s).length = (n + s.size) * 1 := by rw [List.length_append, hxl, hsl]; omega
      refine st_sl_mk hlen hge ?_
      have hcur : (xs.toArray ++ (Lib.strCells s).toArray ++ Builtin.zeroCells (Value.int .u8 0).cells (k - (n + s.size))) = (xs ++ Lib.strCells s ++ (Builtin.zeroCells (Value.int .u8 0).cells (k - (n + s.size))).toList).toArray := by simp
      rw [hcur]
      refine st_head (fun h hp => ⟨xs ++ Lib.strCells s ++ (Builtin.zeroCells (Value.int .u8 0).cells (k - (n + s.size))).toList, ?_, ?_, hle, ?_, hp⟩) (st_new (o := .cells (xs ++ Lib.strCells s ++ (Builtin.zeroCells (Value.int .u8 0).cells (k - (n + s.size))).toList).toArray e (0, 0)) hw2)
      · have hz1 : (Value.int IntKind.u8 0).cells.size = 1 := rfl
        simp only [List.length_append, Array.length_toList, size_zeroCells, hz1, hxl, hsl]
        omega
      · simp
      · rw [List.take_left]
    rcases st_sl_cases hat with ⟨rfl, rfl, rfl⟩ | ⟨g', cap, rfl, hnc, hxl, hs2⟩
    · by_cases hm : s.size = 0
      · have hn : Lib.strCells s = [] := List.eq_nil_of_length_eq_zero (by rw [hsl]; exact hm)
        have hf := Lib.run_firstCells_string (P := P) w 1 s
        rw [hm] at hf
        have hr : (Builtin.append_ #[t, u] ty #[.slice none 0 0, .string s]).run P w = .ok (.slice none 0 0) w := by
          simp [Builtin.append_, run_underlying hu, run_underlying hus, sizeOf, typeInfo, hinf, hs, Builtin.lenOf, hm, hf]
        refine fin _ _ hr ?_
        rw [hm, hn]
        exact hat
      · have hr := run_append_nil_string (P := P) w t u ty e inf (.int .u8 0) hu hus hinf hz s (by omega) (by omega) (by rw [hb]; omega)
        have e1 : (s.data.map fun b => Value.int .u8 b.toNat) = (Lib.strCells s).toArray := by
          apply Array.ext'
          simp [Lib.strCells]
        rw [e1] at hr
        refine fin _ _ hr ?_
        have := grown 0 w.drew (st_drew (st_drop hat)) (by simp) _ rfl (grownCap_ge _ _ _ _) (grownCap_le_maxLen _ _ _ _ h63)
        simpa using this
    · obtain ⟨cur, ⟨e1, e2, e3, e4⟩, hpt⟩ := slp_open hs2
      have hg := (st_own (i := 0) hpt rfl).2
      by_cases hroom : n + s.size ≤ cap
      · have hr := Lib.run_append_room_string (P := P) w t u ty e inf hu hus hinf hs g' n cap cur.toArray hg s hroom (by simp; omega)
        refine fin _ _ hr (st_sl_mk (by rw [List.length_append, hxl, hsl]; omega) hroom ?_)
        refine st_head (fun h hp => ⟨_, ?_, ?_, e3, ?_, hp⟩) (st_row hpt)
        · simp only [List.length_append, List.length_take, List.length_drop, hsl]
          omega
        · simp only [List.length_append, List.length_take, List.length_drop, hsl]
          omega
        · simp only
          rw [show cur.take n = xs from by rw [show n = xs.length by omega]; exact e4]
          exact List.take_left
      · have holds : ∀ j u', xs[j]? = some u' → w.cell? ((⟨g', 0, none⟩ : Addr).add j) = some u' := fun j u' hj => by
          rw [add_mk]
          exact (Has.row (i := 0) (L := slp e 1 g' cap xs :: L.eraseIdx i) (W0 := W0) rfl (by simpa using hj)).cell hs2
        have hr := Lib.run_append_grow_string (P := P) w t u ty e inf (.int .u8 0) hu hus hinf hz ⟨g', 0, none⟩ n cap xs (by rw [hs]; exact hxl) holds s (by omega) (by omega) (by rw [hb]; exact growslice_fits (by omega) (by omega))
        refine fin _ _ hr ?_
        exact grown cap w.drew (st_drew (st_drop hat)) hxl _ rfl (grownCap_ge _ _ _ _) (grownCap_le_maxLen _ _ _ _ h63)
end
end Go.SL
