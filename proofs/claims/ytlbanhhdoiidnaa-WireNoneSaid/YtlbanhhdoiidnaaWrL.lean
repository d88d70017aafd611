/- The wire's laws, of plain data alone. -/
import Derived.Test.YtlbanhhdoiidnaaWrM
import Derived.Test.YtlbanhhdoiidnaaDkL
import Derived.Lib.Strings
namespace Go.Wr
open Go Go.SL

def ba (l : List UInt8) : ByteArray := ⟨l.toArray⟩
theorem ba_size (l : List UInt8) : (ba l).size = l.length := by simp [ba, ByteArray.size]
theorem ba_inj {l m : List UInt8} (h : ba l = ba m) : l = m := by
  have := congrArg (fun s : ByteArray => s.data.toList) h
  simpa [ba] using this
theorem ba_take (l : List UInt8) (k : Nat) : ((ba l).extract 0 k).data.toList = l.take k := by
  rw [Lib.extract_data]; simp [ba]
theorem ord_eq {m n : Int} (h : ba (enc (zz m)) = ba (enc (zz n))) : m = n := by
  have e := ba_inj h
  exact zz_inj (enc_take _ _ (by rw [e]))
theorem ord_pre {m n : Int} (h : ¬ m = n) : ¬ (ba (enc (zz m))).extract 0 (min (ba (enc (zz m))).size (ba (enc (zz n))).size) = (ba (enc (zz n))).extract 0 (min (ba (enc (zz m))).size (ba (enc (zz n))).size) := fun e => by
  have e2 := congrArg (fun s : ByteArray => s.data.toList) e
  simp only [ba_take, ba_size] at e2
  exact h (zz_inj (enc_take _ _ e2))
theorem ord_len {n : Int} (h1 : -9223372036854775808 ≤ n) (h2 : n ≤ 9223372036854775807) : 1 ≤ (ba (enc (zz n))).size ∧ (ba (enc (zz n))).size ≤ 10 := by
  rw [ba_size]
  exact ⟨enc_ne _, enc_len_le 9 _ (Nat.lt_trans (zz_lt h1 h2) (by decide))⟩
theorem ord_mono {m n : Int} (h0 : ¬ m < 0) (h : ¬ n < m) : (ba (enc (zz m))).size ≤ (ba (enc (zz n))).size := by
  rw [ba_size, ba_size]
  refine enc_len_mono _ _ ?_
  unfold zz
  rw [if_pos (by omega), if_pos (by omega)]
  omega

theorem wrap_range (a : Int) : -9223372036854775808 ≤ IntKind.i64.wrap a ∧ IntKind.i64.wrap a ≤ 9223372036854775807 := by
  simp only [IntKind.wrap, IntKind.signed, IntKind.bits, Bool.true_and]
  have h0 := Int.emod_nonneg a (show (2 ^ 64 : Int) ≠ 0 by decide)
  have h1 := Int.emod_lt_of_pos a (show (0 : Int) < 2 ^ 64 by decide)
  split <;> rename_i h <;> simp only [ge_iff_le, decide_eq_true_eq] at h <;> omega
theorem few {r1 r2 : Int} {n m : Nat} (h : Go.Dk.beyondB [r1, r2] = false) (h1 : 268435456 ≤ n → r1 = (n : Int)) (h2 : 268435456 ≤ m → r2 = (m : Int)) : n < 268435456 ∧ m < 268435456 := by
  have e1 := Go.Dk.beyond_le h r1 (by simp)
  have e2 := Go.Dk.beyond_le h r2 (by simp)
  constructor
  · rcases Nat.lt_or_ge n 268435456 with h' | h'
    · exact h'
    · have := h1 h'; omega
  · rcases Nat.lt_or_ge m 268435456 with h' | h'
    · exact h'
    · have := h2 h'; omega
/-! ### What is written of a thing: the answer, the bytes -/
def byteW (n : Int) : Int × List UInt8 := if n < 0 ∨ n > 255 then (1, []) else (0, [UInt8.ofNat n.toNat])
def listW (n : Int) : Int × List UInt8 := if n < 0 then (1, []) else if n > 65536 then (3, []) else (0, enc (zz n))
def textW (s : ByteArray) : Int × List UInt8 := if 65536 < s.size then (3, []) else (0, enc (zz (s.size : Int)) ++ s.data.toList)
structure ItemR where
  kind : Int
  n : Int
  s : ByteArray
def itemCells (x : ItemR) : List Value := [.int .i64 x.kind, .int .i64 x.n, .string x.s]
theorem flat3 {l : List ItemR} : ∀ {k : Nat} {o : ItemR}, l[k]? = some o → ∀ j u, (itemCells o)[j]? = some u → (l.flatMap itemCells)[k * 3 + j]? = some u := by
  induction l with
  | nil => intro k o h; simp at h
  | cons q l ih =>
    intro k o h j u hj
    have hl : j < 3 := (List.getElem?_eq_some_iff.1 hj).1
    cases k with
    | zero =>
      simp at h; subst h
      rw [List.flatMap_cons, List.getElem?_append_left (by simp only [itemCells, List.length_cons, List.length_nil]; omega), Nat.zero_mul, Nat.zero_add]; exact hj
    | succ k =>
      have := ih (k := k) (by simpa using h) j u hj
      rw [List.flatMap_cons, List.getElem?_append_right (by simp only [itemCells, List.length_cons, List.length_nil]; omega)]
      rw [show (k + 1) * 3 + j - (itemCells q).length = k * 3 + j from by simp only [itemCells, List.length_cons, List.length_nil]; omega]
      exact this
theorem rdI {W0 : World} {v : Value} {l : List ItemR} {k : Nat} {o : ItemR} (h : Rd W0 v l.length (l.flatMap itemCells)) (hg : l[k]? = some o) (j : Nat) {u : Value} (hj : (itemCells o)[j]? = some u) : W0.cell? ⟨rb v, ro v + k * 3 + j, none⟩ = some u := by
  have := h.cell _ _ (flat3 hg j u hj); rwa [← Nat.add_assoc] at this
def itemW (x : ItemR) : Int × List UInt8 := if x.kind = 0 then byteW x.n else if x.kind = 1 then (0, enc (zz x.n)) else if x.kind = 2 then byteW (if x.n > 0 then 1 else 0) else if x.kind = 3 then textW x.s else listW x.n

def bytesW (l : List ItemR) : List UInt8 := l.flatMap fun x => (itemW x).2
theorem take_snoc'' {α : Type} {l : List α} {k : Nat} {q : α} (h : l[k]? = some q) : l.take (k + 1) = l.take k ++ [q] := by
  obtain ⟨hl, he⟩ := List.getElem?_eq_some_iff.1 h
  rw [List.take_succ_eq_append_getElem hl, he]
theorem bytesW_snoc {l : List ItemR} {k : Nat} {x : ItemR} (h : l[k]? = some x) : bytesW (l.take (k + 1)) = bytesW (l.take k) ++ (itemW x).2 := by
  rw [take_snoc'' h, bytesW, List.flatMap_append]; simp [bytesW]
theorem itemW_len (x : ItemR) (h : -9223372036854775808 ≤ x.n ∧ x.n ≤ 9223372036854775807) : (itemW x).2.length ≤ 65546 := by
  have he : ∀ n : Int, -9223372036854775808 ≤ n → n ≤ 9223372036854775807 → (enc (zz n)).length ≤ 10 := fun n h1 h2 => enc_len_le 9 _ (Nat.lt_trans (zz_lt h1 h2) (by decide))
  have hb : ∀ n : Int, (byteW n).2.length ≤ 1 := fun n => by unfold byteW; split <;> simp
  unfold itemW
  split
  · have := hb x.n; omega
  split
  · have := he x.n h.1 h.2; simp only; omega
  split
  · have := hb (if x.n > 0 then 1 else 0); omega
  split
  · unfold textW; split
    · simp
    · have := he (x.s.size : Int) (by omega) (by omega)
      simp only [List.length_append, Array.length_toList]
      have : x.s.data.size = x.s.size := rfl
      omega
  · unfold listW; split
    · simp
    split
    · simp
    · have := he x.n h.1 h.2; simp only; omega
theorem bytesW_len : ∀ (l : List ItemR), (∀ x ∈ l, -9223372036854775808 ≤ x.n ∧ x.n ≤ 9223372036854775807) → (bytesW l).length ≤ l.length * 65546
  | [], _ => by simp [bytesW]
  | x :: l, h => by
    have h1 := itemW_len x (h x List.mem_cons_self)
    have h2 := bytesW_len l (fun y hy => h y (List.mem_cons_of_mem _ hy))
    simp only [bytesW, List.flatMap_cons, List.length_append, List.length_cons] at *
    omega
theorem bytesW_take {l : List ItemR} (k : Nat) (h : ∀ x ∈ l, -9223372036854775808 ≤ x.n ∧ x.n ≤ 9223372036854775807) (hf : l.length < 268435456) : (bytesW (l.take k)).length < 18000000000000 := by
  have h1 := bytesW_len (l.take k) (fun x hx => h x (List.mem_of_mem_take hx))
  have h2 : (l.take k).length ≤ l.length := by simp [List.length_take]; omega
  omega
theorem ba_cat (l m : List UInt8) : ba l ++ ba m = ba (l ++ m) := by
  apply congrArg ByteArray.mk (a₁ := (ba l ++ ba m).data) (a₂ := (l ++ m).toArray)
  apply Array.ext'
  simp [ba]
end Go.Wr
