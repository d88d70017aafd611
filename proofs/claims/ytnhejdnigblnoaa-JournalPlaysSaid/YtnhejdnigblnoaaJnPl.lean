/- JournalPlays, in plain data: what each step does, what stays true. -/
import Derived.Test.YtnhejdnigblnoaaJnU
namespace Go.Jn
open Go Go.SL Go.Dk
set_option linter.unusedVariables false
structure OpJ where
 kind : Int
 n : Int
 b : Nat
 bits : Int
def opJC (o : OpJ) : List Value := [.int .i64 o.kind, .int .i64 o.n, .int .u8 ((o.b : Nat) : Int), .int .i64 o.bits]
def andJ (x : Int) : Int := IntKind.i64.wrap ((BitVec.ofInt IntKind.i64.bits x &&& BitVec.ofInt IntKind.i64.bits 1023).toNat)
def opJ (d : DS) (oj : Option JS) (o : OpJ) : DS × Option JS :=
 if o.kind = 0 then
  match oj with
  | none => (d, none)
  | some js => ((js.put d (txt o.n o.b)).2.1, some (js.put d (txt o.n o.b)).2.2)
 else if o.kind = 1 then
  match (openD d).2 with
  | none => (d, none)
  | some p => (d, some ⟨p.1, p.2, false⟩)
 else if o.kind = 2 then (d, oj)
 else if o.kind = 3 then ((d.cutTo o.n o.bits).2, oj)
 else if o.kind = 4 then ((d.crash o.bits).2, oj)
 else if o.kind = 5 then (d.start.2, oj)
 else if o.kind = 6 then ((d.write o.n (txt 64 o.b)).2, oj)
 else if o.kind = 8 then ((d.write o.n (headB (o.b : Int) (andJ o.bits))).2, oj)
 else (d.sync.2, oj)
structure PlayI (N k : Nat) (d : DS) (oj : Option JS) : Prop where
 wf : WF d
 since : d.since.length ≤ 3000 * k
 count : d.count ≤ 3000 * k
 len : d.secs.length = N
 low : LowD (255 + (k : Int)) d
 seq : ∀ js, oj = some js → 0 ≤ js.seq ∧ js.seq ≤ 255 + (k : Int) ∧ 4 ≤ N
theorem LowD.new1 {M : Int} (n : Nat) : LowD M (DS.new n) := by
 refine ⟨fun a ha => ?_, fun p hp => by cases hp⟩
 show Low M ((List.replicate n noughts).getD a default)
 rw [List.getD_eq_getElem?_getD, List.getElem?_replicate]
 split
 · exact low_noughts M
 · exact low_first M (fun h => by cases h)
theorem PlayI.new {n : Nat} (hn : n ≤ 4096) : PlayI n 0 (DS.new n) none :=
 ⟨WF.new hn, Nat.le_refl _, Nat.le_refl _, List.length_replicate, LowD.new1 n, fun _ h => by cases h⟩
theorem low_txt {M : Int} {b : Nat} (hb : b < 256) : Low M (txt 64 b) := by
  have e : ∀ i, i < 64 → (txt 64 b).data.toList[i]? = some (txtB b i) := fun i hi => by
    show ((txtL b 64).toArray).toList[i]? = _
    rw [List.toList_toArray]
    simp [txtL, hi]
  have val : ∀ i, (txtB b i).toNat = (b + i % 7) % 256 := fun i => by rw [txtB, UInt8.toNat_ofNat']
  by_cases h : b = 74
  · refine low_none M 0 (by decide) ?_
    rw [e 13 (by decide)]
    intro h2
    have := congrArg UInt8.toNat (Option.some.inj h2)
    rw [val, h] at this
    exact absurd this (by decide)
  · refine low_first M ?_
    rw [e 0 (by decide)]
    intro h2
    have := congrArg UInt8.toNat (Option.some.inj h2)
    rw [val] at this
    have h3 : (b + 0 % 7) % 256 = 74 := this
    omega
theorem open_len {d : DS} {p : ByteArray × Int} {c : Int} (h : openD d = (c, some p)) : 4 ≤ d.secs.length := by
 unfold openD at h
 split at h
 · cases h
 unfold openR at h
 split at h
 · cases h
 · omega
theorem open_err {d : DS} {p : ByteArray × Int} {c : Int} (h : openD d = (c, some p)) : c = 0 := by
  unfold openD at h
  split at h
  · cases h
  unfold openR at h
  split at h
  · cases h
  split at h
  · split at h
    · cases h
    split at h
    · exact (congrArg Prod.fst h).symm
    split at h
    · exact (congrArg Prod.fst h).symm
    split at h
    · exact (congrArg Prod.fst h).symm
    · cases h
  · cases h
theorem put_play {N k : Nat} {d : DS} {js : JS} {s : ByteArray} (h : PlayI N k d (some js)) (hk : k ≤ 1000) (hs : s.size ≤ 131072) :
  PlayI N (k + 1) (js.put d s).2.1 (some (js.put d s).2.2) := by
 have hq := h.seq js rfl
 have hn := few s hs
 have same : PlayI N (k + 1) d (some js) := ⟨h.wf, by have := h.since; omega, by have := h.count; omega, h.len, h.low.mono (by omega), fun j hj => by have := h.seq j hj; omega⟩
 have hp := put_keeps (s := s) h.wf (h.low.mono (M' := 255 + ((k + 1 : Nat) : Int)) (by omega)) hq.1 (by omega) (by omega)
 have mk : ∀ js' : JS, 0 ≤ js'.seq → js'.seq ≤ 255 + ((k + 1 : Nat) : Int) → PlayI N (k + 1) (putD d js.seq s).2 (some js') := fun js' h0 h1 =>
  ⟨hp.1.wf, by have := hp.1.since; have := h.since; omega, by have := hp.1.count; have := h.count; omega, hp.1.len.trans h.len, hp.2, fun j hj => by cases hj; exact ⟨h0, h1, hq.2.2⟩⟩
 unfold JS.put
 split
 · exact same
 split
 · exact same
 split
 · exact mk _ (by show 0 ≤ js.seq + 1; omega) (by show js.seq + 1 ≤ _; omega)
 · exact mk _ hq.1 (by show js.seq ≤ _; omega)
theorem PlayI.step {N k : Nat} {d : DS} {oj : Option JS} (h : PlayI N k d oj) (hk : k ≤ 1000) {o : OpJ} (hb : o.b < 256) (hn : o.n ≤ 9223372036854775807) :
    PlayI N (k + 1) (opJ d oj o).1 (opJ d oj o).2 := by
  have same : ∀ d' : DS, WF d' → d'.since.length ≤ d.since.length + 1 → d'.count ≤ d.count + 1 → d'.secs.length = d.secs.length → LowD (255 + ((k + 1 : Nat) : Int)) d' → PlayI N (k + 1) d' oj := fun d' h1 h2 h3 h4 h5 =>
    ⟨h1, by have := h.since; omega, by have := h.count; omega, h4.trans h.len, h5, fun j hj => by have := h.seq j hj; omega⟩
  have hl := h.low.mono (M' := 255 + ((k + 1 : Nat) : Int)) (by omega)
  unfold opJ
  split
  · cases oj with
    | none => exact same d h.wf (by omega) (by omega) rfl hl
    | some js => exact put_play h hk (txt_le _ _)
  split
  · rcases ho : openD d with ⟨c, _ | ⟨t, q⟩⟩
    · show PlayI N (k + 1) d none
      exact ⟨h.wf, by have := h.since; omega, by have := h.count; omega, h.len, hl, fun j hj => by cases hj⟩
    · have hq := open_low (by omega) h.low ho
      have h4 := open_len ho
      show PlayI N (k + 1) d (some ⟨t, q, false⟩)
      exact ⟨h.wf, by have := h.since; omega, by have := h.count; omega, h.len, hl, fun j hj => by cases hj; exact ⟨hq.1, by show q ≤ _; omega, by have := h.len; omega⟩⟩
  split
  · exact same d h.wf (by omega) (by omega) rfl hl
  split
  · refine same _ (h.wf.cutTo _ _ hn) ?_ ?_ ?_ (hl.cutTo _ _) <;> (unfold DS.cutTo; split <;> first | (simp only; omega) | (split <;> first | (simp only; omega) | rfl) | rfl)
  split
  · refine same _ (h.wf.crash _) ?_ ?_ ?_ (hl.crash h.wf _)
    · unfold DS.crash; split
      · simp only; omega
      · show ([] : List (Nat × ByteArray)).length ≤ _; simp
    · unfold DS.crash; split
      · simp only; omega
      · show d.count ≤ _; omega
    · unfold DS.crash; split
      · rfl
      · exact fallL_len _ _ _
  split
  · refine same _ h.wf.start ?_ ?_ ?_ hl.start <;> (unfold DS.start; split <;> first | (simp only; omega) | rfl)
  split
  · exact same _ (h.wf.write _ _) (write_small _ _ _).1 (write_small _ _ _).2.1 (write_small _ _ _).2.2 (hl.write h.wf _ _ (fun _ => low_txt hb))
  split
  · exact same _ (h.wf.write _ _) (write_small _ _ _).1 (write_small _ _ _).2.1 (write_small _ _ _).2.2 (hl.write h.wf _ _ (fun _ => low_head ⟨by omega, by omega⟩ (by omega)))
  · exact same _ h.wf.sync (sync_small _).1 (sync_small _).2.1 (sync_small _).2.2 (hl.sync h.wf)
theorem flat4 {l : List OpJ} : ∀ {i : Nat} {o : OpJ}, l[i]? = some o → ∀ j u, (opJC o)[j]? = some u → (l.flatMap opJC)[i * 4 + j]? = some u := by
 induction l with
 | nil => intro i o h; simp at h
 | cons q l ih =>
  intro i o h j u hj
  have hlen : (opJC q).length = 4 := rfl
  cases i with
  | zero =>
   obtain rfl : q = o := by simpa using h
   have hlt := (List.getElem?_eq_some_iff.1 hj).1
   rw [List.flatMap_cons, Nat.zero_mul, Nat.zero_add, List.getElem?_append_left hlt]
   exact hj
  | succ i =>
   rw [List.getElem?_cons_succ] at h
   rw [List.flatMap_cons, List.getElem?_append_right (by rw [hlen]; omega), hlen, show (i + 1) * 4 + j - 4 = i * 4 + j by omega]
   exact ih h j u hj
theorem rdJ {W0 : World} {v : Value} {l : List OpJ} {k : Nat} {o : OpJ} (h : Rd W0 v l.length (l.flatMap opJC)) (hg : l[k]? = some o) (j : Nat) {u : Value} (hj : (opJC o)[j]? = some u) : W0.cell? ⟨rb v, ro v + k * 4 + j, none⟩ = some u := by
 have := h.cell _ _ (flat4 hg j u hj); rwa [← Nat.add_assoc] at this
theorem PlayI.put {N k : Nat} {d : DS} {oj : Option JS} (h : PlayI N k d oj) (hk : k ≤ 1000) : ∀ js, oj = some js → 0 ≤ js.seq ∧ js.seq < 9223372036854775807 ∧ 4 ≤ d.secs.length := fun js hj => by
 have := h.seq js hj
 have := h.len
 omega
end Go.Jn
