import Derived.Test.YtkndmgfahghcjaaGreatSLD
import Derived.Lib.ConvBytes
import Derived.Lib.UnsafeStr
import Derived.Lib.Builder
import Derived.Laws.Externs
import Derived.Shelf.Strings.Builder1
import Derived.Shelf.Strings.Builder2
import Derived.Shelf.Strings.BuilderF
import Derived.Shelf.Strings.BuilderK
import Derived.Shelf.Strings.Builder2Cap
import Derived.Shelf.Strings.Prefix
import Derived.Shelf.Strings.Repeat
import Derived.Shelf.Strings.BuilderCap
import Derived.Test.YtkndmgfahghcjaaGreatProg
/- Bytes of a text, a text of bytes that are kept (strings.Builder), and calls that leave all that was, for the small separation logic. -/
namespace Go.SL
open Go Go.RowKit
section
variable {P : Program} {W0 w w' : World} {E : Nat → Value} {L F : List HP} {x y : Operand} {v : Value} {ty : TypeId}
/-- A new block, of whatever kind, beside what was. -/
theorem st_fresh {o : Obj} (h : st W0 w L) (hos : w'.os = w.os) (ht : w'.tape = w.tape) (hout : w'.output = w.output) (hsz : w.heap.size ≤ w'.heap.size) (hnew : w'.heap[w.heap.size]? = some o) (hold : ∀ k, k < w.heap.size → w'.heap[k]? = w.heap[k]?) :
    st W0 w' (own w.heap.size o :: L) := by
  obtain ⟨hB, x, hs, hx⟩ := h
  have hlt : ∀ {k : Nat} {o : Obj}, w.heap[k]? = some o → k < w.heap.size := fun e => (Array.getElem?_eq_some_iff.1 e).1
  have hd : Hp.disj (Hp.one w.heap.size o) x := fun k u e => by
    obtain ⟨rfl, rfl⟩ := Hp.one_some e
    cases hxx : x w.heap.size with
    | none => rfl
    | some y => exact absurd (hlt (hx _ _ hxx).2) (Nat.lt_irrefl _)
  refine ⟨hB.trans ⟨hos, ht, hout, hsz, fun k hk => hold k (Nat.lt_of_lt_of_le hk hB.size)⟩, Hp.un (Hp.one w.heap.size o) x, ⟨_, x, hd, Hp.le_un_left _ _, Hp.le_un_right hd, Hp.one_at _ o, hs⟩, ?_⟩
  intro k u e
  rcases Hp.un_some e with e | e
  · obtain ⟨rfl, rfl⟩ := Hp.one_some e; exact ⟨hB.size, hnew⟩
  · have := hx k u e
    exact ⟨this.1, by rw [hold k (hlt this.2)]; exact this.2⟩
/-- Whatever was is as it was. -/
theorem st_below (h : st W0 w L) (hb : Below w.heap.size w w') : st W0 w' L := by
 obtain ⟨hB, x, hs, hx⟩ := h
 have hlt : ∀ {k : Nat} {o : Obj}, w.heap[k]? = some o → k < w.heap.size := fun e => (Array.getElem?_eq_some_iff.1 e).1
 exact ⟨hB.trans (hb.mono hB.size), x, hs, fun k o e => ⟨(hx k o e).1, by rw [hb.block k (hlt (hx k o e).2)]; exact (hx k o e).2⟩⟩
theorem Con.below {f : FuncId} {args : Array Value} {u : Value} (h : ∀ w, Calls P f args w fun e w' => e = .returned u ∧ Below w.heap.size w w') : Con P W0 f args [] (X := Unit) (fun _ => True) (fun _ => u) (fun _ => []) := fun w F hs =>
 (h w).mono fun e w' ⟨he, hb⟩ => by subst he; exact ⟨(), trivial, rfl, st_below hs hb⟩
/-! ### A text's bytes -/
theorem e_bytes {src dst e : TypeId} {s : ByteArray} {u : TypeDesc} (hs : P.underlying src = some u) (hd : P.underlying dst = some (.slice e)) (he : P.underlying e = some (.int .u8)) (hx : evE E x = .string s) :
  Eff P W0 E L (.convert src dst x) ty (X := Nat × Nat × Nat) (fun _ => True) (fun z => .slice (some ⟨z.1, 0, none⟩) s.size z.2.1) (fun z => ptf z.1 e (Lib.strCells s ++ List.replicate z.2.2 (Value.int .u8 0)) :: L) := fun w d pos aft g hst => by
 have hr := Lib.run_convert_string_bytes w src dst e s hs hd he
 have : (execOp (evE E) { dst := d, op := .convert src dst x, type := ty, pos := pos, after := aft, guard := g }).run P w = .ok (.value (.slice (some ⟨w.heap.size, 0, none⟩) s.size (grownCap w s.size 0 e))) (Lib.bytesWorld w e s) := by
  simp [execOp, hx, hr]
 rw [this]
 refine ⟨(w.heap.size, grownCap w s.size 0 e, grownCap w s.size 0 e - s.size), trivial, rfl, ?_⟩
 have hb : (Lib.bytesWorld w e s).os = w.os ∧ (Lib.bytesWorld w e s).tape = w.tape ∧ (Lib.bytesWorld w e s).output = w.output := by
  simp [Lib.bytesWorld, World.freeze, World.alloc, World.drew, -World.alloc_eq, -World.drew_eq]
 have hn := Lib.bytesWorld_at_new w e s
 have hc : Lib.bytesCells w e s = (Lib.strCells s ++ List.replicate (grownCap w s.size 0 e - s.size) (Value.int .u8 0)).toArray := by
  apply Array.ext'; simp [Lib.bytesCells, Lib.strCells]
 have h1 := st_fresh hst hb.1 hb.2.1 hb.2.2 (by rw [Lib.bytesWorld_size]; omega) hn (fun k hk => Lib.bytesWorld_at_old w e s k hk)
 exact st_head (fun h ho => ⟨_, by rw [← hc]; exact ho⟩) h1
/-! ### strings.Builder -/
theorem st_shape {b i e : Nat} {c : List Value} (h : st W0 w L) (hi : L[i]? = some (pt b e c)) : w.shape? b = some (e, c.length) := by
 have := (st_own h hi).2
 simp [World.shape?, this]
theorem q_to_unsafe {src dst t e b off i : Nat} {c : List Value} {n : Nat} (hs : P.underlying src = some (.pointer t)) (hd : P.underlying dst = some .unsafePointer) (ht : sizeIs P t = some n) (hn : n ≠ 0) (hx : evE E x = .pointer (some ⟨b, off, none⟩))
  (hi : L[i]? = some (pt b e c)) (ho : off < c.length) : Quiet P W0 E L (.convert src dst x) ty (.pointer (some ⟨b, off, none⟩)) := fun w d pos aft g hst => by
 unfold sizeIs at ht
 obtain ⟨j, hj, hjn⟩ := Option.map_eq_some_iff.1 ht
 have := Lib.run_to_unsafe (P := P) (w := w) ⟨b, off, none⟩ hs hd hj (by rw [hjn]; exact hn) (st_shape hst hi) ho
 simp [execOp, hx, this]
theorem q_from_unsafe {src dst t e b off i : Nat} {c : List Value} {n : Nat} (hs : P.underlying src = some .unsafePointer) (hd : P.underlying dst = some (.pointer t)) (ht : sizeIs P t = some n) (hx : evE E x = .pointer (some ⟨b, off, none⟩))
  (hi : L[i]? = some (pt b e c)) (hl : liesAt P P.depth e (c.length / P.cellsOf e) off t 1 = true) : Quiet P W0 E L (.convert src dst x) ty (.pointer (some ⟨b, off, none⟩)) := fun w d pos aft g hst => by
 unfold sizeIs at ht
 obtain ⟨j, hj, hjn⟩ := Option.map_eq_some_iff.1 ht
 have := Lib.run_from_unsafe (P := P) (w := w) ⟨b, off, none⟩ hs hd hj (st_shape hst hi) hl
 simp [execOp, hx, this]
/-- A call of a function that is known from its name: it hands back what it got. -/
theorem q_same {f : FuncId} {fn : Func} {ats : Array TypeId} (hf : P.funcs[f]? = some fn) (hname : (fn.name == "runtime.NumGoroutine") = false) (hb : fn.body.isNone = true) (hn : Extern.findNext fn = none) (he : Extern.find fn = some Extern.AbiNoEscape.same) (hx : evE E x = v) :
  Quiet P W0 E L (.call { callee := .value (.func f), args := #[x], argTypes := ats }) ty v := fun w d pos aft g hst => by
 have h1 := run_callFunc_extern (P := P) hf hname hb hn he #[v] w
 rw [Lib.run_noEscape] at h1
 have h2 : (callFunc f #[v]).run P w = .ok (.value v) w := h1
 have h3 : evE E (.func f) = .func (.func f) #[] #[] := rfl
 simp [execOp, resolve, h3, invoke, hx, Deferred.ofValue, go_sem, h2]
theorem q_slice_data {t : TypeId} {b n cap : Nat} (hc : cap ≠ 0) (hx : evE E x = .slice (some ⟨b, 0, none⟩) n cap) : Quiet P W0 E L (.call { callee := .builtin .unsafeSliceData, args := #[x], argTypes := #[t] }) ty (.pointer (some ⟨b, 0, none⟩)) := fun w d pos aft g hst => by
 have := Lib.run_unsafeSliceData_row (P := P) (w := w) #[t] ty ⟨b, 0, none⟩ n cap hc
 simp [execOp, resolve, invoke, builtin, hx, this]
theorem q_slice_data_nil {t : TypeId} {n cap : Nat} (hx : evE E x = .slice none n cap) : Quiet P W0 E L (.call { callee := .builtin .unsafeSliceData, args := #[x], argTypes := #[t] }) ty (.pointer none) := fun w d pos aft g hst => by
 have := Lib.run_unsafeSliceData_nil (P := P) (w := w) #[t] ty n cap
 simp [execOp, resolve, invoke, builtin, hx, this]
theorem q_unsafe_string0 {t t' : TypeId} {p : Option Addr} (hx : evE E x = .pointer p) (hy : evE E y = .int .i64 0) : Quiet P W0 E L (.call { callee := .builtin .unsafeString, args := #[x, y], argTypes := #[t, t'] }) ty (.string .empty) := fun w d pos aft g hst => by
 have := Lib.run_unsafeString_none (P := P) (w := w) t t' ty p
 simp [execOp, resolve, invoke, builtin, hx, hy, this]
/-- A pointer is the same as itself. -/
theorem q_neq_ptr_same {t t' e n : Nat} {a : Addr} (hx : evE E x = .pointer (some a)) (hy : evE E y = .pointer (some a)) (hu : P.underlying t = some (.pointer e)) (he : sizeIs P e = some n) : Quiet P W0 E L (.binOp .neq t x y t') ty (.bool false) :=
 q_neq_gen (r := true) hx hy rfl fun w => by
  unfold sizeIs at he
  obtain ⟨j, hj, hjn⟩ := Option.map_eq_some_iff.1 he
  have h : ∀ d : Nat, (Op.equalIn (d + 1) t (.pointer (some a)) (.pointer (some a))).run P w = .ok true w := fun d => by
   simp [Op.equalIn, run_underlying hu, sizeOf, typeInfo, hj, run_sameAddr_same]
  exact h 9999
def frzO (o : Obj) (n : Nat) : Obj := match o with | .cells c elem (lo, hi) => .cells c elem (if lo == hi then (0, 0 + n) else (min lo 0, max hi (0 + n))) | o => o
theorem st_freeze {b n : Nat} {o : Obj} (h : st W0 w (own b o :: L)) : st W0 (w.freeze ⟨b, 0, none⟩ n) L := by
  have hb := (st_own (i := 0) h rfl).2
  unfold World.freeze
  split
  · exact st_drop h
  · refine st_drop (st_upd (o' := frzO o n) h rfl rfl rfl (by simp) ?_ (fun k hk _ => ?_))
    · simp only [Array.getElem?_modify, if_pos, hb, Option.map_some]; rfl
    · simp [Array.getElem?_modify, Ne.symm hk]
/-- unsafe.String of a slice's bytes that are then no longer written. -/
theorem e_unsafe_string {t t' e b cap i : Nat} {l : List UInt8} (hp : P.underlying t = some (.pointer e)) (hce : P.cellsOf e = 1) (hx : evE E x = .pointer (some ⟨b, 0, none⟩)) (hy : evE E y = .int .i64 ((l.length : Nat) : Int)) (h0 : 0 < l.length) (h63 : l.length ≤ 9223372036854775807)
  (hi : L[i]? = some (slp e 1 b cap (l.map fun c => Value.int .u8 c.toNat))) : Eff P W0 E L (.call { callee := .builtin .unsafeString, args := #[x, y], argTypes := #[t, t'] }) ty (X := Unit) (fun _ => True) (fun _ => .string ⟨l.toArray⟩) (fun _ => L.eraseIdx i) := fun w d pos aft g hst => by
 have h1 := st_at hst hi
 obtain ⟨cur, ⟨c1, c2, c3, c4⟩, hpt⟩ := slp_open h1
 have hb := (st_own (i := 0) hpt rfl).2
 have hr := Lib.run_unsafeString_row (P := P) w t t' ty e hp hce b cur.length (by simp [World.shape?, hb]) l (by intro h; rw [h] at h0; simp at h0) (by simpa using c2) h63 (fun j x hj => by
  have : (Has W0 L b (0 + j) (.int .u8 x.toNat)) := .row hi (by simp [hj])
  rw [add_mk]
  exact this.cell hst)
 have : (execOp (evE E) { dst := d, op := .call { callee := .builtin .unsafeString, args := #[x, y], argTypes := #[t, t'] }, type := ty, pos := pos, after := aft, guard := g }).run P w = .ok (.value (.string ⟨l.toArray⟩)) (w.freeze ⟨b, 0, none⟩ l.length) := by
  simp [execOp, resolve, invoke, builtin, hx, hy, hr]
 rw [this]
 exact ⟨(), trivial, rfl, st_freeze hpt⟩
end
end Go.SL

/- Contracts of the library, laid at this dump. -/
namespace Go.Proofs
open Go.Shelf
def Tryz.lays105_ren : Go.Shelf.Ren := ⟨fun | 105 => 104 | 212 => 121 | 99 => 122 | 165 => 123 | 166 => 94 | 170 => 93 | 169 => 95 | 263 => 131 | 264 => 132 | 206 => 133 | 240 => 105 | 241 => 134 | 276 => 124 | 277 => 136 | n => n, fun | 9 => 9 | 3 => 3 | 4 => 4 | 20 => 20 | 0 => 0 | 46 => 124 | 109 => 164 | 5 => 5 | 72 => 132 | 76 => 136 | 51 => 160 | 146 => 174 | 53 => 125 | 148 => 176 | 70 => 130 | 37 => 65 | 75 => 135 | 127 => 149 | 164 => 166 | 80 => 63 | n => n, fun | n => n⟩
theorem Tryz.lays105 : Go.Proofs.Lays.n105 Tryz.prog Tryz.lays105_ren := {
 mixed := by kernel_rfl
 f99 := Tryz.func122.trans (congrArg some (by kernel_rfl))
 f105 := Tryz.func104.trans (congrArg some (by kernel_rfl))
 f165 := Tryz.func123.trans (congrArg some (by kernel_rfl))
 f166 := Tryz.func94.trans (congrArg some (by kernel_rfl))
 f169 := Tryz.func95.trans (congrArg some (by kernel_rfl))
 f170 := Tryz.func93.trans (congrArg some (by kernel_rfl))
 f206 := Tryz.func133.trans (congrArg some (by kernel_rfl))
 f212 := Tryz.func121.trans (congrArg some (by kernel_rfl))
 f240 := Tryz.func105.trans (congrArg some (by kernel_rfl))
 f241 := Tryz.func134.trans (congrArg some (by kernel_rfl))
 f263 := Tryz.func131.trans (congrArg some (by kernel_rfl))
 f264 := Tryz.func132.trans (congrArg some (by kernel_rfl))
 f276 := Tryz.func124.trans (congrArg some (by kernel_rfl))
 f277 := Tryz.func136.trans (congrArg some (by kernel_rfl))
 t0 := Tryz.underlying0
 a0 := Tryz.isAgg0
 z0 := Tryz.sizeOf0
 v0 := Tryz.zeroValue0
 t3 := Tryz.underlying3
 a3 := Tryz.isAgg3
 z3 := Tryz.sizeOf3
 v3 := Tryz.zeroValue3
 t4 := Tryz.underlying4
 a4 := Tryz.isAgg4
 z4 := Tryz.sizeOf4
 v4 := Tryz.zeroValue4
 t5 := Tryz.underlying5
 a5 := Tryz.isAgg5
 z5 := Tryz.sizeOf5
 v5 := Tryz.zeroValue5
 t9 := Tryz.underlying9
 a9 := Tryz.isAgg9
 z9 := Tryz.sizeOf9
 v9 := Tryz.zeroValue9
 t20 := Tryz.underlying20
 a20 := Tryz.isAgg20
 z20 := Tryz.sizeOf20
 v20 := Tryz.zeroValue20
 t37 := Tryz.underlying65
 a37 := Tryz.isAgg65
 z37 := Tryz.sizeOf65
 v37 := Tryz.zeroValue65
 t46 := Tryz.underlying124
 a46 := Tryz.isAgg124
 z46 := Tryz.sizeOf124
 v46 := Tryz.zeroValue124
 t51 := Tryz.underlying160
 a51 := Tryz.isAgg160
 z51 := Tryz.sizeOf160
 v51 := Tryz.zeroValue160
 t53 := Tryz.underlying125
 a53 := Tryz.isAgg125
 z53 := Tryz.sizeOf125
 v53 := Tryz.zeroValue125
 t70 := Tryz.underlying130
 a70 := Tryz.isAgg130
 z70 := Tryz.sizeOf130
 v70 := Tryz.zeroValue130
 t72 := Tryz.underlying132
 a72 := Tryz.isAgg132
 z72 := Tryz.sizeOf132
 v72 := Tryz.zeroValue132
 t75 := Tryz.underlying135
 a75 := Tryz.isAgg135
 z75 := Tryz.sizeOf135
 v75 := Tryz.zeroValue135
 t76 := Tryz.underlying136
 a76 := Tryz.isAgg136
 z76 := Tryz.sizeOf136
 v76 := Tryz.zeroValue136
 t109 := Tryz.underlying164
 a109 := Tryz.isAgg164
 z109 := Tryz.sizeOf164
 v109 := Tryz.zeroValue164
 t127 := Tryz.underlying149
 a127 := Tryz.isAgg149
 z127 := Tryz.sizeOf149
 v127 := Tryz.zeroValue149
 t146 := Tryz.underlying174
 a146 := Tryz.isAgg174
 z146 := Tryz.sizeOf174
 v146 := Tryz.zeroValue174
 t148 := Tryz.underlying176
 a148 := Tryz.isAgg176
 z148 := Tryz.sizeOf176
 v148 := Tryz.zeroValue176
 t164 := Tryz.underlying166
 a164 := Tryz.isAgg166
 z164 := Tryz.sizeOf166
 v164 := Tryz.zeroValue166 }
theorem Tryz.Builder_Extra_105 : Builder.Extra Tryz.prog Tryz.lays105_ren := {
 sizeBuilder := by kernel_rfl
 liesBuilder := by kernel_rfl
 t5 := Tryz.underlying5
 a5 := Tryz.isAgg5
 z5 := Tryz.sizeOf5
 v5 := Tryz.zeroValue5
 infoByte := by kernel_rfl
 cellsByte := by kernel_rfl
 sizeByte := by kernel_rfl
 neB5 := by decide }
open Go.RowKit Go.Lib in

theorem Tryz.strings_Repeat (s : ByteArray) (c : Nat) (w : World) (hc : c ≤ 9223372036854775807) (hlen : s.size * c ≤ 140737488355328) :
 Calls Tryz.prog 104 #[.string s, .int .i64 c] w fun e w' => e = .returned (.string ⟨(Lib.repeatL s.data.toList c).toArray⟩) ∧ Below w.heap.size w w' := Any.strings_Repeat Tryz.lays105 Tryz.Builder_Extra_105 s c w hc hlen
end Go.Proofs


