/- A part of the proof. -/
import Derived.Test.YtjnejkdamhefgaaGreatDoorSLD
import Derived.Lib.ConvBytes
import Derived.Lib.UnsafeStr
import Derived.Lib.Builder
import Derived.Laws.Externs
import Derived.Shelf.Strings.Builder1
import Derived.Shelf.Strings.Builder2
import Derived.Shelf.Strings.BuilderF
import Derived.Shelf.Strings.BuilderK
import Derived.Shelf.Strings.Builder2Cap
import Derived.Shelf.Strings.Prefix
import Derived.Shelf.Bits.Mul64
import Derived.Shelf.Strings.Repeat
import Derived.Shelf.Strings.BuilderCap
import Derived.Shelf.SortM.Plain
import Derived.Shelf.SortM.SortNone
namespace Go.SL
open Go Go.RowKit
section
variable {P : Program} {W0 w w' : World} {E : Nat → Value} {L F : List HP} {x y : Operand} {v : Value} {ty : TypeId}
theorem st_fresh {o : Obj} (h : st W0 w L) (hos : w'.os = w.os) (ht : w'.tape = w.tape) (hout : w'.output = w.output) (hsz : w.heap.size ≤ w'.heap.size) (hnew : w'.heap[w.heap.size]? = some o) (hold : ∀ k, k < w.heap.size → w'.heap[k]? = w.heap[k]?) :
    st W0 w' (own w.heap.size o :: L) := by
  obtain ⟨hB, x, hs, hx⟩ := h
  have hlt : ∀ {k : Nat} {o : Obj}, w.heap[k]? = some o → k < w.heap.size := fun e => (Array.getElem?_eq_some_iff.1 e).1
  have hd : Hp.disj (Hp.one w.heap.size o) x := fun k u e => by
    obtain ⟨rfl, rfl⟩ := Hp.one_some e
    cases hxx : x w.heap.size with
    | none => rfl
    | some y => exact absurd (hlt (hx _ _ hxx).2) (Nat.lt_irrefl _)
  refine ⟨hB.trans ⟨hos, ht, hout, hsz, fun k hk => hold k (Nat.lt_of_lt_of_le hk hB.size)⟩, Hp.un (Hp.one w.heap.size o) x, ⟨_, x, hd, Hp.le_un_left _ _, Hp.le_un_right hd, Hp.one_at _ o, hs⟩, ?_⟩
  intro k u e
  rcases Hp.un_some e with e | e
  · obtain ⟨rfl, rfl⟩ := Hp.one_some e; exact ⟨hB.size, hnew⟩
  · have := hx k u e
    exact ⟨this.1, by rw [hold k (hlt this.2)]; exact this.2⟩
theorem st_below (h : st W0 w L) (hb : Below w.heap.size w w') : st W0 w' L := by
 obtain ⟨hB, x, hs, hx⟩ := h
 have hlt : ∀ {k : Nat} {o : Obj}, w.heap[k]? = some o → k < w.heap.size := fun e => (Array.getElem?_eq_some_iff.1 e).1
 exact ⟨hB.trans (hb.mono hB.size), x, hs, fun k o e => ⟨(hx k o e).1, by rw [hb.block k (hlt (hx k o e).2)]; exact (hx k o e).2⟩⟩
theorem Con.below {f : FuncId} {args : Array Value} {u : Value} (h : ∀ w, Calls P f args w fun e w' => e = .returned u ∧ Below w.heap.size w w') : Con1 P W0 f args [] u [] := fun w F hs =>
 (h w).mono fun e w' ⟨he, hb⟩ => by subst he; exact ⟨(), trivial, rfl, st_below hs hb⟩
theorem e_bytes {src dst e : TypeId} {s : ByteArray} {u : TypeDesc} (hs : P.underlying src = some u) (hd : P.underlying dst = some (.slice e)) (he : P.underlying e = some (.int .u8)) (hx : evE E x = .string s) :
  Eff P W0 E L (.convert src dst x) ty (X := Nat × Nat × Nat) (fun _ => True) (fun z => .slice (some ⟨z.1, 0, none⟩) s.size z.2.1) (fun z => ptf z.1 e (Lib.strCells s ++ List.replicate z.2.2 (Value.int .u8 0)) :: L) := fun w d pos aft g hst => by
 have hr := Lib.run_convert_string_bytes w src dst e s hs hd he
 have : (execOp (evE E) { dst := d, op := .convert src dst x, type := ty, pos := pos, after := aft, guard := g }).run P w = .ok (.value (.slice (some ⟨w.heap.size, 0, none⟩) s.size (grownCap w s.size 0 e))) (Lib.bytesWorld w e s) := by
  simp [execOp, hx, hr]
 rw [this]
 refine ⟨(w.heap.size, grownCap w s.size 0 e, grownCap w s.size 0 e - s.size), trivial, rfl, ?_⟩
 have hb : (Lib.bytesWorld w e s).os = w.os ∧ (Lib.bytesWorld w e s).tape = w.tape ∧ (Lib.bytesWorld w e s).output = w.output := by
  simp [Lib.bytesWorld, World.freeze, World.alloc, World.drew, -World.alloc_eq, -World.drew_eq]
 have hn := Lib.bytesWorld_at_new w e s
 have hc : Lib.bytesCells w e s = (Lib.strCells s ++ List.replicate (grownCap w s.size 0 e - s.size) (Value.int .u8 0)).toArray := by
  apply Array.ext'; simp [Lib.bytesCells, Lib.strCells]
 have h1 := st_fresh hst hb.1 hb.2.1 hb.2.2 (by rw [Lib.bytesWorld_size]; omega) hn (fun k hk => Lib.bytesWorld_at_old w e s k hk)
 exact st_head (fun h ho => ⟨_, by rw [← hc]; exact ho⟩) h1
theorem st_shape {b i e : Nat} {c : List Value} (h : st W0 w L) (hi : L[i]? = some (pt b e c)) : w.shape? b = some (e, c.length) := by
 have := (st_own h hi).2
 simp [World.shape?, this]
theorem q_to_unsafe {src dst t e b off i : Nat} {c : List Value} {n : Nat} (hs : P.underlying src = some (.pointer t)) (hd : P.underlying dst = some .unsafePointer) (ht : sizeIs P t = some n) (hn : n ≠ 0) (hx : evE E x = .pointer (some ⟨b, off, none⟩))
  (hi : L[i]? = some (pt b e c)) (ho : off < c.length) : Quiet P W0 E L (.convert src dst x) ty (.pointer (some ⟨b, off, none⟩)) := fun w d pos aft g hst => by
 unfold sizeIs at ht
 obtain ⟨j, hj, hjn⟩ := Option.map_eq_some_iff.1 ht
 have := Lib.run_to_unsafe (P := P) (w := w) ⟨b, off, none⟩ hs hd hj (by rw [hjn]; exact hn) (st_shape hst hi) ho
 simp [execOp, hx, this]
theorem q_from_unsafe {src dst t e b off i : Nat} {c : List Value} {n : Nat} (hs : P.underlying src = some .unsafePointer) (hd : P.underlying dst = some (.pointer t)) (ht : sizeIs P t = some n) (hx : evE E x = .pointer (some ⟨b, off, none⟩))
  (hi : L[i]? = some (pt b e c)) (hl : liesAt P P.depth e (c.length / P.cellsOf e) off t 1 = true) : Quiet P W0 E L (.convert src dst x) ty (.pointer (some ⟨b, off, none⟩)) := fun w d pos aft g hst => by
 unfold sizeIs at ht
 obtain ⟨j, hj, hjn⟩ := Option.map_eq_some_iff.1 ht
 have := Lib.run_from_unsafe (P := P) (w := w) ⟨b, off, none⟩ hs hd hj (st_shape hst hi) hl
 simp [execOp, hx, this]
theorem q_same {f : FuncId} {fn : Func} {ats : Array TypeId} (hf : P.funcs[f]? = some fn) (hname : (fn.name == "runtime.NumGoroutine") = false) (hb : fn.body.isNone = true) (hn : Extern.findNext fn = none) (he : Extern.find fn = some Extern.AbiNoEscape.same) (hx : evE E x = v) :
  Quiet P W0 E L (.call { callee := .value (.func f), args := #[x], argTypes := ats }) ty v := fun w d pos aft g hst => by
 have h1 := run_callFunc_extern (P := P) hf hname hb hn he #[v] w
 rw [Lib.run_noEscape] at h1
 have h2 : (callFunc f #[v]).run P w = .ok (.value v) w := h1
 have h3 : evE E (.func f) = .func (.func f) #[] #[] := rfl
 simp [execOp, resolve, h3, invoke, hx, Deferred.ofValue, go_sem, h2]
theorem q_slice_data {t : TypeId} {b n cap : Nat} (hc : cap ≠ 0) (hx : evE E x = .slice (some ⟨b, 0, none⟩) n cap) : Quiet P W0 E L (.call { callee := .builtin .unsafeSliceData, args := #[x], argTypes := #[t] }) ty (.pointer (some ⟨b, 0, none⟩)) := fun w d pos aft g hst => by
 have := Lib.run_unsafeSliceData_row (P := P) (w := w) #[t] ty ⟨b, 0, none⟩ n cap hc
 simp [execOp, resolve, invoke, builtin, hx, this]
theorem q_slice_data_nil {t : TypeId} {n cap : Nat} (hx : evE E x = .slice none n cap) : Quiet P W0 E L (.call { callee := .builtin .unsafeSliceData, args := #[x], argTypes := #[t] }) ty (.pointer none) := fun w d pos aft g hst => by
 have := Lib.run_unsafeSliceData_nil (P := P) (w := w) #[t] ty n cap
 simp [execOp, resolve, invoke, builtin, hx, this]
theorem q_unsafe_string0 {t t' : TypeId} {p : Option Addr} (hx : evE E x = .pointer p) (hy : evE E y = .int .i64 0) : Quiet P W0 E L (.call { callee := .builtin .unsafeString, args := #[x, y], argTypes := #[t, t'] }) ty (.string .empty) := fun w d pos aft g hst => by
 have := Lib.run_unsafeString_none (P := P) (w := w) t t' ty p
 simp [execOp, resolve, invoke, builtin, hx, hy, this]
theorem q_neq_ptr_same {t t' e n : Nat} {a : Addr} (hx : evE E x = .pointer (some a)) (hy : evE E y = .pointer (some a)) (hu : P.underlying t = some (.pointer e)) (he : sizeIs P e = some n) : Quiet P W0 E L (.binOp .neq t x y t') ty (.bool false) :=
 q_neq_gen (r := true) hx hy rfl fun w => by
  unfold sizeIs at he
  obtain ⟨j, hj, hjn⟩ := Option.map_eq_some_iff.1 he
  have h : ∀ d : Nat, (Op.equalIn (d + 1) t (.pointer (some a)) (.pointer (some a))).run P w = .ok true w := fun d => by
   simp [Op.equalIn, run_underlying hu, sizeOf, typeInfo, hj, run_sameAddr_same]
  exact h 9999
def frzO (o : Obj) (n : Nat) : Obj := match o with | .cells c elem (lo, hi) => .cells c elem (if lo == hi then (0, 0 + n) else (min lo 0, max hi (0 + n))) | o => o
theorem st_freeze {b n : Nat} {o : Obj} (h : st W0 w (own b o :: L)) : st W0 (w.freeze ⟨b, 0, none⟩ n) L := by
  have hb := (st_own (i := 0) h rfl).2
  unfold World.freeze
  split
  · exact st_drop h
  · refine st_drop (st_upd (o' := frzO o n) h rfl rfl rfl (by simp) ?_ (fun k hk _ => ?_))
    · simp only [Array.getElem?_modify, if_pos, hb, Option.map_some]; rfl
    · simp [Array.getElem?_modify, Ne.symm hk]
theorem e_unsafe_string {t t' e b cap i : Nat} {l : List UInt8} (hp : P.underlying t = some (.pointer e)) (hce : P.cellsOf e = 1) (hx : evE E x = .pointer (some ⟨b, 0, none⟩)) (hy : evE E y = .int .i64 ((l.length : Nat) : Int)) (h0 : 0 < l.length) (h63 : l.length ≤ 9223372036854775807)
  (hi : L[i]? = some (slp e 1 b cap (l.map fun c => Value.int .u8 c.toNat))) : Eff P W0 E L (.call { callee := .builtin .unsafeString, args := #[x, y], argTypes := #[t, t'] }) ty (X := Unit) (fun _ => True) (fun _ => .string ⟨l.toArray⟩) (fun _ => L.eraseIdx i) := fun w d pos aft g hst => by
 have h1 := st_at hst hi
 obtain ⟨cur, ⟨c1, c2, c3, c4⟩, hpt⟩ := slp_open h1
 have hb := (st_own (i := 0) hpt rfl).2
 have hr := Lib.run_unsafeString_row (P := P) w t t' ty e hp hce b cur.length (by simp [World.shape?, hb]) l (by intro h; rw [h] at h0; simp at h0) (by simpa using c2) h63 (fun j x hj => by
  have : (Has W0 L b (0 + j) (.int .u8 x.toNat)) := .row hi (by simp [hj])
  rw [add_mk]
  exact this.cell hst)
 have : (execOp (evE E) { dst := d, op := .call { callee := .builtin .unsafeString, args := #[x, y], argTypes := #[t, t'] }, type := ty, pos := pos, after := aft, guard := g }).run P w = .ok (.value (.string ⟨l.toArray⟩)) (w.freeze ⟨b, 0, none⟩ l.length) := by
  simp [execOp, resolve, invoke, builtin, hx, hy, hr]
 rw [this]
 exact ⟨(), trivial, rfl, st_freeze hpt⟩
end
end Go.SL
namespace Go.Proofs
open Go.Shelf
def Tryz.lays105_ren : Go.Shelf.Ren := ⟨fun | 105 => 285 | 212 => 307 | 99 => 308 | 165 => 309 | 166 => 264 | 170 => 263 | 169 => 265 | 263 => 320 | 264 => 321 | 206 => 322 | 240 => 286 | 241 => 323 | 276 => 310 | 277 => 326 | n => n, fun | 9 => 9 | 3 => 3 | 4 => 4 | 20 => 20 | 0 => 0 | 46 => 133 | 109 => 477 | 5 => 5 | 72 => 431 | 76 => 435 | 51 => 472 | 146 => 490 | 53 => 457 | 148 => 492 | 70 => 429 | 37 => 105 | 75 => 434 | 127 => 459 | 164 => 479 | 80 => 106 | n => n, fun | n => n⟩
theorem Tryz.lays105 : Go.Proofs.Lays.n105 Tryz.prog Tryz.lays105_ren := {
 mixed := by kernel_rfl
 f99 := Tryz.func308.trans (congrArg some (by kernel_rfl))
 f105 := Tryz.func285.trans (congrArg some (by kernel_rfl))
 f165 := Tryz.func309.trans (congrArg some (by kernel_rfl))
 f166 := Tryz.func264.trans (congrArg some (by kernel_rfl))
 f169 := Tryz.func265.trans (congrArg some (by kernel_rfl))
 f170 := Tryz.func263.trans (congrArg some (by kernel_rfl))
 f206 := Tryz.func322.trans (congrArg some (by kernel_rfl))
 f212 := Tryz.func307.trans (congrArg some (by kernel_rfl))
 f240 := Tryz.func286.trans (congrArg some (by kernel_rfl))
 f241 := Tryz.func323.trans (congrArg some (by kernel_rfl))
 f263 := Tryz.func320.trans (congrArg some (by kernel_rfl))
 f264 := Tryz.func321.trans (congrArg some (by kernel_rfl))
 f276 := Tryz.func310.trans (congrArg some (by kernel_rfl))
 f277 := Tryz.func326.trans (congrArg some (by kernel_rfl))
 t0 := Tryz.underlying0
 a0 := Tryz.isAgg0
 z0 := Tryz.sizeOf0
 v0 := Tryz.zeroValue0
 t3 := Tryz.underlying3
 a3 := Tryz.isAgg3
 z3 := Tryz.sizeOf3
 v3 := Tryz.zeroValue3
 t4 := Tryz.underlying4
 a4 := Tryz.isAgg4
 z4 := Tryz.sizeOf4
 v4 := Tryz.zeroValue4
 t5 := Tryz.underlying5
 a5 := Tryz.isAgg5
 z5 := Tryz.sizeOf5
 v5 := Tryz.zeroValue5
 t9 := Tryz.underlying9
 a9 := Tryz.isAgg9
 z9 := Tryz.sizeOf9
 v9 := Tryz.zeroValue9
 t20 := Tryz.underlying20
 a20 := Tryz.isAgg20
 z20 := Tryz.sizeOf20
 v20 := Tryz.zeroValue20
 t37 := Tryz.underlying105
 a37 := Tryz.isAgg105
 z37 := Tryz.sizeOf105
 v37 := Tryz.zeroValue105
 t46 := Tryz.underlying133
 a46 := Tryz.isAgg133
 z46 := Tryz.sizeOf133
 v46 := Tryz.zeroValue133
 t51 := Tryz.underlying472
 a51 := Tryz.isAgg472
 z51 := Tryz.sizeOf472
 v51 := Tryz.zeroValue472
 t53 := Tryz.underlying457
 a53 := Tryz.isAgg457
 z53 := Tryz.sizeOf457
 v53 := Tryz.zeroValue457
 t70 := Tryz.underlying429
 a70 := Tryz.isAgg429
 z70 := Tryz.sizeOf429
 v70 := Tryz.zeroValue429
 t72 := Tryz.underlying431
 a72 := Tryz.isAgg431
 z72 := Tryz.sizeOf431
 v72 := Tryz.zeroValue431
 t75 := Tryz.underlying434
 a75 := Tryz.isAgg434
 z75 := Tryz.sizeOf434
 v75 := Tryz.zeroValue434
 t76 := Tryz.underlying435
 a76 := Tryz.isAgg435
 z76 := Tryz.sizeOf435
 v76 := Tryz.zeroValue435
 t109 := Tryz.underlying477
 a109 := Tryz.isAgg477
 z109 := Tryz.sizeOf477
 v109 := Tryz.zeroValue477
 t127 := Tryz.underlying459
 a127 := Tryz.isAgg459
 z127 := Tryz.sizeOf459
 v127 := Tryz.zeroValue459
 t146 := Tryz.underlying490
 a146 := Tryz.isAgg490
 z146 := Tryz.sizeOf490
 v146 := Tryz.zeroValue490
 t148 := Tryz.underlying492
 a148 := Tryz.isAgg492
 z148 := Tryz.sizeOf492
 v148 := Tryz.zeroValue492
 t164 := Tryz.underlying479
 a164 := Tryz.isAgg479
 z164 := Tryz.sizeOf479
 v164 := Tryz.zeroValue479 }
theorem Tryz.Builder_Extra_105 : Builder.Extra Tryz.prog Tryz.lays105_ren := {
 sizeBuilder := by kernel_rfl
 liesBuilder := by kernel_rfl
 t5 := Tryz.underlying5
 a5 := Tryz.isAgg5
 z5 := Tryz.sizeOf5
 v5 := Tryz.zeroValue5
 infoByte := by kernel_rfl
 cellsByte := by kernel_rfl
 sizeByte := by kernel_rfl
 neB5 := by decide }
open Go.RowKit Go.Lib in
theorem Tryz.strings_Repeat (s : ByteArray) (c : Nat) (w : World) (hc : c ≤ 9223372036854775807) (hlen : s.size * c ≤ 140737488355328) :
  Calls Tryz.prog 285 #[.string s, .int .i64 c] w fun e w' => e = .returned (.string ⟨(Lib.repeatL s.data.toList c).toArray⟩) ∧ Below w.heap.size w w' := Any.strings_Repeat Tryz.lays105 Tryz.Builder_Extra_105 s c w hc hlen
end Go.Proofs
