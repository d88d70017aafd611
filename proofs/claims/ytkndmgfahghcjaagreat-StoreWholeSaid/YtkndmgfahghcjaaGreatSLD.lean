import Derived.Test.YtkndmgfahghcjaaGreatSLR
import Derived.Defers
import Derived.Lib.AppendStr
/- Deferred calls and results that lie in cells, for the small separation logic. -/
namespace Go.SL
open Go Go.RowKit

/-- A contract of a function that is called as a deferred one. -/
def ConD (P : Program) (W0 : World) (f : FuncId) (args : Array Value) (pre : List HP) {X : Type} (φ : X → Prop) (post : X → List HP) : Prop :=
 ∀ (w : World) (u : FrameMode) (F : List HP), st W0 w (pre ++ F) → CallsD P f args u w fun e u' w' => u' = u ∧ Ret (fun _ w' => ∃ x, φ x ∧ st W0 w' (post x ++ F)) e w'

section
variable {P : Program} {W0 : World} {Q : Exit → Act → World → Prop} {n : Nat} {D : List Deferred} {ops : Array Oper} {E : Nat → Value} {L : List HP}
 {d : Option Tmp} {ty : TypeId} {pos : String} {aft : Array Edge} {os : List Oper}

theorem Wl.defer {c : Op} {fv : Operand} {fn : Fn} {us vs : Array Value} (hc : c = .defer { callee := .value fv, args := #[], argTypes := #[] }) (hx : evE E fv = .func fn us vs)
  (k : Wl P W0 Q n ({ target := .fn fn vs, args := us ++ #[] } :: D) ops os E L) :
  Wl P W0 Q n D ops ({ dst := none, op := c, type := ty, pos := pos, after := aft, guard := none } :: os) E L := fun a w ha hs => by
 subst hc
 unfold wpList
 rw [if_pos (by rw [ha.wanted]; rfl)]
 refine .inl ?_
 unfold Oper.wp
 rw [ha.eval]
 have hr : (execOp (evE E) { dst := none, op := .defer { callee := .value fv, args := #[], argTypes := #[] }, type := ty, pos := pos, after := aft, guard := none }).run P w = .ok (.defer { target := .fn fn vs, args := us ++ #[] }) w := by
  simp [execOp, resolve, hx, Deferred.ofValue]
 rw [hr, Oper.upon_defer]
 exact k _ _ ⟨ha.size, by show _ :: a.defers = _; rw [ha.defers], ha.val⟩ hs

theorem ConD.of {f : FuncId} {fn : Func} {c : Code} {args : List Value} {pre : List HP} {X : Type} {φ : X → Prop} {val : X → Value} {post : X → List HP} {n : Nat}
    (hf : P.funcs[f]? = some fn) (hb : fn.body = some c) (hn : fn.ntmps = n) (hle : Nat.ble args.length n = true)
    (k : ∀ F, Wc P W0 (bodyPost P fn (Ret fun v w' => ∃ x, φ x ∧ v = val x ∧ st W0 w' (post x ++ F))) n [] c (fun t => args.getD t undef) (pre ++ F)) :
    ConD P W0 f args.toArray pre φ post := fun w u F hs => by
  have hle' : args.length ≤ n := Nat.le_of_ble_eq_true hle
  refine CallsD.mono (callsD_of_wp hf hb (k F _ w ⟨?_, rfl, fun t => ?_⟩ hs)) fun e u' w' h => ⟨h.1, ?_⟩
  · simp [hn]; omega
  · simp only [Array.getD_eq_getD_getElem?, List.getD_eq_getElem?_getD, Array.getElem?_append, hn]
    by_cases ht : t < args.length
    · rw [if_pos (by simpa using ht)]; simp [ht]
    · rw [if_neg (by simpa using ht)]
      simp [List.getElem?_eq_none (Nat.le_of_not_lt ht), Array.getElem?_replicate]
      split <;> rfl
  · cases e with
    | returned v => obtain ⟨x, hx, _, hs⟩ := h.2; exact ⟨x, hx, hs⟩
    | panicked c => exact h.2
    | outgrown => exact h.2

theorem Con.ofD {f : FuncId} {fn : Func} {c : Code} {args : List Value} {pre : List HP} {X : Type} {φ : X → Prop} {val : X → Value} {post : X → List HP} {n : Nat}
    (hf : P.funcs[f]? = some fn) (hb : fn.body = some c) (hn : fn.ntmps = n) (hle : Nat.ble args.length n = true)
    (k : ∀ F, Wc P W0 (bodyPostD P fn (Ret fun v w' => ∃ x, φ x ∧ v = val x ∧ st W0 w' (post x ++ F))) n [] c (fun t => args.getD t undef) (pre ++ F)) :
    Con P W0 f args.toArray pre φ val post := fun w F hs => by
  have hle' : args.length ≤ n := Nat.le_of_ble_eq_true hle
  refine calls_of_wp_defers hf hb (k F _ w ⟨?_, rfl, fun t => ?_⟩ hs)
  · simp [hn]; omega
  · simp only [Array.getD_eq_getD_getElem?, List.getD_eq_getElem?_getD, Array.getElem?_append, hn]
    by_cases ht : t < args.length
    · rw [if_pos (by simpa using ht)]; simp [ht]
    · rw [if_neg (by simpa using ht)]
      simp [List.getElem?_eq_none (Nat.le_of_not_lt ht), Array.getElem?_replicate]
      split <;> rfl

/-- The results: the first lies in a cell. -/
theorem results_cell {fn : Func} {t ty' b off : Nat} {v : Value} {tmps : Array Value} {w : World} (hr : fn.results = #[.cell t ty']) (hsc : scalar P ty' = true) (hp : tmps.getD t undef = .pointer (some ⟨b, off, none⟩)) (hc : w.cell? ⟨b, off, none⟩ = some v) :
  (results fn tmps).run P w = .ok v w := by
 rw [Array.getD_eq_getD_getElem?] at hp
 simp [results, hr, hp, asAddr, loadVar, isAgg_scalar hsc, hc]
theorem results_cell_tmp {fn : Func} {t u ty' b off : Nat} {v : Value} {tmps : Array Value} {w : World} (hr : fn.results = #[.cell t ty', .tmp u]) (hsc : scalar P ty' = true) (hp : tmps.getD t undef = .pointer (some ⟨b, off, none⟩)) (hc : w.cell? ⟨b, off, none⟩ = some v) :
  (results fn tmps).run P w = .ok (.tuple #[v, tmps.getD u undef]) w := by
 rw [Array.getD_eq_getD_getElem?] at hp
 simp [results, hr, hp, asAddr, loadVar, isAgg_scalar hsc, hc]

theorem Wx.finC2 {fn : Func} {t u ty' b off : Nat} {v : Value} {X : Type} {φ : X → Prop} {val : X → Value} {M : X → List HP} {F : List HP} {e : Exit} (hr : fn.results = #[.cell t ty', .tmp u]) (he : e = .ret ∨ e = .normal) (hsc : scalar P ty' = true)
  (hp : E t = .pointer (some ⟨b, off, none⟩)) (hc : Has W0 L b off v) (h : ∀ w, st W0 w L → ∃ x, φ x ∧ Value.tuple #[v, E u] = val x ∧ st W0 w (M x ++ F)) :
  Wx (bodyPost P fn (Ret fun v w' => ∃ x, φ x ∧ v = val x ∧ st W0 w' (M x ++ F))) n [] e E L (W0 := W0) := fun a w ha hs => by
 rcases he with rfl | rfl
 all_goals exact ⟨ha.defers, _, results_cell_tmp hr hsc (by rw [ha.val]; exact hp) (hc.cell hs), by rw [ha.val]; exact h w hs⟩

/-- The end of a function with one deferred call, its result in a cell. -/
theorem Wx.finD1 {fn : Func} {g t ty' b off : Nat} {us vs : Array Value} {args : List Value} {X Y : Type} {φ : X → Prop} {val : X → Value} {M : X → List HP} {F pre R : List HP} {ψ : Y → Prop} {post : Y → List HP} {v : Y → Value} {e : Exit}
  (hr : fn.results = #[.cell t ty']) (he : e = .ret ∨ e = .normal) (hsc : scalar P ty' = true) (hp : E t = .pointer (some ⟨b, off, none⟩))
  (hcall : ∀ args w, (callFunc g args).run P w = .ok (.enter g args) w) (hargs : us.toList ++ vs.toList = args) (hcon : ConD P W0 g args.toArray pre ψ post) (hL : ∀ w, st W0 w L → st W0 w (pre ++ R))
  (hc : ∀ y, ψ y → Has W0 (post y ++ R) b off (v y)) (h : ∀ y, ψ y → ∀ w, st W0 w (post y ++ R) → ∃ x, φ x ∧ v y = val x ∧ st W0 w (M x ++ F)) :
  Wx (bodyPostD P fn (Ret fun v w' => ∃ x, φ x ∧ v = val x ∧ st W0 w' (M x ++ F))) n [{ target := .fn (.func g) vs, args := us ++ #[] }] e E L (W0 := W0) := fun a w ha hs => by
 have hargs' : us ++ vs = args.toArray := by subst hargs; apply Array.ext'; simp
 have hl : Leaves P fn a.tmps (Ret fun v w' => ∃ x, φ x ∧ v = val x ∧ st W0 w' (M x ++ F)) a.defers .returning w := by
  rw [ha.defers]
  refine leaves_cons (fun h => by cases h) (f := g) (args := args.toArray) (by simp only [Array.append_empty, invoke, hargs']; exact hcall _ _) (CallsD.mono (hcon w .returning R (hL w hs)) ?_)
  rintro e' u' w' ⟨rfl, h'⟩
  cases e' with
  | returned v' =>
   obtain ⟨y, hy, hs'⟩ := h'
   exact ⟨_, results_cell hr hsc (by rw [ha.val]; exact hp) ((hc y hy).cell hs'), h y hy w' hs'⟩
  | panicked c => exact h'.elim
  | outgrown => exact h'.elim
 rcases he with rfl | rfl
 all_goals exact hl
end

section
variable {P : Program} {W0 : World} {E : Nat → Value} {L : List HP} {x : Operand} {ty : TypeId}
theorem q_neg {t : TypeId} {k : IntKind} {a c : Int} (hx : evE E x = .int k a) (hc : k.wrap (-a) = c) : Quiet P W0 E L (.unOp .neg t x) ty (.int k c) := fun w d pos aft g _ => by
 subst hc; simp [execOp, Op.unary, Op.intArith, hx]
end

/-! ### A string's bytes behind those of a slice -/
section
variable {P : Program} {W0 : World} {E : Nat → Value} {L : List HP} {x y : Operand} {v : Value} {ty : TypeId}
theorem e_appendStr {t u e n i : Nat} {s : ByteArray} {xs : List Value} (hu : P.underlying t = some (.slice e)) (hus : P.underlying u = some .string) (hs : sizeIs P e = some 1) (hb : (P.info? e).map (·.bytes) = some 1) (hz : zeroOf P e = some (.int .u8 0))
    (hx : evE E x = v) (hi : L[i]? = some (sl e 1 v n xs)) (hy : evE E y = .string s) (h63 : n + s.size ≤ maxLen) (hbytes : n + s.size ≤ 140737488355328) :
    Eff P W0 E L (.call { callee := .builtin .append, args := #[x, y], argTypes := #[t, u] }) ty (X := Value) (fun _ => True) (fun v' => v') (fun v' => L.set i (sl e 1 v' (n + s.size) (xs ++ Lib.strCells s))) := fun w d pos aft g hst => by
  unfold sizeIs at hs
  unfold zeroOf at hz
  cases hinf : P.info? e with
  | none => simp [hinf] at hs
  | some inf =>
    simp only [hinf, Option.map_some, Option.some.injEq, Option.bind_some] at hs hb hz
    have hml : n + s.size ≤ 9223372036854775807 := by simpa [maxLen] using h63
    have hat := st_at hst hi
    have fin : ∀ (v' : Value) (w' : World), (Builtin.append_ #[t, u] ty #[v, .string s]).run P w = .ok v' w' → st W0 w' (sl e 1 v' (n + s.size) (xs ++ Lib.strCells s) :: L.eraseIdx i) →
        Upon P (fun u' w' => ∃ x, True ∧ u' = x ∧ st W0 w' (L.set i (sl e 1 x (n + s.size) (xs ++ Lib.strCells s)))) ((execOp (evE E) { dst := d, op := .call { callee := .builtin .append, args := #[x, y], argTypes := #[t, u] }, type := ty, pos := pos, after := aft, guard := g }).run P w) := fun v' w' hr hst' => by
      have : (execOp (evE E) { dst := d, op := .call { callee := .builtin .append, args := #[x, y], argTypes := #[t, u] }, type := ty, pos := pos, after := aft, guard := g }).run P w = .ok (.value v') w' := by
        simp [execOp, resolve, invoke, builtin, hx, hy, hr]
      rw [this]
      exact ⟨v', trivial, rfl, st_set hi hst'⟩
    have hsl := Lib.strCells_length s
    have grown : ∀ (old : Nat) (w2 : World), st W0 w2 (L.eraseIdx i) → xs.length = n * 1 → (∀ k, (grownCap w (n + s.size) old e) = k → n + s.size ≤ k → k ≤ maxLen →
        st W0 (w2.alloc (.cells (xs.toArray ++ (Lib.strCells s).toArray ++ Builtin.zeroCells (Value.int .u8 0).cells (k - (n + s.size))) e)) (sl e 1 (.slice (some ⟨w2.heap.size, 0, none⟩) (n + s.size) k) (n + s.size) (xs ++ Lib.strCells s) :: L.eraseIdx i)) := fun old w2 hw2 hxl k _ hge hle => by
      have hlen : (xs ++ Lib.strCells s).length = (n + s.size) * 1 := by rw [List.length_append, hxl, hsl]; omega
      refine st_sl_mk hlen hge ?_
      have hcur : (xs.toArray ++ (Lib.strCells s).toArray ++ Builtin.zeroCells (Value.int .u8 0).cells (k - (n + s.size))) = (xs ++ Lib.strCells s ++ (Builtin.zeroCells (Value.int .u8 0).cells (k - (n + s.size))).toList).toArray := by simp
      rw [hcur]
      refine st_head (fun h hp => ⟨xs ++ Lib.strCells s ++ (Builtin.zeroCells (Value.int .u8 0).cells (k - (n + s.size))).toList, ?_, ?_, hle, ?_, hp⟩) (st_new (o := .cells (xs ++ Lib.strCells s ++ (Builtin.zeroCells (Value.int .u8 0).cells (k - (n + s.size))).toList).toArray e (0, 0)) hw2)
      · have hz1 : (Value.int IntKind.u8 0).cells.size = 1 := rfl
        simp only [List.length_append, Array.length_toList, size_zeroCells, hz1, hxl, hsl]
        omega
      · simp
      · rw [List.take_left]
    rcases st_sl_cases hat with ⟨rfl, rfl, rfl⟩ | ⟨g', cap, rfl, hnc, hxl, hs2⟩
    · by_cases hm : s.size = 0
      · have hn : Lib.strCells s = [] := List.eq_nil_of_length_eq_zero (by rw [hsl]; exact hm)
        have hf := Lib.run_firstCells_string (P := P) w 1 s
        rw [hm] at hf
        have hr : (Builtin.append_ #[t, u] ty #[.slice none 0 0, .string s]).run P w = .ok (.slice none 0 0) w := by
          simp [Builtin.append_, run_underlying hu, run_underlying hus, sizeOf, typeInfo, hinf, hs, Builtin.lenOf, hm, hf]
        refine fin _ _ hr ?_
        rw [hm, hn]
        exact hat
      · have hr := run_append_nil_string (P := P) w t u ty e inf (.int .u8 0) hu hus hinf hz s (by omega) (by omega) (by rw [hb]; omega)
        have e1 : (s.data.map fun b => Value.int .u8 b.toNat) = (Lib.strCells s).toArray := by
          apply Array.ext'
          simp [Lib.strCells]
        rw [e1] at hr
        refine fin _ _ hr ?_
        have := grown 0 w.drew (st_drew (st_drop hat)) (by simp) _ rfl (grownCap_ge _ _ _ _) (grownCap_le_maxLen _ _ _ _ h63)
        simpa using this
    · obtain ⟨cur, ⟨e1, e2, e3, e4⟩, hpt⟩ := slp_open hs2
      have hg := (st_own (i := 0) hpt rfl).2
      by_cases hroom : n + s.size ≤ cap
      · have hr := Lib.run_append_room_string (P := P) w t u ty e inf hu hus hinf hs g' n cap cur.toArray hg s hroom (by simp; omega)
        refine fin _ _ hr (st_sl_mk (by rw [List.length_append, hxl, hsl]; omega) hroom ?_)
        refine st_head (fun h hp => ⟨_, ?_, ?_, e3, ?_, hp⟩) (st_row hpt)
        · simp only [List.length_append, List.length_take, List.length_drop, hsl]
          omega
        · simp only [List.length_append, List.length_take, List.length_drop, hsl]
          omega
        · simp only
          rw [show cur.take n = xs from by rw [show n = xs.length by omega]; exact e4]
          exact List.take_left
      · have holds : ∀ j u', xs[j]? = some u' → w.cell? ((⟨g', 0, none⟩ : Addr).add j) = some u' := fun j u' hj => by
          rw [add_mk]
          exact (Has.row (i := 0) (L := slp e 1 g' cap xs :: L.eraseIdx i) (W0 := W0) rfl (by simpa using hj)).cell hs2
        have hr := Lib.run_append_grow_string (P := P) w t u ty e inf (.int .u8 0) hu hus hinf hz ⟨g', 0, none⟩ n cap xs (by rw [hs]; exact hxl) holds s (by omega) (by omega) (by rw [hb]; exact growslice_fits (by omega) (by omega))
        refine fin _ _ hr ?_
        exact grown cap w.drew (st_drew (st_drop hat)) hxl _ rfl (grownCap_ge _ _ _ _) (grownCap_le_maxLen _ _ _ _ h63)
end
end Go.SL

