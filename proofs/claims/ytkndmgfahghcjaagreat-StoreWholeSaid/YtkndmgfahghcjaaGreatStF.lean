import Derived.Test.YtkndmgfahghcjaaGreatStE
import Derived.Test.YtkndmgfahghcjaaGreatSLP
import Derived.Test.YtkndmgfahghcjaaGreatSLK
import Derived.ChangeKeysEq
import Derived.DeepKeys
/- Contracts of the calls. -/
namespace Go.Proofs.YtkndmgfahghcjaaGreat
open Go Go.SL Go.St Go.Wr Go.RowKit
open Go.Dk (DS WF)
open Go.Jn (JS Ok openD_up)
set_option linter.unusedVariables false
set_option maxRecDepth 8000
theorem eg_44 : Tryz.prog.eqGuardType Tryz.prog.depth 44 = false := by kernel_rfl
open Go.Deep
def pairV (p : PairR) : Value := .agg #[.string p.n, .string p.t, .bool p.g]
def okP (p : PairR) : Prop := p.n.size ≤ 9223372036854775807 ∧ p.t.size ≤ 9223372036854775807
theorem laidOut0 : laidOutB Tryz.prog = true := by kernel_rfl
theorem rowP : (44 : TypeId) < Tryz.prog.types.size := of_decide_eq_true (by kernel_rfl)
theorem wideP : (match Tryz.prog.underlying 44 with | some (.array _ _) | some (.struct _) => true | _ => false) = true := by rw [Tryz.underlying44]
theorem keyTyP : Tryz.prog.keyTypeAt 2 44 = true := by kernel_rfl
theorem tiledP : Tryz.prog.tiled 2 44 = true := tiled_of_laidOut laidOut0 2 44 (by kernel_rfl) keyTyP
theorem depthP : ∃ d, Tryz.prog.types.size + 1 = d + 1 + 1 := ⟨Tryz.prog.types.size - 1, by have h : 0 < Tryz.prog.types.size := Nat.lt_of_le_of_lt (Nat.zero_le _) rowP; omega⟩
set_option maxRecDepth 100000 in
theorem keyP {t : PairR} (h : okP t) : ∃ l, keyOf Tryz.prog 44 (pairV t) = some l := by
 obtain ⟨h1, h2⟩ := h
 obtain ⟨d, hd⟩ := depthP
 have w1 : t.n.size ≤ maxLen := h1
 have w2 : t.t.size ≤ maxLen := h2
 have hkt : Tryz.prog.keyType 44 = true := by kernel_rfl
 have hf : (pairV t).formed Tryz.prog 44 = true := by
  have hc : Tryz.prog.cellsOf 44 = 3 := by kernel_rfl
  simp [Value.formed, pairV, Tryz.underlying44, hc]
 have hl : ∃ ls, Tryz.prog.keyLits (Tryz.prog.types.size + 1) 44 (pairV t).cells.toList = some ls := by
  have hc : Tryz.prog.cellsOf 44 = 3 := by kernel_rfl
  have c1 : Tryz.prog.cellsOf 9 = 1 := by kernel_rfl
  have c2 : Tryz.prog.cellsOf 4 = 1 := by kernel_rfl
  rw [hd]
  simp [Program.keyLits, Lit.wf, pairV, Value.cells, Tryz.underlying44, Tryz.underlying9, Tryz.underlying4, hc, c1, c2, w1, w2]
 obtain ⟨ls, hls⟩ := hl
 exact ⟨.string (keyBytes ls), by unfold keyOf; rw [Tryz.underlying44]; simp only [hkt, hf, Bool.and_self, if_true, hls, Option.map_some]⟩
theorem pairV_inj {a b : PairR} (h : pairV a = pairV b) : a = b := by
 obtain ⟨n, t, g⟩ := a; obtain ⟨n', t', g'⟩ := b
 unfold pairV at h
 injection h with h
 have h2 := congrArg Array.toList h
 simp at h2
 obtain ⟨h1, h2, h3⟩ := h2
 subst h1; subst h2; subst h3; rfl
set_option maxRecDepth 100000 in
theorem eqP {t u : PairR} (ht : okP t) (hu : okP u) (w : World) : (Op.equal 44 (pairV t) (pairV u)).run Tryz.prog w = .ok (decide (t = u)) w := by
  obtain ⟨lt, hlt⟩ := keyP ht
  obtain ⟨lu, hlu⟩ := keyP hu
  obtain ⟨r, hr, hiff⟩ := run_equal_deep w (m := 2) (by omega) keyTyP wideP hlt hlu
  rw [hr]
  congr 1
  by_cases e : t = u
  · subst e
    rw [hlt] at hlu
    rw [decide_eq_true rfl]; exact hiff.2 (Option.some.inj hlu)
  · rw [decide_eq_false e]
    cases r with
    | false => rfl
    | true => exact absurd (pairV_inj (keyOf_inj_deep tiledP wideP hlt ((hiff.1 rfl) ▸ hlu))) e
theorem eqP_true {t u : PairR} (ht : okP t) (hu : okP u) (h : t = u) (w : World) : (Op.equal 44 (pairV t) (pairV u)).run Tryz.prog w = .ok true w := by rw [eqP ht hu, decide_eq_true h]
theorem eqP_false {t u : PairR} (ht : okP t) (hu : okP u) (h : ¬ t = u) (w : World) : (Op.equal 44 (pairV t) (pairV u)).run Tryz.prog w = .ok false w := by rw [eqP ht hu, decide_eq_false h]

theorem size_c (W0 : World) (vl : Value) (l : List PairR) (hl : Rd W0 vl l.length (l.flatMap pairCells)) (hlm : l.length ≤ 9223372036854775807) :
    Con Tryz.prog W0 11 #[vl] [] (X := Int) (fun r => (-9223372036854775808 ≤ r ∧ r ≤ 9223372036854775807) ∧ (268435456 ≤ l.length → r = (l.length : Int)) ∧ ((∀ p ∈ l, ¬ longP p) → (l.length : Int) ≤ r)) (fun r => .int .i64 r) (fun r => []) := by
  refine Con.of (args := [vl]) Tryz.func11 rfl Tryz.ntmps11 rfl (fun F => ?_)
  show Wc _ W0 _ _ _ _ _ (F)
  refine Wc.seq (Wc.region (Wl.q (v := Value.int .i64 0) (q_assign rfl) (Wl.done (Wx.go (Wc.seq (Wc.region (Wl.q (v := vl) (q_move rfl) (Wl.q (v := Value.int .i64 ((l.length : Nat) : Int)) (q_len_is Tryz.underlying22 rfl hl.shape) (Wl.q (v := Value.int .i64 ((l.length : Nat) : Int)) (q_assign rfl) (Wl.done (Wx.go ?_)))))))))))
  refine Wc.seq (Wc.seq (Wc.region (Wl.q (v := Value.int .i64 0) (q_assign rfl) (Wl.done (Wx.go (Wc.block ?_))))))
  refine Wc.loop (X := Nat × Int) (fun (k, acc) E => E 4 = Value.int .i64 ((k : Nat) : Int) ∧ E 3 = Value.int .i64 acc ∧ E 0 = vl ∧ (-9223372036854775808 ≤ acc ∧ acc ≤ 9223372036854775807) ∧ k ≤ l.length ∧ (268435456 ≤ l.length → acc = (l.length : Int)) ∧ ((∀ p ∈ l, ¬ longP p) → (l.length : Int) ≤ acc)) (fun (k, acc) => F) (fun (k, acc) => l.length - k) (0, (l.length : Int)) ?_ ?_ ?_
  · exact ⟨rfl, rfl, rfl, (by omega), (by omega), (fun _ => rfl), (fun _ => Int.le_refl _)⟩
  · exact fun w hs => hs
  · rintro ⟨k, acc⟩ E2 ⟨hE4_0, hE3_0, hE0_0, hp0, hp1, hp2, hp3⟩
    dsimp only at *
    refine Wc.seq (Wc.seq (Wc.region (Wl.q (v := Value.int .i64 ((k : Nat) : Int)) (q_move hE4_0) (Wl.q (v := vl) (q_move hE0_0) (Wl.q (v := Value.int .i64 ((l.length : Nat) : Int)) (q_len_is Tryz.underlying22 rfl hl.shape) ?_)))))
    by_cases hlt : ((k : Nat) : Int) < ((l.length : Nat) : Int)
    ·
      obtain ⟨o, hget⟩ : ∃ o, l[k]? = some o := ⟨l[k]'(by omega), List.getElem?_eq_getElem (by omega)⟩
      refine Wl.q (v := Value.bool true) (q_lss (r := true) rfl rfl (decide_eq_true hlt)) (Wl.q (v := Value.bool true) (q_move rfl) (Wl.q (v := Value.int .i64 acc) (q_move hE3_0) ?_))
      by_cases hsm : acc < 268435456
      ·
        refine Wl.q (v := Value.bool true) (q_lss (r := true) rfl rfl (decide_eq_true hsm)) (Wl.q (v := Value.bool true) (q_pick (t := true) rfl rfl) (Wl.done (Wx.go (Wc.yes rfl (Wc.skip (Wx.go (Wc.seq (Wc.block (Wc.drawsS [] ([]) (by kernel_rfl) (Wr.pure (v := Value.int .i64 acc) 0 rfl (by kernel_rfl) (.inr (fun _ h => st_take [] h)) (.inl ⟨rfl, fun _ => q_move hE3_0⟩) (Wr.pure (v := vl) 1 rfl (by kernel_rfl) (.inr (fun _ h => st_take [] h)) (.inl ⟨rfl, fun _ => q_move hE0_0⟩) ?_)))))))))))
        refine Wr.pure (v := Value.int .i64 ((k : Nat) : Int)) 2 rfl (by kernel_rfl) (.inr (fun _ h => st_take [] h)) (.inl ⟨rfl, fun _ => q_move hE4_0⟩) (Wr.pure (v := Value.pointer (some ⟨(rb vl), ro vl + k * 3, none⟩)) 3 rfl (by kernel_rfl) (.inr (fun _ h => st_take [] h)) (.inl ⟨rfl, fun _ => q_idx_is (m := ro vl + k * 3) se_22 rfl (hl.some_ (by omega)) rfl (by omega) (by omega) rfl⟩) (Wr.pure (v := Value.pointer (some ⟨(rb vl), ro vl + k * 3, none⟩)) 4 rfl (by kernel_rfl) (.inr (fun _ h => st_take [] h)) (.inl ⟨rfl, fun _ => q_field (m := ro vl + k * 3) fo_44_0 rfl rfl⟩) (Wr.take (v := Value.string o.n) 5 rfl (by kernel_rfl) (fun _ h => st_take [] h) (.inl ⟨rfl, q_load sc_9 rfl (.old (rdP hl hget 0 rfl))⟩) (Wr.take (v := Value.int .i64 ((o.n.size : Nat) : Int)) 6 rfl (by kernel_rfl) (fun _ h => st_take [] h) (.inl ⟨rfl, q_len_str Tryz.underlying9 rfl⟩) (Wr.pure (v := Value.int .i64 (IntKind.i64.wrap (acc + ((o.n.size : Nat) : Int)))) 7 rfl (by kernel_rfl) (.inr (fun _ h => st_take [] h)) (.inl ⟨rfl, fun _ => q_add (c := (IntKind.i64.wrap (acc + ((o.n.size : Nat) : Int)))) rfl rfl rfl⟩) (Wr.pure (v := vl) 8 rfl (by kernel_rfl) (.inr (fun _ h => st_take [] h)) (.inl ⟨rfl, fun _ => q_move hE0_0⟩) (Wr.pure (v := Value.int .i64 ((k : Nat) : Int)) 9 rfl (by kernel_rfl) (.inr (fun _ h => st_take [] h)) (.inl ⟨rfl, fun _ => q_move hE4_0⟩) (Wr.pure (v := Value.pointer (some ⟨(rb vl), ro vl + k * 3, none⟩)) 10 rfl (by kernel_rfl) (.inr (fun _ h => st_take [] h)) (.inl ⟨rfl, fun _ => q_idx_is (m := ro vl + k * 3) se_22 rfl (hl.some_ (by omega)) rfl (by omega) (by omega) rfl⟩) (Wr.pure (v := Value.pointer (some ⟨(rb vl), ro vl + k * 3 + 1, none⟩)) 11 rfl (by kernel_rfl) (.inr (fun _ h => st_take [] h)) (.inl ⟨rfl, fun _ => q_field (m := ro vl + k * 3 + 1) fo_44_1 rfl rfl⟩) (Wr.take (v := Value.string o.t) 12 rfl (by kernel_rfl) (fun _ h => st_take [] h) (.inl ⟨rfl, q_load sc_9 rfl (.old (rdP hl hget 1 rfl))⟩) (Wr.take (v := Value.int .i64 ((o.t.size : Nat) : Int)) 13 rfl (by kernel_rfl) (fun _ h => st_take [] h) (.inl ⟨rfl, q_len_str Tryz.underlying9 rfl⟩) ?_)))))))))))
        refine Wr.pure (v := Value.int .i64 (IntKind.i64.wrap (IntKind.i64.wrap (acc + ((o.n.size : Nat) : Int)) + ((o.t.size : Nat) : Int)))) 14 rfl (by kernel_rfl) (.inr (fun _ h => st_take [] h)) (.inl ⟨rfl, fun _ => q_add (c := (IntKind.i64.wrap (IntKind.i64.wrap (acc + ((o.n.size : Nat) : Int)) + ((o.t.size : Nat) : Int)))) rfl rfl rfl⟩) (Wr.pure (v := Value.int .i64 (IntKind.i64.wrap (IntKind.i64.wrap (acc + ((o.n.size : Nat) : Int)) + ((o.t.size : Nat) : Int)))) 15 rfl (by kernel_rfl) (.inr (fun _ h => st_take [] h)) (.inl ⟨rfl, fun _ => q_assign rfl⟩) (Wr.done (by kernel_rfl) (Wx.blockEnd (Wx.go (Wc.region (Wl.q (v := Value.int .i64 ((k : Nat) : Int)) (q_move hE4_0) (Wl.q (v := Value.int .i64 ((k + 1 : Nat) : Int)) (q_add (c := ((k + 1 : Nat) : Int)) rfl rfl (by rw [wrap_i64] <;> omega)) (Wl.q (v := Value.int .i64 ((k + 1 : Nat) : Int)) (q_assign rfl) (Wl.done ?_)))))))))
        refine Wx.at (k + 1, IntKind.i64.wrap (IntKind.i64.wrap (acc + (o.n.size : Int)) + (o.t.size : Int))) ⟨(by simp only; omega), rfl, rfl, hE0_0, (wrap_range _), (by simp only; omega), (fun hh => by have := hp2 hh; omega), (fun hh => by have := hp3 hh; have h2 := hh o (List.mem_of_getElem? hget); unfold longP at h2; rw [wrap_i64 (a := acc + (o.n.size : Int)) (by omega) (by omega), wrap_i64 (by omega) (by omega)]; omega)⟩ (fun w hs => hs)
      ·
        refine Wl.q (v := Value.bool false) (q_lss (r := false) rfl rfl (decide_eq_false hsm)) (Wl.q (v := Value.bool false) (q_pick (t := true) rfl rfl) (Wl.done (Wx.go (Wc.no rfl (Wc.exit (Wx.thenExit (Wx.thenExit (Wx.out (Wx.go (Wc.seq (Wc.region ?_)))))))))))
        refine Wl.q (v := Value.int .i64 acc) (q_move hE3_0) (Wl.q (v := Value.int .i64 acc) (q_assign rfl) (Wl.done (Wx.go (Wc.ret (Wx.fin1 rfl (.inl rfl) (fun w hs => ?_))))))
        exact ⟨acc, ⟨hp0, hp2, hp3⟩, rfl, hs⟩
    ·
      refine Wl.q (v := Value.bool false) (q_lss (r := false) rfl rfl (decide_eq_false hlt)) (Wl.q (v := Value.bool false) (q_move rfl) (Wl.no (Wl.no (Wl.q (v := Value.bool false) (q_pick (t := false) rfl rfl) (Wl.done (Wx.go (Wc.no rfl (Wc.exit (Wx.thenExit (Wx.thenExit (Wx.out ?_)))))))))))
      refine Wx.go (Wc.seq (Wc.region (Wl.q (v := Value.int .i64 acc) (q_move hE3_0) (Wl.q (v := Value.int .i64 acc) (q_assign rfl) (Wl.done (Wx.go (Wc.ret (Wx.fin1 rfl (.inl rfl) (fun w hs => ?_)))))))))
      exact ⟨acc, ⟨hp0, hp2, hp3⟩, rfl, hs⟩

theorem same_ss (W0 : World) (va : Value) (a : List PairR) (vb : Value) (b : List PairR) (hlb : b.length ≤ 9223372036854775807) (hla : a.length ≤ 9223372036854775807) (hoa : ∀ p ∈ a, okP p) (hob : ∀ p ∈ b, okP p) :
    Con Tryz.prog W0 16 #[va, vb] [sl 44 3 va a.length (a.flatMap pairCells), sl 44 3 vb b.length (b.flatMap pairCells)] (X := Unit) (fun _ => True) (fun _ => .bool (decide (a = b))) (fun _ => [sl 44 3 va a.length (a.flatMap pairCells), sl 44 3 vb b.length (b.flatMap pairCells)]) := by
  refine Con.of (args := [va, vb]) Tryz.func16 rfl Tryz.ntmps16 rfl (fun F => ?_)
  show Wc _ W0 _ _ _ _ _ ((sl 44 3 va a.length (a.flatMap pairCells)) :: (sl 44 3 vb b.length (b.flatMap pairCells)) :: F)
  refine Wc.seq (Wc.region (Wl.q (v := Value.bool false) (q_assign rfl) (Wl.done (Wx.go (Wc.seq (Wc.seq (Wc.region (Wl.q (v := va) (q_move rfl) (Wl.q (v := Value.int .i64 ((a.length : Nat) : Int)) (q_len_sl (i := 0) Tryz.underlying22 rfl rfl) (Wl.q (v := vb) (q_move rfl) (Wl.q (v := Value.int .i64 ((b.length : Nat) : Int)) (q_len_sl (i := 1) Tryz.underlying22 rfl rfl) ?_)))))))))))
  by_cases hne : ((a.length : Nat) : Int) = ((b.length : Nat) : Int)
  ·
    refine Wl.q (v := Value.bool false) (q_neq (r := true) rfl rfl (decide_eq_true hne)) (Wl.done (Wx.go (Wc.no rfl (Wc.skip (Wx.go (Wc.seq (Wc.seq (Wc.region (Wl.q (v := Value.int .i64 0) (q_assign rfl) (Wl.done (Wx.go ?_)))))))))))
    refine Wc.block ?_
    refine Wc.loop (X := Nat) (fun k E => E 5 = Value.int .i64 ((k : Nat) : Int) ∧ E 0 = va ∧ E 1 = vb ∧ k ≤ a.length ∧ a.take k = b.take k) (fun k => (sl 44 3 va a.length (a.flatMap pairCells)) :: (sl 44 3 vb b.length (b.flatMap pairCells)) :: F) (fun k => a.length - k) 0 ?_ ?_ ?_
    · exact ⟨rfl, rfl, rfl, (Nat.zero_le _), rfl⟩
    · exact fun w hs => hs
    · rintro k E2 ⟨hE5_0, hE0_0, hE1_0, hk, hp0⟩
      refine Wc.seq (Wc.seq (Wc.region (Wl.q (v := Value.int .i64 ((k : Nat) : Int)) (q_move hE5_0) (Wl.q (v := va) (q_move hE0_0) (Wl.q (v := Value.int .i64 ((a.length : Nat) : Int)) (q_len_sl (i := 0) Tryz.underlying22 rfl rfl) ?_)))))
      by_cases hlt : ((k : Nat) : Int) < ((a.length : Nat) : Int)
      ·
        obtain ⟨x, hgx⟩ : ∃ o, a[k]? = some o := ⟨a[k]'(by omega), List.getElem?_eq_getElem (by omega)⟩
        obtain ⟨y, hgy⟩ : ∃ o, b[k]? = some o := ⟨b[k]'(by omega), List.getElem?_eq_getElem (by omega)⟩
        refine Wl.sl (i := 0) (m := a.length) rfl (by omega) (fun ba ca hva hca => ?_)
        subst hva
        refine Wl.sl (i := 1) (m := b.length) rfl (by omega) (fun bb cb hvb hcb => ?_)
        subst hvb
        have hox : okP x := hoa x (List.mem_of_getElem? hgx)
        have hoy : okP y := hob y (List.mem_of_getElem? hgy)
        refine Wl.q (v := Value.bool true) (q_lss (r := true) rfl rfl (decide_eq_true hlt)) (Wl.done (Wx.go (Wc.yes rfl (Wc.skip (Wx.go (Wc.seq (Wc.block (Wc.seq (Wc.drawsS [] ((slp 44 3 ba ca (a.flatMap pairCells)) :: (slp 44 3 bb cb (b.flatMap pairCells)) :: []) (by kernel_rfl) (Wr.pure (v := Value.slice (some ⟨ba, 0, none⟩) a.length ca) 0 rfl (by kernel_rfl) (.inr (fun _ h => st_take [0, 0] h)) (.inl ⟨rfl, fun _ => q_move hE0_0⟩) (Wr.pure (v := Value.int .i64 ((k : Nat) : Int)) 1 rfl (by kernel_rfl) (.inr (fun _ h => st_take [0, 0] h)) (.inl ⟨rfl, fun _ => q_move hE5_0⟩) ?_)))))))))))
        refine Wr.pure (v := Value.pointer (some ⟨ba, k * 3, none⟩)) 2 rfl (by kernel_rfl) (.inr (fun _ h => st_take [0, 0] h)) (.inl ⟨rfl, fun _ => q_idx (m := k * 3) se_22 rfl rfl (by omega) (by omega) (by simp)⟩) (Wr.take (v := Value.agg #[Value.string x.n, Value.string x.t, Value.bool x.g]) 3 rfl (by kernel_rfl) (fun _ h => st_take [0, 0] h) (.inl ⟨rfl, q_loadAgg (vs := [Value.string x.n, Value.string x.t, Value.bool x.g]) ag_44 rfl (fun j u hj => .row (i := 0) rfl (flat3P hgx j u hj))⟩) (Wr.pure (v := Value.slice (some ⟨bb, 0, none⟩) b.length cb) 4 rfl (by kernel_rfl) (.inr (fun _ h => st_take [0, 0] h)) (.inl ⟨rfl, fun _ => q_move hE1_0⟩) (Wr.pure (v := Value.int .i64 ((k : Nat) : Int)) 5 rfl (by kernel_rfl) (.inr (fun _ h => st_take [0, 0] h)) (.inl ⟨rfl, fun _ => q_move hE5_0⟩) (Wr.pure (v := Value.pointer (some ⟨bb, k * 3, none⟩)) 6 rfl (by kernel_rfl) (.inr (fun _ h => st_take [0, 0] h)) (.inl ⟨rfl, fun _ => q_idx (m := k * 3) se_22 rfl rfl (by omega) (by omega) (by simp)⟩) (Wr.take (v := Value.agg #[Value.string y.n, Value.string y.t, Value.bool y.g]) 7 rfl (by kernel_rfl) (fun _ h => st_take [0, 0] h) (.inl ⟨rfl, q_loadAgg (vs := [Value.string y.n, Value.string y.t, Value.bool y.g]) ag_44 rfl (fun j u hj => .row (i := 1) rfl (flat3P hgy j u hj))⟩) ?_)))))
        by_cases hxy : x = y
        ·
          refine Wr.pure (v := Value.bool false) 8 rfl (by kernel_rfl) (.inr (fun _ h => st_take [0, 0] h)) (.inl ⟨rfl, fun _ => q_neq_agg (r := true) rfl rfl eg_44 (eqP_true hox hoy hxy)⟩) (Wr.done (by kernel_rfl) (Wx.go (Wc.no rfl (Wc.skip (Wx.blockEnd (Wx.go (Wc.region (Wl.q (v := Value.int .i64 ((k : Nat) : Int)) (q_move hE5_0) (Wl.q (v := Value.int .i64 ((k + 1 : Nat) : Int)) (q_add (c := ((k + 1 : Nat) : Int)) rfl rfl (by rw [wrap_i64] <;> omega)) (Wl.q (v := Value.int .i64 ((k + 1 : Nat) : Int)) (q_assign rfl) (Wl.done ?_)))))))))))
          refine Wx.at (k + 1) ⟨(by omega), rfl, hE0_0, hE1_0, (by omega), (take_eq_snoc hp0 hgx hgy hxy)⟩ (fun w hs => ((fun hs => st_sl_mk (e := 44) (flat_len3P a) hca (st_swap (st_sl_mk (e := 44) (flat_len3P b) hcb hs))) (st_pull [1, 0] (hs))))
        ·
          refine Wr.pure (v := Value.bool true) 8 rfl (by kernel_rfl) (.inr (fun _ h => st_take [0, 0] h)) (.inl ⟨rfl, fun _ => q_neq_agg (r := false) rfl rfl eg_44 (eqP_false hox hoy hxy)⟩) (Wr.done (by kernel_rfl) (Wx.go (Wc.yes rfl (Wc.seq (Wc.region (Wl.q (v := Value.bool false) (q_assign rfl) (Wl.done (Wx.go (Wc.ret (Wx.blockRet (Wx.thenRet ?_)))))))))))
          refine Wx.thenRet (Wx.blockRet (Wx.thenRet (Wx.fin1 rfl (.inl rfl) (fun w hs => ?_))))
          exact ⟨(), trivial, by rw [decide_eq_false (ne_at hgx hgy hxy)]; rfl, ((fun hs => st_sl_mk (e := 44) (flat_len3P a) hca (st_swap (st_sl_mk (e := 44) (flat_len3P b) hcb hs))) (st_pull [1, 0] (hs)))⟩
      ·
        have hke : k = a.length := by omega
        refine Wl.q (v := Value.bool false) (q_lss (r := false) rfl rfl (decide_eq_false hlt)) (Wl.done (Wx.go (Wc.no rfl (Wc.exit (Wx.thenExit (Wx.thenExit (Wx.out (Wx.go (Wc.seq (Wc.region (Wl.q (v := Value.bool true) (q_assign rfl) ?_)))))))))))
        refine Wl.done (Wx.go (Wc.ret (Wx.fin1 rfl (.inl rfl) (fun w hs => ?_))))
        have hab : a = b := by rw [hke, List.take_length, show a.length = b.length by omega, List.take_length] at hp0; exact hp0
        exact ⟨(), trivial, by rw [decide_eq_true hab]; rfl, hs⟩
  ·
    refine Wl.q (v := Value.bool true) (q_neq (r := false) rfl rfl (decide_eq_false hne)) (Wl.done (Wx.go (Wc.yes rfl (Wc.seq (Wc.region (Wl.q (v := Value.bool false) (q_assign rfl) (Wl.done (Wx.go (Wc.ret (Wx.thenRet (Wx.fin1 rfl (.inl rfl) (fun w hs => ?_))))))))))))
    exact ⟨(), trivial, by rw [decide_eq_false (fun e => hne (by rw [e]))]; rfl, hs⟩

end Go.Proofs.YtkndmgfahghcjaaGreat

