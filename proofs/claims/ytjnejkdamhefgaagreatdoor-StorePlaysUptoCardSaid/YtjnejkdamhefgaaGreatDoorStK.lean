/- A part of the proof. -/
import Derived.Test.YtjnejkdamhefgaaGreatDoorSLP
import Derived.DeepKeys
namespace Go.Proofs.YtjnejkdamhefgaaGreatDoor
open Tryz
open Go Go.SL Go.St Go.Wr Go.RowKit
open Go.Dk (DS WF)
open Go.Jn (JS Ok openD_up)
set_option linter.unusedVariables false
set_option maxRecDepth 8000
theorem eg_53 : prog.eqGuardType prog.depth 53 = false := by kernel_rfl
open Go.Deep
def pairV (p : PairR) : Value := .agg #[.string p.n, .string p.t, .bool p.g]
def okP (p : PairR) : Prop := p.n.size ≤ 9223372036854775807 ∧ p.t.size ≤ 9223372036854775807
theorem laidOut0 : laidOutB prog = true := by kernel_rfl
theorem rowP : (53 : TypeId) < prog.types.size := of_decide_eq_true (by kernel_rfl)
theorem wideP : (match prog.underlying 53 with | some (.array _ _) | some (.struct _) => true | _ => false) = true := by rw [underlying53]
theorem keyTyP : prog.keyTypeAt 2 53 = true := by kernel_rfl
theorem tiledP : prog.tiled 2 53 = true := tiled_of_laidOut laidOut0 2 53 (by kernel_rfl) keyTyP
theorem depthP : ∃ d, prog.types.size + 1 = d + 1 + 1 := ⟨prog.types.size - 1, by have h : 0 < prog.types.size := Nat.lt_of_le_of_lt (Nat.zero_le _) rowP; omega⟩
set_option maxRecDepth 100000 in
theorem keyP {t : PairR} (h : okP t) : ∃ l, keyOf prog 53 (pairV t) = some l := by
 obtain ⟨h1, h2⟩ := h
 obtain ⟨d, hd⟩ := depthP
 have w1 : t.n.size ≤ maxLen := h1
 have w2 : t.t.size ≤ maxLen := h2
 have hkt : prog.keyType 53 = true := by kernel_rfl
 have hf : (pairV t).formed prog 53 = true := by
  have hc : prog.cellsOf 53 = 3 := by kernel_rfl
  simp [Value.formed, pairV, underlying53, hc]
 have hl : ∃ ls, prog.keyLits (prog.types.size + 1) 53 (pairV t).cells.toList = some ls := by
  have hc : prog.cellsOf 53 = 3 := by kernel_rfl
  have c1 : prog.cellsOf 9 = 1 := by kernel_rfl
  have c2 : prog.cellsOf 4 = 1 := by kernel_rfl
  rw [hd]
  simp [Program.keyLits, Lit.wf, pairV, Value.cells, underlying53, underlying9, underlying4, hc, c1, c2, w1, w2]
 obtain ⟨ls, hls⟩ := hl
 exact ⟨.string (keyBytes ls), by unfold keyOf; rw [underlying53]; simp only [hkt, hf, Bool.and_self, if_true, hls, Option.map_some]⟩
theorem pairV_inj {a b : PairR} (h : pairV a = pairV b) : a = b := by
 obtain ⟨n, t, g⟩ := a; obtain ⟨n', t', g'⟩ := b
 unfold pairV at h
 injection h with h
 have h2 := congrArg Array.toList h
 simp at h2
 obtain ⟨h1, h2, h3⟩ := h2
 subst h1; subst h2; subst h3; rfl
set_option maxRecDepth 100000 in
theorem eqP {t u : PairR} (ht : okP t) (hu : okP u) (w : World) : (Op.equal 53 (pairV t) (pairV u)).run prog w = .ok (decide (t = u)) w := by
  obtain ⟨lt, hlt⟩ := keyP ht
  obtain ⟨lu, hlu⟩ := keyP hu
  obtain ⟨r, hr, hiff⟩ := run_equal_deep w (m := 2) (by omega) keyTyP wideP hlt hlu
  rw [hr]
  congr 1
  by_cases e : t = u
  · subst e
    rw [hlt] at hlu
    rw [decide_eq_true rfl]; exact hiff.2 (Option.some.inj hlu)
  · rw [decide_eq_false e]
    cases r with
    | false => rfl
    | true => exact absurd (pairV_inj (keyOf_inj_deep tiledP wideP hlt ((hiff.1 rfl) ▸ hlu))) e
theorem eqP_true {t u : PairR} (ht : okP t) (hu : okP u) (h : t = u) (w : World) : (Op.equal 53 (pairV t) (pairV u)).run prog w = .ok true w := by rw [eqP ht hu, decide_eq_true h]
theorem eqP_false {t u : PairR} (ht : okP t) (hu : okP u) (h : ¬ t = u) (w : World) : (Op.equal 53 (pairV t) (pairV u)).run prog w = .ok false w := by rw [eqP ht hu, decide_eq_false h]
theorem size_c (W0 : World) (vl : Value) (l : List PairR) (hl : Rd W0 vl l.length (l.flatMap pairCells)) (hlm : l.length ≤ 9223372036854775807) :
    Con prog W0 29 #[vl] [] (X := Int) (fun r => (-9223372036854775808 ≤ r ∧ r ≤ 9223372036854775807) ∧ (268435456 ≤ l.length → r = (l.length : Int)) ∧ ((∀ p ∈ l, ¬ longP p) → (l.length : Int) ≤ r)) (fun r => .int .i64 r) (fun r => []) := by
  refine Con.of func29 rfl ntmps29 rfl (fun F => ?_)
  show Wc _ W0 _ _ _ _ _ (F)
  refine Wc.a 1 rfl (Wc.b 1 rfl (Wl.q (q_len_is underlying39 rfl hl.shape) (Wl.rg 1 rfl (Wc.seq (Wc.a 1 rfl (Wc.block ?_))))))
  refine Wc.loop (X := Nat × Int) (fun (k, acc) E => E 4 = Vi ((k : Nat) : Int) ∧ E 3 = Vi acc ∧ E 0 = vl ∧ (-9223372036854775808 ≤ acc ∧ acc ≤ 9223372036854775807) ∧ k ≤ l.length ∧ (268435456 ≤ l.length → acc = (l.length : Int)) ∧ ((∀ p ∈ l, ¬ longP p) → (l.length : Int) ≤ acc)) (fun (k, acc) => F) (fun (k, acc) => l.length - k) (0, (l.length : Int)) ?_ ?_ ?_
  · exact ⟨rfl, rfl, rfl, (by omega), (by omega), (fun _ => rfl), (fun _ => Int.le_refl _)⟩
  · exact fun w hs => hs
  · rintro ⟨k, acc⟩ E2 ⟨hE4_0, hE3_0, hE0_0, hp0, hp1, hp2, hp3⟩
    dsimp only at *
    refine Wc.seq (Wc.sr (Wl.q (v := Vi ((k : Nat) : Int)) (q_move hE4_0) (Wl.q (v := vl) (q_move hE0_0) (Wl.q (q_len_is underlying39 rfl hl.shape) ?_))))
    by_cases hlt : ((k : Nat) : Int) < ((l.length : Nat) : Int)
    ·
      obtain ⟨o, hget⟩ : ∃ o, l[k]? = some o := ⟨l[k]'(by omega), List.getElem?_eq_getElem (by omega)⟩
      refine Wl.q (q_lss rfl rfl (dt hlt)) (Wl.run 1 rfl (Wl.q (v := Vi acc) (q_move hE3_0) ?_))
      by_cases hsm : acc < 268435456
      ·
        refine Wl.q (q_lss rfl rfl (dt hsm)) (Wl.rg 1 rfl (Wc.yes rfl (Wc.skip (Wx.go (Wc.seq (Wc.block (Wc.drawsS [] ([]) (by kernel_rfl) (Wr.p 0 [] rfl (q_move hE3_0) (Wr.p 1 [] rfl (q_move hE0_0) (Wr.p 2 [] rfl (q_move hE4_0) (Wr.p 3 [] rfl (q_idx_is (m := ro vl + k * 3) se_39 rfl (hl.some_ (by omega)) rfl (by omega) (by omega) rfl) (Wr.p 4 [] rfl (q_field (m := ro vl + k * 3) fo_53_0 rfl rfl) (Wr.t (v := Vs o.n) 5 [] rfl (q_load sc_9 rfl (.old (rdP hl hget 0 rfl))) (Wr.t 6 [] rfl (q_len_str underlying9 rfl) (Wr.p 7 [] rfl (q_add (c := (IntKind.i64.wrap (acc + ((o.n.size : Nat) : Int)))) rfl rfl rfl) (Wr.p 8 [] rfl (q_move hE0_0) (Wr.p 9 [] rfl (q_move hE4_0) (Wr.p 10 [] rfl (q_idx_is (m := ro vl + k * 3) se_39 rfl (hl.some_ (by omega)) rfl (by omega) (by omega) rfl) (Wr.p 11 [] rfl (q_field (m := ro vl + k * 3 + 1) fo_53_1 rfl rfl) (Wr.t (v := Vs o.t) 12 [] rfl (q_load sc_9 rfl (.old (rdP hl hget 1 rfl))) (Wr.t 13 [] rfl (q_len_str underlying9 rfl) (Wr.p 14 [] rfl (q_add (c := (IntKind.i64.wrap (IntKind.i64.wrap (acc + ((o.n.size : Nat) : Int)) + ((o.t.size : Nat) : Int)))) rfl rfl rfl) (Wr.p 15 [] rfl (q_assign rfl) ?_)))))))))))))))))))))))
        refine Wr.z (Wx.blockEnd (Wx.go (Wc.region (Wl.q (v := Vi ((k : Nat) : Int)) (q_move hE4_0) (Wl.q (q_add (c := ((k + 1 : Nat) : Int)) rfl rfl (by rw [wrap_i64] <;> omega)) (Wl.run 1 rfl (Wl.done ?_)))))))
        refine Wx.at (k + 1, IntKind.i64.wrap (IntKind.i64.wrap (acc + (o.n.size : Int)) + (o.t.size : Int))) ⟨(by simp only; omega), rfl, rfl, hE0_0, (wrap_range _), (by simp only; omega), (fun hh => by have := hp2 hh; omega), (fun hh => by have := hp3 hh; have h2 := hh o (List.mem_of_getElem? hget); unfold longP at h2; rw [wrap_i64 (a := acc + (o.n.size : Int)) (by omega) (by omega), wrap_i64 (by omega) (by omega)]; omega)⟩ (fun w hs => hs)
      ·
        refine Wl.q (q_lss rfl rfl (df hsm)) (Wl.rg 1 rfl (Wc.no rfl (Wc.exit (Wx.thenExit (Wx.thenExit (Wx.out (Wx.go (Wc.sr (Wl.q (v := Vi acc) (q_move hE3_0) (Wl.rg 1 rfl (Wc.ret (Wx.f1 rfl (fun w hs => ?_)))))))))))))
        exact ⟨acc, ⟨hp0, hp2, hp3⟩, rfl, hs⟩
    ·
      refine Wl.q (q_lss rfl rfl (df hlt)) (Wl.rg 4 rfl (Wc.no rfl (Wc.exit (Wx.thenExit (Wx.thenExit (Wx.out (Wx.go (Wc.sr (Wl.q (v := Vi acc) (q_move hE3_0) (Wl.rg 1 rfl (Wc.ret (Wx.f1 rfl (fun w hs => ?_)))))))))))))
      exact ⟨acc, ⟨hp0, hp2, hp3⟩, rfl, hs⟩
theorem same_sr (W0 : World) (va : Value) (a : List PairR) (vb : Value) (b : List PairR) (hb : Rd W0 vb b.length (b.flatMap pairCells)) (hlb : b.length ≤ 9223372036854775807) (hla : a.length ≤ 9223372036854775807) (hoa : ∀ p ∈ a, okP p) (hob : ∀ p ∈ b, okP p) :
    Con1 prog W0 13 #[va, vb] [sl 53 3 va a.length (a.flatMap pairCells)] (.bool (decide (a = b))) [sl 53 3 va a.length (a.flatMap pairCells)] := by
  refine Con.of func13 rfl ntmps13 rfl (fun F => ?_)
  show Wc _ W0 _ _ _ _ _ ((sl 53 3 va a.length (a.flatMap pairCells)) :: F)
  refine Wc.a 1 rfl (Wc.seq (Wc.b 1 rfl (Wl.q (q_len_sl (i := 0) underlying39 rfl rfl) (Wl.run 1 rfl (Wl.q (q_len_is underlying39 rfl hb.shape) ?_)))))
  by_cases hne : ((a.length : Nat) : Int) = ((b.length : Nat) : Int)
  ·
    refine Wl.q (q_neq rfl rfl (dt hne)) (Wl.dg (Wc.no rfl (Wc.skip (Wx.go (Wc.seq (Wc.a 1 rfl (Wc.block ?_)))))))
    refine Wc.loop (X := Nat) (fun k E => E 5 = Vi ((k : Nat) : Int) ∧ E 0 = va ∧ E 1 = vb ∧ k ≤ a.length ∧ a.take k = b.take k) (fun k => (sl 53 3 va a.length (a.flatMap pairCells)) :: F) (fun k => a.length - k) 0 ?_ ?_ ?_
    · exact ⟨rfl, rfl, rfl, (Nat.zero_le _), rfl⟩
    · exact fun w hs => hs
    · rintro k E2 ⟨hE5_0, hE0_0, hE1_0, hk, hp0⟩
      refine Wc.seq (Wc.sr (Wl.q (v := Vi ((k : Nat) : Int)) (q_move hE5_0) (Wl.q (v := va) (q_move hE0_0) (Wl.q (q_len_sl (i := 0) underlying39 rfl rfl) ?_))))
      by_cases hlt : ((k : Nat) : Int) < ((a.length : Nat) : Int)
      ·
        obtain ⟨x, hgx⟩ : ∃ o, a[k]? = some o := ⟨a[k]'(by omega), List.getElem?_eq_getElem (by omega)⟩
        obtain ⟨y, hgy⟩ : ∃ o, b[k]? = some o := ⟨b[k]'(by omega), List.getElem?_eq_getElem (by omega)⟩
        refine Wl.sl (i := 0) (m := a.length) rfl (by omega) (fun ba ca hva hca => ?_)
        subst hva
        have hox : okP x := hoa x (List.mem_of_getElem? hgx)
        have hoy : okP y := hob y (List.mem_of_getElem? hgy)
        refine Wl.q (q_lss rfl rfl (dt hlt)) (Wl.dg (Wc.yes rfl (Wc.skip (Wx.go (Wc.seq (Wc.block (Wc.seq (Wc.drawsS [] ((slp 53 3 ba ca (a.flatMap pairCells)) :: []) (by kernel_rfl) (Wr.p 0 oo1 rfl (q_move hE0_0) (Wr.p 1 oo1 rfl (q_move hE5_0) (Wr.p 2 oo1 rfl (q_idx (m := k * 3) se_39 rfl rfl (by omega) (by omega) (by simp)) (Wr.t (v := Value.agg #[Vs x.n, Vs x.t, Value.bool x.g]) 3 oo1 rfl (q_loadAgg (vs := [Vs x.n, Vs x.t, Value.bool x.g]) ag_53 rfl (fun j u hj => .row (i := 0) rfl (flat3P hgx j u hj))) (Wr.p 4 oo1 rfl (q_move hE1_0) (Wr.p 5 oo1 rfl (q_move hE5_0) (Wr.p 6 oo1 rfl (q_idx_is (m := ro vb + k * 3) se_39 rfl (hb.some_ (by omega)) rfl (by omega) (by omega) rfl) (Wr.t (v := Value.agg #[Vs y.n, Vs y.t, Value.bool y.g]) 7 oo1 rfl (q_loadAgg (vs := [Vs y.n, Vs y.t, Value.bool y.g]) ag_53 rfl (fun j u hj => .old (rdP hb hgy j hj))) ?_))))))))))))))))
        by_cases hxy : x = y
        ·
          refine Wr.p 8 oo1 rfl (q_neq_agg (r := true) rfl rfl eg_53 (eqP_true hox hoy hxy)) (Wr.z (Wx.go (Wc.no rfl (Wc.skip (Wx.blockEnd (Wx.go (Wc.region (Wl.q (v := Vi ((k : Nat) : Int)) (q_move hE5_0) (Wl.q (q_add (c := ((k + 1 : Nat) : Int)) rfl rfl (by rw [wrap_i64] <;> omega)) (Wl.run 1 rfl (Wl.done ?_)))))))))))
          refine Wx.at (k + 1) ⟨(by omega), rfl, hE0_0, hE1_0, (by omega), (take_eq_snoc hp0 hgx hgy hxy)⟩ (fun w hs => ((fun hs => st_sl_mk (e := 53) (flat_len3P a) hca hs) hs))
        ·
          refine Wr.p 8 oo1 rfl (q_neq_agg (r := false) rfl rfl eg_53 (eqP_false hox hoy hxy)) (Wr.z (Wx.go (Wc.yes rfl (Wc.a 1 rfl (Wc.ret (Wx.blockRet (Wx.thenRet (Wx.thenRet (Wx.blockRet (Wx.thenRet (Wx.f1 rfl (fun w hs => ?_))))))))))))
          exact ⟨(), trivial, by rw [df (ne_at hgx hgy hxy)]; rfl, ((fun hs => st_sl_mk (e := 53) (flat_len3P a) hca hs) hs)⟩
      ·
        have hke : k = a.length := by omega
        refine Wl.q (q_lss rfl rfl (df hlt)) (Wl.dg (Wc.no rfl (Wc.exit (Wx.thenExit (Wx.thenExit (Wx.out (Wx.go (Wc.a 1 rfl (Wc.ret (Wx.f1 rfl (fun w hs => ?_)))))))))))
        have hab : a = b := by rw [hke, List.take_length, show a.length = b.length by omega, List.take_length] at hp0; exact hp0
        exact ⟨(), trivial, by rw [dt hab]; rfl, hs⟩
  ·
    refine Wl.q (q_neq rfl rfl (df hne)) (Wl.dg (Wc.yes rfl (Wc.a 1 rfl (Wc.ret (Wx.thenRet (Wx.f1 rfl (fun w hs => ?_)))))))
    exact ⟨(), trivial, by rw [df (fun e => hne (by rw [e]))]; rfl, hs⟩
end Go.Proofs.YtjnejkdamhefgaaGreatDoor
namespace Go.St
open Go Go.SL Go.Wr
set_option linter.unusedVariables false
def readU (s : ByteArray) : Nat → Nat → Option (List PairR × Nat)
 | 0, a => some ([], a)
 | n + 1, a => match takeText s a with
  | none => none
  | some (x, b) => match takeText s b with
   | none => none
   | some (t, c) => (readU s n c).map fun r => (⟨x, t, false⟩ :: r.1, r.2)
theorem readP_U {s : ByteArray} : ∀ {n : Nat} {prev : Option ByteArray} {a b : Nat} {l : List PairR}, readP s n prev a = some (l, b) → readU s n a = some (l, b)
 | 0, prev, a, b, l, h => h
 | n + 1, prev, a, b, l, h => by
  unfold readP at h
  unfold readU
  rcases h1 : takeText s a with _ | ⟨x, c⟩
  · rw [h1] at h; cases h
  rw [h1] at h
  simp only at h ⊢
  rcases h2 : takeText s c with _ | ⟨t, d⟩
  · rw [h2] at h; cases h
  rw [h2] at h
  simp only at h ⊢
  split at h
  · cases h
  rcases h3 : readP s n (some x) d with _ | ⟨l', b'⟩
  · rw [h3] at h; cases h
  rw [h3] at h
  rw [readP_U h3]
  exact h
theorem readU_P {s : ByteArray} : ∀ {n : Nat} {prev : Option ByteArray} {a b : Nat} {l : List PairR}, readU s n a = some (l, b) → wrongP prev l = 0 → readP s n prev a = some (l, b)
 | 0, prev, a, b, l, h, _ => h
 | n + 1, prev, a, b, l, h, hw => by
  unfold readU at h
  unfold readP
  rcases h1 : takeText s a with _ | ⟨x, c⟩
  · rw [h1] at h; cases h
  rw [h1] at h
  simp only at h ⊢
  rcases h2 : takeText s c with _ | ⟨t, d⟩
  · rw [h2] at h; cases h
  rw [h2] at h
  simp only at h ⊢
  rcases h3 : readU s n d with _ | ⟨l', b'⟩
  · rw [h3] at h; cases h
  rw [h3] at h
  simp only [Option.map_some, Option.some.injEq, Prod.mk.injEq] at h
  obtain ⟨rfl, rfl⟩ := h
  obtain ⟨_, _, g3, g4⟩ := wrongP_cons hw
  rw [if_neg (fun e => by obtain ⟨q, e1, e2⟩ := e; exact e2 (g3 q e1)), readU_P h3 g4]
  rfl
theorem readU_len {s : ByteArray} : ∀ {n a b : Nat} {l : List PairR}, readU s n a = some (l, b) → l.length = n
 | 0, a, b, l, h => by unfold readU at h; cases h; rfl
 | n + 1, a, b, l, h => by
  unfold readU at h
  rcases h1 : takeText s a with _ | ⟨x, c⟩
  · rw [h1] at h; cases h
  rw [h1] at h
  simp only at h
  rcases h2 : takeText s c with _ | ⟨t, d⟩
  · rw [h2] at h; cases h
  rw [h2] at h
  simp only at h
  rcases h3 : readU s n d with _ | ⟨l', b'⟩
  · rw [h3] at h; cases h
  rw [h3] at h
  simp only [Option.map_some, Option.some.injEq, Prod.mk.injEq] at h
  obtain ⟨rfl, rfl⟩ := h
  rw [List.length_cons, readU_len h3]
theorem pack_ok {l : List PairR} (h : (packP l).2 = 0) : l.length ≤ 256 ∧ wrongP none l = 0 := by
 refine ⟨pack_few h, ?_⟩
 unfold packP at h
 split at h
 · cases h
 split at h
 · assumption
 · exact h
def RelU (s : ByteArray) (n a0 k : Nat) (l : List PairR) (a : Nat) : Prop := readU s n a0 = (readU s (n - k) a).map fun r => (l ++ r.1, r.2)
theorem RelU.start (s : ByteArray) (n a0 : Nat) : RelU s n a0 0 [] a0 := by
 unfold RelU; rw [Nat.sub_zero]; cases readU s n a0 <;> rfl
theorem RelU.bad1 {s : ByteArray} {n a0 k a : Nat} {l : List PairR} (h : RelU s n a0 k l a) (hk : k < n) (h1 : takeText s a = none) : readU s n a0 = none := by
 unfold RelU at h; rw [h, show n - k = (n - k - 1) + 1 by omega, readU, h1]; rfl
theorem RelU.bad2 {s : ByteArray} {n a0 k a b : Nat} {x : ByteArray} {l : List PairR} (h : RelU s n a0 k l a) (hk : k < n) (h1 : takeText s a = some (x, b)) (h2 : takeText s b = none) : readU s n a0 = none := by
 unfold RelU at h; rw [h, show n - k = (n - k - 1) + 1 by omega, readU, h1]; simp only; rw [h2]; rfl
theorem RelU.next {s : ByteArray} {n a0 k a b c : Nat} {x t : ByteArray} {l : List PairR} (h : RelU s n a0 k l a) (hk : k < n) (h1 : takeText s a = some (x, b)) (h2 : takeText s b = some (t, c)) : RelU s n a0 (k + 1) (l ++ [⟨x, t, false⟩]) c := by
 unfold RelU at *
 rw [h, show n - k = (n - (k + 1)) + 1 by omega, readU, h1]
 simp only
 rw [h2]
 simp only
 cases readU s (n - (k + 1)) c with
 | none => rfl
 | some r => simp
theorem RelU.done {s : ByteArray} {n a0 a : Nat} {l : List PairR} (h : RelU s n a0 n l a) : readU s n a0 = some (l, a) := by
 unfold RelU at h; rw [h, Nat.sub_self, readU]; simp
theorem u_none {s : ByteArray} {n a0 : Nat} (hl : takeList s 0 = some (n, a0)) (h : readU s n a0 = none) : unpackP s = none := by
 unfold unpackP; rw [hl]; simp only
 split
 · rfl
 cases hr : readP s n none a0 with
 | none => rfl
 | some r => rw [readP_U (l := r.1) (b := r.2) hr] at h; cases h
theorem u_end {s : ByteArray} {n a0 b : Nat} {l : List PairR} (hl : takeList s 0 = some (n, a0)) (h : readU s n a0 = some (l, b)) (hb : b ≠ s.size) : unpackP s = none := by
 unfold unpackP; rw [hl]; simp only
 split
 · rfl
 cases hr : readP s n none a0 with
 | none => rfl
 | some r =>
  obtain ⟨l', b'⟩ := r
  rw [readP_U hr] at h
  simp only [Option.some.injEq, Prod.mk.injEq] at h
  simp only
  rw [if_neg (by rw [h.2]; exact hb)]
theorem u_pack {s : ByteArray} {n a0 b : Nat} {l : List PairR} (hl : takeList s 0 = some (n, a0)) (h : readU s n a0 = some (l, b)) (hp : ¬ (packP l).2 = 0) : unpackP s = none := by
  cases hu : unpackP s with
  | none => rfl
  | some l' =>
    have e := pack_unpack hu
    unfold unpackP at hu
    rw [hl] at hu
    simp only at hu
    split at hu
    · cases hu
    rcases hr : readP s n none a0 with _ | ⟨l2, b2⟩
    · rw [hr] at hu; cases hu
    rw [hr] at hu
    simp only at hu
    split at hu
    · simp only [Option.some.injEq] at hu
      rw [readP_U hr] at h
      simp only [Option.some.injEq, Prod.mk.injEq] at h
      rw [← h.1, hu, e] at hp
      exact absurd rfl hp
    · cases hu
theorem u_ok {s : ByteArray} {n a0 b : Nat} {l : List PairR} (hl : takeList s 0 = some (n, a0)) (h : readU s n a0 = some (l, b)) (hb : b = s.size) (hp : (packP l).2 = 0) : unpackP s = some l := by
 have h1 := pack_ok hp
 have h2 := readU_len h
 unfold unpackP; rw [hl]; simp only
 rw [if_neg (by omega), readU_P h h1.2]
 simp only
 rw [if_pos hb]
theorem listW_zero {n : Nat} (h : n ≤ 65536) : (listW (n : Int)).1 = 0 := by rw [listW, if_neg (by omega), if_neg (by omega)]
theorem textW_zero {s : ByteArray} (h : s.size ≤ 65536) : (textW s).1 = 0 := by rw [textW, if_neg (by omega)]
end Go.St
namespace Go.Proofs.YtjnejkdamhefgaaGreatDoor
open Tryz
open Go Go.SL Go.St Go.Wr Go.RowKit
open Go.Dk (DS WF)
open Go.Jn (JS Ok openD_up)
set_option linter.unusedVariables false
set_option maxRecDepth 8000
theorem fo_161_1 : fieldOff prog 161 1 = some 1 := by kernel_rfl
theorem fo_161_0 : fieldOff prog 161 0 = some 0 := by kernel_rfl
def isO (q : Nat) (l : List UInt8) : HP := ex fun sv => grp [pt q 161 [sv, .int .i64 0], sl 5 1 sv l.length (l.map u8v)]
theorem isO_mk {W0 w : World} {L : List HP} {q : Nat} {sv : Value} {l : List UInt8} (h : st W0 w (pt q 161 [sv, .int .i64 0] :: sl 5 1 sv l.length (l.map u8v) :: L)) : st W0 w (isO q l :: L) := st_ex.2 ⟨sv, st_grp.2 h⟩
theorem con_o {P : Program} {W0 : World} {f : FuncId} {args : Array Value} {q : Nat} {l : List UInt8} {pre : List HP} {X : Type} {φ : X → Prop} {val : X → Value} {post : X → List HP}
  (h : ∀ sv, Con P W0 f args (pt q 161 [sv, .int .i64 0] :: sl 5 1 sv l.length (l.map u8v) :: pre) φ val post) : Con P W0 f args (isO q l :: pre) φ val post := fun w F hs => by
 obtain ⟨sv, hs⟩ := st_ex.1 hs
 have hs := st_grp.1 hs
 exact h sv w F hs
theorem oput_o (W0 : World) (q : Nat) (l x : List UInt8) (sv : Value) (hl : l.length + x.length < 100000000000000) :
  Con prog W0 280 #[Vp q, Vs (ba x), Vi 0] [pt q 161 [sv, Vi 0], sl 5 1 sv l.length (l.map u8v)] (X := Value) (fun _ => True) (fun _ => .tuple #[]) (fun v => [pt q 161 [v, Vi 0], sl 5 1 v ((l ++ x).length) ((l ++ x).map u8v)]) := by
 refine Con.of func280 rfl ntmps280 rfl (fun F => ?_)
 show Wc _ W0 _ _ _ _ _ ((pt q 161 [sv, Vi 0]) :: (sl 5 1 sv l.length (l.map u8v)) :: F)
 refine Wc.seq (Wc.b 2 rfl (Wl.q (q_field fo_161_1 rfl rfl) (Wl.q (q_c 0 sc_26 rfl rfl rfl) (Wl.q (q_eql rfl rfl (dt (by decide))) (Wl.run 2 rfl (Wl.q (q_neq rfl rfl (dt (by decide))) (Wl.rg 1 rfl (Wc.no rfl (Wc.skip (Wx.go (Wc.region (Wl.run 3 rfl (Wl.q (q_field fo_161_0 rfl rfl) (Wl.q (q_c 0 sc_105 rfl rfl rfl) (Wl.run 1 rfl (Wl.e (e_appendStr (i := 1) (s := (ba x)) underlying105 underlying9 sz_5 by_5 zo_5 rfl rfl rfl (by rw [ba_size]; simp only [maxLen]; omega) (by rw [ba_size]; omega)) (fun v3 _ => Wl.run 1 rfl (Wl.q (q_field fo_161_0 rfl rfl) (Wl.e (e_store (i := 0) (v := v3) sz_105 rfl rfl (fun _ h => sl_one (i := 1) h rfl) rfl (by simp)) (fun _ _ => Wl.done (Wx.fin0 rfl (.inr rfl) (fun w hs => ?_))))))))))))))))))))))
 exact ⟨v3, trivial, rfl, by rw [List.length_append, List.map_append, ← ba_size]; exact hs⟩
theorem oput_c (W0 : World) (q : Nat) (l : List UInt8) (x : List UInt8) (hl : l.length + x.length < 100000000000000) :
  Con prog W0 280 #[Vp q, Vs (ba x), Vi 0] [isO q l] (X := Value) (fun _ => True) (fun _ => .tuple #[]) (fun _ => [isO q (l ++ x)]) :=
 con_o fun sv => Con.post (oput_o W0 q l x sv hl) (fun _ _ _ h => isO_mk h)
theorem olist_c (W0 : World) (q : Nat) (l : List UInt8) (n : Int) (hn : (listW n).1 = 0) (hl : l.length + (listW n).2.length < 100000000000000) :
  Con1 prog W0 183 #[Vp q, Vi n] [isO q l] (.tuple #[]) [isO q (l ++ (listW n).2)] := by
 refine Con.of func183 rfl ntmps183 rfl (fun F => ?_)
 show Wc _ W0 _ _ _ _ _ ((isO q l) :: F)
 refine Wc.region (Wl.run 2 rfl (Wl.e (e_c call281 (Con.eqs (val' := fun _ => .tuple #[.string (ba (listW n).2), .int .i64 0]) (post' := fun _ => []) (reflist_c W0 n) (fun _ => by rw [hn]) (fun _ => rfl))) (fun _ _ => Wl.imp (L' := (isO q l) :: F) (fun _ h => h) (Wl.run 2 rfl (Wl.e (e_c call280 (oput_c W0 q l ((listW n).2) hl)) (fun _ _ => Wl.done (Wx.fin0 rfl (.inr rfl) (fun w hs => ?_))))))))
 exact ⟨(), trivial, rfl, hs⟩
theorem otext_c (W0 : World) (q : Nat) (l : List UInt8) (s : ByteArray) (hn : (textW s).1 = 0) (hl : l.length + (textW s).2.length < 100000000000000) :
  Con1 prog W0 184 #[Vp q, Vs s] [isO q l] (.tuple #[]) [isO q (l ++ (textW s).2)] := by
 refine Con.of func184 rfl ntmps184 rfl (fun F => ?_)
 show Wc _ W0 _ _ _ _ _ ((isO q l) :: F)
 refine Wc.region (Wl.run 2 rfl (Wl.e (e_c call282 (Con.eqs (val' := fun _ => .tuple #[.string (ba (textW s).2), .int .i64 0]) (post' := fun _ => []) (reftext_c W0 s) (fun _ => by rw [hn]) (fun _ => rfl))) (fun _ _ => Wl.imp (L' := (isO q l) :: F) (fun _ h => h) (Wl.run 2 rfl (Wl.e (e_c call280 (oput_c W0 q l ((textW s).2) hl)) (fun _ _ => Wl.done (Wx.fin0 rfl (.inr rfl) (fun w hs => ?_))))))))
 exact ⟨(), trivial, rfl, hs⟩
theorem obytes_blk (W0 : World) (q : Nat) (l : List UInt8) (b cap : Nat) :
  Con1 prog W0 185 #[Vp q] [slp 5 1 b cap (l.map u8v), pt q 161 [Vl b l.length cap, Vi 0]] (.string ⟨l.toArray⟩) [slp 5 1 b cap (l.map u8v), pt q 161 [Vl b l.length cap, Vi 0]] := by
 refine Con.of func185 rfl ntmps185 rfl (fun F => ?_)
 show Wc _ W0 _ _ _ _ _ ((slp 5 1 b cap (l.map u8v)) :: (pt q 161 [Vl b l.length cap, Vi 0]) :: F)
 refine Wc.a 1 rfl (Wc.b 2 rfl (Wl.q (q_field fo_161_0 rfl rfl) (Wl.q (q_c 1 sc_105 rfl rfl rfl) (Wl.q (q_str_of (l := l) underlying105 underlying5 underlying9 rfl rfl (fun j u hj => .row (i := 0) rfl (by rw [Nat.zero_add]; exact hj))) (Wl.rg 1 rfl (Wc.ret (Wx.f1 rfl (fun w hs => ?_))))))))
 exact ⟨(), trivial, rfl, hs⟩
theorem obytes_nil (W0 : World) (q : Nat) (l : List UInt8) (hnil : l = []) :
  Con1 prog W0 185 #[Vp q] [pt q 161 [Vn, Vi 0]] (.string ⟨l.toArray⟩) ([pt q 161 [Vn, Vi 0]]) := by
 refine Con.of func185 rfl ntmps185 rfl (fun F => ?_)
 show Wc _ W0 _ _ _ _ _ ((pt q 161 [Vn, Vi 0]) :: F)
 refine Wc.a 1 rfl (Wc.b 2 rfl (Wl.q (q_field fo_161_0 rfl rfl) (Wl.q (q_c 0 sc_105 rfl rfl rfl) (Wl.q (q_str_nil underlying105 underlying5 underlying9 rfl) (Wl.rg 1 rfl (Wc.ret (Wx.f1 rfl (fun w hs => ?_))))))))
 subst hnil
 exact ⟨(), trivial, rfl, hs⟩
theorem obytes_c (W0 : World) (q : Nat) (l : List UInt8) :
    Con1 prog W0 185 #[Vp q] [isO q l] (.string ⟨l.toArray⟩) [isO q l] := by
  refine con_o fun sv => Con.pull (pre := [sl 5 1 sv l.length (l.map u8v), pt q 161 [sv, Vi 0]]) [1] (fun _ => rfl) (Con.sl (fun e1 e2 e3 => ?_) (fun b cap e1 e2 e3 => ?_))
  · subst e1; have e4 := List.eq_nil_of_length_eq_zero e2
    exact Con.post (obytes_nil W0 q l e4) (fun _ w F h => isO_mk (by rw [e2, e3]; exact st_swap (st_sl_nil h)))
  · subst e1
    exact Con.post (obytes_blk W0 q l b cap) (fun _ w F h => isO_mk (st_swap (st_sl_mk e3 e2 h)))
theorem long_c (W0 : World) (on ot : ByteArray) (og : Bool) :
  Con1 prog W0 182 #[Value.agg #[Vs on, Vs ot, Value.bool og]] [] (.bool (decide (longP ⟨on, ot, og⟩))) [] := by
 refine Con.of func182 rfl ntmps182 rfl (fun F => ?_)
 show Wc _ W0 _ _ _ _ _ (F)
 refine Wc.sr (Wl.e (e_box (x := .tmp 0) (vs := [Vs on, Vs ot, Value.bool og]) rfl) (fun b1 _ => Wl.rg 1 rfl (Wc.sr (Wl.q (q_field fo_53_0 rfl rfl) (Wl.q (q_c 0 sc_9 rfl rfl rfl) (Wl.q (q_len_str underlying9 rfl) ?_))))))
 by_cases hn1 : ((on.size : Nat) : Int) > 65536
 ·
  refine Wl.q (q_gtr rfl rfl (dt hn1)) (Wl.rg 7 rfl (Wc.ret (Wx.f1 rfl (fun w hs => ?_))))
  exact ⟨(), trivial, by rw [dt (show longP ⟨on, ot, og⟩ from .inl (by show 65536 < on.size; omega))]; rfl, (st_drop (st_pull [0] hs))⟩
 ·
  refine Wl.q (q_gtr rfl rfl (df hn1)) (Wl.run 1 rfl (Wl.q (q_field fo_53_1 rfl rfl) (Wl.q (q_c 0 sc_9 rfl rfl rfl) (Wl.q (q_len_str underlying9 rfl) ?_))))
  by_cases hn2 : ((ot.size : Nat) : Int) > 65536
  ·
   refine Wl.q (q_gtr rfl rfl (dt hn2)) (Wl.rg 2 rfl (Wc.ret (Wx.f1 rfl (fun w hs => ?_))))
   exact ⟨(), trivial, by rw [dt (show longP ⟨on, ot, og⟩ from .inr (by show 65536 < ot.size; omega))]; rfl, (st_drop (st_pull [0] hs))⟩
  ·
   refine Wl.q (q_gtr rfl rfl (df hn2)) (Wl.rg 2 rfl (Wc.ret (Wx.f1 rfl (fun w hs => ?_))))
   exact ⟨(), trivial, by rw [df (show ¬ longP ⟨on, ot, og⟩ from (by unfold longP; simp only; omega))]; rfl, (st_drop (st_pull [0] hs))⟩
end Go.Proofs.YtjnejkdamhefgaaGreatDoor
