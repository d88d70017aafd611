/- A part of the proof. -/
import Derived.Test.YtjnejkdamhefgaaGreatDoorJnG
import Derived.Test.YtjnejkdamhefgaaGreatDoorStP
namespace Go.Proofs.YtjnejkdamhefgaaGreatDoor
open Tryz
open Go Go.SL Go.Dk Go.Jn Go.RowKit
set_option linter.unusedVariables false
set_option maxRecDepth 8000
theorem rPut_c (W0 : World) (jr q : Nat) (js : JS) (d : DS) (s : ByteArray) (hw : WF d) (h4 : 4 ≤ d.secs.length) (hsn : d.since.length < 1000000000000) (hct : d.count < 4000000000000000000) (hq0 : 0 ≤ js.seq) (hq : js.seq < 9223372036854775807) : Con1 prog W0 47 #[.pointer (some ⟨jr, 0, none⟩), .string s] [isRJ jr q js, isRef q d] (.int .i64 (js.put d s).1) [isRJ jr q (js.put d s).2.2, isRef q (js.put d s).2.1] := by
  obtain ⟨t, n, dead⟩ := js
  have hm := hw.l.len
  obtain ⟨secs, since, down, count, cut⟩ := d
  refine Con.ref2 (fun bd cd sv lv bv hr => ?_)
  cases dead
  · cases down
    · exact rPut_on W0 jr t n s q bd cd secs since count sv lv bv cut hr hw h4 hm hsn hct hq0 hq
    · exact rPut_down W0 jr t n s q bd cd secs since count sv lv bv cut hr
  · exact rPut_dead W0 jr t n s q bd cd secs since count sv lv bv cut hr down
theorem ropen_ok (W0 : World) (q : Nat) (d : DS) (hw : WF d) (hn1 : 1 ≤ d.secs.length) (hsn : d.since.length < 1099511627776) {t : ByteArray} {n : Int} (h : openD d = (0, some (t, n))) : Con prog W0 37 #[.pointer (some ⟨q, 0, none⟩)] [isRef q d] (X := Nat) (fun _ => True) (fun j => .tuple #[.pointer (some ⟨j, 0, none⟩), .int .i64 0]) (fun j => [isRJ j q ⟨t, n, false⟩, isRef q d]) := by
 have := ropen_c W0 q d hw hn1 hsn
 rw [h] at this
 exact this
theorem ropen_bad (W0 : World) (q : Nat) (d : DS) (hw : WF d) (hn1 : 1 ≤ d.secs.length) (hsn : d.since.length < 1099511627776) {c : Int} (h : openD d = (c, none)) : Con prog W0 37 #[.pointer (some ⟨q, 0, none⟩)] [isRef q d] (X := Nat) (fun _ => True) (fun _ => .tuple #[.pointer none, .int .i64 c]) (fun _ => [isRef q d]) := by
 have := ropen_c W0 q d hw hn1 hsn
 rw [h] at this
 exact this
end Go.Proofs.YtjnejkdamhefgaaGreatDoor
namespace Go.SL
open Go Go.RowKit Go.ChangeShapes Go.WideShapes Go.Deep
section
variable {H : Type} {enc : TypeId × Value → H} {P : Program}
theorem rows_in {X : Type} (cellsX : X → List Value) (Φ : X → DataW H → Prop) {k : Nat} (hk : ∀ x, (cellsX x).length = k) (hk0 : 0 < k) {t e base fuel : Nat} {W : World} {sp : Nat → Bool} {cs : List Value} {y : DataW H × List MemPlace}
    (ht : P.underlying t = some (.slice e)) (hC : P.cellsOf e = k) (elem : ∀ n cs y, DataW.trod enc P W base sp true n e cs = some y → ∃ x, Φ x y.1 ∧ cs = cellsX x)
    (hf : DataW.trod enc P W base sp true fuel t cs = some y) : ∃ (v : Value) (l : List X), cs = [v] ∧ Rd W v l.length (l.flatMap cellsX) ∧ l.length ≤ maxLen ∧
      (l = [] ∨ ∃ ds ss, y.1 = .slice ds ss ∧ ds.length = l.length ∧ ∀ (i : Nat) x, l[i]? = some x → ∃ d, ds[i]? = some d ∧ Φ x d) := by
  rcases open_slice ht hf with ⟨rfl, _⟩ | ⟨a, len, cap, m, n, D, Pl, rfl, hb, hl, hm, hmm, hx, hi⟩
  · exact ⟨.slice none 0 0, ([] : List X), rfl, ⟨⟨_, _, rfl⟩, fun h => absurd h (by simp), fun j u h => by simp at h⟩, Nat.zero_le _, .inl rfl⟩
  · have hlm : len ≤ m := by rw [hmm]; split <;> omega
    obtain ⟨l, hll, hq⟩ := exists_list (Q := fun i x => Φ x (D i) ∧ ∀ j, j < k → W.cell? (a.add (i * k + j)) = (cellsX x)[j]?) len (fun i hin => by
      obtain ⟨cs, hc, htr⟩ := hi i (by omega)
      obtain ⟨x, hφ, rfl⟩ := elem _ _ _ htr
      rw [hC] at hc
      obtain ⟨_, hcl, hat⟩ := World.cells?_some hc
      exact ⟨x, hφ, fun j hj => by rw [← add_add]; exact hat j hj⟩)
    have hsp : 0 < len → a.spot = none := fun hn => by
      have := (hq 0 _ (List.getElem?_eq_getElem (by omega))).2 0 hk0
      rw [List.getElem?_eq_getElem (by rw [hk]; exact hk0)] at this
      simp only [Nat.zero_mul, Nat.add_zero, Addr.add, if_true, World.cell?] at this
      split at this
      · split at this
        · cases this
        · rename_i h; simpa using h
      · cases this
    refine ⟨_, l, rfl, ⟨⟨_, _, by rw [hll]⟩, fun hn => ?_, fun j u hj => ?_⟩, by omega, .inr ⟨_, _, by rw [hx], by rw [List.length_map, List.length_range, hll], fun i x hx => ?_⟩⟩
    · have := hsp (by omega)
      obtain ⟨b, off, spot⟩ := a
      simp only at this; subst this
      exact ⟨b, off, _, by rw [hll]⟩
    · obtain ⟨i, x, m', h1, h2, rfl, h4⟩ := flat_at hk hj
      have h5 := (hq i x h1).2 m' h4
      rw [h2] at h5
      have := hsp (by have := (List.getElem?_eq_some_iff.1 h1).1; omega)
      obtain ⟨b, off, spot⟩ := a
      simp only at this; subst this
      rw [← h5]
      congr 1
      simp only [Addr.add, rb, ro]
      split
      · rename_i h0; rw [h0]; rfl
      · rfl
    · have hlt := (List.getElem?_eq_some_iff.1 hx).1
      exact ⟨D i, by rw [List.getElem?_map, List.getElem?_range (by omega)]; rfl, (hq i x hx).1⟩
theorem elem_str2_bool' {e : Nat} {f0 f1 f2 : Field} {W : World} {base : Nat} {sp : Nat → Bool} {n : Nat} {cs : List Value} {y : DataW H × List MemPlace} (he : P.underlying e = some (.struct #[f0, f1, f2])) (hone : oneCellFields P #[f0, f1, f2] = true) (hC : P.cellsOf e = 3)
  (h0 : P.underlying f0.type = some .string) (h1 : P.underlying f1.type = some .string) (h2 : P.underlying f2.type = some .bool) (h : DataW.trod enc P W base sp true n e cs = some y) :
  ∃ (a b : ByteArray) (g : Bool) (d0 d1 d2 : DataW H), a.size ≤ maxLen ∧ b.size ≤ maxLen ∧ cs = [.string a, .string b, .bool g] ∧ y.1 = .agg [d0, d1, d2] := by
 obtain ⟨a, b, g, wa, wb, e1⟩ := elem_str2_bool he hone hC h0 h1 h2 h
 obtain ⟨xs, n', _, hy, hl, hlen, hg⟩ := DataW.trod_struct he h
 match xs, hlen with
 | [y0, y1, y2], _ => exact ⟨a, b, g, y0.1, y1.1, y2.1, wa, wb, e1, by rw [hy]; rfl⟩
theorem elem_int_rows_int2 {X : Type} (cellsX : X → List Value) (Φ : X → DataW H → Prop) {k : Nat} (hk : ∀ x, (cellsX x).length = k) (hk0 : 0 < k) {e : Nat} {f0 f1 f2 f3 : Field} {k0 k2 k3 : IntKind} {ei : Nat} {W : World} {base : Nat} {sp : Nat → Bool} {n : Nat} {cs : List Value} {y : DataW H × List MemPlace}
  (he : P.underlying e = some (.struct #[f0, f1, f2, f3])) (hone : oneCellFields P #[f0, f1, f2, f3] = true) (hC : P.cellsOf e = 4)
  (h0 : P.underlying f0.type = some (.int k0)) (h1 : P.underlying f1.type = some (.slice ei)) (h2 : P.underlying f2.type = some (.int k2)) (h3 : P.underlying f3.type = some (.int k3)) (hCi : P.cellsOf ei = k)
  (elem : ∀ n cs y, DataW.trod enc P W base sp true n ei cs = some y → ∃ x, Φ x y.1 ∧ cs = cellsX x) (h : DataW.trod enc P W base sp true n e cs = some y) :
  ∃ (a b c : Int) (v : Value) (l : List X) (d0 d1 d2 d3 : DataW H), (Lit.int k0 a).wf = true ∧ (Lit.int k2 b).wf = true ∧ (Lit.int k3 c).wf = true ∧ Rd W v l.length (l.flatMap cellsX) ∧ l.length ≤ maxLen ∧
   (l = [] ∨ ∃ ds ss, d1 = .slice ds ss ∧ ds.length = l.length ∧ ∀ (i : Nat) x, l[i]? = some x → ∃ d, ds[i]? = some d ∧ Φ x d) ∧ cs = [.int k0 a, v, .int k2 b, .int k3 c] ∧ y.1 = .agg [d0, d1, d2, d3] := by
 obtain ⟨xs, n', _, hy, hl, hlen, hg⟩ := DataW.trod_struct he h
 match xs, hlen with
 | [y0, y1, y2, y3], _ =>
  have key : ∀ (i : Nat) (f : Field) z, #[f0, f1, f2, f3][i]? = some f → [y0, y1, y2, y3][i]? = some z → DataW.trod enc P W base sp true n' f.type ((cs.drop i).take 1) = some z := fun i f z hi hz => by
   obtain ⟨o, kk⟩ := hone_of hone i f hi
   have h' := hg i f hi
   rwa [o, kk, hz] at h'
  obtain ⟨a, ea, _, wa⟩ := DataW.trod_int h0 (key 0 f0 y0 rfl rfl)
  obtain ⟨b, eb, _, wb⟩ := DataW.trod_int h2 (key 2 f2 y2 rfl rfl)
  obtain ⟨c, ec, _, wc⟩ := DataW.trod_int h3 (key 3 f3 y3 rfl rfl)
  obtain ⟨v, l, ev, hrd, hlm, hd⟩ := rows_in cellsX Φ hk hk0 h1 hCi elem (key 1 f1 y1 rfl rfl)
  rw [hC] at hl
  match cs, hl with
  | [c0, c1, c2, c3], _ =>
   simp at ea eb ec ev
   exact ⟨a, b, c, v, l, y0.1, y1.1, y2.1, y3.1, wa, wb, wc, hrd, hlm, hd, by rw [ea, eb, ec, ev], by rw [hy]; rfl⟩
end
theorem Wl.sl2 {P : Program} {W0 : World} {Q : Exit → Act → World → Prop} {n' : Nat} {D : List Deferred} {ops : Array Oper} {E : Nat → Value} {L : List HP} {os : List Oper} {i e k m : Nat} {v : Value} {xs : List Value} (hi : L[i]? = some (Go.SL.sl e k v m xs))
  (k1 : v = .slice none 0 0 → Wl P W0 Q n' D ops os E L) (k2 : ∀ b cap, v = .slice (some ⟨b, 0, none⟩) m cap → Wl P W0 Q n' D ops os E L) : Wl P W0 Q n' D ops os E L := fun a w ha hs => by
 rcases st_sl_cases (st_at hs hi) with ⟨e1, _, _⟩ | ⟨b, cap, e1, _, _, _⟩
 · exact k1 e1 a w ha hs
 · exact k2 b cap e1 a w ha hs
theorem Wl.ex {P : Program} {W0 : World} {Q : Exit → Act → World → Prop} {n : Nat} {D : List Deferred} {ops : Array Oper} {E : Nat → Value} {L : List HP} {os : List Oper} {X : Type} {p : X → HP} (k : ∀ x, Wl P W0 Q n D ops os E (p x :: L)) :
  Wl P W0 Q n D ops os E (Go.SL.ex p :: L) := fun a w ha hs => let ⟨x, hx⟩ := st_ex.1 hs; k x a w ha hx
theorem Wl.pr {P : Program} {W0 : World} {Q : Exit → Act → World → Prop} {n : Nat} {D : List Deferred} {ops : Array Oper} {E : Nat → Value} {L : List HP} {os : List Oper} {φ : Prop} (k : φ → Wl P W0 Q n D ops os E L) :
  Wl P W0 Q n D ops os E (pr φ :: L) := fun a w ha hs => let ⟨h1, h2⟩ := st_pr.1 hs; k h1 a w ha h2
def kid : Nat → Code → Code
 | 0, .seq a _ => a
 | _, .seq _ b => b
 | 0, .cond _ a _ => a
 | _, .cond _ _ b => b
 | _, .block _ c => c
 | _, .loop c => c
 | _, c => c
def nav (c : Code) : List Nat → Code
 | [] => c
 | i :: l => nav (kid i c) l
end Go.SL
namespace Go.Proofs.YtjnejkdamhefgaaGreatDoor
open Tryz
open Go Go.SL Go.St Go.Wr Go.RowKit
open Go.Dk (DS WF)
open Go.Jn (JS Ok openD_up)
set_option linter.unusedVariables false
set_option maxRecDepth 8000
theorem fo_49_1 : fieldOff prog 49 1 = some 1 := by kernel_rfl
theorem sc_39 : scalar prog 39 = true := by kernel_rfl
theorem fo_49_0 : fieldOff prog 49 0 = some 0 := by kernel_rfl
theorem sc_47 : scalar prog 47 = true := by kernel_rfl
theorem sz_39 : sizeIs prog 39 = some 1 := by kernel_rfl
def nxt (vL : Value) (T : AL) (i : Nat) (nv : Value) (T1 : AL) : HP := match i with
 | 0 => pr (nv = vL ∧ T1 = T)
 | _ + 1 => sl 53 3 nv (allA T1).length ((allA T1).flatMap pairCells)
theorem with_at {T : AL} (h : okA T) (p : PairR) : withF p p.g (allA T) = allA (if p.g = true then delA p.n T else putA p.n p.t T) := with_all h.1 p
set_option maxHeartbeats 8000000 in
theorem rchange_c (W0 : World) (vl : Value) (l : List PairR) (hl : Rd W0 vl l.length (l.flatMap pairCells)) (hlm : l.length ≤ 9223372036854775807) (hsz : ∀ p ∈ l, p.n.size ≤ 9223372036854775807 ∧ p.t.size ≤ 9223372036854775807) (v jr q : Nat) (vL : Value) (T : AL) (hT : okA T) (hTl : T.length ≤ 256) (js : JS) (d : DS) (hfew : l.length ≤ 600000) (hw : WF d) (h4 : 4 ≤ d.secs.length) (hsn : d.since.length < 1000000000000) (hct : d.count < 4000000000000000000) (hq0 : 0 ≤ js.seq) (hq : js.seq < 9223372036854775807) :
    Con prog W0 12 #[Vp v, vl] [pt v 49 [Vp jr, vL], sl 53 3 vL ((allA T).length) ((allA T).flatMap pairCells), pt jr 46 [Vp q, Vs ((js : JS).text), Vi ((js : JS).seq), Value.bool ((js : JS).dead)], isRef q d] (X := Value) (fun _ => True) (fun _ => .int .i64 (chgS d ⟨js, T⟩ l).1) (fun y => [pt v 49 [.pointer (some ⟨jr, 0, none⟩), y], sl 53 3 y (allA (chgS d ⟨js, T⟩ l).2.2.T).length ((allA (chgS d ⟨js, T⟩ l).2.2.T).flatMap pairCells), isRJ jr q (chgS d ⟨js, T⟩ l).2.2.js, isRef q (chgS d ⟨js, T⟩ l).2.1]) := by
  refine Con.of func12 rfl ntmps12 rfl (fun F => ?_)
  show Wc _ W0 _ _ _ _ _ ((pt v 49 [Vp jr, vL]) :: (sl 53 3 vL ((allA T).length) ((allA T).flatMap pairCells)) :: (pt jr 46 [Vp q, Vs ((js : JS).text), Vi ((js : JS).seq), Value.bool ((js : JS).dead)]) :: (isRef q d) :: F)
  refine Wc.a 1 rfl (Wc.b 1 rfl (Wl.e (e_c call44 (Con.eqs (val' := fun _ => .int .i64 (chgA T [] l).1) (post' := fun _ => []) (rwrong_c W0 vl l hl hlm hsz) (fun _ => by rw [chgA_err]) (fun _ => rfl))) (fun _ _ => Wl.rg 1 rfl (Wc.seq (Wc.b 1 rfl ?_)))))
  by_cases he : (chgA T [] l).1 = 0
  ·
    refine Wl.q (q_neq rfl rfl (dt he)) (Wl.dg (Wc.no rfl (Wc.skip (Wx.go (Wc.b 2 rfl (Wl.q (q_field fo_49_1 rfl rfl) (Wl.q (q_c 0 sc_39 rfl rfl rfl) (Wl.rg 1 rfl (Wc.seq (Wc.a 1 rfl (Wc.block ?_)))))))))))
    refine Wc.loop (X := Nat × AL × List ByteArray × Value) (fun (i, T1, met, nv) E => E 7 = Vi ((i : Nat) : Int) ∧ E 6 = nv ∧ E 0 = Vp v ∧ E 1 = vl ∧ i ≤ l.length ∧ (chgA T [] l) = chgA T1 met (l.drop i) ∧ okA T1 ∧ T1.length ≤ T.length + i) (fun (i, T1, met, nv) => (nxt vL T i nv T1) :: (pt v 49 [Vp jr, vL]) :: (sl 53 3 vL ((allA T).length) ((allA T).flatMap pairCells)) :: (pt jr 46 [Vp q, Vs ((js : JS).text), Vi ((js : JS).seq), Value.bool ((js : JS).dead)]) :: (isRef q d) :: F) (fun (i, T1, met, nv) => l.length - i) (0, T, [], vL) ?_ ?_ ?_
    · exact ⟨rfl, rfl, rfl, rfl, (Nat.zero_le _), rfl, hT, (Nat.le_refl _)⟩
    · exact fun w hs => st_pr.2 ⟨⟨rfl, rfl⟩, hs⟩
    · rintro ⟨i, T1, met, nv⟩ E2 ⟨hE7_0, hE6_0, hE0_0, hE1_0, hi, hp0, hT1, hTn⟩
      dsimp only at *
      refine Wc.seq (Wc.sr (Wl.q (v := Vi ((i : Nat) : Int)) (q_move hE7_0) (Wl.q (v := vl) (q_move hE1_0) (Wl.q (q_len_is underlying39 rfl hl.shape) ?_))))
      by_cases hlt : ((i : Nat) : Int) < ((l.length : Nat) : Int)
      ·
        obtain ⟨⟨on, ot, og⟩, hget⟩ : ∃ o, l[i]? = some o := ⟨l[i]'(by omega), List.getElem?_eq_getElem (by omega)⟩
        have hfit := he
        rw [hp0, chg_at hget] at hfit
        have hlong : ¬ longP ⟨on, ot, og⟩ := fun h => by rw [if_pos h] at hfit; exact absurd (show (3 : Int) = 0 from hfit) (by decide)
        rw [if_neg hlong] at hfit
        have hng : ¬ ((⟨on, ot, og⟩ : PairR).g = true ∧ (⟨on, ot, og⟩ : PairR).t ≠ ⟨#[]⟩) := fun h => by rw [if_pos h] at hfit; exact absurd (show (1 : Int) = 0 from hfit) (by decide)
        rw [if_neg hng] at hfit
        have hmet : (⟨on, ot, og⟩ : PairR).n ∉ met := fun h => by rw [if_pos h] at hfit; exact absurd (show (13 : Int) = 0 from hfit) (by decide)
        have hon : on.size ≤ 65536 := by unfold longP at hlong; simp only at hlong; omega
        have hot : ot.size ≤ 65536 := by unfold longP at hlong; simp only at hlong; omega
        refine Wl.q (q_lss rfl rfl (dt hlt)) (Wl.dg (Wc.yes rfl (Wc.skip (Wx.go (Wc.seq (Wc.block (Wc.region ?_)))))))
        rcases i with _ | i'
        ·
          refine Wl.imp (L' := pr (nv = vL ∧ T1 = T) :: (pt v 49 [Vp jr, vL]) :: (sl 53 3 vL ((allA T).length) ((allA T).flatMap pairCells)) :: (pt jr 46 [Vp q, Vs ((js : JS).text), Vi ((js : JS).seq), Value.bool ((js : JS).dead)]) :: (isRef q d) :: F) (fun w hs => st_pull [0] hs) (Wl.pr (fun h0 => ?_))
          obtain ⟨h01, h02⟩ := h0
          have h01 := h01.symm
          have h02 := h02.symm
          subst h01
          subst h02
          refine Wl.q (v := vL) (q_move hE6_0) (Wl.q (v := vl) (q_move hE1_0) (Wl.q (v := Vi ((0 : Nat) : Int)) (q_move hE7_0) (Wl.q (q_idx_is (m := ro vl + 0 * 3) se_39 rfl (hl.some_ (by omega)) rfl (by omega) (by omega) rfl) (Wl.q (v := Value.agg #[Vs on, Vs ot, Value.bool og]) (q_loadAgg (vs := [Vs on, Vs ot, Value.bool og]) ag_53 rfl (fun j u hj => .old (rdP hl hget j hj))) (Wl.pull [1] (Wl.e (e_c call45 (rwith_c W0 vL (allA T) (by rw [allA_len]; omega) on ot og)) (fun v2 _ => Wl.run 1 rfl (Wl.done (Wx.blockEnd (Wx.go (Wc.region (Wl.q (v := Vi ((0 : Nat) : Int)) (q_move hE7_0) (Wl.q (q_add (c := ((0 + 1 : Nat) : Int)) rfl rfl (by rw [wrap_i64] <;> omega)) (Wl.run 1 rfl (Wl.done ?_)))))))))))))))
          refine Wx.at (0 + 1, (if og = true then delA on T else putA on ot T), met ++ [on], v2) ⟨(by simp only; omega), rfl, rfl, hE0_0, hE1_0, (by simp only; omega), (hp0.trans (by rw [chg_at hget, if_neg hlong, if_neg hng, if_neg hmet])), (by have h8 := hfit; split; (exact okA_del hT1 on); (exact okA_put hT1 hon hot)), (by simp only; split; (have := delA_len on T; omega); (have := putA_len on ot T; omega))⟩ (fun w hs => by show st W0 w (sl 53 3 v2 _ _ :: _); rw [← with_at hT1 ⟨on, ot, og⟩]; exact (st_pull [0, 1, 0, 0, 0] (hs)))
        ·
          refine Wl.q (v := nv) (q_move hE6_0) (Wl.q (v := vl) (q_move hE1_0) (Wl.q (v := Vi (((i' + 1) : Nat) : Int)) (q_move hE7_0) (Wl.q (q_idx_is (m := ro vl + (i' + 1) * 3) se_39 rfl (hl.some_ (by omega)) rfl (by omega) (by omega) rfl) (Wl.q (v := Value.agg #[Vs on, Vs ot, Value.bool og]) (q_loadAgg (vs := [Vs on, Vs ot, Value.bool og]) ag_53 rfl (fun j u hj => .old (rdP hl hget j hj))) (Wl.e (e_c call45 (rwith_c W0 nv (allA T1) (by rw [allA_len]; omega) on ot og)) (fun v2 _ => Wl.run 1 rfl (Wl.done (Wx.blockEnd (Wx.go (Wc.region (Wl.q (v := Vi (((i' + 1) : Nat) : Int)) (q_move hE7_0) (Wl.q (q_add (c := (((i' + 1) + 1 : Nat) : Int)) rfl rfl (by rw [wrap_i64] <;> omega)) (Wl.run 1 rfl (Wl.done ?_))))))))))))))
          refine Wx.at ((i' + 1) + 1, (if og = true then delA on T1 else putA on ot T1), met ++ [on], v2) ⟨(by simp only; omega), rfl, rfl, hE0_0, hE1_0, (by simp only; omega), (hp0.trans (by rw [chg_at hget, if_neg hlong, if_neg hng, if_neg hmet])), (by have h8 := hfit; split; (exact okA_del hT1 on); (exact okA_put hT1 hon hot)), (by simp only; split; (have := delA_len on T1; omega); (have := putA_len on ot T1; omega))⟩ (fun w hs => by show st W0 w (sl 53 3 v2 _ _ :: _); rw [← with_at hT1 ⟨on, ot, og⟩]; exact (st_drop (st_pull [1] hs)))
      ·
        have hke : i = l.length := by omega
        have hc0 : (chgA T [] l) = (0, T1) := by rw [hp0, hke, List.drop_length]; rfl
        refine Wl.q (q_lss rfl rfl (df hlt)) (Wl.dg (Wc.no rfl (Wc.exit (Wx.thenExit (Wx.thenExit (Wx.out (Wx.go (Wc.sr ?_))))))))
        rcases i with _ | i'
        ·
          refine Wl.imp (L' := pr (nv = vL ∧ T1 = T) :: (pt v 49 [Vp jr, vL]) :: (sl 53 3 vL ((allA T).length) ((allA T).flatMap pairCells)) :: (pt jr 46 [Vp q, Vs ((js : JS).text), Vi ((js : JS).seq), Value.bool ((js : JS).dead)]) :: (isRef q d) :: F) (fun w hs => st_pull [0] hs) (Wl.pr (fun h0 => ?_))
          obtain ⟨h01, h02⟩ := h0
          have h01 := h01.symm
          have h02 := h02.symm
          subst h01
          subst h02
          refine Wl.q (v := vL) (q_move hE6_0) (Wl.pull [1] (Wl.e (e_c call46 (refpack_sl W0 vL (allA T) (by rw [allA_len]; omega) (allA_size hT))) (fun _ _ => Wl.rg 5 rfl (Wc.seq (Wc.b 1 rfl ?_)))))
          by_cases hpk : (packP (allA T)).2 = 0
          ·
            refine Wl.q (q_neq rfl rfl (dt hpk)) (Wl.dg (Wc.no rfl (Wc.skip (Wx.go (Wc.sr (Wl.q (v := Vp v) (q_move hE0_0) (Wl.run 1 rfl (Wl.q (q_field fo_49_0 rfl rfl) (Wl.q (q_c 1 sc_47 rfl rfl rfl) (Wl.run 1 rfl (Wl.pull [2, 2] (Wl.e (e_c call47 (rPut_c W0 jr q js d (packP (allA T)).1 hw h4 hsn hct hq0 hq)) (fun _ _ => Wl.rg 1 rfl (Wc.seq (Wc.b 1 rfl ?_)))))))))))))))
            by_cases hpe : (JS.put js d (packP (allA T)).1).1 = 0
            ·
              refine Wl.q (q_eql rfl rfl (dt hpe)) (Wl.dg (Wc.yes rfl (Wc.region (Wl.q (v := Vp v) (q_move hE0_0) (Wl.q (v := vL) (q_move hE6_0) (Wl.run 1 rfl (Wl.q (q_field fo_49_1 rfl rfl) (Wl.e (e_store (i := 3) (v := vL) sz_39 rfl rfl (fun _ h => sl_one (i := 2) h rfl) rfl (by simp)) (fun _ _ => Wl.dg (Wc.a 2 rfl (Wc.ret (Wx.f1 rfl (fun w hs => ?_)))))))))))))
              have hS := chgS_ok (d := d) (s := ⟨js, T⟩) (l := l) hc0 hpk hpe
              exact ⟨vL, trivial, by rw [hS]; rfl, by rw [hS]; exact (st_pull [3, 2, 0, 0] (hs))⟩
            ·
              refine Wl.q (q_eql rfl rfl (df hpe)) (Wl.dg (Wc.no rfl (Wc.skip (Wx.go (Wc.a 2 rfl (Wc.ret (Wx.f1 rfl (fun w hs => ?_))))))))
              have hS := chgS_put (d := d) (s := ⟨js, T⟩) (l := l) hc0 hpk hpe
              exact ⟨vL, trivial, by rw [hS]; rfl, by rw [hS]; exact (st_pull [3, 2, 0, 0] (hs))⟩
          ·
            refine Wl.q (q_neq rfl rfl (df hpk)) (Wl.dg (Wc.yes rfl (Wc.a 2 rfl (Wc.ret (Wx.thenRet (Wx.f1 rfl (fun w hs => ?_)))))))
            have hS := chgS_pk (d := d) (s := ⟨js, T⟩) (l := l) hc0 hpk
            exact ⟨vL, trivial, by rw [hS]; rfl, by rw [hS]; exact (st_pull [1, 0, 0, 0] (hs))⟩
        ·
          refine Wl.q (v := nv) (q_move hE6_0) (Wl.e (e_c call46 (refpack_sl W0 nv (allA T1) (by rw [allA_len]; omega) (allA_size hT1))) (fun _ _ => Wl.rg 5 rfl (Wc.seq (Wc.b 1 rfl ?_))))
          by_cases hpk : (packP (allA T1)).2 = 0
          ·
            refine Wl.q (q_neq rfl rfl (dt hpk)) (Wl.dg (Wc.no rfl (Wc.skip (Wx.go (Wc.sr (Wl.q (v := Vp v) (q_move hE0_0) (Wl.run 1 rfl (Wl.q (q_field fo_49_0 rfl rfl) (Wl.q (q_c 1 sc_47 rfl rfl rfl) (Wl.run 1 rfl (Wl.pull [3, 3] (Wl.e (e_c call47 (rPut_c W0 jr q js d (packP (allA T1)).1 hw h4 hsn hct hq0 hq)) (fun _ _ => Wl.rg 1 rfl (Wc.seq (Wc.b 1 rfl ?_)))))))))))))))
            by_cases hpe : (JS.put js d (packP (allA T1)).1).1 = 0
            ·
              refine Wl.q (q_eql rfl rfl (dt hpe)) (Wl.dg (Wc.yes rfl (Wc.region (Wl.q (v := Vp v) (q_move hE0_0) (Wl.q (v := nv) (q_move hE6_0) (Wl.run 1 rfl (Wl.q (q_field fo_49_1 rfl rfl) (Wl.e (e_store (i := 3) (v := nv) sz_39 rfl rfl (fun _ h => sl_one (i := 2) h rfl) rfl (by simp)) (fun _ _ => Wl.dg (Wc.a 2 rfl (Wc.ret (Wx.f1 rfl (fun w hs => ?_)))))))))))))
              have hS := chgS_ok (d := d) (s := ⟨js, T⟩) (l := l) hc0 hpk hpe
              exact ⟨nv, trivial, by rw [hS]; rfl, by rw [hS]; exact (st_pull [3, 2, 0, 0] (st_drop (st_pull [4] hs)))⟩
            ·
              refine Wl.q (q_eql rfl rfl (df hpe)) (Wl.dg (Wc.no rfl (Wc.skip (Wx.go (Wc.a 2 rfl (Wc.ret (Wx.f1 rfl (fun w hs => ?_))))))))
              have hS := chgS_put (d := d) (s := ⟨js, T⟩) (l := l) hc0 hpk hpe
              exact ⟨vL, trivial, by rw [hS]; rfl, by rw [hS]; exact (st_pull [2, 2, 0, 0] (st_drop (st_pull [2] hs)))⟩
          ·
            refine Wl.q (q_neq rfl rfl (df hpk)) (Wl.dg (Wc.yes rfl (Wc.a 2 rfl (Wc.ret (Wx.thenRet (Wx.f1 rfl (fun w hs => ?_)))))))
            have hS := chgS_pk (d := d) (s := ⟨js, T⟩) (l := l) hc0 hpk
            exact ⟨vL, trivial, by rw [hS]; rfl, by rw [hS]; exact (st_drop (st_pull [0] hs))⟩
  ·
    refine Wl.q (q_neq rfl rfl (df he)) (Wl.dg (Wc.yes rfl (Wc.a 2 rfl (Wc.ret (Wx.thenRet (Wx.f1 rfl (fun w hs => ?_)))))))
    have hS := chgS_bad (d := d) (s := ⟨js, T⟩) (l := l) rfl he
    exact ⟨vL, trivial, by rw [hS]; rfl, by rw [hS]; exact hs⟩
end Go.Proofs.YtjnejkdamhefgaaGreatDoor
