/- A part of the proof. -/
import Derived.Test.YtjnejkdamhefgaaGreatDoorStR
import Derived.Test.YtjnejkdamhefgaaGreatDoorStBo
namespace Go.Proofs.YtjnejkdamhefgaaGreatDoor
open Tryz
open Go Go.SL Go.St Go.Wr Go.RowKit
open Go.Dk (DS WF)
open Go.Jn (JS Ok openD_up)
set_option linter.unusedVariables false
set_option maxRecDepth 8000
open Go.Dk (beyondB beyond_le beyond_two)
open Go.Jn (half putD nPieces put_js put_big)
def stOk (T : AL) (l : List PairR) : Prop := chOk T l ∧ ¬ 6336 < (packP (allA (chgA T [] l).2)).1.size
instance (T : AL) (l : List PairR) : Decidable (stOk T l) := inferInstanceAs (Decidable (_ ∧ _))
def fewP (l : List PairR) : Prop := l.length ≤ 600000000 ∧ ((∀ p ∈ l, ¬ longP p) → l.length ≤ 600000)
def few2 (l : List PairR) : Prop := l.length ≤ 268435456 ∧ ((∀ p ∈ l, ¬ longP p) → l.length ≤ 262144)
theorem few2.few {l : List PairR} (h : few2 l) : fewP l := ⟨by have := h.1; omega, fun h' => by have := h.2 h'; omega⟩
theorem few2.append {l m : List PairR} (h : few2 l) (h' : few2 m) : fewP (l ++ m) :=
 ⟨by have := h.1; have := h'.1; rw [List.length_append]; omega, fun h0 => by
  have h1 := h.2 fun p hp => h0 p (List.mem_append_left _ hp)
  have h2 := h'.2 fun p hp => h0 p (List.mem_append_right _ hp)
  rw [List.length_append]; omega⟩
end Go.Proofs.YtjnejkdamhefgaaGreatDoor
namespace Go.Proofs.YtjnejkdamhefgaaGreatDoor
open Tryz
open Go Go.SL Go.St Go.Wr Go.RowKit
open Go.Dk (DS WF)
open Go.Jn (JS Ok openD_up)
set_option linter.unusedVariables false
set_option maxRecDepth 8000
open Go.Dk (beyondB beyond_le beyond_two)
theorem pairs_cells (l : List PairR) : (l.flatMap pairCells).all (·.oneCell') = true := by
 rw [List.all_eq_true]; intro x hx
 obtain ⟨p, hp, hq⟩ := List.mem_flatMap.1 hx
 unfold pairCells at hq
 simp only [List.mem_cons, List.not_mem_nil, or_false] at hq
 rcases hq with rfl | rfl | rfl <;> rfl
end Go.Proofs.YtjnejkdamhefgaaGreatDoor
namespace Go.Proofs.YtjnejkdamhefgaaGreatDoor
open Go Go.SL Go.St Go.Wr Go.RowKit
open Go.Dk (DS WF)
open Go.Jn (JS Ok openD_up)
set_option linter.unusedVariables false
set_option maxRecDepth 8000
theorem se_22 : sliceElem Tryz.prog 22 = some (41, 4) := by kernel_rfl
theorem fo_41_1 : fieldOff Tryz.prog 41 1 = some 1 := by kernel_rfl
open Go.Dk (beyondB beyond_le beyond_two)
open Go.Jn (openD open_err)
def sS (pp q : Nat) (vs vv : Value) (os : Option StS) : HP := match os with
 | none => pr (vs = .pointer none ∧ vv = .pointer none)
 | some s => ex fun sp => ex fun j => ex fun mb => ex fun v => ex fun jr => ex fun vL => grp [pr (vs = .pointer (some ⟨sp, 0, none⟩) ∧ vv = .pointer (some ⟨v, 0, none⟩)),
   pt sp 114 [.pointer (some ⟨j, 0, none⟩), .map (some mb)], mp mb (strV s.T), isJ j pp s.js, pt v 49 [.pointer (some ⟨jr, 0, none⟩), vL], sl 53 3 vL (allA s.T).length ((allA s.T).flatMap pairCells), isRJ jr q s.js]
theorem sS_none {W0 w : World} {L : List HP} {pp q : Nat} (h : st W0 w L) : st W0 w (sS pp q (.pointer none) (.pointer none) none :: L) := st_pr.2 ⟨⟨rfl, rfl⟩, h⟩
theorem sS_mk {W0 w : World} {L : List HP} {pp q sp j mb v jr : Nat} {vL : Value} {s : StS} {l : List PairR} (e : allA s.T = l)
  (h : st W0 w (pt sp 114 [.pointer (some ⟨j, 0, none⟩), .map (some mb)] :: mp mb (strV s.T) :: isJ j pp s.js :: pt v 49 [.pointer (some ⟨jr, 0, none⟩), vL] :: sl 53 3 vL l.length (l.flatMap pairCells) :: isRJ jr q s.js :: L)) :
  st W0 w (sS pp q (.pointer (some ⟨sp, 0, none⟩)) (.pointer (some ⟨v, 0, none⟩)) (some s) :: L) := by
 subst e
 exact st_ex.2 ⟨sp, st_ex.2 ⟨j, st_ex.2 ⟨mb, st_ex.2 ⟨v, st_ex.2 ⟨jr, st_ex.2 ⟨vL, st_grp.2 (st_pr.2 ⟨⟨rfl, rfl⟩, h⟩)⟩⟩⟩⟩⟩⟩
def opB (W0 : World) (o : OpS) : Prop := Rd W0 o.v o.l.length (o.l.flatMap pairCells) ∧ o.l.length ≤ 262144 ∧ (∀ p ∈ o.l, okP p) ∧ o.n ≤ 9223372036854775807
theorem names_V (T : AL) : (namesA T).map Go.Proofs.encStr = ((allA T).map (·.n)).map Value.string := by rw [allA_keys, List.map_map]; rfl
theorem nameV_V (T : AL) : (allA T).map nameV = ((allA T).map (·.n)).map Value.string := by rw [List.map_map]; rfl
theorem names_l (T : AL) : T.length = ((allA T).map (·.n)).length := by rw [List.length_map, allA_len]
theorem sizeo_c (W0 : World) (vl : Value) (l : List OpS) (hl : Rd W0 vl l.length (l.flatMap opSC)) (hlb : ∀ o ∈ l, opB W0 o) (hlm : l.length ≤ 9223372036854775807) :
    Con Tryz.prog W0 5 #[vl] [] (X := Int) (fun r => -9223372036854775808 ≤ r ∧ r ≤ 9223372036854775807) (fun r => .int .i64 r) (fun r => []) := by
  refine Con.of Tryz.func5 rfl Tryz.ntmps5 rfl (fun F => ?_)
  show Wc _ W0 _ _ _ _ _ (F)
  refine Wc.a 1 rfl (Wc.b 1 rfl (Wl.q (q_len_is Tryz.underlying22 rfl hl.shape) (Wl.rg 1 rfl (Wc.seq (Wc.a 1 rfl (Wc.block ?_))))))
  refine Wc.loop (X := Nat × Int) (fun (k, acc) E => E 4 = Vi ((k : Nat) : Int) ∧ E 3 = Vi acc ∧ E 0 = vl ∧ (-9223372036854775808 ≤ acc ∧ acc ≤ 9223372036854775807) ∧ k ≤ l.length) (fun (k, acc) => F) (fun (k, acc) => l.length - k) (0, (l.length : Int)) ?_ ?_ ?_
  · exact ⟨rfl, rfl, rfl, (by omega), (Nat.zero_le _)⟩
  · exact fun w hs => hs
  · rintro ⟨k, acc⟩ E2 ⟨hE4_0, hE3_0, hE0_0, hp0, hk⟩
    dsimp only at *
    refine Wc.seq (Wc.sr (Wl.q (v := Vi ((k : Nat) : Int)) (q_move hE4_0) (Wl.q (v := vl) (q_move hE0_0) (Wl.q (q_len_is Tryz.underlying22 rfl hl.shape) ?_))))
    by_cases hlt : ((k : Nat) : Int) < ((l.length : Nat) : Int)
    ·
      obtain ⟨o, hget⟩ : ∃ o, l[k]? = some o := ⟨l[k]'(by omega), List.getElem?_eq_getElem (by omega)⟩
      have hob := hlb o (List.mem_of_getElem? hget)
      refine Wl.q (q_lss rfl rfl (dt hlt)) (Wl.run 1 rfl (Wl.q (v := Vi acc) (q_move hE3_0) ?_))
      by_cases hsm : acc < 268435456
      ·
        refine Wl.q (q_lss rfl rfl (dt hsm)) (Wl.rg 1 rfl (Wc.yes rfl (Wc.skip (Wx.go (Wc.seq (Wc.block (Wc.region (Wl.q (v := Vi acc) (q_move hE3_0) (Wl.q (v := vl) (q_move hE0_0) (Wl.q (v := Vi ((k : Nat) : Int)) (q_move hE4_0) (Wl.q (q_idx_is (m := ro vl + k * 4) se_22 rfl (hl.some_ (by omega)) rfl (by omega) (by omega) rfl) (Wl.q (q_field (m := ro vl + k * 4 + 1) fo_41_1 rfl rfl) (Wl.q (v := o.v) (q_load sc_39 rfl (.old (rdS hl hget 1 rfl))) (Wl.e (e_c Tryz.call29 (size_c W0 o.v o.l hob.1 (by have := hob.2.1; omega))) (fun zs ⟨hzs, _, _⟩ => Wl.q (q_add (c := (IntKind.i64.wrap (acc + zs))) rfl rfl rfl) (Wl.run 1 rfl (Wl.done (Wx.blockEnd (Wx.go (Wc.region (Wl.q (v := Vi ((k : Nat) : Int)) (q_move hE4_0) (Wl.q (q_add (c := ((k + 1 : Nat) : Int)) rfl rfl (by rw [wrap_i64] <;> omega)) (Wl.run 1 rfl ?_)))))))))))))))))))))))
        refine Wl.done ?_
        refine Wx.at (k + 1, IntKind.i64.wrap (acc + zs)) ⟨(by simp only; omega), rfl, rfl, hE0_0, (wrap_range _), (by simp only; omega)⟩ (fun w hs => hs)
      ·
        refine Wl.q (q_lss rfl rfl (df hsm)) (Wl.rg 1 rfl (Wc.no rfl (Wc.exit (Wx.thenExit (Wx.thenExit (Wx.out (Wx.go (Wc.sr (Wl.q (v := Vi acc) (q_move hE3_0) (Wl.rg 1 rfl (Wc.ret (Wx.f1 rfl (fun w hs => ?_)))))))))))))
        exact ⟨acc, hp0, rfl, hs⟩
    ·
      refine Wl.q (q_lss rfl rfl (df hlt)) (Wl.rg 4 rfl (Wc.no rfl (Wc.exit (Wx.thenExit (Wx.thenExit (Wx.out (Wx.go (Wc.sr (Wl.q (v := Vi acc) (q_move hE3_0) (Wl.rg 1 rfl (Wc.ret (Wx.f1 rfl (fun w hs => ?_)))))))))))))
      exact ⟨acc, hp0, rfl, hs⟩
theorem seq_g0 (W0 : World) (sp j mb dp : Nat) (t : ByteArray) (q : Int) (dd : Bool) :
  Con1 Tryz.prog W0 14 #[Vp sp] [pt sp 114 [Vp j, Value.map (some mb)], isJ j dp ⟨t, q, dd⟩] (.int .i64 q) [pt sp 114 [Vp j, Value.map (some mb)], isJ j dp ⟨t, q, dd⟩] := by
 refine Con.of Tryz.func14 rfl Tryz.ntmps14 rfl (fun F => ?_)
 show Wc _ W0 _ _ _ _ _ ((pt sp 114 [Vp j, Value.map (some mb)]) :: (isJ j dp ⟨t, q, dd⟩) :: F)
 refine Wc.a 1 rfl (Wc.seq (Wc.b 1 rfl (Wl.e (e_c Tryz.call39 (st_there W0 sp j mb)) (fun _ _ => Wl.q (q_not rfl rfl) (Wl.dg (Wc.no rfl (Wc.skip (Wx.go (Wc.b 2 rfl (Wl.q (q_field fo_114_0 rfl rfl) (Wl.q (q_c 0 sc_109 rfl rfl rfl) (Wl.imp (L' := (isJ j dp ⟨t, q, dd⟩) :: (pt sp 114 [Vp j, Value.map (some mb)]) :: F) (fun _ h => st_pull [1] h) (Wl.e (e_c Tryz.call34 (seq_in W0 j dp t q dd)) (fun _ _ => Wl.rg 1 rfl (Wc.ret (Wx.f1 rfl (fun w hs => ?_)))))))))))))))))
 exact ⟨(), trivial, rfl, (st_pull [1, 0] (hs))⟩
theorem seq_g (W0 : World) (sp j mb dp : Nat) (js : JS) : Con1 Tryz.prog W0 14 #[.pointer (some ⟨sp, 0, none⟩)] [pt sp 114 [Vp j, Value.map (some mb)], isJ j dp js] (.int .i64 js.seq) [pt sp 114 [Vp j, Value.map (some mb)], isJ j dp js] := by
 obtain ⟨t, q, dd⟩ := js
 exact seq_g0 W0 sp j mb dp t q dd
def sP (pp : Nat) (os : Option StS) (vs : Value) : HP := match os with
 | none => pr (vs = .pointer none)
 | some s => ex fun sp => ex fun j => ex fun mb => grp [pr (vs = .pointer (some ⟨sp, 0, none⟩)), pt sp 114 [.pointer (some ⟨j, 0, none⟩), .map (some mb)], mp mb (strV s.T), isJ j pp s.js]
def sR (q : Nat) (os : Option StS) (vv : Value) : HP := match os with
 | none => pr (vv = .pointer none)
 | some s => ex fun v => ex fun jr => ex fun vL => grp [pr (vv = .pointer (some ⟨v, 0, none⟩)), pt v 49 [.pointer (some ⟨jr, 0, none⟩), vL], sl 53 3 vL (allA s.T).length ((allA s.T).flatMap pairCells), isRJ jr q s.js]
theorem sP_mk {W0 w : World} {L : List HP} {pp sp j mb : Nat} {s : StS} (h : st W0 w (pt sp 114 [.pointer (some ⟨j, 0, none⟩), .map (some mb)] :: mp mb (strV s.T) :: isJ j pp s.js :: L)) : st W0 w (sP pp (some s) (.pointer (some ⟨sp, 0, none⟩)) :: L) :=
 st_ex.2 ⟨sp, st_ex.2 ⟨j, st_ex.2 ⟨mb, st_grp.2 (st_pr.2 ⟨rfl, h⟩)⟩⟩⟩
theorem sR_mk {W0 w : World} {L : List HP} {q v jr : Nat} {vL : Value} {s : StS} {l : List PairR} (e : allA s.T = l) (h : st W0 w (pt v 49 [.pointer (some ⟨jr, 0, none⟩), vL] :: sl 53 3 vL l.length (l.flatMap pairCells) :: isRJ jr q s.js :: L)) : st W0 w (sR q (some s) (.pointer (some ⟨v, 0, none⟩)) :: L) := by
 subst e
 exact st_ex.2 ⟨v, st_ex.2 ⟨jr, st_ex.2 ⟨vL, st_grp.2 (st_pr.2 ⟨rfl, h⟩)⟩⟩⟩
theorem allA_nil : allA [] = [] := by unfold allA namesA keysA; simp
theorem sopen_g (W0 : World) (dp : Nat) (d : DS) (hw : WF d) (hn1 : 1 ≤ d.secs.length) (hsn : d.since.length < 1099511627776) : Con Tryz.prog W0 9 #[.pointer (some ⟨dp, 0, none⟩)] [isDisk dp d] (X := Value) (fun _ => True) (fun vs => .tuple #[vs, .int .i64 (openS d).1]) (fun vs => [sP dp (openS d).2 vs, isDisk dp d]) := by
  rcases hop : openD d with ⟨c, _ | ⟨t, qn⟩⟩
  · rw [openS_bad hop]; exact (sopen_bad W0 dp d hw hn1 hsn c (open_none hop) hop).mono fun _ _ => ⟨_, trivial, rfl, fun w F hs => st_pr.2 ⟨rfl, hs⟩⟩
  · obtain rfl : c = 0 := open_err hop
    have hup := Go.St.open_up hop
    have htz := open_size hw hop
    by_cases hz : qn = 0
    · rw [openS_zero hop hz]; exact (sopen_zero W0 dp d hw hn1 hsn t qn hop hz).mono fun y _ => ⟨_, trivial, rfl, fun w F hs => sP_mk hs⟩
    by_cases hu : unpackE t = 0
    · rw [openS_text hop hz hu]; exact (sopen_text W0 dp d hw hn1 hsn t qn htz hop hup hz hu (text_of hu).1 (Nat.le_trans unpack_sz.1 (by decide))).mono fun y _ => ⟨_, trivial, rfl, fun w F hs => sP_mk hs⟩
    · rw [openS_broken hop hz hu]; exact (sopen_broken W0 dp d hw hn1 hsn t qn htz hop hup hz hu).mono fun _ _ => ⟨_, trivial, rfl, fun w F hs => st_pr.2 ⟨rfl, hs⟩⟩
theorem rsopen_g (W0 : World) (q : Nat) (d : DS) (hw : WF d) (hn1 : 1 ≤ d.secs.length) (hsn : d.since.length < 1099511627776) : Con Tryz.prog W0 10 #[.pointer (some ⟨q, 0, none⟩)] [isRef q d] (X := Value) (fun _ => True) (fun vv => .tuple #[vv, .int .i64 (openS d).1]) (fun vv => [sR q (openS d).2 vv, isRef q d]) := by
  rcases hop : openD d with ⟨c, _ | ⟨t, qn⟩⟩
  · rw [openS_bad hop]; exact (rsopen_bad W0 q d hw hn1 hsn c (open_none hop) hop).mono fun _ _ => ⟨_, trivial, rfl, fun w F hs => st_pr.2 ⟨rfl, hs⟩⟩
  · obtain rfl : c = 0 := open_err hop
    have htz := open_size hw hop
    by_cases hz : qn = 0
    · rw [openS_zero hop hz]; exact (rsopen_zero W0 q d hw hn1 hsn t qn hop hz).mono fun y _ => ⟨_, trivial, rfl, fun w F hs => sR_mk (s := ⟨⟨t, qn, false⟩, []⟩) (l := []) allA_nil hs⟩
    by_cases hu : unpackE t = 0
    · rw [openS_text hop hz hu]; exact (rsopen_text W0 q d hw hn1 hsn t qn htz hop hz hu).mono fun y _ => ⟨_, trivial, rfl, fun w F hs => sR_mk (text_of hu).2.1 hs⟩
    · rw [openS_broken hop hz hu]; exact (rsopen_broken W0 q d hw hn1 hsn t qn htz hop hz hu).mono fun _ _ => ⟨_, trivial, rfl, fun w F hs => st_pr.2 ⟨rfl, hs⟩⟩
end Go.Proofs.YtjnejkdamhefgaaGreatDoor
