import Derived.Test.YtkndmgfahghcjaaGreatStG
/- Contracts of the calls. -/
namespace Go.Proofs.YtkndmgfahghcjaaGreat
open Go Go.SL Go.St Go.Wr Go.RowKit
open Go.Dk (DS WF)
open Go.Jn (JS Ok openD_up)
set_option linter.unusedVariables false
set_option maxRecDepth 8000

open Go.Dk (beyondB beyond_le beyond_two)

open Go.Jn (half putD nPieces put_js put_big)
def pe1 (T : AL) (l : List PairR) : Int := if 6336 < (packP (allA (chgA T [] l).2)).1.size then 5 else 0
def stOk (T : AL) (l : List PairR) : Prop := chOk T l ∧ ¬ 6336 < (packP (allA (chgA T [] l).2)).1.size
instance (T : AL) (l : List PairR) : Decidable (stOk T l) := inferInstanceAs (Decidable (_ ∧ _))
theorem stOk_mk {T : AL} {l : List PairR} (h1 : chOk T l) (h2 : ¬ 6336 < (packP (allA (chgA T [] l).2)).1.size) : stOk T l := And.intro h1 h2
def stE (T : AL) (l : List PairR) : Int := chE T l (pe1 T l)
def stT (T : AL) (l : List PairR) : AL := if stOk T l then (chgA T [] l).2 else T
def stQ (T : AL) (l : List PairR) (q : Nat) : Nat := if stOk T l then q + 1 else q
theorem pe1_iff {T : AL} {l : List PairR} : pe1 T l = 0 ↔ ¬ 6336 < (packP (allA (chgA T [] l).2)).1.size := by
 unfold pe1
 by_cases h : 6336 < (packP (allA (chgA T [] l).2)).1.size
 · rw [if_pos h]; exact ⟨fun e => absurd e (by decide), fun e => absurd h e⟩
 · rw [if_neg h]; exact ⟨fun _ => h, fun _ => rfl⟩
theorem stE_iff {T : AL} {l : List PairR} : stE T l = 0 ↔ stOk T l := by
  unfold stE stOk chOk chE
  by_cases h1 : (chgA T [] l).1 = 0
  · rw [if_pos h1]
    by_cases h2 : (packP (allA (chgA T [] l).2)).2 = 0
    · rw [if_pos h2, pe1_iff]; exact ⟨fun h => ⟨⟨h1, h2⟩, h⟩, fun h => h.2⟩
    · rw [if_neg h2]; exact ⟨fun h => absurd h h2, fun h => absurd h.1.2 h2⟩
  · rw [if_neg h1]; exact ⟨fun h => absurd h h1, fun h => absurd h.1.1 h1⟩
theorem stT_eq {T : AL} {l : List PairR} : chT T l (pe1 T l) = stT T l := by
 unfold chT stT
 by_cases h : chOk T l ∧ pe1 T l = 0
 · rw [if_pos h, if_pos (stOk_mk h.1 (pe1_iff.1 h.2))]
 · rw [if_neg h, if_neg (fun e => h ⟨e.1, pe1_iff.2 e.2⟩)]
def isSt (sp : Nat) (T : AL) (q : Nat) : HP := ex fun dp => ex fun j => ex fun mb => ex fun t => ex fun S => ex fun k => grp [
 pr (okA T ∧ T.length ≤ 256 ∧ S.length = 200 ∧ Ok S t (q : Int) ∧ k ≤ 102 * q),
 pt sp 49 [.pointer (some ⟨j, 0, none⟩), .map (some mb)], mp mb (strV T), isJ j dp ⟨t, (q : Int), false⟩, isDisk dp (⟨S, [], false, k, none⟩ : DS)]
theorem isSt_mk {W0 w : World} {L : List HP} {sp dp j mb q k : Nat} {T : AL} {t : ByteArray} {S : List ByteArray} (h1 : okA T) (h2 : T.length ≤ 256) (h3 : S.length = 200) (h4 : Ok S t (q : Int)) (h5 : k ≤ 102 * q)
  (h : st W0 w (pt sp 49 [.pointer (some ⟨j, 0, none⟩), .map (some mb)] :: mp mb (strV T) :: isJ j dp ⟨t, (q : Int), false⟩ :: isDisk dp (⟨S, [], false, k, none⟩ : DS) :: L)) : st W0 w (isSt sp T q :: L) :=
 st_ex.2 ⟨dp, st_ex.2 ⟨j, st_ex.2 ⟨mb, st_ex.2 ⟨t, st_ex.2 ⟨S, st_ex.2 ⟨k, st_grp.2 (st_pr.2 ⟨⟨h1, h2, h3, h4, h5⟩, h⟩)⟩⟩⟩⟩⟩⟩
theorem con_st {W0 : World} {f : FuncId} {args : Array Value} {pre : List HP} {X : Type} {φ : X → Prop} {val : X → Value} {post : X → List HP} {sp q : Nat} {T : AL}
  (h : ∀ (dp j mb : Nat) (t : ByteArray) (S : List ByteArray) (k : Nat), okA T → T.length ≤ 256 → S.length = 200 → Ok S t (q : Int) → k ≤ 102 * q → Con Tryz.prog W0 f args (pt sp 49 [.pointer (some ⟨j, 0, none⟩), .map (some mb)] :: mp mb (strV T) :: isJ j dp ⟨t, (q : Int), false⟩ :: isDisk dp (⟨S, [], false, k, none⟩ : DS) :: pre) φ val post) :
  Con Tryz.prog W0 f args (isSt sp T q :: pre) φ val post :=
 Con.ex fun dp => Con.ex fun j => Con.ex fun mb => Con.ex fun t => Con.ex fun S => Con.ex fun k => Con.grp (Con.pr fun h0 => h dp j mb t S k h0.1 h0.2.1 h0.2.2.1 h0.2.2.2.1 h0.2.2.2.2)
theorem st_step {T : AL} {l : List PairR} {t : ByteArray} {S : List ByteArray} {q k : Nat} (hS : S.length = 200) (ok : Ok S t (q : Int)) (hk : k ≤ 102 * q) (hq : q ≤ 1000) :
    ∃ (S2 : List ByteArray) (k2 q2 : Nat) (t2 : ByteArray), S2.length = 200 ∧ Ok S2 t2 (q2 : Int) ∧ k2 ≤ 102 * q2 ∧ (if pe1 T l = 0 then q2 = q + 1 else q2 = q) ∧
      (JS.mk t q false).put ⟨S, [], false, k, none⟩ (packP (allA (chgA T [] l).2)).1 = (pe1 T l, ⟨S2, [], false, k2, none⟩, ⟨t2, (q2 : Int), false⟩) := by
  have hh : half S = 99 := by rw [half, hS]
  by_cases hb : 6336 < (packP (allA (chgA T [] l).2)).1.size
  · refine ⟨S, k, q, t, hS, ok, hk, ?_, ?_⟩
    · rw [if_neg (fun e => pe1_iff.1 e hb)]
    · rw [put_big (by rw [hh]; omega)]; unfold pe1; rw [if_pos hb]
  · obtain ⟨S', h1, h2, h3⟩ := put_js (s := (packP (allA (chgA T [] l).2)).1) ok (by omega) (by rw [hh]; omega) k
    refine ⟨S', k + nPieces (packP (allA (chgA T [] l).2)).1 + 3, q + 1, _, by rw [h1, hS], h2, ?_, ?_, ?_⟩
    · have : nPieces (packP (allA (chgA T [] l).2)).1 ≤ 99 := by unfold nPieces; omega
      omega
    · rw [if_pos (pe1_iff.2 hb)]
    · rw [h3, pe1_iff.2 hb]; rfl
theorem st_okT {T : AL} {l : List PairR} (hT : okA T) (hTl : T.length ≤ 256) : okA (stT T l) ∧ (stT T l).length ≤ 256 := by
  unfold stT
  by_cases h : stOk T l
  · rw [if_pos h]
    exact ⟨okA_chg hT h.1.1, by rw [← allA_len]; exact pack_few h.1.2⟩
  · rw [if_neg h]; exact ⟨hT, hTl⟩
/-- What is left behind a change. -/
theorem st_after {W0 w : World} {L : List HP} {sp dp j y q k k2 q2 : Nat} {T : AL} {l : List PairR} {t t2 : ByteArray} {S S2 : List ByteArray} (hT : okA T) (hTl : T.length ≤ 256) (hS : S.length = 200) (ok : Ok S t (q : Int)) (hk : k ≤ 102 * q) (hS2 : S2.length = 200) (ok2 : Ok S2 t2 (q2 : Int)) (hk2 : k2 ≤ 102 * q2) (hq2 : if pe1 T l = 0 then q2 = q + 1 else q2 = q)
    (hs : st W0 w (pt sp 49 [.pointer (some ⟨j, 0, none⟩), .map (some y)] :: mp y (strV (chT T l (pe1 T l))) :: isJ j dp (chX T l ⟨t, (q : Int), false⟩ ⟨t2, (q2 : Int), false⟩) :: isDisk dp (chX T l (⟨S, [], false, k, none⟩ : DS) ⟨S2, [], false, k2, none⟩) :: L)) : st W0 w (isSt sp (stT T l) (stQ T l q) :: L) := by
  have h2 := st_okT (l := l) hT hTl
  rw [stT_eq] at hs
  by_cases hc : chOk T l
  · have e : ∀ (α : Type) (a b : α), chX T l a b = b := fun α a b => if_pos hc
    rw [e, e] at hs
    have e3 : stQ T l q = q2 := by
      unfold stQ
      by_cases hp : pe1 T l = 0
      · rw [if_pos (stOk_mk hc (pe1_iff.1 hp))]; rw [if_pos hp] at hq2; exact hq2.symm
      · rw [if_neg (fun h => hp (pe1_iff.2 h.2))]; rw [if_neg hp] at hq2; exact hq2.symm
    rw [e3]
    exact isSt_mk h2.1 h2.2 hS2 ok2 hk2 hs
  · have e : ∀ (α : Type) (a b : α), chX T l a b = a := fun α a b => if_neg hc
    rw [e, e] at hs
    have e3 : stQ T l q = q := if_neg (fun h => hc h.1)
    rw [e3]
    exact isSt_mk h2.1 h2.2 hS ok hk hs
def fewP (l : List PairR) : Prop := l.length ≤ 600000000 ∧ ((∀ p ∈ l, ¬ longP p) → l.length ≤ 600000)
theorem fewC {T : AL} {l : List PairR} (h : fewP l) : (chgA T [] l).1 = 0 → l.length ≤ 600000 := fun h0 => h.2 fun p hp => ((fit_chgA h0).1 p hp).1
def few2 (l : List PairR) : Prop := l.length ≤ 268435456 ∧ ((∀ p ∈ l, ¬ longP p) → l.length ≤ 262144)
theorem few_of {l : List PairR} {r : Int} (hr : 0 ≤ r ∧ r ≤ 262144) (h1 : 268435456 ≤ l.length → r = (l.length : Int)) (h2 : (∀ p ∈ l, ¬ longP p) → (l.length : Int) ≤ r) : few2 l :=
 ⟨Classical.byContradiction fun h => (by have := h1 (by omega); omega), fun h => by have := h2 h; omega⟩
theorem few2.few {l : List PairR} (h : few2 l) : fewP l := ⟨by have := h.1; omega, fun h' => by have := h.2 h'; omega⟩
theorem few2.append {l m : List PairR} (h : few2 l) (h' : few2 m) : fewP (l ++ m) :=
 ⟨by have := h.1; have := h'.1; rw [List.length_append]; omega, fun h0 => by
  have h1 := h.2 fun p hp => h0 p (List.mem_append_left _ hp)
  have h2 := h'.2 fun p hp => h0 p (List.mem_append_right _ hp)
  rw [List.length_append]; omega⟩
theorem few2.perm {l m : List PairR} (h : few2 l) (hp : l.Perm m) : fewP m := ⟨by have := h.1; have := hp.length_eq; omega, fun h0 => by have := h.2 (fun p hm => h0 p (hp.mem_iff.1 hm)); have := hp.length_eq; omega⟩
theorem change_st (W0 : World) (vl : Value) (l : List PairR) (hl : Rd W0 vl l.length (l.flatMap pairCells)) (hf : fewP l) (hsz : ∀ p ∈ l, okP p) (sp q : Nat) (T : AL) (hq : q ≤ 1000) : Con Tryz.prog W0 20 #[.pointer (some ⟨sp, 0, none⟩), vl] [isSt sp T q] (X := Unit) (fun _ => True) (fun _ => .int .i64 (stE T l)) (fun _ => [isSt sp (stT T l) (stQ T l q)]) :=
 con_st fun dp j mb t S k hT hTl hS ok hk => by
  obtain ⟨S2, k2, q2, t2, a1, a2, a3, a4, a5⟩ := st_step (T := T) (l := l) hS ok hk hq
  exact (change_ro W0 vl l hl (by have := hf.1; omega) hsz sp j mb dp T hT hTl (fewC hf) t q S k none ok.wf (by omega) (by omega) (by omega) (by omega) (pe1 T l) _ t2 q2 false (fun _ => a5)).mono fun y _ => ⟨(), trivial, rfl, fun w F hs => st_after hT hTl hS ok hk a1 a2 a3 a4 hs⟩
theorem change_sts (W0 : World) (vl : Value) (l : List PairR) (hf : fewP l) (hsz : ∀ p ∈ l, okP p) (sp q : Nat) (T : AL) (hq : q ≤ 1000) : Con Tryz.prog W0 20 #[.pointer (some ⟨sp, 0, none⟩), vl] [isSt sp T q, sl 44 3 vl l.length (l.flatMap pairCells)] (X := Unit) (fun _ => True) (fun _ => .int .i64 (stE T l)) (fun _ => [isSt sp (stT T l) (stQ T l q), sl 44 3 vl l.length (l.flatMap pairCells)]) :=
 con_st fun dp j mb t S k hT hTl hS ok hk => by
  obtain ⟨S2, k2, q2, t2, a1, a2, a3, a4, a5⟩ := st_step (T := T) (l := l) hS ok hk hq
  refine Con.pull (pre := [sl 44 3 vl l.length (l.flatMap pairCells), pt sp 49 [.pointer (some ⟨j, 0, none⟩), .map (some mb)], mp mb (strV T), isJ j dp ⟨t, (q : Int), false⟩, isDisk dp (⟨S, [], false, k, none⟩ : DS)]) [4, 0, 0, 0, 0] (fun _ => rfl) ?_
  exact (change_sl W0 vl l (by have := hf.1; omega) hsz sp j mb dp T hT hTl (fewC hf) t q S k none ok.wf (by omega) (by omega) (by omega) (by omega) (pe1 T l) _ t2 q2 false (fun _ => a5)).mono fun y _ => ⟨(), trivial, rfl, fun w F hs => st_after hT hTl hS ok hk a1 a2 a3 a4 (st_pull [1, 1, 1, 1, 0] hs)⟩
theorem all_st (W0 : World) (sp q : Nat) (T : AL) : Con Tryz.prog W0 21 #[.pointer (some ⟨sp, 0, none⟩)] [isSt sp T q] (X := Value) (fun _ => True) (fun v => v) (fun v => [sl 44 3 v (allA T).length ((allA T).flatMap pairCells), isSt sp T q]) :=
 con_st fun dp j mb t S k hT hTl hS ok hk => fun w F hs => (all_w W0 sp j mb T hT hTl w (isJ j dp ⟨t, (q : Int), false⟩ :: isDisk dp (⟨S, [], false, k, none⟩ : DS) :: F) hs).mono fun e w' h => by
  cases e with
  | returned v => obtain ⟨x, h1, h2, h3⟩ := h; exact ⟨x, h1, h2, st_swap (isSt_mk hT hTl hS ok hk (st_pull [1, 1, 1, 1, 0] h3))⟩
  | panicked c => exact h
  | outgrown => exact h
theorem get_st (W0 : World) (sp q : Nat) (T : AL) (n : ByteArray) (hn : n.size ≤ 65536) : Con Tryz.prog W0 22 #[.pointer (some ⟨sp, 0, none⟩), .string n] [isSt sp T q] (X := Unit) (fun _ => True) (fun _ => .tuple #[.string ((getA T n).getD ⟨#[]⟩), .bool (getA T n).isSome]) (fun _ => [isSt sp T q]) :=
 con_st fun dp j mb t S k hT hTl hS ok hk => fun w F hs => by
  have key : ∃ r b, Con Tryz.prog W0 22 #[.pointer (some ⟨sp, 0, none⟩), .string n] [pt sp 49 [.pointer (some ⟨j, 0, none⟩), .map (some mb)], mp mb (strV T)] (X := Unit) (fun _ => True) (fun _ => .tuple #[.string r, .bool b]) (fun _ => [pt sp 49 [.pointer (some ⟨j, 0, none⟩), .map (some mb)], mp mb (strV T)]) ∧ r = (getA T n).getD ⟨#[]⟩ ∧ b = (getA T n).isSome := by
   cases h : getA T n with
   | none => exact ⟨_, _, get_no W0 sp j mb T n hT hn h, rfl, rfl⟩
   | some x => exact ⟨_, _, get_yes W0 sp j mb T n hT hn x h, rfl, rfl⟩
  obtain ⟨r, b, hc, rfl, rfl⟩ := key
  refine (hc w (isJ j dp ⟨t, (q : Int), false⟩ :: isDisk dp (⟨S, [], false, k, none⟩ : DS) :: F) hs).mono fun e w' h => ?_
  cases e with
  | returned v => obtain ⟨x, h1, h2, h3⟩ := h; exact ⟨x, h1, h2, isSt_mk hT hTl hS ok hk h3⟩
  | panicked c => exact h
  | outgrown => exact h
theorem seq_st (W0 : World) (sp q : Nat) (T : AL) : Con Tryz.prog W0 25 #[.pointer (some ⟨sp, 0, none⟩)] [isSt sp T q] (X := Unit) (fun _ => True) (fun _ => .int .i64 ((q : Nat) : Int)) (fun _ => [isSt sp T q]) :=
 con_st fun dp j mb t S k hT hTl hS ok hk => fun w F hs => (seq_w W0 sp j mb dp t q w (mp mb (strV T) :: isDisk dp (⟨S, [], false, k, none⟩ : DS) :: F) (st_pull [0, 1, 0, 0] hs)).mono fun e w' h => by
  cases e with
  | returned v => obtain ⟨x, h1, h2, h3⟩ := h; exact ⟨x, h1, h2, isSt_mk hT hTl hS ok hk (st_pull [0, 1, 0, 0] h3)⟩
  | panicked c => exact h
  | outgrown => exact h
theorem okA_nil : okA [] := ⟨List.nodup_nil, fun p hp => by cases hp⟩
theorem open_st (W0 : World) (dp : Nat) : Con Tryz.prog W0 19 #[.pointer (some ⟨dp, 0, none⟩)] [isDisk dp (⟨List.replicate 200 Go.Dk.noughts, [], false, 0, none⟩ : DS)] (X := Nat) (fun _ => True) (fun sp => .tuple #[.pointer (some ⟨sp, 0, none⟩), .int .i64 0]) (fun sp => [isSt sp [] 0]) := by
 have ok0 := Go.Jn.ok_new (n := 200) (by decide) (by decide)
 exact (open_fresh W0 dp (List.replicate 200 Go.Dk.noughts) 0 ok0).mono fun y _ => ⟨y.1, trivial, rfl, fun w F hs => isSt_mk okA_nil (Nat.zero_le _) List.length_replicate ok0 (Nat.zero_le _) hs⟩

end Go.Proofs.YtkndmgfahghcjaaGreat

