import Derived.Test.YtkndmgfahghcjaaGreatStG
import Derived.Test.YtkndmgfahghcjaaGreatSLR
import Derived.Test.YtkndmgfahghcjaaGreatSLP
/- Contracts of the calls. -/
namespace Go.Proofs.YtkndmgfahghcjaaGreat
open Go Go.SL Go.St Go.Wr Go.RowKit
open Go.Dk (DS WF)
open Go.Jn (JS Ok openD_up)
set_option linter.unusedVariables false
set_option maxRecDepth 8000

open Go.Dk (beyondB beyond_le beyond_two)

open Go.Jn (half putD nPieces put_js put_big)
def pe1 (T : AL) (l : List PairR) : Int := if 6336 < (packP (allA (chgA T [] l).2)).1.size then 5 else 0
def stOk (T : AL) (l : List PairR) : Prop := chOk T l ∧ ¬ 6336 < (packP (allA (chgA T [] l).2)).1.size
instance (T : AL) (l : List PairR) : Decidable (stOk T l) := inferInstanceAs (Decidable (_ ∧ _))
theorem stOk_mk {T : AL} {l : List PairR} (h1 : chOk T l) (h2 : ¬ 6336 < (packP (allA (chgA T [] l).2)).1.size) : stOk T l := And.intro h1 h2
def stE (T : AL) (l : List PairR) : Int := chE T l (pe1 T l)
def stT (T : AL) (l : List PairR) : AL := if stOk T l then (chgA T [] l).2 else T
def stQ (T : AL) (l : List PairR) (q : Nat) : Nat := if stOk T l then q + 1 else q
theorem pe1_iff {T : AL} {l : List PairR} : pe1 T l = 0 ↔ ¬ 6336 < (packP (allA (chgA T [] l).2)).1.size := by
 unfold pe1
 by_cases h : 6336 < (packP (allA (chgA T [] l).2)).1.size
 · rw [if_pos h]; exact ⟨fun e => absurd e (by decide), fun e => absurd h e⟩
 · rw [if_neg h]; exact ⟨fun _ => h, fun _ => rfl⟩
theorem stE_iff {T : AL} {l : List PairR} : stE T l = 0 ↔ stOk T l := by
  unfold stE stOk chOk chE
  by_cases h1 : (chgA T [] l).1 = 0
  · rw [if_pos h1]
    by_cases h2 : (packP (allA (chgA T [] l).2)).2 = 0
    · rw [if_pos h2, pe1_iff]; exact ⟨fun h => ⟨⟨h1, h2⟩, h⟩, fun h => h.2⟩
    · rw [if_neg h2]; exact ⟨fun h => absurd h h2, fun h => absurd h.1.2 h2⟩
  · rw [if_neg h1]; exact ⟨fun h => absurd h h1, fun h => absurd h.1.1 h1⟩
theorem stT_eq {T : AL} {l : List PairR} : chT T l (pe1 T l) = stT T l := by
 unfold chT stT
 by_cases h : chOk T l ∧ pe1 T l = 0
 · rw [if_pos h, if_pos (stOk_mk h.1 (pe1_iff.1 h.2))]
 · rw [if_neg h, if_neg (fun e => h ⟨e.1, pe1_iff.2 e.2⟩)]
def isSt (sp : Nat) (T : AL) (q : Nat) : HP := ex fun dp => ex fun j => ex fun mb => ex fun t => ex fun S => ex fun k => grp [
 pr (okA T ∧ T.length ≤ 256 ∧ S.length = 200 ∧ Ok S t (q : Int) ∧ k ≤ 102 * q),
 pt sp 49 [.pointer (some ⟨j, 0, none⟩), .map (some mb)], mp mb (strV T), isJ j dp ⟨t, (q : Int), false⟩, isDisk dp (⟨S, [], false, k, none⟩ : DS)]
theorem isSt_mk {W0 w : World} {L : List HP} {sp dp j mb q k : Nat} {T : AL} {t : ByteArray} {S : List ByteArray} (h1 : okA T) (h2 : T.length ≤ 256) (h3 : S.length = 200) (h4 : Ok S t (q : Int)) (h5 : k ≤ 102 * q)
  (h : st W0 w (pt sp 49 [.pointer (some ⟨j, 0, none⟩), .map (some mb)] :: mp mb (strV T) :: isJ j dp ⟨t, (q : Int), false⟩ :: isDisk dp (⟨S, [], false, k, none⟩ : DS) :: L)) : st W0 w (isSt sp T q :: L) :=
 st_ex.2 ⟨dp, st_ex.2 ⟨j, st_ex.2 ⟨mb, st_ex.2 ⟨t, st_ex.2 ⟨S, st_ex.2 ⟨k, st_grp.2 (st_pr.2 ⟨⟨h1, h2, h3, h4, h5⟩, h⟩)⟩⟩⟩⟩⟩⟩
theorem con_st {W0 : World} {f : FuncId} {args : Array Value} {pre : List HP} {X : Type} {φ : X → Prop} {val : X → Value} {post : X → List HP} {sp q : Nat} {T : AL}
  (h : ∀ (dp j mb : Nat) (t : ByteArray) (S : List ByteArray) (k : Nat), okA T → T.length ≤ 256 → S.length = 200 → Ok S t (q : Int) → k ≤ 102 * q → Con Tryz.prog W0 f args (pt sp 49 [.pointer (some ⟨j, 0, none⟩), .map (some mb)] :: mp mb (strV T) :: isJ j dp ⟨t, (q : Int), false⟩ :: isDisk dp (⟨S, [], false, k, none⟩ : DS) :: pre) φ val post) :
  Con Tryz.prog W0 f args (isSt sp T q :: pre) φ val post :=
 Con.ex fun dp => Con.ex fun j => Con.ex fun mb => Con.ex fun t => Con.ex fun S => Con.ex fun k => Con.grp (Con.pr fun h0 => h dp j mb t S k h0.1 h0.2.1 h0.2.2.1 h0.2.2.2.1 h0.2.2.2.2)
theorem st_step {T : AL} {l : List PairR} {t : ByteArray} {S : List ByteArray} {q k : Nat} (hS : S.length = 200) (ok : Ok S t (q : Int)) (hk : k ≤ 102 * q) (hq : q ≤ 1000) :
    ∃ (S2 : List ByteArray) (k2 q2 : Nat) (t2 : ByteArray), S2.length = 200 ∧ Ok S2 t2 (q2 : Int) ∧ k2 ≤ 102 * q2 ∧ (if pe1 T l = 0 then q2 = q + 1 else q2 = q) ∧
      (JS.mk t q false).put ⟨S, [], false, k, none⟩ (packP (allA (chgA T [] l).2)).1 = (pe1 T l, ⟨S2, [], false, k2, none⟩, ⟨t2, (q2 : Int), false⟩) := by
  have hh : half S = 99 := by rw [half, hS]
  by_cases hb : 6336 < (packP (allA (chgA T [] l).2)).1.size
  · refine ⟨S, k, q, t, hS, ok, hk, ?_, ?_⟩
    · rw [if_neg (fun e => pe1_iff.1 e hb)]
    · rw [put_big (by rw [hh]; omega)]; unfold pe1; rw [if_pos hb]
  · obtain ⟨S', h1, h2, h3⟩ := put_js (s := (packP (allA (chgA T [] l).2)).1) ok (by omega) (by rw [hh]; omega) k
    refine ⟨S', k + nPieces (packP (allA (chgA T [] l).2)).1 + 3, q + 1, _, by rw [h1, hS], h2, ?_, ?_, ?_⟩
    · have : nPieces (packP (allA (chgA T [] l).2)).1 ≤ 99 := by unfold nPieces; omega
      omega
    · rw [if_pos (pe1_iff.2 hb)]
    · rw [h3, pe1_iff.2 hb]; rfl
theorem st_okT {T : AL} {l : List PairR} (hT : okA T) (hTl : T.length ≤ 256) : okA (stT T l) ∧ (stT T l).length ≤ 256 := by
  unfold stT
  by_cases h : stOk T l
  · rw [if_pos h]
    exact ⟨okA_chg hT h.1.1, by rw [← allA_len]; exact pack_few h.1.2⟩
  · rw [if_neg h]; exact ⟨hT, hTl⟩
/-- What is left behind a change. -/
theorem st_after {W0 w : World} {L : List HP} {sp dp j y q k k2 q2 : Nat} {T : AL} {l : List PairR} {t t2 : ByteArray} {S S2 : List ByteArray} (hT : okA T) (hTl : T.length ≤ 256) (hS : S.length = 200) (ok : Ok S t (q : Int)) (hk : k ≤ 102 * q) (hS2 : S2.length = 200) (ok2 : Ok S2 t2 (q2 : Int)) (hk2 : k2 ≤ 102 * q2) (hq2 : if pe1 T l = 0 then q2 = q + 1 else q2 = q)
    (hs : st W0 w (pt sp 49 [.pointer (some ⟨j, 0, none⟩), .map (some y)] :: mp y (strV (chT T l (pe1 T l))) :: isJ j dp (chX T l ⟨t, (q : Int), false⟩ ⟨t2, (q2 : Int), false⟩) :: isDisk dp (chX T l (⟨S, [], false, k, none⟩ : DS) ⟨S2, [], false, k2, none⟩) :: L)) : st W0 w (isSt sp (stT T l) (stQ T l q) :: L) := by
  have h2 := st_okT (l := l) hT hTl
  rw [stT_eq] at hs
  by_cases hc : chOk T l
  · have e : ∀ (α : Type) (a b : α), chX T l a b = b := fun α a b => if_pos hc
    rw [e, e] at hs
    have e3 : stQ T l q = q2 := by
      unfold stQ
      by_cases hp : pe1 T l = 0
      · rw [if_pos (stOk_mk hc (pe1_iff.1 hp))]; rw [if_pos hp] at hq2; exact hq2.symm
      · rw [if_neg (fun h => hp (pe1_iff.2 h.2))]; rw [if_neg hp] at hq2; exact hq2.symm
    rw [e3]
    exact isSt_mk h2.1 h2.2 hS2 ok2 hk2 hs
  · have e : ∀ (α : Type) (a b : α), chX T l a b = a := fun α a b => if_neg hc
    rw [e, e] at hs
    have e3 : stQ T l q = q := if_neg (fun h => hc h.1)
    rw [e3]
    exact isSt_mk h2.1 h2.2 hS ok hk hs
def fewP (l : List PairR) : Prop := l.length ≤ 600000000 ∧ ((∀ p ∈ l, ¬ longP p) → l.length ≤ 600000)
theorem fewC {T : AL} {l : List PairR} (h : fewP l) : (chgA T [] l).1 = 0 → l.length ≤ 600000 := fun h0 => h.2 fun p hp => ((fit_chgA h0).1 p hp).1
def few2 (l : List PairR) : Prop := l.length ≤ 268435456 ∧ ((∀ p ∈ l, ¬ longP p) → l.length ≤ 262144)
theorem few_of {l : List PairR} {r : Int} (hr : 0 ≤ r ∧ r ≤ 262144) (h1 : 268435456 ≤ l.length → r = (l.length : Int)) (h2 : (∀ p ∈ l, ¬ longP p) → (l.length : Int) ≤ r) : few2 l :=
 ⟨Classical.byContradiction fun h => (by have := h1 (by omega); omega), fun h => by have := h2 h; omega⟩
theorem few2.few {l : List PairR} (h : few2 l) : fewP l := ⟨by have := h.1; omega, fun h' => by have := h.2 h'; omega⟩
theorem few2.append {l m : List PairR} (h : few2 l) (h' : few2 m) : fewP (l ++ m) :=
 ⟨by have := h.1; have := h'.1; rw [List.length_append]; omega, fun h0 => by
  have h1 := h.2 fun p hp => h0 p (List.mem_append_left _ hp)
  have h2 := h'.2 fun p hp => h0 p (List.mem_append_right _ hp)
  rw [List.length_append]; omega⟩
theorem change_st (W0 : World) (vl : Value) (l : List PairR) (hl : Rd W0 vl l.length (l.flatMap pairCells)) (hf : fewP l) (hsz : ∀ p ∈ l, okP p) (sp q : Nat) (T : AL) (hq : q ≤ 1000) : Con Tryz.prog W0 20 #[.pointer (some ⟨sp, 0, none⟩), vl] [isSt sp T q] (X := Unit) (fun _ => True) (fun _ => .int .i64 (stE T l)) (fun _ => [isSt sp (stT T l) (stQ T l q)]) :=
 con_st fun dp j mb t S k hT hTl hS ok hk => by
  obtain ⟨S2, k2, q2, t2, a1, a2, a3, a4, a5⟩ := st_step (T := T) (l := l) hS ok hk hq
  exact (change_ro W0 vl l hl (by have := hf.1; omega) hsz sp j mb dp T hT hTl (fewC hf) t q S k none ok.wf (by omega) (by omega) (by omega) (by omega) (pe1 T l) _ t2 q2 false (fun _ => a5)).mono fun y _ => ⟨(), trivial, rfl, fun w F hs => st_after hT hTl hS ok hk a1 a2 a3 a4 hs⟩
theorem okA_nil : okA [] := ⟨List.nodup_nil, fun p hp => by cases hp⟩
theorem open_st (W0 : World) (dp : Nat) : Con Tryz.prog W0 19 #[.pointer (some ⟨dp, 0, none⟩)] [isDisk dp (⟨List.replicate 200 Go.Dk.noughts, [], false, 0, none⟩ : DS)] (X := Nat) (fun _ => True) (fun sp => .tuple #[.pointer (some ⟨sp, 0, none⟩), .int .i64 0]) (fun sp => [isSt sp [] 0]) := by
 have ok0 := Go.Jn.ok_new (n := 200) (by decide) (by decide)
 exact (open_fresh W0 dp (List.replicate 200 Go.Dk.noughts) 0 ok0).mono fun y _ => ⟨y.1, trivial, rfl, fun w F hs => isSt_mk okA_nil (Nat.zero_le _) List.length_replicate ok0 (Nat.zero_le _) hs⟩

end Go.Proofs.YtkndmgfahghcjaaGreat

/- Contracts of the calls. -/
namespace Go.Proofs.YtkndmgfahghcjaaGreat
open Go Go.SL Go.St Go.Wr Go.RowKit
open Go.Dk (DS WF)
open Go.Jn (JS Ok openD_up)
set_option linter.unusedVariables false
set_option maxRecDepth 8000

theorem stT_ok {T : AL} {l : List PairR} (h : stOk T l) : stT T l = (chgA T [] l).2 := if_pos h
end Go.Proofs.YtkndmgfahghcjaaGreat

/- Contracts of the calls. -/
namespace Go.Proofs.YtkndmgfahghcjaaGreat
open Go Go.SL Go.St Go.Wr Go.RowKit
open Go.Dk (DS WF)
open Go.Jn (JS Ok openD_up)
set_option linter.unusedVariables false
set_option maxRecDepth 8000

open Go.Dk (beyondB beyond_le beyond_two)

theorem allA_few {T : AL} (h : T.length ≤ 256) : (allA T).length ≤ 1000000 := by rw [allA_len]; omega
theorem few2_of {l : List PairR} {r : Int} {ns : List Int} (hb : beyondB ns = false) (hm : r ∈ ns) (h1 : 268435456 ≤ l.length → r = (l.length : Int)) (h2 : (∀ p ∈ l, ¬ longP p) → (l.length : Int) ≤ r) : few2 l := few_of (beyond_le hb r hm) h1 h2

end Go.Proofs.YtkndmgfahghcjaaGreat

/- Names and texts as a text of pairs gives them; what a change that was taken tells. -/
namespace Go.St
open Go Go.SL Go.Wr
set_option linter.unusedVariables false
def ofL (l : List PairR) : AL := l.map fun p => (p.n, p.t)
def reT (T : AL) : AL := ofL (allA T)
theorem ofL_keys (l : List PairR) : keysA (ofL l) = l.map (·.n) := by unfold keysA ofL; rw [List.map_map]; rfl
theorem ba_inj {a b : List UInt8} (h : ba a = ba b) : a = b := by
 have := congrArg (fun x : ByteArray => x.data.toList) h
 simpa [ba] using this
theorem allA_keys (T : AL) : (allA T).map (·.n) = (namesA T).map ba := by unfold allA; rw [List.map_map]; rfl
theorem allA_nodup {T : AL} (h : (keysA T).Nodup) : ((allA T).map (·.n)).Nodup := by
 rw [allA_keys]
 exact List.pairwise_map.2 ((namesA_sorted h).imp fun {a b} hab => fun e => List.lt_irrefl b (by rw [ba_inj e] at hab; exact hab))
theorem reT_nodup {T : AL} (h : (keysA T).Nodup) : (keysA (reT T)).Nodup := by unfold reT; rw [ofL_keys]; exact allA_nodup h
theorem reT_mem {T : AL} (h : (keysA T).Nodup) {n t : ByteArray} : (n, t) ∈ reT T ↔ (n, t) ∈ T := by
  unfold reT ofL
  constructor
  · intro hm
    obtain ⟨p, hp, e⟩ := List.mem_map.1 hm
    unfold allA at hp
    obtain ⟨x, hx, rfl⟩ := List.mem_map.1 hp
    simp only [Prod.mk.injEq] at e
    obtain ⟨rfl, rfl⟩ := e
    cases hg : getA T (ba x) with
    | none => exact absurd (namesA_mem.1 hx) (getA_none.1 hg)
    | some t => exact (getA_mem h).1 hg
  · intro hm
    have hg := (getA_mem h).2 hm
    refine List.mem_map.2 ⟨⟨n, t, false⟩, ?_, rfl⟩
    unfold allA
    refine List.mem_map.2 ⟨n.data.toList, namesA_mem.2 (by rw [ba_list]; exact List.mem_map.2 ⟨_, hm, rfl⟩), ?_⟩
    rw [ba_list, hg]
    rfl
theorem reT_get {T : AL} (h : (keysA T).Nodup) (n : ByteArray) : getA (reT T) n = getA T n :=
 Option.ext fun t => by rw [getA_mem (reT_nodup h), getA_mem h, reT_mem h]
theorem reT_all {T : AL} (h : (keysA T).Nodup) : allA (reT T) = allA T := allA_ext (reT_nodup h) h (reT_get h)
theorem reT_ok {T : AL} (h : okA T) : okA (reT T) := ⟨reT_nodup h.1, fun p hp => h.2 p ((reT_mem h.1 (n := p.1) (t := p.2)).1 hp)⟩
theorem reT_len (T : AL) : (reT T).length = T.length := by unfold reT ofL; rw [List.length_map, allA_len]
theorem ofL_take {l : List PairR} {k : Nat} {o : PairR} (h : l[k]? = some o) : ofL (l.take (k + 1)) = ofL (l.take k) ++ [(o.n, o.t)] := by unfold ofL; rw [takeP h, List.map_append]; rfl
theorem ofL_new {l : List PairR} {k : Nat} {o : PairR} (hn : (l.map (·.n)).Nodup) (h : l[k]? = some o) : o.n ∉ keysA (ofL (l.take k)) := by
 rw [ofL_keys]
 intro hm
 obtain ⟨p, hp, e⟩ := List.mem_map.1 hm
 have h1 : (l.take (k + 1)).map (·.n) = (l.take k).map (·.n) ++ [o.n] := by rw [takeP h, List.map_append]; rfl
 have h2 : ((l.take (k + 1)).map (·.n)).Nodup := hn.sublist ((List.take_sublist _ _).map _)
 rw [h1] at h2
 exact (List.nodup_append.1 h2).2.2 p.n (List.mem_map.2 ⟨p, hp, rfl⟩) o.n List.mem_cons_self e
theorem okA_take {l : List PairR} (h : okA (ofL l)) (k : Nat) : okA (ofL (l.take k)) := by
  refine ⟨?_, fun p hp => h.2 p ?_⟩
  · have := h.1
    rw [ofL_keys] at this ⊢
    exact this.sublist ((List.take_sublist _ _).map _)
  · unfold ofL at hp ⊢
    obtain ⟨q, hq, rfl⟩ := List.mem_map.1 hp
    exact List.mem_map.2 ⟨q, List.mem_of_mem_take hq, rfl⟩
theorem ofL_size {l : List PairR} (h : okA (ofL l)) {o : PairR} (ho : o ∈ l) : o.n.size ≤ 65536 ∧ o.t.size ≤ 65536 := h.2 (o.n, o.t) (List.mem_map.2 ⟨o, ho, rfl⟩)
theorem strV_app (T : AL) (n t : ByteArray) : strV (T ++ [(n, t)]) = strV T ++ [(.string n, .string t)] := by unfold strV; rw [List.map_append]; rfl
theorem tell_chg {T T' : AL} {l : List PairR} (h : chgA T [] l = (0, T')) {o : PairR} (ho : o ∈ l) : (getA T' o.n).getD ⟨#[]⟩ = o.t ∧ (getA T' o.n).isSome = !o.g := by
 have h0 : (chgA T [] l).1 = 0 := by rw [h]
 have f := fit_chgA h0
 have e : getA T' o.n = askL l T o.n := by have := chgA_ask h0 o.n; rw [h] at this; exact this
 rw [e, ask_mem f.2 ho]
 obtain ⟨n, t, g⟩ := o
 have h2 := (f.1 _ ho).2.1
 cases g with
 | true => have h3 : t = ⟨#[]⟩ := h2 rfl; rw [h3]; exact ⟨rfl, rfl⟩
 | false => exact ⟨rfl, rfl⟩
theorem rest_chg {T T' : AL} {l : List PairR} (hT : (keysA T).Nodup) (h : chgA T [] l = (0, T')) : (allA T').filter (unn l) = (allA T).filter (unn l) := by
 have h0 : (chgA T [] l).1 = 0 := by rw [h]
 have e : T' = (chgA T [] l).2 := by rw [h]
 refine rest_all (by rw [e]; exact chgA_nodup hT) hT fun n hn => ?_
 rw [e, chgA_ask h0, ask_not hn]
/-- What was packed is unpacked, as names and texts. -/
theorem re_unpack {T : AL} {t : ByteArray} (h : packP (allA T) = (t, 0)) : unpackE t = 0 ∧ unpackL t = allA T := by
 have := back1 (l := allA T) (by rw [h])
 rw [h] at this
 exact this
end Go.St

