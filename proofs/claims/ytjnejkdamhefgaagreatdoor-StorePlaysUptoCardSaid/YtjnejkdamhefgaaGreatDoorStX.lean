/- A part of the proof. -/
import Derived.Test.YtjnejkdamhefgaaGreatDoorStM
namespace Go.St
open Go Go.SL Go.Wr
set_option linter.unusedVariables false
instance : DecidableEq PairR := fun a b =>
 if h : a.n = b.n ∧ a.t = b.t ∧ a.g = b.g then isTrue (by obtain ⟨n, t, g⟩ := a; obtain ⟨n', t', g'⟩ := b; obtain ⟨h1, h2, h3⟩ := h; simp only at h1 h2 h3; subst h1; subst h2; subst h3; rfl)
 else isFalse (fun e => h (by subst e; exact ⟨rfl, rfl, rfl⟩))
theorem take_eq_snoc {α : Type} {a b : List α} {k : Nat} {x y : α} (h : a.take k = b.take k) (ha : a[k]? = some x) (hb : b[k]? = some y) (e : x = y) : a.take (k + 1) = b.take (k + 1) := by
 subst e
 obtain ⟨h1, e1⟩ := List.getElem?_eq_some_iff.1 ha
 obtain ⟨h2, e2⟩ := List.getElem?_eq_some_iff.1 hb
 rw [List.take_succ_eq_append_getElem h1, List.take_succ_eq_append_getElem h2, h, e1, e2]
theorem ne_at {α : Type} {a b : List α} {k : Nat} {x y : α} (ha : a[k]? = some x) (hb : b[k]? = some y) (e : ¬ x = y) : ¬ a = b := fun h => by
 subst h; rw [ha] at hb; exact e (Option.some.inj hb)
theorem unpack_some {s : ByteArray} (h : unpackE s = 0) : unpackP s = some (unpackL s) := by
 unfold unpackE at h; unfold unpackL
 cases e : unpackP s with
 | none => rw [e] at h; simp at h
 | some l => rfl
theorem back2 {s : ByteArray} (h : unpackE s = 0) : packP (unpackL s) = (s, 0) := pack_unpack (unpack_some h)
theorem readP_sz {s : ByteArray} : ∀ {n : Nat} {prev : Option ByteArray} {a b : Nat} {l : List PairR}, readP s n prev a = some (l, b) → ∀ p ∈ l, ¬ longP p ∧ p.g = false
  | 0, prev, a, b, l, h => by
    unfold readP at h
    simp only [Option.some.injEq, Prod.mk.injEq] at h
    obtain ⟨rfl, rfl⟩ := h
    exact fun p hp => (by cases hp)
  | n + 1, prev, a, b, l, h => by
    unfold readP at h
    rcases h1 : takeText s a with _ | ⟨x, c⟩
    · rw [h1] at h; cases h
    rw [h1] at h
    simp only at h
    rcases h2 : takeText s c with _ | ⟨t, d⟩
    · rw [h2] at h; cases h
    rw [h2] at h
    simp only at h
    split at h
    · cases h
    rcases h3 : readP s n (some x) d with _ | ⟨l', b'⟩
    · rw [h3] at h; cases h
    rw [h3] at h
    simp only [Option.map_some, Option.some.injEq, Prod.mk.injEq] at h
    obtain ⟨rfl, rfl⟩ := h
    intro p hp
    rcases List.mem_cons.1 hp with rfl | hp
    · obtain ⟨e1, e2, e3, e4⟩ := takeText_enc h1
      obtain ⟨f1, f2, f3, f4⟩ := takeText_enc h2
      exact ⟨by unfold longP; simp only; omega, rfl⟩
    · exact readP_sz h3 p hp
theorem unpack_sz {s : ByteArray} : (unpackL s).length ≤ 256 ∧ ∀ p ∈ unpackL s, ¬ longP p ∧ p.g = false := by
  unfold unpackL
  cases e : unpackP s with
  | none => exact ⟨Nat.zero_le _, fun p hp => (by cases hp)⟩
  | some l =>
    rw [Option.getD_some]
    unfold unpackP at e
    rcases h1 : takeList s 0 with _ | ⟨n, a⟩
    · rw [h1] at e; cases e
    rw [h1] at e
    simp only at e
    split at e
    · cases e
    rcases h2 : readP s n none a with _ | ⟨l', b⟩
    · rw [h2] at e; cases e
    rw [h2] at e
    simp only at e
    split at e
    · simp only [Option.some.injEq] at e; subst e
      have := readP_enc h2
      exact ⟨by omega, readP_sz h2⟩
    · cases e
theorem okA_chg : ∀ {l : List PairR} {T : AL} {met : List ByteArray}, okA T → (chgA T met l).1 = 0 → okA (chgA T met l).2
 | [], _, _, h, _ => h
 | p :: l, T, met, h, h0 => by
  unfold chgA at h0 ⊢
  split at h0
  · cases h0
  rename_i h1
  split at h0
  · cases h0
  rename_i h2
  split at h0
  · cases h0
  rename_i h3
  rw [if_neg h1, if_neg h2, if_neg h3]
  refine okA_chg ?_ h0
  unfold longP at h1
  split
  · exact okA_del h _
  · exact okA_put h (by omega) (by omega)
theorem pack_few {l : List PairR} (h : (packP l).2 = 0) : l.length ≤ 256 := by
 unfold packP at h
 split at h
 · cases h
 · omega
def ofL (l : List PairR) : AL := l.map fun p => (p.n, p.t)
theorem ofL_keys (l : List PairR) : keysA (ofL l) = l.map (·.n) := by unfold keysA ofL; rw [List.map_map]; rfl
theorem allA_keys (T : AL) : (allA T).map (·.n) = (namesA T).map ba := by unfold allA; rw [List.map_map]; rfl
theorem ofL_take {l : List PairR} {k : Nat} {o : PairR} (h : l[k]? = some o) : ofL (l.take (k + 1)) = ofL (l.take k) ++ [(o.n, o.t)] := by unfold ofL; rw [takeP h, List.map_append]; rfl
theorem ofL_new {l : List PairR} {k : Nat} {o : PairR} (hn : (l.map (·.n)).Nodup) (h : l[k]? = some o) : o.n ∉ keysA (ofL (l.take k)) := by
 rw [ofL_keys]
 intro hm
 obtain ⟨p, hp, e⟩ := List.mem_map.1 hm
 have h1 : (l.take (k + 1)).map (·.n) = (l.take k).map (·.n) ++ [o.n] := by rw [takeP h, List.map_append]; rfl
 have h2 : ((l.take (k + 1)).map (·.n)).Nodup := hn.sublist ((List.take_sublist _ _).map _)
 rw [h1] at h2
 exact (List.nodup_append.1 h2).2.2 p.n (List.mem_map.2 ⟨p, hp, rfl⟩) o.n List.mem_cons_self e
theorem okA_take {l : List PairR} (h : okA (ofL l)) (k : Nat) : okA (ofL (l.take k)) := by
  refine ⟨?_, fun p hp => h.2 p ?_⟩
  · have := h.1
    rw [ofL_keys] at this ⊢
    exact this.sublist ((List.take_sublist _ _).map _)
  · unfold ofL at hp ⊢
    obtain ⟨q, hq, rfl⟩ := List.mem_map.1 hp
    exact List.mem_map.2 ⟨q, List.mem_of_mem_take hq, rfl⟩
theorem ofL_size {l : List PairR} (h : okA (ofL l)) {o : PairR} (ho : o ∈ l) : o.n.size ≤ 65536 ∧ o.t.size ≤ 65536 := h.2 (o.n, o.t) (List.mem_map.2 ⟨o, ho, rfl⟩)
theorem strV_app (T : AL) (n t : ByteArray) : strV (T ++ [(n, t)]) = strV T ++ [(.string n, .string t)] := by unfold strV; rw [List.map_append]; rfl
theorem less_lt {a b : ByteArray} (h : ltS a b) : Op.bytesLess a.toList b.toList = true := by rw [Go.Proofs.bytesLess_eq, Lib.toList_data, Lib.toList_data]; exact decide_eq_true h
theorem less_ge {a b : ByteArray} (h : ¬ ltS a b) : Op.bytesLess a.toList b.toList = false := by rw [Go.Proofs.bytesLess_eq, Lib.toList_data, Lib.toList_data]; exact decide_eq_false h
def errL (met : List ByteArray) : List PairR → Int
 | [] => 0
 | p :: l => if longP p then 3 else if p.g = true ∧ p.t ≠ ⟨#[]⟩ then 1 else if p.n ∈ met then 13 else errL (met ++ [p.n]) l
theorem chgA_err : ∀ {l : List PairR} {T : AL} {met : List ByteArray}, (chgA T met l).1 = errL met l
 | [], _, _ => rfl
 | p :: l, T, met => by
  unfold chgA errL
  split
  · rfl
  split
  · rfl
  split
  · rfl
  exact chgA_err
theorem err_at {l : List PairR} {m : List ByteArray} {k : Nat} {o : PairR} (h : l[k]? = some o) : errL m (l.drop k) = (if longP o then 3 else if o.g = true ∧ o.t ≠ ⟨#[]⟩ then 1 else if o.n ∈ m then 13 else errL (m ++ [o.n]) (l.drop (k + 1))) := by
 rw [wrong_at h, errL]
def withF (p : PairR) (done : Bool) : List PairR → List PairR
 | [] => if done = true then [] else [p]
 | x :: r => (if done = false ∧ ¬ ltS x.n p.n then [p] else []) ++ ((if x.n = p.n then [] else [x]) ++ withF p (done || decide (¬ ltS x.n p.n)) r)
def Rising (l : List PairR) : Prop := l.Pairwise fun a b => ltS a.n b.n
theorem with_mem {p x : PairR} : ∀ {l : List PairR} {done : Bool}, x ∈ withF p done l ↔ (done = false ∧ x = p) ∨ (x ∈ l ∧ x.n ≠ p.n)
  | [], done => by unfold withF; cases done <;> simp
  | y :: r, done => by
    unfold withF
    rw [List.mem_append, List.mem_append, with_mem (l := r)]
    have h3 : x ∈ (if y.n = p.n then [] else [y]) ↔ x = y ∧ x.n ≠ p.n := by
      by_cases e : y.n = p.n
      · rw [if_pos e]
        constructor
        · intro h; cases h
        · rintro ⟨rfl, h⟩; exact absurd e h
      · rw [if_neg e, List.mem_singleton]
        constructor
        · rintro rfl; exact ⟨rfl, e⟩
        · exact fun h => h.1
    rw [h3, List.mem_cons]
    cases done with
    | true => simp only [Bool.true_or, reduceCtorEq, false_and, if_false, List.not_mem_nil, false_or]; exact ⟨fun h => h.elim (fun h => ⟨.inl h.1, h.2⟩) (fun h => ⟨.inr h.1, h.2⟩), fun h => h.1.elim (fun e => .inl ⟨e, h.2⟩) (fun e => .inr ⟨e, h.2⟩)⟩
    | false =>
      by_cases hl : ltS y.n p.n
      · simp only [hl, not_true_eq_false, and_false, if_false, List.not_mem_nil, false_or, decide_false, Bool.or_self, true_and]
        constructor
        · rintro (h | h | h)
          · exact .inr ⟨.inl h.1, h.2⟩
          · exact .inl h
          · exact .inr ⟨.inr h.1, h.2⟩
        · rintro (h | ⟨h | h, h'⟩)
          · exact .inr (.inl h)
          · exact .inl ⟨h, h'⟩
          · exact .inr (.inr ⟨h, h'⟩)
      · simp only [hl, not_false_eq_true, and_self, if_true, List.mem_singleton, decide_true, Bool.or_true, reduceCtorEq, false_and, false_or, true_and]
        constructor
        · rintro (h | h | h)
          · exact .inl h
          · exact .inr ⟨.inl h.1, h.2⟩
          · exact .inr ⟨.inr h.1, h.2⟩
        · rintro (h | ⟨h | h, h'⟩)
          · exact .inl h
          · exact .inr (.inl ⟨h, h'⟩)
          · exact .inr (.inr ⟨h, h'⟩)
theorem with_rising {p : PairR} : ∀ {l : List PairR} {done : Bool}, Rising l → (done = true → True) → Rising (withF p done l)
  | [], done, _, _ => by unfold withF Rising; cases done <;> simp
  | y :: r, done, h, hd => by
    unfold Rising at h
    rw [List.pairwise_cons] at h
    have ih := fun d => with_rising (p := p) (l := r) (done := d) h.2 (fun _ => trivial)
    unfold withF
    have key : ∀ d, (d = false → ltS y.n p.n) → Rising ((if y.n = p.n then [] else [y]) ++ withF p d r) := fun d hdl => by
      by_cases e : y.n = p.n
      · rw [if_pos e]; exact ih d
      · rw [if_neg e]
        unfold Rising
        rw [List.singleton_append, List.pairwise_cons]
        refine ⟨fun z hz => ?_, ih d⟩
        rcases with_mem.1 hz with ⟨e1, rfl⟩ | ⟨e1, _⟩
        · exact hdl e1
        · exact h.1 z e1
    by_cases hc : done = false ∧ ¬ ltS y.n p.n
    · rw [if_pos hc]
      obtain ⟨rfl, hn⟩ := hc
      rw [decide_eq_true hn, Bool.or_true]
      unfold Rising
      rw [List.singleton_append, List.pairwise_cons]
      refine ⟨fun z hz => ?_, key true (fun h => by cases h)⟩
      have hle : y.n = p.n ∨ ltS p.n y.n := by
        by_cases e : y.n = p.n
        · exact .inl e
        · exact .inr (ltS_total hn e)
      rcases List.mem_append.1 hz with hz | hz
      · by_cases e : y.n = p.n
        · rw [if_pos e] at hz; cases hz
        · rw [if_neg e, List.mem_singleton] at hz; subst hz; exact hle.resolve_left e
      · rcases with_mem.1 hz with ⟨e1, _⟩ | ⟨e1, _⟩
        · cases e1
        · have := h.1 z e1
          rcases hle with e | e
          · rw [← e]; exact this
          · exact ltS_trans e this
    · rw [if_neg hc, List.nil_append]
      refine key _ fun hf => ?_
      rw [Bool.or_eq_false_iff] at hf
      exact Classical.byContradiction fun hn => hc ⟨hf.1, hn⟩
theorem allA_rising {T : AL} (h : (keysA T).Nodup) : Rising (allA T) := by
 unfold Rising allA
 refine List.pairwise_map.2 ((namesA_sorted h).imp fun {a b} hab => ?_)
 show (ba a).data.toList < (ba b).data.toList
 simpa [ba] using hab
theorem allA_mem {T : AL} (h : (keysA T).Nodup) {x : PairR} : x ∈ allA T ↔ x.g = false ∧ getA T x.n = some x.t := by
  unfold allA
  rw [List.mem_map]
  constructor
  · rintro ⟨n, hn, rfl⟩
    refine ⟨rfl, ?_⟩
    simp only
    cases hg : getA T (ba n) with
    | none => exact absurd (namesA_mem.1 hn) (getA_none.1 hg)
    | some t => rfl
  · rintro ⟨h1, h2⟩
    obtain ⟨n, t, g⟩ := x
    simp only at h1 h2
    subst h1
    refine ⟨n.data.toList, namesA_mem.2 (by rw [ba_list]; exact Classical.byContradiction fun hn => by rw [getA_none.2 hn] at h2; cases h2), ?_⟩
    rw [ba_list, h2]
    rfl
theorem rising_eq {l l' : List PairR} (h : Rising l) (h' : Rising l') (hm : ∀ x, x ∈ l ↔ x ∈ l') : l = l' := by
 have nd : ∀ {k : List PairR}, Rising k → k.Nodup := fun {k} hk => hk.imp fun {a b} hab => fun e => ltS_irrefl b.n (by rw [e] at hab; exact hab)
 exact List.Perm.eq_of_pairwise (le := fun a b : PairR => ltS a.n b.n) (fun a b _ _ h1 h2 => absurd (ltS_trans h1 h2) (ltS_irrefl _)) h h' ((List.perm_ext_iff_of_nodup (nd h) (nd h')).2 hm)
theorem with_all {T : AL} (h : (keysA T).Nodup) (p : PairR) : withF p p.g (allA T) = allA (if p.g = true then delA p.n T else putA p.n p.t T) := by
  obtain ⟨n, t, g⟩ := p
  cases g with
  | true =>
    rw [if_pos rfl]
    refine rising_eq (with_rising (allA_rising h) (fun _ => trivial)) (allA_rising (keysA_del _ h)) fun x => ?_
    rw [with_mem, allA_mem h, allA_mem (keysA_del _ h), getA_del]
    simp only [reduceCtorEq, false_and, false_or]
    by_cases e : x.n = n
    · rw [if_pos e]; simp [e]
    · rw [if_neg e]; simp [e]
  | false =>
    rw [if_neg (by simp)]
    have hk := keysA_put n t h
    refine rising_eq (with_rising (allA_rising h) (fun _ => trivial)) (allA_rising hk) fun x => ?_
    rw [with_mem, allA_mem h, allA_mem hk, getA_put]
    obtain ⟨xn, xt, xg⟩ := x
    simp only [true_and, PairR.mk.injEq]
    by_cases e : xn = n
    · rw [if_pos e]
      simp only [e, true_and, ne_eq, not_true_eq_false, and_false, or_false, Option.some.injEq]
      exact ⟨fun ⟨h1, h2⟩ => ⟨h2, h1.symm⟩, fun ⟨h1, h2⟩ => ⟨h2.symm, h1⟩⟩
    · rw [if_neg e]; simp [e]
def withP (p : PairR) (l : List PairR) (k : Nat) (out : List PairR) (done : Bool) : Prop := withF p p.g l = out ++ withF p done (l.drop k)
theorem withP.start (p : PairR) (l : List PairR) : withP p l 0 [] p.g := rfl
theorem withP.next {p o : PairR} {l out : List PairR} {k : Nat} {done : Bool} (h : withP p l k out done) (hg : l[k]? = some o) :
  withP p l (k + 1) (out ++ ((if done = false ∧ ¬ ltS o.n p.n then [p] else []) ++ (if o.n = p.n then [] else [o]))) (done || decide (¬ ltS o.n p.n)) := by
 unfold withP at *
 rw [h, wrong_at hg, withF, List.append_assoc, List.append_assoc]
theorem withP.done {p : PairR} {l out : List PairR} {done : Bool} (h : withP p l l.length out done) : withF p p.g l = out ++ (if done = true then [] else [p]) := by
 unfold withP at h; rw [h, List.drop_length, withF]
theorem ofL_nodup {l : List PairR} (h : Rising l) : (keysA (ofL l)).Nodup := by
 rw [ofL_keys]
 exact List.pairwise_map.2 (h.imp fun {a b} hab => fun e => ltS_irrefl b.n (by rw [e] at hab; exact hab))
theorem ofL_get {l : List PairR} (h : Rising l) {n t : ByteArray} : getA (ofL l) n = some t ↔ ∃ g, (⟨n, t, g⟩ : PairR) ∈ l := by
  rw [getA_mem (ofL_nodup h)]
  unfold ofL
  rw [List.mem_map]
  constructor
  · rintro ⟨⟨a, b, g⟩, h1, h2⟩
    simp only [Prod.mk.injEq] at h2
    obtain ⟨rfl, rfl⟩ := h2
    exact ⟨g, h1⟩
  · rintro ⟨g, h1⟩; exact ⟨_, h1, rfl⟩
theorem ofL_all {l : List PairR} (h : Rising l) (hg : ∀ p ∈ l, p.g = false) : allA (ofL l) = l :=
  rising_eq (allA_rising (ofL_nodup h)) h fun x => by
    rw [allA_mem (ofL_nodup h), ofL_get h]
    constructor
    · rintro ⟨h1, g, h2⟩
      have := hg _ h2
      simp only at this
      subst this
      obtain ⟨n, t, g⟩ := x
      simp only at h1
      subst h1
      exact h2
    · intro hx
      exact ⟨hg x hx, x.g, hx⟩
theorem wrong_rising : ∀ {l : List PairR} {prev : Option ByteArray}, wrongP prev l = 0 → Rising l ∧ (∀ q, prev = some q → ∀ x ∈ l, ltS q x.n) ∧ ∀ p ∈ l, p.g = false ∧ ¬ longP p
  | [], prev, _ => ⟨List.Pairwise.nil, (fun _ _ x hx => by cases hx), (fun p hp => by cases hp)⟩
  | p :: l, prev, h => by
    obtain ⟨h1, h2, h3, h4⟩ := wrongP_cons h
    obtain ⟨g1, g2, g3⟩ := wrong_rising h4
    refine ⟨List.pairwise_cons.2 ⟨g2 p.n rfl, g1⟩, fun q hq x hx => ?_, fun x hx => ?_⟩
    · rcases List.mem_cons.1 hx with rfl | hx
      · exact h3 q hq
      · exact ltS_trans (h3 q hq) (g2 p.n rfl x hx)
    · rcases List.mem_cons.1 hx with rfl | hx
      · exact ⟨h2, h1⟩
      · exact g3 x hx
theorem pack_ok0 {l : List PairR} (h : (packP l).2 = 0) : l.length ≤ 256 ∧ wrongP none l = 0 := by
 refine ⟨pack_few h, ?_⟩
 unfold packP at h
 split at h
 · cases h
 split at h
 · assumption
 · exact h
theorem text_of {s : ByteArray} (h : unpackE s = 0) : okA (ofL (unpackL s)) ∧ allA (ofL (unpackL s)) = unpackL s ∧ (ofL (unpackL s)).length ≤ 256 := by
 have hp := back2 h
 have hw := pack_ok0 (show (packP (unpackL s)).2 = 0 by rw [hp])
 obtain ⟨g1, _, g3⟩ := wrong_rising hw.2
 refine ⟨⟨ofL_nodup g1, fun p hp => ?_⟩, ofL_all g1 fun p hp => (g3 p hp).1, by unfold ofL; rw [List.length_map]; exact hw.1⟩
 unfold ofL at hp
 obtain ⟨q, hq, rfl⟩ := List.mem_map.1 hp
 have := (g3 q hq).2
 unfold longP at this
 simp only
 omega
def findL (l : List PairR) (n : ByteArray) : Option ByteArray := (l.find? fun p => decide (p.n = n)).map (·.t)
theorem find_all {T : AL} (h : (keysA T).Nodup) (n : ByteArray) : findL (allA T) n = getA T n := by
 unfold findL
 cases hf : (allA T).find? fun p => decide (p.n = n) with
 | none =>
  cases hg : getA T n with
  | none => rfl
  | some t =>
   have := List.find?_eq_none.1 hf ⟨n, t, false⟩ ((allA_mem h).2 ⟨rfl, hg⟩)
   exact absurd (decide_eq_true rfl) this
 | some p =>
  have h1 := List.mem_of_find?_eq_some hf
  have h2 := List.find?_some hf
  have h3 := (allA_mem h).1 h1
  rw [← of_decide_eq_true h2, h3.2]
  rfl
end Go.St
