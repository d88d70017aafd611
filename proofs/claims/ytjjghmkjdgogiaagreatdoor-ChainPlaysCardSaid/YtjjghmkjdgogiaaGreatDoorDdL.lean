/- What follows: the program's way, step by step, in plain data. -/
import Derived.Test.YtjjghmkjdgogiaaGreatDoorDdM
namespace Go.Dd
open Go Go.SL

abbrev Sd := List Bool × List Nat
def hN (h : List Bool) (n : Nat) : Bool := h.getD n false
def mkF (s : Sd) (x : Nat) : Sd := if 0 < x ∧ hN s.1 x = false then (s.1.set x true, s.2 ++ [x]) else s
def maF (ts : List TermR) (s : Sd) (n : Nat) : Sd := match atN ts n with
 | some t => if t.kind = 1 then s else if t.kind = 2 then mkF s n else if hN s.1 t.a.toNat = true ∧ hN s.1 t.b.toNat = true then mkF s n else s
 | none => s
def opF (ts : List TermR) (s : Sd) (n : Nat) : Sd := match atN ts n with
 | some t => if t.kind = 3 then mkF (mkF s t.a.toNat) t.b.toNat else if t.kind = 6 then (if hN s.1 (byN ts t.a.toNat) = true then mkF s t.b.toNat else s) else s
 | none => s
def stF (ts : List TermR) (s : Sd) (m : Nat) : Sd := if hN (maF ts s m).1 m = true then opF ts (maF ts s m) m else maF ts s m

theorem hN_set {h : List Bool} {x n : Nat} (hx : x < h.length) : hN (h.set x true) n = (if n = x then true else hN h n) := by
 unfold hN
 rw [List.getD_eq_getElem?_getD, List.getElem?_set, List.getD_eq_getElem?_getD]
 by_cases e : x = n
 · subst e; simp [hx]
 · rw [if_neg e, if_neg (fun e' => e e'.symm)]
theorem hN_lt {h : List Bool} {n : Nat} (hn : hN h n = true) : n < h.length := by
 rcases Nat.lt_or_ge n h.length with h' | h'
 · exact h'
 · unfold hN at hn; rw [List.getD_eq_getElem?_getD, List.getElem?_eq_none h'] at hn; cases hn
theorem cnt_set : ∀ {h : List Bool} {x : Nat}, x < h.length → hN h x = false → (h.set x true).count true = h.count true + 1 ∧ (h.set x true).count false + 1 = h.count false
 | b :: h, 0, _, hb => by
  have : b = false := by simpa [hN] using hb
  subst this
  constructor <;> simp
 | b :: h, x + 1, hx, hb => by
  have ih := cnt_set (h := h) (x := x) (by simpa using hx) (by simpa [hN] using hb)
  rw [List.set_cons_succ, List.count_cons, List.count_cons, List.count_cons, List.count_cons]
  omega
theorem mkF_fst {s : Sd} {x : Nat} (hx : x < s.1.length) (n : Nat) : hN (mkF s x).1 n = true ↔ hN s.1 n = true ∨ (n = x ∧ (0 < x ∨ hN s.1 x = true)) := by
  unfold mkF
  split
  · rename_i h
    simp only
    rw [hN_set hx]
    by_cases e : n = x
    · subst e; rw [if_pos rfl]; simp; exact .inr (.inl h.1)
    · rw [if_neg e]; simp [e]
  · rename_i h
    constructor
    · exact .inl
    · rintro (h' | ⟨rfl, h'⟩)
      · exact h'
      · rcases h' with h' | h'
        · by_cases e : hN s.1 n = true
          · exact e
          · exact absurd ⟨h', by simpa using e⟩ h
        · exact h'
theorem mkF_len (s : Sd) (x : Nat) : (mkF s x).1.length = s.1.length := by
 unfold mkF; split <;> simp
theorem mkF_sub {s : Sd} {x n : Nat} (h : n ∈ s.2) : n ∈ (mkF s x).2 := by
 unfold mkF; split
 · exact List.mem_append_left _ h
 · exact h
theorem mkF_todo {s : Sd} {x n : Nat} (h : n ∈ (mkF s x).2) : n ∈ s.2 ∨ (n = x ∧ 0 < x) := by
  unfold mkF at h; split at h
  · rename_i h'
    rcases List.mem_append.1 h with h | h
    · exact .inl h
    · rw [List.mem_singleton] at h; exact .inr ⟨h, h'.1⟩
  · exact .inl h
/-- What has come is in what is to be done. -/
theorem mkF_new {s : Sd} {x n : Nat} (hx : x < s.1.length) (h : hN (mkF s x).1 n = true) : hN s.1 n = true ∨ n ∈ (mkF s x).2 := by
  by_cases e : 0 < x ∧ hN s.1 x = false
  · rw [mkF_fst hx] at h
    rcases h with h | ⟨rfl, _⟩
    · exact .inl h
    · right; unfold mkF; rw [if_pos e]; exact List.mem_append_right _ (List.mem_singleton.2 rfl)
  · left; unfold mkF at h; rw [if_neg e] at h; exact h
def mu (s : Sd) : Nat := 2 * s.1.count false + s.2.length
theorem mkF_mu {s : Sd} {x : Nat} (hx : x < s.1.length) : mu (mkF s x) ≤ mu s ∧ (mkF s x).2.length + s.1.count true = s.2.length + (mkF s x).1.count true := by
  unfold mkF mu
  split
  · rename_i h
    have := cnt_set hx h.2
    simp only [List.length_append, List.length_singleton]
    omega
  · omega

/-- A term of the first p ones. -/
def inP (ts : List TermR) (p n : Nat) (t : TermR) : Prop := atN ts n = some t ∧ n ≤ p
/-- What holds of the program's Know, but for those that are excused: EM: may be made, EP, ES: gives away. -/
structure Inv (ts : List TermR) (p : Nat) (K : Nat → Prop) (us : List (List Nat)) (EM EP ES : Nat → Prop) (s : Sd) : Prop where
 wf : Wf ts
 len : s.1.length = p + 1
 pl : p ≤ ts.length
 ul : us.length = p + 1
 h0 : hN s.1 0 = true
 sound : ∀ n, hN s.1 n = true → Der ts K n
 todo : ∀ n ∈ s.2, 0 < n ∧ hN s.1 n = true
 cnt : s.2.length ≤ s.1.count true
 uses : ∀ n t, inP ts p n t → ∀ q, 0 < q → (q = t.a.toNat ∨ q = t.b.toNat ∨ (t.kind = 6 ∧ q = byN ts t.a.toNat)) → n ∈ us.getD q []
 usr : ∀ q, ∀ m ∈ us.getD q [], 0 < m ∧ m ≤ p
 usn : ∀ q, (us.getD q []).length ≤ 3 * p
 M : ∀ n t, inP ts p n t → (t.kind = 2 ∨ (t.kind ≠ 1 ∧ hN s.1 t.a.toNat = true ∧ hN s.1 t.b.toNat = true)) → hN s.1 n = true ∨ t.a.toNat ∈ s.2 ∨ t.b.toNat ∈ s.2 ∨ EM n
 P : ∀ n t, inP ts p n t → t.kind = 3 → hN s.1 n = true → (hN s.1 t.a.toNat = true ∧ hN s.1 t.b.toNat = true) ∨ n ∈ s.2 ∨ EP n
 S : ∀ n t, inP ts p n t → t.kind = 6 → hN s.1 n = true → hN s.1 (byN ts t.a.toNat) = true → hN s.1 t.b.toNat = true ∨ n ∈ s.2 ∨ byN ts t.a.toNat ∈ s.2 ∨ ES n
def no : Nat → Prop := fun _ => False

section
variable {ts : List TermR} {p : Nat} {K : Nat → Prop} {us : List (List Nat)} {EM EP ES : Nat → Prop} {s : Sd}
theorem Inv.relax (I : Inv ts p K us EM EP ES s) {EM' EP' ES' : Nat → Prop} (h1 : ∀ n t, inP ts p n t → EM n → EM' n ∨ ((t.kind = 2 ∨ (t.kind ≠ 1 ∧ hN s.1 t.a.toNat = true ∧ hN s.1 t.b.toNat = true)) → hN s.1 n = true))
    (h2 : ∀ n t, inP ts p n t → EP n → EP' n ∨ (t.kind = 3 → hN s.1 n = true → hN s.1 t.a.toNat = true ∧ hN s.1 t.b.toNat = true))
    (h3 : ∀ n t, inP ts p n t → ES n → ES' n ∨ (t.kind = 6 → hN s.1 n = true → hN s.1 (byN ts t.a.toNat) = true → hN s.1 t.b.toNat = true)) : Inv ts p K us EM' EP' ES' s :=
  { I with
    M := fun n t hn h => by
      rcases I.M n t hn h with h' | h' | h' | h'
      · exact .inl h'
      · exact .inr (.inl h')
      · exact .inr (.inr (.inl h'))
      · rcases h1 n t hn h' with h'' | h''
        · exact .inr (.inr (.inr h''))
        · exact .inl (h'' h)
    P := fun n t hn hk h => by
      rcases I.P n t hn hk h with h' | h' | h'
      · exact .inl h'
      · exact .inr (.inl h')
      · rcases h2 n t hn h' with h'' | h''
        · exact .inr (.inr h'')
        · exact .inl (h'' hk h)
    S := fun n t hn hk h hb => by
      rcases I.S n t hn hk h hb with h' | h' | h' | h'
      · exact .inl h'
      · exact .inr (.inl h')
      · exact .inr (.inr (.inl h'))
      · rcases h3 n t hn h' with h'' | h''
        · exact .inr (.inr (.inr h''))
        · exact .inl (h'' hk h hb) }
theorem Inv.mk' (I : Inv ts p K us EM EP ES s) {x : Nat} (hx : x ≤ p) (hd : Der ts K x) : Inv ts p K us EM EP ES (mkF s x) := by
  have hl : x < s.1.length := by rw [I.len]; omega
  have up : ∀ {n}, hN s.1 n = true → hN (mkF s x).1 n = true := fun h => (mkF_fst hl _).2 (.inl h)
  have nw : ∀ {n}, hN (mkF s x).1 n = true → hN s.1 n = true ∨ n ∈ (mkF s x).2 := fun h => mkF_new hl h
  have hm := mkF_mu hl
  exact {
    wf := I.wf
    len := by rw [mkF_len, I.len]
    pl := I.pl
    ul := I.ul
    h0 := up I.h0
    sound := fun n h => by
      rcases (mkF_fst hl n).1 h with h | ⟨rfl, _⟩
      · exact I.sound n h
      · exact hd
    todo := fun n h => by
      rcases mkF_todo h with h | ⟨rfl, h0⟩
      · exact ⟨(I.todo n h).1, up (I.todo n h).2⟩
      · exact ⟨h0, (mkF_fst hl _).2 (.inr ⟨rfl, .inl h0⟩)⟩
    cnt := by have := I.cnt; omega
    uses := I.uses
    usr := I.usr
    usn := I.usn
    M := fun n t hn h => by
      by_cases e : t.kind = 2 ∨ (t.kind ≠ 1 ∧ hN s.1 t.a.toNat = true ∧ hN s.1 t.b.toNat = true)
      · rcases I.M n t hn e with h' | h' | h' | h'
        · exact .inl (up h')
        · exact .inr (.inl (mkF_sub h'))
        · exact .inr (.inr (.inl (mkF_sub h')))
        · exact .inr (.inr (.inr h'))
      · rcases h with h | ⟨h1, h2, h3⟩
        · exact absurd (.inl h) e
        · rcases nw h2 with h2 | h2
          · rcases nw h3 with h3 | h3
            · exact absurd (.inr ⟨h1, h2, h3⟩) e
            · exact .inr (.inr (.inl h3))
          · exact .inr (.inl h2)
    P := fun n t hn hk h => by
      rcases nw h with h | h
      · rcases I.P n t hn hk h with h' | h' | h'
        · exact .inl ⟨up h'.1, up h'.2⟩
        · exact .inr (.inl (mkF_sub h'))
        · exact .inr (.inr h')
      · exact .inr (.inl h)
    S := fun n t hn hk h hb => by
      rcases nw h with h | h
      · rcases nw hb with hb | hb
        · rcases I.S n t hn hk h hb with h' | h' | h' | h'
          · exact .inl (up h')
          · exact .inr (.inl (mkF_sub h'))
          · exact .inr (.inr (.inl (mkF_sub h')))
          · exact .inr (.inr (.inr h'))
        · exact .inr (.inr (.inl hb))
      · exact .inr (.inl h) }
theorem up_mk {x n : Nat} (hl : x < s.1.length) (h : hN s.1 n = true) : hN (mkF s x).1 n = true := (mkF_fst hl _).2 (.inl h)
theorem has_mk {x : Nat} (hl : x < s.1.length) (h : 0 < x) : hN (mkF s x).1 x = true := (mkF_fst hl _).2 (.inr ⟨rfl, .inl h⟩)
theorem inP.parts (hw : Wf ts) {n : Nat} {t : TermR} (h : inP ts p n t) : 1 ≤ n ∧ n ≤ p ∧ t.a.toNat < n ∧ t.b.toNat < n ∧ (t.kind = 3 ∨ t.kind = 6 → 0 < t.a.toNat ∧ 0 < t.b.toNat) := by
 have := hw.parts h.1
 have h2 := h.2
 omega
/-- A term is made, if its parts follow. -/
theorem Inv.ma (I : Inv ts p K us EM EP ES s) {m : Nat} (hm : m ≤ p) (h0 : 0 < m) : Inv ts p K us (fun n => EM n ∧ n ≠ m) EP ES (maF ts s m) ∧ mu (maF ts s m) ≤ mu s ∧ (∀ n, hN s.1 n = true → hN (maF ts s m).1 n = true) := by
  have hl : m < s.1.length := by rw [I.len]; omega
  have hsome : ∃ t, atN ts m = some t := by
    unfold atN; rw [if_neg (by omega)]
    exact ⟨_, List.getElem?_eq_getElem (by have := I.pl; omega)⟩
  obtain ⟨t, ht⟩ := hsome
  have hp := inP.parts I.wf (p := p) ⟨ht, hm⟩
  have same : ∀ s', s' = s → (t.kind = 2 ∨ (t.kind ≠ 1 ∧ hN s'.1 t.a.toNat = true ∧ hN s'.1 t.b.toNat = true) → hN s'.1 m = true) → Inv ts p K us (fun n => EM n ∧ n ≠ m) EP ES s' ∧ mu s' ≤ mu s ∧ (∀ n, hN s.1 n = true → hN s'.1 n = true) := fun s' e hc => by
    subst e
    refine ⟨I.relax (fun n u hn he => ?_) (fun _ _ _ h => .inl h) (fun _ _ _ h => .inl h), Nat.le_refl _, fun _ h => h⟩
    by_cases e : n = m
    · subst e
      have : u = t := by have := hn.1; rw [ht] at this; exact (Option.some.inj this).symm
      subst this
      exact .inr hc
    · exact .inl ⟨he, e⟩
  have mark : Der ts K m → Inv ts p K us (fun n => EM n ∧ n ≠ m) EP ES (mkF s m) ∧ mu (mkF s m) ≤ mu s ∧ (∀ n, hN s.1 n = true → hN (mkF s m).1 n = true) := fun hd => by
    refine ⟨(I.mk' hm hd).relax (fun n u hn he => ?_) (fun _ _ _ h => .inl h) (fun _ _ _ h => .inl h), (mkF_mu hl).1, fun n h => up_mk hl h⟩
    by_cases e : n = m
    · subst e; exact .inr fun _ => has_mk hl h0
    · exact .inl ⟨he, e⟩
  have e : maF ts s m = if t.kind = 1 then s else if t.kind = 2 then mkF s m else if hN s.1 t.a.toNat = true ∧ hN s.1 t.b.toNat = true then mkF s m else s := by unfold maF; rw [ht]
  rw [e]
  split
  · rename_i h1
    exact same s rfl (fun h => by rcases h with h | h <;> omega)
  split
  · rename_i h2; exact mark (.data ht h2)
  split
  · rename_i h1 h2 h3; exact mark (.made ht h1 h2 (I.sound _ h3.1) (I.sound _ h3.2))
  · rename_i h1 h2 h3
    exact same s rfl (fun h => by
      rcases h with h | ⟨_, h⟩
      · exact absurd h h2
      · exact absurd h h3)
/-- What a term that follows gives away. -/
theorem Inv.op (I : Inv ts p K us EM EP ES s) {m : Nat} (hm : m ≤ p) (h0 : 0 < m) (hh : hN s.1 m = true) : Inv ts p K us EM (fun n => EP n ∧ n ≠ m) (fun n => ES n ∧ n ≠ m) (opF ts s m) ∧ mu (opF ts s m) ≤ mu s ∧ (∀ n, hN s.1 n = true → hN (opF ts s m).1 n = true) := by
  have hsome : ∃ t, atN ts m = some t := by
    unfold atN; rw [if_neg (by omega)]
    exact ⟨_, List.getElem?_eq_getElem (by have := I.pl; omega)⟩
  obtain ⟨t, ht⟩ := hsome
  have hp := inP.parts I.wf (p := p) ⟨ht, hm⟩
  have only : ∀ {n u}, inP ts p n u → n = m → u = t := fun hn e => by
    subst e; have := hn.1; rw [ht] at this; exact (Option.some.inj this).symm
  have e : opF ts s m = if t.kind = 3 then mkF (mkF s t.a.toNat) t.b.toNat else if t.kind = 6 then (if hN s.1 (byN ts t.a.toNat) = true then mkF s t.b.toNat else s) else s := by unfold opF; rw [ht]
  rw [e]
  split
  · rename_i h3
    have hpp := hp.2.2.2.2 (.inl h3)
    have hla : t.a.toNat < s.1.length := by rw [I.len]; omega
    have hlb : t.b.toNat < (mkF s t.a.toNat).1.length := by rw [mkF_len, I.len]; omega
    have I1 := (I.mk' (x := t.a.toNat) (by omega) (.fst ht h3 (I.sound _ hh))).mk' (x := t.b.toNat) (by omega) (.snd ht h3 (I.sound _ hh))
    refine ⟨I1.relax (fun _ _ _ h => .inl h) (fun n u hn he => ?_) (fun n u hn he => ?_), Nat.le_trans (mkF_mu hlb).1 (mkF_mu hla).1, fun n h => up_mk hlb (up_mk hla h)⟩
    · by_cases e : n = m
      · have := only hn e; subst this
        exact .inr fun _ _ => ⟨up_mk hlb (has_mk hla hpp.1), has_mk hlb hpp.2⟩
      · exact .inl ⟨he, e⟩
    · by_cases e : n = m
      · have := only hn e; subst this
        exact .inr fun h => by omega
      · exact .inl ⟨he, e⟩
  split
  · rename_i hn3 h6
    have hpp := hp.2.2.2.2 (.inr h6)
    have hlb : t.b.toNat < s.1.length := by rw [I.len]; omega
    split
    · rename_i hby
      refine ⟨(I.mk' (x := t.b.toNat) (by omega) (.opn ht h6 (I.sound _ hh) (I.sound _ hby))).relax (fun _ _ _ h => .inl h) (fun n u hn he => ?_) (fun n u hn he => ?_), (mkF_mu hlb).1, fun n h => up_mk hlb h⟩
      · by_cases e : n = m
        · have := only hn e; subst this; exact .inr fun h => absurd h hn3
        · exact .inl ⟨he, e⟩
      · by_cases e : n = m
        · have := only hn e; subst this; exact .inr fun _ _ _ => has_mk hlb hpp.2
        · exact .inl ⟨he, e⟩
    · rename_i hby
      refine ⟨I.relax (fun _ _ _ h => .inl h) (fun n u hn he => ?_) (fun n u hn he => ?_), Nat.le_refl _, fun _ h => h⟩
      · by_cases e : n = m
        · have := only hn e; subst this; exact .inr fun h => absurd h hn3
        · exact .inl ⟨he, e⟩
      · by_cases e : n = m
        · have := only hn e; subst this; exact .inr fun _ _ h => absurd h hby
        · exact .inl ⟨he, e⟩
  · rename_i hn3 hn6
    refine ⟨I.relax (fun _ _ _ h => .inl h) (fun n u hn he => ?_) (fun n u hn he => ?_), Nat.le_refl _, fun _ h => h⟩
    · by_cases e : n = m
      · have := only hn e; subst this; exact .inr fun h => absurd h hn3
      · exact .inl ⟨he, e⟩
    · by_cases e : n = m
      · have := only hn e; subst this; exact .inr fun h => absurd h hn6
      · exact .inl ⟨he, e⟩
theorem Inv.st (I : Inv ts p K us EM EP ES s) {m : Nat} (hm : m ≤ p) (h0 : 0 < m) : Inv ts p K us (fun n => EM n ∧ n ≠ m) EP (fun n => ES n ∧ n ≠ m) (stF ts s m) ∧ mu (stF ts s m) ≤ mu s := by
  obtain ⟨I1, m1, u1⟩ := I.ma hm h0
  unfold stF
  split
  · rename_i h
    obtain ⟨I2, m2, _⟩ := I1.op hm h0 h
    exact ⟨I2.relax (fun _ _ _ h => .inl h) (fun _ _ _ h => .inl h.1) (fun _ _ _ h => .inl h), Nat.le_trans m2 m1⟩
  · rename_i h
    refine ⟨I1.relax (fun _ _ _ h => .inl h) (fun _ _ _ h => .inl h) (fun n u hn he => ?_), m1⟩
    by_cases e : n = m
    · subst e; exact .inr fun _ h' => absurd h' h
    · exact .inl ⟨he, e⟩
/-- With nothing to be done: just what follows is there. -/
theorem Inv.done {h : List Bool} (I : Inv ts p K us no no no (h, [])) (hp : p = ts.length) (hK : ∀ n, K n → hN h n = true) (n : Nat) : hN h n = true ↔ Der ts K n := by
 refine ⟨I.sound n, fun hd => ?_⟩
 have inp : ∀ {n t}, atN ts n = some t → inP ts p n t := fun {n t} h => ⟨h, by have := I.wf.parts h; omega⟩
 refine hd.least (S := fun n => hN h n = true) ⟨I.h0, fun n t ht hk => ?_, fun n t ht h1 h2 ha hb => ?_, fun n t ht hk hh => ?_, fun n t ht hk hh => ?_, fun n t ht hk hh hb => ?_⟩ hK
 · have := I.M n t (inp ht) (.inl hk); simpa [no] using this
 · have := I.M n t (inp ht) (.inr ⟨h1, ha, hb⟩); simpa [no] using this
 · have := I.P n t (inp ht) hk hh; simp [no] at this; exact this.1
 · have := I.P n t (inp ht) hk hh; simp [no] at this; exact this.2
 · have := I.S n t (inp ht) hk hh hb; simpa [no] using this
end
end Go.Dd
