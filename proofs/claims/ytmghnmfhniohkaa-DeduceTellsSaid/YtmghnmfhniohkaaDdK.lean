/- What follows: contracts of the calls. -/
import Derived.Test.YtmghnmfhniohkaaDdJ
namespace Go.Proofs.Ytmghnmfhniohkaa
open Go Go.SL Go.Dd Go.RowKit
set_option linter.unusedVariables false

/-- A pass through all terms, as far as it has come. -/
structure PassR (ts : List TermR) (K : Nat → Prop) (Lx : List Bool) (i : Nat) (L : List Bool) (m : Bool) : Prop where
  inv : InvR ts K L
  up : ∀ n, hN Lx n = true → hN L n = true
  pos : 0 < i
  le : i ≤ ts.length + 1
  same : m = false → L = Lx ∧ ∀ n, 0 < n → n < i → ClR ts Lx n
  less : m = true → L.count false < Lx.count false
  cnt : L.count false ≤ Lx.count false
theorem PassR.start {ts : List TermR} {K : Nat → Prop} {L : List Bool} (I : InvR ts K L) : PassR ts K L 1 L false := ⟨I, fun _ h => h, by omega, by omega, fun _ => ⟨rfl, fun n h0 h1 => by omega⟩, fun h => (by cases h), Nat.le_refl _⟩
theorem PassR.step {ts : List TermR} {K : Nat → Prop} {Lx L L2 : List Bool} {i : Nat} {m m2 : Bool} (P : PassR ts K Lx i L m) (hi : i ≤ ts.length) (e : stR ts (L, m) i = (L2, m2)) : PassR ts K Lx (i + 1) L2 m2 := by
  have h := P.inv.st (m := m) P.pos hi
  rw [e] at h
  obtain ⟨h1, h2, h3, h4, h5⟩ := h
  refine ⟨h1, fun n hn => h2 n (P.up n hn), by omega, by omega, fun hm => ?_, fun hm => ?_, Nat.le_trans h5 P.cnt⟩
  · obtain ⟨a, b, c⟩ := h3 hm
    obtain ⟨d, f⟩ := P.same b
    refine ⟨a.trans d, fun n h0 hn => ?_⟩
    by_cases e : n = i
    · subst e; rw [← d]; exact c
    · exact f n h0 (by omega)
  · rcases h4 hm with h' | h'
    · exact Nat.lt_of_le_of_lt h5 (P.less h')
    · exact Nat.lt_of_lt_of_le h' P.cnt
theorem st_has {ts : List TermR} {L : List Bool} {m : Bool} {i : Nat} (h : hN L i = true) : stR ts (L, m) i = ((gvR ts L i).1, (gvR ts L i).2 || m) := by
  have e1 : m1R ts (L, m) i = (L, m) := if_neg (fun h' => by rw [h] at h'; cases h'.1)
  unfold stR; rw [e1]; exact if_pos h
theorem st_mk {ts : List TermR} {L : List Bool} {m : Bool} {i : Nat} (h : ¬ hN L i = true) (hk : mkR ts L i = true) (hl : i < L.length) : stR ts (L, m) i = ((gvR ts (L.set i true) i).1, true) := by
  have e1 : m1R ts (L, m) i = (L.set i true, true) := if_pos ⟨by simpa using h, hk⟩
  unfold stR; rw [e1]
  rw [if_pos (by rw [hN_set hl]; simp)]
  simp
theorem st_no {ts : List TermR} {L : List Bool} {m : Bool} {i : Nat} (h : ¬ hN L i = true) (hk : ¬ mkR ts L i = true) : stR ts (L, m) i = (L, m) := by
  have e1 : m1R ts (L, m) i = (L, m) := if_neg (fun h' => hk h'.2)
  unfold stR; rw [e1]; exact if_neg h
theorem hN_self {L : List Bool} {i : Nat} (hl : i < L.length) : hN (L.set i true) i = true := by rw [hN_set hl]; simp
/-- All that the document's Know tells: what follows of terms that were there when it was asked last. -/
def RKn (ts : List TermR) (K : Nat → Prop) (L : List Bool) : Prop := ∃ t0 xs, ts = t0 ++ xs ∧ InvR t0 K L ∧ (∀ n, 0 < n → n ≤ t0.length → ClR t0 L n) ∧ ∀ n, K n → hN L n = true
theorem hN_false (n k : Nat) : hN (List.replicate k false) n = false := by
  unfold hN
  rw [List.getD_eq_getElem?_getD, List.getElem?_replicate]
  split <;> rfl
theorem InvR.ext {t0 xs : List TermR} {K : Nat → Prop} {L L2 : List Bool} (I : InvR t0 K L) (hw : Wf (t0 ++ xs)) (hl : L2.length = (t0 ++ xs).length + 1) (he : ∀ n, hN L2 n = hN L n) : InvR (t0 ++ xs) K L2 :=
  ⟨hw, hl, by rw [he]; exact I.z, fun n h => (I.sound n (by rw [← he]; exact h)).ext I.wf⟩
theorem made_bools (n : Nat) : (madeCells (Value.bool false).cells (n * 1)).toList = (List.replicate n false).map Value.bool := by
  show (madeCells #[Value.bool false] (n * 1)).toList = _
  rw [Nat.mul_one, List.map_replicate]
  apply List.ext_getElem
  · simp [madeCells]
  · intro i h1 h2; simp [madeCells, Nat.mod_one]

set_option maxRecDepth 4000 in
theorem rgoes_c (W0 : World) (w r lb lc : Nat) (ts : List TermR) (K : Nat → Prop) (L : List Bool) (I : InvR ts K L) (hl : ts.length ≤ 1048576) :
    Con Try.prog W0 26 #[Value.pointer (some ⟨w, 0, none⟩)] [pt w 61 [Value.pointer (some ⟨r, 0, none⟩), Value.slice (some ⟨lb, 0, none⟩) (ts.length + 1) lc], slp 4 1 lb lc (L.map Value.bool), refI r ts] (X := List Bool) (fun y => InvR ts K y ∧ (∀ n, 0 < n → n ≤ ts.length → ClR ts y n) ∧ ∀ n, hN L n = true → hN y n = true) (fun _ => .tuple #[]) (fun y => [pt w 61 [Value.pointer (some ⟨r, 0, none⟩), Value.slice (some ⟨lb, 0, none⟩) (ts.length + 1) lc], slp 4 1 lb lc (y.map Value.bool), refI r ts]) := by
  refine Con.of (args := [Value.pointer (some ⟨w, 0, none⟩)]) Try.func26 rfl Try.ntmps26 rfl (fun F => ?_)
  show Wc _ W0 _ _ _ _ _ ((pt w 61 [Value.pointer (some ⟨r, 0, none⟩), Value.slice (some ⟨lb, 0, none⟩) (ts.length + 1) lc]) :: (slp 4 1 lb lc (L.map Value.bool)) :: (refI r ts) :: F)
  refine Wc.seq ?_
  refine Wc.region ?_
  refine Wl.q (v := Value.bool true) (q_assign rfl) ?_
  refine Wl.done ?_
  refine Wx.go ?_
  refine Wc.block ?_
  refine Wc.loop (X := List Bool × Bool) (fun (Lx, mo) E => E 2 = Value.bool mo ∧ E 0 = Value.pointer (some ⟨w, 0, none⟩) ∧ InvR ts K Lx ∧ (∀ n, hN L n = true → hN Lx n = true) ∧ (mo = false → ∀ n, 0 < n → n ≤ ts.length → ClR ts Lx n)) (fun (Lx, mo) => (pt w 61 [Value.pointer (some ⟨r, 0, none⟩), Value.slice (some ⟨lb, 0, none⟩) (ts.length + 1) lc]) :: (slp 4 1 lb lc (Lx.map Value.bool)) :: (refI r ts) :: F) (fun (Lx, mo) => 2 * Lx.count false + (if mo = true then 1 else 0)) (L, true) ?_ ?_ ?_
  · exact ⟨rfl, rfl, I, (fun _ h => h), (fun h => by cases h)⟩
  · exact fun w hs => hs
  · rintro ⟨Lx, mo⟩ E2 ⟨hE2_0, hE0_0, hI, hup, hcl⟩
    dsimp only at *
    refine Wc.seq ?_
    refine Wc.seq ?_
    refine Wc.region ?_
    refine Wl.q (v := Value.bool mo) (q_move hE2_0) ?_
    refine Wl.done ?_
    refine Wx.go ?_
    refine Wc.both (b := mo) rfl (fun hb3 => ?_) (fun hb3 => ?_)
    ·
      have hb0 := hb3
      refine Wc.skip ?_
      refine Wx.go ?_
      refine Wc.block ?_
      refine Wc.seq ?_
      refine Wc.region ?_
      refine Wl.q (v := Value.bool false) (q_assign rfl) ?_
      refine Wl.done ?_
      refine Wx.go ?_
      refine Wc.seq ?_
      refine Wc.region ?_
      refine Wl.q (v := Value.int .i64 1) (q_assign rfl) ?_
      refine Wl.done ?_
      refine Wx.go ?_
      refine Wc.block ?_
      refine Wc.loop (X := Nat × List Bool × Bool) (fun (i, Ly, my) E => E 3 = Value.int .i64 ((i : Nat) : Int) ∧ E 2 = Value.bool my ∧ E 0 = Value.pointer (some ⟨w, 0, none⟩) ∧ PassR ts K Lx i Ly my) (fun (i, Ly, my) => (pt w 61 [Value.pointer (some ⟨r, 0, none⟩), Value.slice (some ⟨lb, 0, none⟩) (ts.length + 1) lc]) :: (slp 4 1 lb lc (Ly.map Value.bool)) :: (refI r ts) :: F) (fun (i, Ly, my) => ts.length + 1 - i) (1, Lx, false) ?_ ?_ ?_
      · exact ⟨rfl, rfl, hE0_0, (PassR.start hI)⟩
      · exact fun w hs => hs
      · rintro ⟨i, Ly, my⟩ E5 ⟨hE3_3, hE2_3, hE0_3, hP⟩
        dsimp only at *
        have hJ := hP.inv
        have hml := hJ.len
        have hi0 := hP.pos
        have hil := hP.le
        refine Wc.seq ?_
        refine Wc.seq ?_
        refine Wc.region ?_
        refine Wl.q (v := Value.int .i64 ((i : Nat) : Int)) (q_move hE3_3) ?_
        refine Wl.q (v := Value.pointer (some ⟨w, 0, none⟩)) (q_move hE0_3) ?_
        refine Wl.q (v := Value.pointer (some ⟨w, 0, none⟩)) (q_nil_ptr rfl) ?_
        refine Wl.q (v := Value.pointer (some ⟨w, 1, none⟩)) (q_field (m := 1) fo_61_1 rfl rfl) ?_
        refine Wl.q (v := Value.slice (some ⟨lb, 0, none⟩) (ts.length + 1) lc) (q_load sc_57 rfl (.cel (i := 0) rfl rfl)) ?_
        refine Wl.q (v := Value.int .i64 (((ts.length + 1) : Nat) : Int)) (q_len_slice Try.underlying57 rfl) ?_
        by_cases hil2 : ((i : Nat) : Int) < (((ts.length + 1) : Nat) : Int)
        ·
          obtain ⟨u, hu⟩ := at_some (ts := ts) (n := i) hi0 (by omega)
          refine Wl.q (v := Value.bool true) (q_lss (r := true) rfl rfl (decide_eq_true hil2)) ?_
          refine Wl.done ?_
          refine Wx.go ?_
          refine Wc.yes rfl ?_
          refine Wc.skip ?_
          refine Wx.go ?_
          refine Wc.seq ?_
          refine Wc.block ?_
          refine Wc.seq ?_
          refine Wc.seq ?_
          refine Wc.region ?_
          refine Wl.q (v := Value.pointer (some ⟨w, 0, none⟩)) (q_move hE0_3) ?_
          refine Wl.q (v := Value.pointer (some ⟨w, 0, none⟩)) (q_nil_ptr rfl) ?_
          refine Wl.q (v := Value.pointer (some ⟨w, 1, none⟩)) (q_field (m := 1) fo_61_1 rfl rfl) ?_
          refine Wl.q (v := Value.slice (some ⟨lb, 0, none⟩) (ts.length + 1) lc) (q_load sc_57 rfl (.cel (i := 0) rfl rfl)) ?_
          refine Wl.q (v := Value.int .i64 ((i : Nat) : Int)) (q_move hE3_3) ?_
          refine Wl.q (v := Value.pointer (some ⟨lb, i, none⟩)) (q_idx (m := i) se_57 rfl rfl (by omega) (by omega) (by simp)) ?_
          by_cases hLi : hN Ly i = true
          ·
            refine Wl.q (v := Value.bool true) (q_load sc_4 rfl (.row (i := 1) rfl (bool_yes hLi))) ?_
            refine Wl.q (v := Value.bool false) (q_not rfl rfl) ?_
            refine Wl.q (v := Value.bool false) (q_move rfl) ?_
            refine Wl.no ?_
            refine Wl.no ?_
            refine Wl.no ?_
            refine Wl.q (v := Value.bool false) (q_pick (t := false) rfl rfl) ?_
            refine Wl.done ?_
            refine Wx.go ?_
            refine Wc.no rfl ?_
            refine Wc.skip ?_
            refine Wx.go ?_
            refine Wc.seq ?_
            refine Wc.region ?_
            refine Wl.q (v := Value.pointer (some ⟨w, 0, none⟩)) (q_move hE0_3) ?_
            refine Wl.q (v := Value.pointer (some ⟨w, 0, none⟩)) (q_nil_ptr rfl) ?_
            refine Wl.q (v := Value.pointer (some ⟨w, 1, none⟩)) (q_field (m := 1) fo_61_1 rfl rfl) ?_
            refine Wl.q (v := Value.slice (some ⟨lb, 0, none⟩) (ts.length + 1) lc) (q_load sc_57 rfl (.cel (i := 0) rfl rfl)) ?_
            refine Wl.q (v := Value.int .i64 ((i : Nat) : Int)) (q_move hE3_3) ?_
            refine Wl.q (v := Value.pointer (some ⟨lb, i, none⟩)) (q_idx (m := i) se_57 rfl rfl (by omega) (by omega) (by simp)) ?_
            refine Wl.q (v := Value.bool true) (q_load sc_4 rfl (.row (i := 1) rfl (bool_yes (hLi)))) ?_
            refine Wl.q (v := Value.bool true) (q_move rfl) ?_
            refine Wl.q (v := Value.pointer (some ⟨w, 0, none⟩)) (q_move hE0_3) ?_
            refine Wl.q (v := Value.int .i64 ((i : Nat) : Int)) (q_move hE3_3) ?_
            refine Wl.e (e_call (F := F) (args := [Value.pointer (some ⟨w, 0, none⟩), Value.int .i64 ((i : Nat) : Int)]) Try.call41 rfl (rgive_c W0 w r lb lc (ts.length + 1) Ly ts i (by first | exact hml | (rw [List.length_set]; exact hml)) hJ.wf hl u hu (by omega))) (fun _ _ => ?_)
            refine Wl.imp (L' := (pt w 61 [Value.pointer (some ⟨r, 0, none⟩), Value.slice (some ⟨lb, 0, none⟩) (ts.length + 1) lc]) :: (slp 4 1 lb lc ((gvR ts Ly i).1.map Value.bool)) :: (refI r ts) :: F) (fun _ h => h) ?_
            refine Wl.q (v := Value.bool ((gvR ts Ly i).2)) (q_pick (t := true) rfl rfl) ?_
            refine Wl.done ?_
            refine Wx.go ?_
            refine Wc.both (b := (gvR ts Ly i).2) rfl (fun hb6 => ?_) (fun hb6 => ?_)
            ·
              have hbg := hb6
              refine Wc.region ?_
              refine Wl.q (v := Value.bool true) (q_assign rfl) ?_
              refine Wl.done ?_
              refine Wx.blockEnd ?_
              refine Wx.go ?_
              refine Wc.region ?_
              refine Wl.q (v := Value.int .i64 ((i : Nat) : Int)) (q_move hE3_3) ?_
              refine Wl.q (v := Value.int .i64 ((i + 1 : Nat) : Int)) (q_add (c := ((i + 1 : Nat) : Int)) rfl rfl (by rw [wrap_i64] <;> omega)) ?_
              refine Wl.q (v := Value.int .i64 ((i + 1 : Nat) : Int)) (q_assign rfl) ?_
              refine Wl.done ?_
              refine Wx.at (i + 1, (gvR ts Ly i).1, true) ⟨(by simp only; omega), rfl, rfl, hE0_3, (hP.step (by omega) (by rw [st_has hLi, hbg]; rfl))⟩ (fun w hs => hs)
            ·
              have hbg := hb6
              refine Wc.skip ?_
              refine Wx.blockEnd ?_
              refine Wx.go ?_
              refine Wc.region ?_
              refine Wl.q (v := Value.int .i64 ((i : Nat) : Int)) (q_move hE3_3) ?_
              refine Wl.q (v := Value.int .i64 ((i + 1 : Nat) : Int)) (q_add (c := ((i + 1 : Nat) : Int)) rfl rfl (by rw [wrap_i64] <;> omega)) ?_
              refine Wl.q (v := Value.int .i64 ((i + 1 : Nat) : Int)) (q_assign rfl) ?_
              refine Wl.done ?_
              refine Wx.at (i + 1, (gvR ts Ly i).1, my) ⟨(by simp only; omega), rfl, hE2_3, hE0_3, (hP.step (by omega) (by rw [st_has hLi, hbg]; rfl))⟩ (fun w hs => hs)
          ·
            refine Wl.q (v := Value.bool false) (q_load sc_4 rfl (.row (i := 1) rfl (bool_no (by first | omega | (simp only [List.length_set]; omega)) hLi))) ?_
            refine Wl.q (v := Value.bool true) (q_not rfl rfl) ?_
            refine Wl.q (v := Value.bool true) (q_move rfl) ?_
            by_cases hmk : mkR ts Ly i = true
            ·
              refine Wl.q (v := Value.pointer (some ⟨w, 0, none⟩)) (q_move hE0_3) ?_
              refine Wl.q (v := Value.int .i64 ((i : Nat) : Int)) (q_move hE3_3) ?_
              refine Wl.e (e_call (F := F) (args := [Value.pointer (some ⟨w, 0, none⟩), Value.int .i64 ((i : Nat) : Int)]) Try.call40 rfl (rmakes_is W0 w r lb lc (ts.length + 1) Ly ts i (by first | exact hml | (rw [List.length_set]; exact hml)) hJ.wf hl u hu (by omega) hmk)) (fun _ _ => ?_)
              refine Wl.imp (L' := (pt w 61 [Value.pointer (some ⟨r, 0, none⟩), Value.slice (some ⟨lb, 0, none⟩) (ts.length + 1) lc]) :: (slp 4 1 lb lc (Ly.map Value.bool)) :: (refI r ts) :: F) (fun _ h => h) ?_
              refine Wl.q (v := Value.bool true) (q_pick (t := true) rfl rfl) ?_
              refine Wl.done ?_
              refine Wx.go ?_
              refine Wc.yes rfl ?_
              refine Wc.seq ?_
              refine Wc.region ?_
              refine Wl.q (v := Value.pointer (some ⟨w, 0, none⟩)) (q_move hE0_3) ?_
              refine Wl.q (v := Value.pointer (some ⟨w, 0, none⟩)) (q_nil_ptr rfl) ?_
              refine Wl.q (v := Value.pointer (some ⟨w, 1, none⟩)) (q_field (m := 1) fo_61_1 rfl rfl) ?_
              refine Wl.q (v := Value.slice (some ⟨lb, 0, none⟩) (ts.length + 1) lc) (q_load sc_57 rfl (.cel (i := 0) rfl rfl)) ?_
              refine Wl.q (v := Value.int .i64 ((i : Nat) : Int)) (q_move hE3_3) ?_
              refine Wl.q (v := Value.pointer (some ⟨lb, i, none⟩)) (q_idx (m := i) se_57 rfl rfl (by omega) (by omega) (by simp)) ?_
              refine Wl.e (e_store_slp (i := 1) (vs := [Value.bool true]) (c' := (Ly.set i true).map Value.bool) sz_4 rfl (congrArg Value.cells (rfl)) rfl rfl (by simp; omega) (splice_map (by first | omega | (simp only [List.length_set]; omega)))) (fun _ _ => ?_)
              refine Wl.imp (L' := (pt w 61 [Value.pointer (some ⟨r, 0, none⟩), Value.slice (some ⟨lb, 0, none⟩) (ts.length + 1) lc]) :: (slp 4 1 lb lc ((Ly.set i true).map Value.bool)) :: (refI r ts) :: F) (fun _ h => h) ?_
              refine Wl.done ?_
              refine Wx.go ?_
              refine Wc.region ?_
              refine Wl.q (v := Value.bool true) (q_assign rfl) ?_
              refine Wl.done ?_
              refine Wx.go ?_
              refine Wc.seq ?_
              refine Wc.region ?_
              refine Wl.q (v := Value.pointer (some ⟨w, 0, none⟩)) (q_move hE0_3) ?_
              refine Wl.q (v := Value.pointer (some ⟨w, 0, none⟩)) (q_nil_ptr rfl) ?_
              refine Wl.q (v := Value.pointer (some ⟨w, 1, none⟩)) (q_field (m := 1) fo_61_1 rfl rfl) ?_
              refine Wl.q (v := Value.slice (some ⟨lb, 0, none⟩) (ts.length + 1) lc) (q_load sc_57 rfl (.cel (i := 0) rfl rfl)) ?_
              refine Wl.q (v := Value.int .i64 ((i : Nat) : Int)) (q_move hE3_3) ?_
              refine Wl.q (v := Value.pointer (some ⟨lb, i, none⟩)) (q_idx (m := i) se_57 rfl rfl (by omega) (by omega) (by simp)) ?_
              refine Wl.q (v := Value.bool true) (q_load sc_4 rfl (.row (i := 1) rfl (bool_yes (hN_self (by omega))))) ?_
              refine Wl.q (v := Value.bool true) (q_move rfl) ?_
              refine Wl.q (v := Value.pointer (some ⟨w, 0, none⟩)) (q_move hE0_3) ?_
              refine Wl.q (v := Value.int .i64 ((i : Nat) : Int)) (q_move hE3_3) ?_
              refine Wl.e (e_call (F := F) (args := [Value.pointer (some ⟨w, 0, none⟩), Value.int .i64 ((i : Nat) : Int)]) Try.call41 rfl (rgive_c W0 w r lb lc (ts.length + 1) (Ly.set i true) ts i (by first | exact hml | (rw [List.length_set]; exact hml)) hJ.wf hl u hu (by omega))) (fun _ _ => ?_)
              refine Wl.imp (L' := (pt w 61 [Value.pointer (some ⟨r, 0, none⟩), Value.slice (some ⟨lb, 0, none⟩) (ts.length + 1) lc]) :: (slp 4 1 lb lc ((gvR ts (Ly.set i true) i).1.map Value.bool)) :: (refI r ts) :: F) (fun _ h => h) ?_
              refine Wl.q (v := Value.bool ((gvR ts (Ly.set i true) i).2)) (q_pick (t := true) rfl rfl) ?_
              refine Wl.done ?_
              refine Wx.go ?_
              refine Wc.both (b := (gvR ts (Ly.set i true) i).2) rfl (fun hb7 => ?_) (fun hb7 => ?_)
              ·
                have hbg := hb7
                refine Wc.region ?_
                refine Wl.q (v := Value.bool true) (q_assign rfl) ?_
                refine Wl.done ?_
                refine Wx.blockEnd ?_
                refine Wx.go ?_
                refine Wc.region ?_
                refine Wl.q (v := Value.int .i64 ((i : Nat) : Int)) (q_move hE3_3) ?_
                refine Wl.q (v := Value.int .i64 ((i + 1 : Nat) : Int)) (q_add (c := ((i + 1 : Nat) : Int)) rfl rfl (by rw [wrap_i64] <;> omega)) ?_
                refine Wl.q (v := Value.int .i64 ((i + 1 : Nat) : Int)) (q_assign rfl) ?_
                refine Wl.done ?_
                refine Wx.at (i + 1, (gvR ts (Ly.set i true) i).1, true) ⟨(by simp only; omega), rfl, rfl, hE0_3, (hP.step (by omega) (st_mk hLi hmk (by omega)))⟩ (fun w hs => hs)
              ·
                have hbg := hb7
                refine Wc.skip ?_
                refine Wx.blockEnd ?_
                refine Wx.go ?_
                refine Wc.region ?_
                refine Wl.q (v := Value.int .i64 ((i : Nat) : Int)) (q_move hE3_3) ?_
                refine Wl.q (v := Value.int .i64 ((i + 1 : Nat) : Int)) (q_add (c := ((i + 1 : Nat) : Int)) rfl rfl (by rw [wrap_i64] <;> omega)) ?_
                refine Wl.q (v := Value.int .i64 ((i + 1 : Nat) : Int)) (q_assign rfl) ?_
                refine Wl.done ?_
                refine Wx.at (i + 1, (gvR ts (Ly.set i true) i).1, true) ⟨(by simp only; omega), rfl, rfl, hE0_3, (hP.step (by omega) (st_mk hLi hmk (by omega)))⟩ (fun w hs => hs)
            ·
              refine Wl.q (v := Value.pointer (some ⟨w, 0, none⟩)) (q_move hE0_3) ?_
              refine Wl.q (v := Value.int .i64 ((i : Nat) : Int)) (q_move hE3_3) ?_
              refine Wl.e (e_call (F := F) (args := [Value.pointer (some ⟨w, 0, none⟩), Value.int .i64 ((i : Nat) : Int)]) Try.call40 rfl (rmakes_is W0 w r lb lc (ts.length + 1) Ly ts i (by first | exact hml | (rw [List.length_set]; exact hml)) hJ.wf hl u hu (by omega) (Bool.eq_false_iff.2 hmk))) (fun _ _ => ?_)
              refine Wl.imp (L' := (pt w 61 [Value.pointer (some ⟨r, 0, none⟩), Value.slice (some ⟨lb, 0, none⟩) (ts.length + 1) lc]) :: (slp 4 1 lb lc (Ly.map Value.bool)) :: (refI r ts) :: F) (fun _ h => h) ?_
              refine Wl.q (v := Value.bool false) (q_pick (t := true) rfl rfl) ?_
              refine Wl.done ?_
              refine Wx.go ?_
              refine Wc.no rfl ?_
              refine Wc.skip ?_
              refine Wx.go ?_
              refine Wc.seq ?_
              refine Wc.region ?_
              refine Wl.q (v := Value.pointer (some ⟨w, 0, none⟩)) (q_move hE0_3) ?_
              refine Wl.q (v := Value.pointer (some ⟨w, 0, none⟩)) (q_nil_ptr rfl) ?_
              refine Wl.q (v := Value.pointer (some ⟨w, 1, none⟩)) (q_field (m := 1) fo_61_1 rfl rfl) ?_
              refine Wl.q (v := Value.slice (some ⟨lb, 0, none⟩) (ts.length + 1) lc) (q_load sc_57 rfl (.cel (i := 0) rfl rfl)) ?_
              refine Wl.q (v := Value.int .i64 ((i : Nat) : Int)) (q_move hE3_3) ?_
              refine Wl.q (v := Value.pointer (some ⟨lb, i, none⟩)) (q_idx (m := i) se_57 rfl rfl (by omega) (by omega) (by simp)) ?_
              refine Wl.q (v := Value.bool false) (q_load sc_4 rfl (.row (i := 1) rfl (bool_no (by first | omega | (simp only [List.length_set]; omega)) (hLi)))) ?_
              refine Wl.q (v := Value.bool false) (q_move rfl) ?_
              refine Wl.no ?_
              refine Wl.no ?_
              refine Wl.no ?_
              refine Wl.q (v := Value.bool false) (q_pick (t := false) rfl rfl) ?_
              refine Wl.done ?_
              refine Wx.go ?_
              refine Wc.no rfl ?_
              refine Wc.skip ?_
              refine Wx.blockEnd ?_
              refine Wx.go ?_
              refine Wc.region ?_
              refine Wl.q (v := Value.int .i64 ((i : Nat) : Int)) (q_move hE3_3) ?_
              refine Wl.q (v := Value.int .i64 ((i + 1 : Nat) : Int)) (q_add (c := ((i + 1 : Nat) : Int)) rfl rfl (by rw [wrap_i64] <;> omega)) ?_
              refine Wl.q (v := Value.int .i64 ((i + 1 : Nat) : Int)) (q_assign rfl) ?_
              refine Wl.done ?_
              refine Wx.at (i + 1, Ly, my) ⟨(by simp only; omega), rfl, hE2_3, hE0_3, (hP.step (by omega) (st_no hLi hmk))⟩ (fun w hs => hs)
        ·
          have hie : i = ts.length + 1 := by omega
          refine Wl.q (v := Value.bool false) (q_lss (r := false) rfl rfl (decide_eq_false hil2)) ?_
          refine Wl.done ?_
          refine Wx.go ?_
          refine Wc.no rfl ?_
          refine Wc.exit ?_
          refine Wx.thenExit ?_
          refine Wx.thenExit ?_
          refine Wx.out ?_
          refine Wx.blockEnd ?_
          refine Wx.at (Ly, my) ⟨(by have h1 := hP.cnt; have h2 := hP.less; have h3 := hb0; simp only; subst h3; cases my <;> simp_all <;> omega), hE2_3, hE0_3, hP.inv, (fun n h => hP.up n (hup n h)), (fun h n h0 hn => by rw [(hP.same h).1]; exact (hP.same h).2 n h0 (by omega))⟩ (fun w hs => hs)
    ·
      have hb0 := hb3
      refine Wc.exit ?_
      refine Wx.thenExit ?_
      refine Wx.thenExit ?_
      refine Wx.out ?_
      refine Wx.fin0 rfl (.inr rfl) (fun w hs => ?_)
      exact ⟨Lx, ⟨hI, hcl hb0, hup⟩, rfl, hs⟩

end Go.Proofs.Ytmghnmfhniohkaa
