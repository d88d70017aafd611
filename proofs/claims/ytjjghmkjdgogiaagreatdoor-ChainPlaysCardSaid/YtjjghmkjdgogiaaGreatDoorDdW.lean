/- What follows: contracts of the calls. -/
import Derived.Test.YtjjghmkjdgogiaaGreatDoorDdD
import Derived.Test.YtjjghmkjdgogiaaGreatDoorSLK
import Derived.Test.YtjjghmkjdgogiaaGreatDoorSLA
namespace Go.Proofs.YtjjghmkjdgogiaaGreatDoor
open Go Go.SL Go.Dd Go.RowKit
set_option linter.unusedVariables false
set_option maxRecDepth 8000

/-- A store whose terms are well formed. -/
def storeW (s : Nat) (ts : List TermR) : HP := grp [pr (Wf ts ∧ ts.length ≤ 1048576), storeI s ts]
theorem storeW_mk {W0 w : World} {L : List HP} {s : Nat} {ts : List TermR} (h1 : Wf ts) (h2 : ts.length ≤ 1048576) (h : st W0 w (storeI s ts :: L)) : st W0 w (storeW s ts :: L) := st_grp.2 (st_pr.2 ⟨⟨h1, h2⟩, h⟩)
theorem storeW_of {W0 w : World} {L : List HP} {s : Nat} {ts : List TermR} (h : st W0 w (storeW s ts :: L)) : (Wf ts ∧ ts.length ≤ 1048576) ∧ st W0 w (storeI s ts :: L) := st_pr.1 (st_grp.1 h)
theorem Con.storeW {P : Program} {W0 : World} {f : FuncId} {args : Array Value} {s : Nat} {ts : List TermR} {pre : List HP} {X : Type} {φ : X → Prop} {val : X → Value} {post : X → List HP}
  (h : Wf ts → ts.length ≤ 1048576 → Con P W0 f args (storeI s ts :: pre) φ val post) : Con P W0 f args (storeW s ts :: pre) φ val post := fun w F hs => by
 obtain ⟨⟨h1, h2⟩, hs⟩ := storeW_of hs
 exact h h1 h2 w F hs
def refW (r : Nat) (ts : List TermR) : HP := grp [pr (Wf ts ∧ ts.length ≤ 1048576), refI r ts]
theorem refW_mk {W0 w : World} {L : List HP} {r : Nat} {ts : List TermR} (h1 : Wf ts) (h2 : ts.length ≤ 1048576) (h : st W0 w (refI r ts :: L)) : st W0 w (refW r ts :: L) := st_grp.2 (st_pr.2 ⟨⟨h1, h2⟩, h⟩)
theorem Con.refW {P : Program} {W0 : World} {f : FuncId} {args : Array Value} {r : Nat} {ts : List TermR} {pre : List HP} {X : Type} {φ : X → Prop} {val : X → Value} {post : X → List HP}
  (h : Wf ts → ts.length ≤ 1048576 → Con P W0 f args (refI r ts :: pre) φ val post) : Con P W0 f args (refW r ts :: pre) φ val post := fun w F hs => by
 obtain ⟨⟨h1, h2⟩, hs⟩ := st_pr.1 (st_grp.1 hs)
 exact h h1 h2 w F hs
theorem mk_le {ts : List TermR} {t : TermR} (h : ts.length ≤ 1048576) : (mk ts t).1.length ≤ 1048576 := by
 unfold mk; split
 · exact h
 split
 · exact h
 split
 · exact h
 · rw [List.length_append, List.length_singleton]; omega
theorem mk_okT {ts : List TermR} {t : TermR} (h : Wf ts) (ht : okT t) : Wf (mk ts t).1 := h.mk ht.1 ht.2.1
theorem make_w (W0 : World) (s : Nat) (ts ts' : List TermR) (t : TermR) (n : Nat) (m e : Int) (ht : okT t) (h : mk ts t = (ts', n, e)) (hm : ((n : Nat) : Int) = m) : Con Tryz.prog W0 18 #[.pointer (some ⟨s, 0, none⟩), Value.agg #[Value.int .u8 ((t.kind : Nat) : Int), Value.int .i64 t.n, Value.int .i64 t.a, Value.int .i64 t.b]] [storeW s ts] (X := Unit) (fun _ => True) (fun _ => .tuple #[.int .i64 m, .int .i64 e]) (fun _ => [storeW s ts']) := Con.storeW fun hw hl => by
 have h1 := mk_okT hw ht
 have h2 := mk_le (t := t) hl
 have := make_c W0 s ts t hw hl ht
 rw [h] at h1 h2 this
 subst hm
 exact this.mono fun _ _ => ⟨(), trivial, rfl, fun _ _ hs => storeW_mk h1 h2 hs⟩
theorem rmake_w (W0 : World) (s : Nat) (ts ts' : List TermR) (t : TermR) (n : Nat) (m e : Int) (ht : okT t) (h : mk ts t = (ts', n, e)) (hm : ((n : Nat) : Int) = m) : Con Tryz.prog W0 19 #[.pointer (some ⟨s, 0, none⟩), Value.agg #[Value.int .u8 ((t.kind : Nat) : Int), Value.int .i64 t.n, Value.int .i64 t.a, Value.int .i64 t.b]] [refW s ts] (X := Unit) (fun _ => True) (fun _ => .tuple #[.int .i64 m, .int .i64 e]) (fun _ => [refW s ts']) := Con.refW fun hw hl => by
 have h1 := mk_okT hw ht
 have h2 := mk_le (t := t) hl
 have := rmake_c W0 s ts t hw hl ht
 rw [h] at h1 h2 this
 subst hm
 exact this.mono fun _ _ => ⟨(), trivial, rfl, fun _ _ hs => refW_mk h1 h2 hs⟩
theorem get_w (W0 : World) (s : Nat) (ts : List TermR) (x : Int) (t : TermR) (h1 : 1 ≤ x) (hx : ts[(x - 1).toNat]? = some t) : Con Tryz.prog W0 29 #[.pointer (some ⟨s, 0, none⟩), .int .i64 x] [storeW s ts] (X := Unit) (fun _ => True) (fun _ => .tuple #[Value.agg #[Value.int .u8 ((t.kind : Nat) : Int), Value.int .i64 t.n, Value.int .i64 t.a, Value.int .i64 t.b], .bool true]) (fun _ => [storeW s ts]) := Con.storeW fun hw hl =>
 (get_c W0 s ts x hl t h1 hx).mono fun _ _ => ⟨(), trivial, rfl, fun _ _ hs => storeW_mk hw hl hs⟩
theorem get_no_w (W0 : World) (s : Nat) (ts : List TermR) (x : Int) (h : ¬ (1 ≤ x ∧ x ≤ (ts.length : Int))) : Con Tryz.prog W0 29 #[.pointer (some ⟨s, 0, none⟩), .int .i64 x] [storeW s ts] (X := Unit) (fun _ => True) (fun _ => .tuple #[.agg #[.int .u8 0, .int .i64 0, .int .i64 0, .int .i64 0], .bool false]) (fun _ => [storeW s ts]) := Con.storeW fun hw hl =>
 (get_no W0 s ts x hl h).mono fun _ _ => ⟨(), trivial, rfl, fun _ _ hs => storeW_mk hw hl hs⟩
theorem len_w (W0 : World) (s : Nat) (ts : List TermR) (m : Int) (h : ((ts.length : Nat) : Int) = m) : Con Tryz.prog W0 28 #[.pointer (some ⟨s, 0, none⟩)] [storeW s ts] (X := Unit) (fun _ => True) (fun _ => .int .i64 m) (fun _ => [storeW s ts]) := Con.storeW fun hw hl =>
 h ▸ (len_c W0 s ts).mono fun _ _ => ⟨(), trivial, rfl, fun _ _ hs => storeW_mk hw hl hs⟩
theorem tnew_w (W0 : World) : Con Tryz.prog W0 16 #[] [] (X := Nat) (fun _ => True) (fun s => .pointer (some ⟨s, 0, none⟩)) (fun s => [storeW s []]) :=
 (tnew_c W0).mono fun s _ => ⟨s, trivial, rfl, fun _ _ hs => storeW_mk Wf.nil (by decide) hs⟩
theorem rtnew_w (W0 : World) : Con Tryz.prog W0 17 #[] [] (X := Nat) (fun _ => True) (fun s => .pointer (some ⟨s, 0, none⟩)) (fun s => [refW s []]) :=
 (rtnew_c W0).mono fun s _ => ⟨s, trivial, rfl, fun _ _ hs => refW_mk Wf.nil (by decide) hs⟩
theorem made_w (W0 : World) (s : Nat) (ts : List TermR) : Con Tryz.prog W0 132 #[.pointer (some ⟨s, 0, none⟩)] [storeW s ts] (X := Unit) (fun _ => True) (fun _ => .bool true) (fun _ => [storeW s ts]) := Con.storeW fun hw hl => Con.store fun v mb w F hs =>
 (made_c W0 s v mb w _ hs).mono fun e w' h => by
  cases e with
  | returned v' => obtain ⟨_, _, e, h⟩ := h; exact ⟨(), trivial, e, storeW_mk hw hl (storeI_mk h)⟩
  | panicked c => exact h
  | outgrown => exact h
theorem there_w (W0 : World) (s : Nat) (ts : List TermR) (x : Int) (b : Bool) (h : decide (1 ≤ x ∧ x ≤ (ts.length : Int)) = b) : Con Tryz.prog W0 143 #[.pointer (some ⟨s, 0, none⟩), .int .i64 x] [storeW s ts] (X := Unit) (fun _ => True) (fun _ => .bool b) (fun _ => [storeW s ts]) := Con.storeW fun hw hl => Con.store fun v mb w F hs => by
 subst h
 have hs := st_pull [0, 0] hs
 have key : ∀ b : Bool, Con Tryz.prog W0 143 #[.pointer (some ⟨s, 0, none⟩), .int .i64 x] [pt s 116 [v, .map (some mb)], sl 89 4 v ts.length (ts.flatMap termCells)] (X := Unit) (fun _ => True) (fun _ => .bool b) (fun _ => [pt s 116 [v, .map (some mb)], sl 89 4 v ts.length (ts.flatMap termCells)]) → Calls Tryz.prog 143 #[.pointer (some ⟨s, 0, none⟩), .int .i64 x] w (Ret fun u w' => ∃ y : Unit, True ∧ u = .bool b ∧ st W0 w' ([storeW s ts] ++ F)) := fun b hc =>
  (hc w (mp mb (ents ts) :: F) hs).mono fun e w' h => by
   cases e with
   | returned v' => obtain ⟨_, _, e, h⟩ := h; exact ⟨(), trivial, e, storeW_mk hw hl (storeI_mk h)⟩
   | panicked c => exact h
   | outgrown => exact h
 by_cases hx : 1 ≤ x ∧ x ≤ (ts.length : Int)
 · rw [decide_eq_true hx]; exact key true (there_yes W0 s v mb ts.length _ x hx)
 · rw [decide_eq_false hx]; exact key false (there_no W0 s v mb ts.length _ x hx)

end Go.Proofs.YtjjghmkjdgogiaaGreatDoor
