/- Loops walked round by round, for the small separation logic. -/
import Derived.Test.YtnhejdnigblnoaaSLM
import Derived.LoopN
namespace Go.SL
open Go Go.RowKit
section
variable (P : Program) (W0 : World) (Q : Exit → Act → World → Prop) (n : Nat) (D : List Deferred)
/-- So many rounds of c at most are still to come. -/
def Wn (k : Nat) (c : Code) (E : Nat → Value) (L : List HP) : Prop := ∀ a w, Is n D E a → st W0 w L → Code.rounds P c Q k a w
end
section
variable {P : Program} {W0 : World} {Q : Exit → Act → World → Prop} {n : Nat} {D : List Deferred} {E : Nat → Value} {L : List HP} {c : Code}
theorem Wc.rounds (k : Nat) (h : Wn P W0 Q n D k c E L) : Wc P W0 Q n D (.loop c) E L := fun a w ha hs => wp_loop_rounds k (h a w ha hs)
theorem Wn.round {k : Nat} (h : Wc P W0 (Exit.then (Code.rounds P c Q k) Q) n D c E L) : Wn P W0 Q n D (k + 1) c E L := fun a w ha hs => h a w ha hs
theorem Wx.again {k : Nat} (h : Wn P W0 Q n D k c E L) : Wx (Exit.then (Code.rounds P c Q k) Q) n D .normal E L (W0 := W0) := fun a w ha hs => h a w ha hs
end
section
variable {P : Program} {W0 w : World} {E : Nat → Value} {L : List HP} {ty : TypeId} {x y z : Operand} {v : Value}
theorem Wx.imp {Q : Exit → Act → World → Prop} {n : Nat} {D : List Deferred} {e : Exit} {L' : List HP} (hL : ∀ w, st W0 w L → st W0 w L') (k : Wx Q n D e E L' (W0 := W0)) : Wx Q n D e E L (W0 := W0) := fun a w ha hs => k a w ha (hL w hs)
/-- '&a[i]' of an array's address. -/
theorem q_idx_arr {t e n k b off m : Nat} {ik : IntKind} {i : Int} (hu : P.underlying t = some (.array n e)) (hs : sizeIs P e = some k) (hx : evE E x = .pointer (some ⟨b, off, none⟩)) (hy : evE E y = .int ik i)
  (h0 : 0 ≤ i) (h1 : i < n) (hm : off + i.toNat * k = m) : Quiet P W0 E L (.indexAddr t x y) ty (.pointer (some ⟨b, m, none⟩)) := fun w d pos aft g _ => by
 subst hm
 simp [execOp, Instr.indexAt, Instr.sureAddr, asIntOf, hx, hy, run_underlying hu, h0, h1, sizeOf_run hs, add_mk]
end
end Go.SL
