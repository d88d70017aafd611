/- What follows: contracts of the calls. -/
import Derived.Test.YtjjghmkjdgogiaaGreatDoorDdCi
import Derived.Test.YtjjghmkjdgogiaaGreatDoorChQ
namespace Go.Proofs.YtjjghmkjdgogiaaGreatDoor
open Go Go.SL Go.Dd Go.RowKit
set_option linter.unusedVariables false
set_option maxRecDepth 8000

theorem take_w (W0 : World) (c mb s : Nat) {app sd : Int} {b cn : Nat} (S : ChS) (I : ChI app sd b cn S) (hb : b + 2 * cn + 300 ≤ 1048576) (m : Int) (hm : i64R m) :
  Con Tryz.prog W0 7 #[Value.pointer (some ⟨c, 0, none⟩), .int .i64 m] [pt c 39 [Value.pointer (some ⟨s, 0, none⟩), Value.int .i64 ((S.z : Nat) : Int), Value.int .i64 ((S.nx : Nat) : Int), Value.map (some mb)], mp mb (leftV S.left), storeW s S.ts] (X := Unit) (fun _ => True) (fun _ => .tuple #[.int .i64 (((takeR S m).2.1 : Nat) : Int), .int .i64 (((takeR S m).2.2 : Nat) : Int)]) (fun _ => [pt c 39 [Value.pointer (some ⟨s, 0, none⟩), Value.int .i64 (((takeR S m).1.z : Nat) : Int), Value.int .i64 (((takeR S m).1.nx : Nat) : Int), Value.map (some mb)], mp mb (leftV ((takeR S m).1.left)), storeW s ((takeR S m).1.ts)]) := by
 have hll := I.ll
 have hnx := I.nxc
 have hlen := I.len
 have hp := I.ok.pos
 unfold i64R at hm
 by_cases hneg : m < 0
 · rw [takeR_neg hneg]; exact take_neg W0 c mb s S m hneg
 obtain ⟨m, rfl⟩ : ∃ n : Nat, m = (n : Int) := ⟨m.toNat, by omega⟩
 cases hf : findN S.left m with
 | some j =>
  obtain ⟨k, hj⟩ := findN_some hf
  rw [takeR_found hf hj]; exact take_found W0 c mb s S I.ok (by omega) m (by omega) j k hj
 | none =>
  have hno := findN_none hf
  by_cases hst : m < S.nx
  · rw [takeR_stale hf hst]; exact take_stale W0 c mb s S I.ok (by omega) m (by omega) hno hst
  by_cases hlim : 64 < m - S.nx + S.left.length
  · rw [takeR_limit hf hst hlim]; exact take_limit W0 c mb s S I.ok (by omega) m (by omega) hno (by omega) (by omega) hlim
  · rw [takeR_go hf hst hlim]; exact take_go W0 c mb s S I.ok (by omega) m (by omega) hno (by omega) (by omega) (by omega) (by omega)
theorem new_s (W0 : World) (s : Nat) (ts : List TermR) (app x : Int) (hw : Wf ts) (ha : 1 ≤ app ∧ app ≤ (ts.length : Int)) (hx : i64R x) (hl : ts.length + 2 ≤ 1048576) :
  Con Tryz.prog W0 5 #[Value.pointer (some ⟨s, 0, none⟩), .int .i64 app, .int .i64 x] [storeW s ts] (X := Nat × Nat) (fun _ => True) (fun y => .tuple #[.pointer (some ⟨y.1, 0, none⟩), .int .i64 0])
   (fun y => [pt y.1 39 [.pointer (some ⟨s, 0, none⟩), .int .i64 (((startS ts app x).z : Nat) : Int), .int .i64 (((startS ts app x).nx : Nat) : Int), .map (some y.2)], mp y.2 (leftV (startS ts app x).left), storeW s (startS ts app x).ts]) := new_w W0 s ts app x hw ha hx hl

end Go.Proofs.YtjjghmkjdgogiaaGreatDoor
