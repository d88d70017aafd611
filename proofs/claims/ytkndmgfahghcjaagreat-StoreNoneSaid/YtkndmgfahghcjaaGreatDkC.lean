import Derived.Test.YtkndmgfahghcjaaGreatDkM
import Derived.Test.YtkndmgfahghcjaaGreatProg
/- Contracts of the calls. -/
namespace Go.Proofs.YtkndmgfahghcjaaGreat
open Go Go.SL Go.Dk Go.RowKit
set_option linter.unusedVariables false
set_option maxRecDepth 8000
/-- A disk in memory. -/
def mayR (p : Nat) (mv : Value) : Option (Nat × Int) → HP
 | none => pr (mv = .func (.func 47) #[.pointer (some ⟨p, 0, none⟩)] #[])
 | some (n, bits) => ex fun c => grp [pr (mv = .func (.func 57) #[.pointer (some ⟨c, 0, none⟩)] #[]), pt c 93 [.pointer (some ⟨p, 0, none⟩), .int .i64 (n : Int), .int .i64 bits]]
def isDisk (p : Nat) (d : DS) : HP := ex fun bs => ex fun sv => ex fun mv => grp [
 pt p 82 [.slice (some ⟨bs, 0, none⟩) d.secs.length d.secs.length, sv, .bool d.down, .int .i64 (d.count : Int), mv],
 pt bs 9 (d.secs.map Value.string), sl 122 2 sv d.since.length (flat d.since), mayR p mv d.cut]
theorem isDisk_mk {W0 w : World} {L : List HP} {p bs n : Nat} {sv mv : Value} {d : DS} (hn : n = d.secs.length)
  (h : st W0 w (pt p 82 [.slice (some ⟨bs, 0, none⟩) n n, sv, .bool d.down, .int .i64 (d.count : Int), mv] :: pt bs 9 (d.secs.map Value.string) :: sl 122 2 sv d.since.length (flat d.since) :: mayR p mv d.cut :: L)) :
  st W0 w (isDisk p d :: L) := by
 subst hn
 exact st_ex.2 ⟨bs, st_ex.2 ⟨sv, st_ex.2 ⟨mv, st_grp.2 h⟩⟩⟩
theorem isDisk_open {W0 w : World} {L : List HP} {p : Nat} {d : DS} (h : st W0 w (isDisk p d :: L)) : ∃ bs sv mv,
  st W0 w (pt p 82 [.slice (some ⟨bs, 0, none⟩) d.secs.length d.secs.length, sv, .bool d.down, .int .i64 (d.count : Int), mv] :: pt bs 9 (d.secs.map Value.string) :: sl 122 2 sv d.since.length (flat d.since) :: mayR p mv d.cut :: L) := by
 obtain ⟨bs, h⟩ := st_ex.1 h
 obtain ⟨sv, h⟩ := st_ex.1 h
 obtain ⟨mv, h⟩ := st_ex.1 h
 exact ⟨bs, sv, mv, st_grp.1 h⟩
theorem mayR_none {W0 w : World} {L : List HP} {p : Nat} (h : st W0 w L) : st W0 w (mayR p (.func (.func 47) #[.pointer (some ⟨p, 0, none⟩)] #[]) none :: L) := st_pr.2 ⟨rfl, h⟩
theorem mayR_some {W0 w : World} {L : List HP} {p c n : Nat} {bits : Int} (h : st W0 w (pt c 93 [.pointer (some ⟨p, 0, none⟩), .int .i64 (n : Int), .int .i64 bits] :: L)) :
  st W0 w (mayR p (.func (.func 57) #[.pointer (some ⟨c, 0, none⟩)] #[]) (some (n, bits)) :: L) := st_ex.2 ⟨c, st_grp.2 (st_pr.2 ⟨rfl, h⟩)⟩
theorem flat_has {W0 : World} {L : List HP} {b i e sz cap k : Nat} {l : List (Nat × ByteArray)} {q : Nat × ByteArray} (hi : L[i]? = some (slp e sz b cap (flat l))) (hk : l[k]? = some q) :
  ∀ j u, [Value.int .i64 (q.1 : Int), .string q.2][j]? = some u → Has W0 L b (k * 2 + j) u := fun j u hj => by
 obtain ⟨h1, h2⟩ := flat_get hk
 refine .row hi ?_
 match j with
 | 0 => simp at hj; rw [← hj]; exact h1
 | 1 => simp at hj; rw [← hj]; exact h2
 | j + 2 => simp at hj
theorem and3 (b : Int) : IntKind.i64.wrap ((BitVec.ofInt IntKind.i64.bits b &&& BitVec.ofInt IntKind.i64.bits 3).toNat) = b % 4 := by
 have h : (BitVec.ofInt 64 b &&& BitVec.ofInt 64 3).toNat = (b % 4).toNat := by
  rw [BitVec.toNat_and]
  have h3 : (BitVec.ofInt 64 3).toNat = 2 ^ 2 - 1 := by decide
  rw [h3, Nat.and_two_pow_sub_one_eq_mod]
  simp only [BitVec.toNat_ofInt]
  omega
 show IntKind.i64.wrap ((BitVec.ofInt 64 b &&& BitVec.ofInt 64 3).toNat) = b % 4
 rw [h, wrap_i64] <;> omega
theorem shr2 (b : Int) : b.fdiv (2 ^ min (Int.toNat 2) IntKind.i64.bits) = b / 4 := by
 show b.fdiv 4 = b / 4
 rw [Int.fdiv_eq_ediv_of_nonneg _ (by omega)]
theorem torn_idx (old s : ByteArray) (b : Int) :
  (#[Value.string old, .string s, .string (s.extract 0 32 ++ old.extract 32 old.size), .string (old.extract 0 32 ++ s.extract 32 s.size)] : Array Value)[(b % 4).toNat]? = some (.string (torn old s (b % 4))) := by
 have h : b % 4 = 0 ∨ b % 4 = 1 ∨ b % 4 = 2 ∨ b % 4 = 3 := by omega
 rcases h with h | h | h | h <;> rw [h] <;> rfl
theorem cat_bound {s u : ByteArray} {a b c d : Nat} (h1 : s.size = 64) (h2 : u.size = 64) : (s.extract a b).size + (u.extract c d).size ≤ 9223372036854775807 := by
 simp [ByteArray.size_extract]; omega
theorem disk_parts {W0 w : World} {L : List HP} {p : Nat} {mv : Value} {c : Option (Nat × Int)} (h : st W0 w (mayR p mv c :: L)) : ∃ fn us vs, mv = .func fn us vs := by
 cases c with
 | none => exact ⟨_, _, _, (st_pr.1 h).1⟩
 | some q => obtain ⟨c, h⟩ := st_ex.1 h; exact ⟨_, _, _, (st_pr.1 (st_grp.1 h)).1⟩
theorem Con.disk {P : Program} {W0 : World} {f : FuncId} {args : Array Value} {p : Nat} {d : DS} {pre : List HP} {X : Type} {φ : X → Prop} {val : X → Value} {post : X → List HP}
  (h : ∀ bs sv fn us vs, Con P W0 f args (pt p 82 [.slice (some ⟨bs, 0, none⟩) d.secs.length d.secs.length, sv, .bool d.down, .int .i64 (d.count : Int), .func fn us vs] :: pt bs 9 (d.secs.map Value.string) :: sl 122 2 sv d.since.length (flat d.since) :: mayR p (.func fn us vs) d.cut :: pre) φ val post) :
  Con P W0 f args (isDisk p d :: pre) φ val post := fun w F hs => by
 obtain ⟨bs, sv, mv, hs⟩ := isDisk_open hs
 obtain ⟨fn, us, vs, rfl⟩ := disk_parts (st_drop (st_drop (st_drop hs)))
 exact h bs sv fn us vs w F hs
theorem Con.alw {P : Program} {W0 : World} {f : FuncId} {args : Array Value} {p : Nat} {d : DS} {pre : List HP} {X : Type} {φ : X → Prop} {val : X → Value} {post : X → List HP} (hc : d.cut = none)
  (h : ∀ bs sv, Con P W0 f args (pt p 82 [.slice (some ⟨bs, 0, none⟩) d.secs.length d.secs.length, sv, .bool d.down, .int .i64 (d.count : Int), .func (.func 47) #[.pointer (some ⟨p, 0, none⟩)] #[]] :: pt bs 9 (d.secs.map Value.string) :: sl 122 2 sv d.since.length (flat d.since) :: pre) φ val post) :
  Con P W0 f args (isDisk p d :: pre) φ val post := fun w F hs => by
 obtain ⟨bs, sv, mv, hs⟩ := isDisk_open hs
 rw [hc] at hs
 have h3 := st_pull [3] hs
 obtain ⟨rfl, h4⟩ := st_pr.1 h3
 exact h bs sv w F h4
theorem Con.cutd {P : Program} {W0 : World} {f : FuncId} {args : Array Value} {p n : Nat} {bits : Int} {d : DS} {pre : List HP} {X : Type} {φ : X → Prop} {val : X → Value} {post : X → List HP} (hc : d.cut = some (n, bits))
  (h : ∀ bs sv c, Con P W0 f args (pt p 82 [.slice (some ⟨bs, 0, none⟩) d.secs.length d.secs.length, sv, .bool d.down, .int .i64 (d.count : Int), .func (.func 57) #[.pointer (some ⟨c, 0, none⟩)] #[]] :: pt bs 9 (d.secs.map Value.string) :: sl 122 2 sv d.since.length (flat d.since) :: pt c 93 [.pointer (some ⟨p, 0, none⟩), .int .i64 (n : Int), .int .i64 bits] :: pre) φ val post) :
  Con P W0 f args (isDisk p d :: pre) φ val post := fun w F hs => by
 obtain ⟨bs, sv, mv, hs⟩ := isDisk_open hs
 rw [hc] at hs
 have h3 := st_pull [3] hs
 obtain ⟨c, h3⟩ := st_ex.1 h3
 obtain ⟨rfl, h4⟩ := st_pr.1 (st_grp.1 h3)
 exact h bs sv c w F (st_pull [1, 1, 1, 0] h4)
theorem fo_82_4 : fieldOff Tryz.prog 82 4 = some 4 := by kernel_rfl
theorem sc_31 : scalar Tryz.prog 31 = true := by kernel_rfl
theorem fo_82_2 : fieldOff Tryz.prog 82 2 = some 2 := by kernel_rfl
theorem sc_4 : scalar Tryz.prog 4 = true := by kernel_rfl
theorem fo_82_1 : fieldOff Tryz.prog 82 1 = some 1 := by kernel_rfl
theorem sc_80 : scalar Tryz.prog 80 = true := by kernel_rfl
theorem se_80 : sliceElem Tryz.prog 80 = some (122, 2) := by kernel_rfl
theorem ag_122 : aggSize Tryz.prog 122 = some 2 := by kernel_rfl
theorem zo_122 : zeroOf Tryz.prog 122 = some (Value.agg #[Value.int .i64 0, Value.string (⟨#[]⟩)]) := by kernel_rfl
theorem sz_122 : sizeIs Tryz.prog 122 = some 2 := by kernel_rfl
theorem fo_82_0 : fieldOff Tryz.prog 82 0 = some 0 := by kernel_rfl
theorem sc_50 : scalar Tryz.prog 50 = true := by kernel_rfl
theorem fo_122_0 : fieldOff Tryz.prog 122 0 = some 0 := by kernel_rfl
theorem sc_3 : scalar Tryz.prog 3 = true := by kernel_rfl
theorem se_50 : sliceElem Tryz.prog 50 = some (9, 1) := by kernel_rfl
theorem sc_9 : scalar Tryz.prog 9 = true := by kernel_rfl
theorem fo_122_1 : fieldOff Tryz.prog 122 1 = some 1 := by kernel_rfl
theorem zo_123 : zeroOf Tryz.prog 123 = some (Value.agg #[Value.string (⟨#[]⟩), Value.string (⟨#[]⟩), Value.string (⟨#[]⟩), Value.string (⟨#[]⟩)]) := by kernel_rfl
theorem sz_9 : sizeIs Tryz.prog 9 = some 1 := by kernel_rfl
theorem sz_80 : sizeIs Tryz.prog 80 = some 1 := by kernel_rfl
theorem sz_4 : sizeIs Tryz.prog 4 = some 1 := by kernel_rfl
theorem sz_31 : sizeIs Tryz.prog 31 = some 1 := by kernel_rfl
theorem fo_93_1 : fieldOff Tryz.prog 93 1 = some 1 := by kernel_rfl
theorem sz_3 : sizeIs Tryz.prog 3 = some 1 := by kernel_rfl
theorem fo_93_0 : fieldOff Tryz.prog 93 0 = some 0 := by kernel_rfl
theorem sc_33 : scalar Tryz.prog 33 = true := by kernel_rfl
theorem fo_93_2 : fieldOff Tryz.prog 93 2 = some 2 := by kernel_rfl
theorem sc_2 : scalar Tryz.prog 2 = true := by kernel_rfl
theorem fo_82_3 : fieldOff Tryz.prog 82 3 = some 3 := by kernel_rfl
theorem there_yes (W0 : World) (p : Nat) (a b c d : Value) (fn : Fn) (us vs : Array Value) :
  Con Tryz.prog W0 58 #[Value.pointer (some ⟨p, 0, none⟩)] [pt p 82 [a, b, c, d, .func fn us vs]] (X := Unit) (fun _ => True) (fun _ => .bool true) (fun _ => [pt p 82 [a, b, c, d, .func fn us vs]]) := by
 refine Con.of (args := [Value.pointer (some ⟨p, 0, none⟩)]) Tryz.func58 rfl Tryz.ntmps58 rfl (fun F => ?_)
 show Wc _ W0 _ _ _ _ _ ((pt p 82 [a, b, c, d, .func fn us vs]) :: F)
 refine Wc.seq ?_
 refine Wc.region ?_
 refine Wl.q (v := Value.bool false) (q_assign rfl) ?_
 refine Wl.done ?_
 refine Wx.go ?_
 refine Wc.seq ?_
 refine Wc.region ?_
 refine Wl.q (v := Value.pointer (some ⟨p, 0, none⟩)) (q_move rfl) ?_
 refine Wl.q (v := Value.bool true) (q_neq_nil (r := false) rfl rfl Tryz.underlying33 rfl) ?_
 refine Wl.q (v := Value.bool true) (q_move rfl) ?_
 refine Wl.q (v := Value.pointer (some ⟨p, 0, none⟩)) (q_move rfl) ?_
 refine Wl.q (v := Value.pointer (some ⟨p, 0, none⟩)) (q_nil_ptr rfl) ?_
 refine Wl.q (v := Value.pointer (some ⟨p, 4, none⟩)) (q_field (m := 4) fo_82_4 rfl rfl) ?_
 refine Wl.q (v := .func fn us vs) (q_load sc_31 rfl (.cel (i := 0) rfl rfl)) ?_
 refine Wl.q (v := Value.bool true) (q_neq_func rfl rfl Tryz.underlying31 rfl) ?_
 refine Wl.q (v := Value.bool true) (q_pick (t := true) rfl rfl) ?_
 refine Wl.q (v := Value.bool true) (q_assign rfl) ?_
 refine Wl.done ?_
 refine Wx.go ?_
 refine Wc.ret ?_
 refine Wx.fin1 rfl (.inl rfl) (fun w hs => ?_)
 exact ⟨(), trivial, rfl, hs⟩

theorem there_nil (W0 : World)  :
  Con Tryz.prog W0 58 #[Value.pointer none] [] (X := Unit) (fun _ => True) (fun _ => .bool false) (fun _ => []) := by
 refine Con.of (args := [Value.pointer none]) Tryz.func58 rfl Tryz.ntmps58 rfl (fun F => ?_)
 show Wc _ W0 _ _ _ _ _ (F)
 refine Wc.seq ?_
 refine Wc.region ?_
 refine Wl.q (v := Value.bool false) (q_assign rfl) ?_
 refine Wl.done ?_
 refine Wx.go ?_
 refine Wc.seq ?_
 refine Wc.region ?_
 refine Wl.q (v := Value.pointer none) (q_move rfl) ?_
 refine Wl.q (v := Value.bool false) (q_neq_nil (r := true) rfl rfl Tryz.underlying33 rfl) ?_
 refine Wl.q (v := Value.bool false) (q_move rfl) ?_
 refine Wl.no ?_
 refine Wl.no ?_
 refine Wl.no ?_
 refine Wl.no ?_
 refine Wl.no ?_
 refine Wl.q (v := Value.bool false) (q_pick (t := false) rfl rfl) ?_
 refine Wl.q (v := Value.bool false) (q_assign rfl) ?_
 refine Wl.done ?_
 refine Wx.go ?_
 refine Wc.ret ?_
 refine Wx.fin1 rfl (.inl rfl) (fun w hs => ?_)
 exact ⟨(), trivial, rfl, hs⟩

theorem state_up (W0 : World) (p : Nat) (a b d : Value) (fn : Fn) (us vs : Array Value) :
  Con Tryz.prog W0 56 #[Value.pointer (some ⟨p, 0, none⟩)] [pt p 82 [a, b, Value.bool false, d, .func fn us vs]] (X := Unit) (fun _ => True) (fun _ => .int .i64 0) (fun _ => [pt p 82 [a, b, Value.bool false, d, .func fn us vs]]) := by
 refine Con.of (args := [Value.pointer (some ⟨p, 0, none⟩)]) Tryz.func56 rfl Tryz.ntmps56 rfl (fun F => ?_)
 show Wc _ W0 _ _ _ _ _ ((pt p 82 [a, b, Value.bool false, d, .func fn us vs]) :: F)
 refine Wc.seq ?_
 refine Wc.region ?_
 refine Wl.q (v := Value.int .i64 0) (q_assign rfl) ?_
 refine Wl.done ?_
 refine Wx.go ?_
 refine Wc.seq ?_
 refine Wc.block ?_
 refine Wc.seq ?_
 refine Wc.region ?_
 refine Wl.q (v := Value.pointer (some ⟨p, 0, none⟩)) (q_move rfl) ?_
 refine Wl.e (e_call (F := F) (args := [Value.pointer (some ⟨p, 0, none⟩)]) Tryz.call58 rfl (there_yes W0 p (a) (b) (Value.bool false) (d) fn us vs)) (fun _ _ => ?_)
 refine Wl.imp (L' := (pt p 82 [a, b, Value.bool false, d, .func fn us vs]) :: F) (fun _ h => h) ?_
 refine Wl.q (v := Value.bool false) (q_not rfl rfl) ?_
 refine Wl.q (v := Value.bool false) (q_assign rfl) ?_
 refine Wl.done ?_
 refine Wx.go ?_
 refine Wc.no rfl ?_
 refine Wc.seq ?_
 refine Wc.region ?_
 refine Wl.q (v := Value.pointer (some ⟨p, 0, none⟩)) (q_move rfl) ?_
 refine Wl.q (v := Value.pointer (some ⟨p, 0, none⟩)) (q_nil_ptr rfl) ?_
 refine Wl.q (v := Value.pointer (some ⟨p, 2, none⟩)) (q_field (m := 2) fo_82_2 rfl rfl) ?_
 refine Wl.q (v := Value.bool false) (q_load sc_4 rfl (.cel (i := 0) rfl rfl)) ?_
 refine Wl.q (v := Value.bool false) (q_assign rfl) ?_
 refine Wl.done ?_
 refine Wx.go ?_
 refine Wc.no rfl ?_
 refine Wc.skip ?_
 refine Wx.blockEnd ?_
 refine Wx.go ?_
 refine Wc.seq ?_
 refine Wc.region ?_
 refine Wl.q (v := Value.int .i64 0) (q_assign rfl) ?_
 refine Wl.done ?_
 refine Wx.go ?_
 refine Wc.ret ?_
 refine Wx.fin1 rfl (.inl rfl) (fun w hs => ?_)
 exact ⟨(), trivial, rfl, hs⟩

theorem state_down (W0 : World) (p : Nat) (a b d : Value) (fn : Fn) (us vs : Array Value) :
  Con Tryz.prog W0 56 #[Value.pointer (some ⟨p, 0, none⟩)] [pt p 82 [a, b, Value.bool true, d, .func fn us vs]] (X := Unit) (fun _ => True) (fun _ => .int .i64 6) (fun _ => [pt p 82 [a, b, Value.bool true, d, .func fn us vs]]) := by
 refine Con.of (args := [Value.pointer (some ⟨p, 0, none⟩)]) Tryz.func56 rfl Tryz.ntmps56 rfl (fun F => ?_)
 show Wc _ W0 _ _ _ _ _ ((pt p 82 [a, b, Value.bool true, d, .func fn us vs]) :: F)
 refine Wc.seq ?_
 refine Wc.region ?_
 refine Wl.q (v := Value.int .i64 0) (q_assign rfl) ?_
 refine Wl.done ?_
 refine Wx.go ?_
 refine Wc.seq ?_
 refine Wc.block ?_
 refine Wc.seq ?_
 refine Wc.region ?_
 refine Wl.q (v := Value.pointer (some ⟨p, 0, none⟩)) (q_move rfl) ?_
 refine Wl.e (e_call (F := F) (args := [Value.pointer (some ⟨p, 0, none⟩)]) Tryz.call58 rfl (there_yes W0 p (a) (b) (Value.bool true) (d) fn us vs)) (fun _ _ => ?_)
 refine Wl.imp (L' := (pt p 82 [a, b, Value.bool true, d, .func fn us vs]) :: F) (fun _ h => h) ?_
 refine Wl.q (v := Value.bool false) (q_not rfl rfl) ?_
 refine Wl.q (v := Value.bool false) (q_assign rfl) ?_
 refine Wl.done ?_
 refine Wx.go ?_
 refine Wc.no rfl ?_
 refine Wc.seq ?_
 refine Wc.region ?_
 refine Wl.q (v := Value.pointer (some ⟨p, 0, none⟩)) (q_move rfl) ?_
 refine Wl.q (v := Value.pointer (some ⟨p, 0, none⟩)) (q_nil_ptr rfl) ?_
 refine Wl.q (v := Value.pointer (some ⟨p, 2, none⟩)) (q_field (m := 2) fo_82_2 rfl rfl) ?_
 refine Wl.q (v := Value.bool true) (q_load sc_4 rfl (.cel (i := 0) rfl rfl)) ?_
 refine Wl.q (v := Value.bool true) (q_assign rfl) ?_
 refine Wl.done ?_
 refine Wx.go ?_
 refine Wc.yes rfl ?_
 refine Wc.seq ?_
 refine Wc.region ?_
 refine Wl.q (v := Value.int .i64 6) (q_assign rfl) ?_
 refine Wl.done ?_
 refine Wx.go ?_
 refine Wc.ret ?_
 refine Wx.blockRet ?_
 refine Wx.thenRet ?_
 refine Wx.fin1 rfl (.inl rfl) (fun w hs => ?_)
 exact ⟨(), trivial, rfl, hs⟩

theorem always_c (W0 : World) (v : Value) :
  Con Tryz.prog W0 47 #[v] [] (X := Unit) (fun _ => True) (fun _ => .bool true) (fun _ => []) := by
 refine Con.of (args := [v]) Tryz.func47 rfl Tryz.ntmps47 rfl (fun F => ?_)
 show Wc _ W0 _ _ _ _ _ (F)
 refine Wc.seq ?_
 refine Wc.region ?_
 refine Wl.q (v := Value.bool false) (q_assign rfl) ?_
 refine Wl.done ?_
 refine Wx.go ?_
 refine Wc.seq ?_
 refine Wc.region ?_
 refine Wl.q (v := Value.bool true) (q_assign rfl) ?_
 refine Wl.done ?_
 refine Wx.go ?_
 refine Wc.ret ?_
 refine Wx.fin1 rfl (.inl rfl) (fun w hs => ?_)
 exact ⟨(), trivial, rfl, hs⟩

set_option maxRecDepth 4000 in
theorem fall_blk (W0 : World) (p bs : Nat) (secs : List ByteArray) (since : List (Nat × ByteArray)) (down : Bool) (count : Nat) (mv : Value) (bits : Int) (hw : WFl secs since) (b cap : Nat) (hcap : since.length ≤ cap) :
    Con Tryz.prog W0 59 #[Value.pointer (some ⟨p, 0, none⟩), Value.int .i64 bits] [slp 122 2 b cap (flat since), pt p 82 [Value.slice (some ⟨bs, 0, none⟩) secs.length secs.length, Value.slice (some ⟨b, 0, none⟩) since.length cap, Value.bool down, Value.int .i64 ((count : Nat) : Int), mv], pt bs 9 (secs.map Value.string)] (X := Unit) (fun _ => True) (fun _ => .tuple #[]) (fun _ => [pt p 82 ([Value.slice (some ⟨bs, 0, none⟩) secs.length secs.length, Value.slice none 0 0, Value.bool true, Value.int .i64 ((count : Nat) : Int), Value.func (.func 47) #[Value.pointer (some ⟨p, 0, none⟩)] #[]]), pt bs 9 ((fallL secs (since.take 31) bits).map Value.string)]) := by
  refine Con.of (args := [Value.pointer (some ⟨p, 0, none⟩), Value.int .i64 bits]) Tryz.func59 rfl Tryz.ntmps59 rfl (fun F => ?_)
  show Wc _ W0 _ _ _ _ _ ((slp 122 2 b cap (flat since)) :: (pt p 82 [Value.slice (some ⟨bs, 0, none⟩) secs.length secs.length, Value.slice (some ⟨b, 0, none⟩) since.length cap, Value.bool down, Value.int .i64 ((count : Nat) : Int), mv]) :: (pt bs 9 (secs.map Value.string)) :: F)
  refine Wc.seq ?_
  refine Wc.seq ?_
  refine Wc.drawsS [] ((slp 122 2 b cap (flat since)) :: (pt p 82 [Value.slice (some ⟨bs, 0, none⟩) secs.length secs.length, Value.slice (some ⟨b, 0, none⟩) since.length cap, Value.bool down, Value.int .i64 ((count : Nat) : Int), mv]) :: (pt bs 9 (secs.map Value.string)) :: []) (by kernel_rfl) ?_
  refine Wr.pure (v := Value.pointer (some ⟨p, 0, none⟩)) 0 rfl (by kernel_rfl) (.inr (fun _ h => st_take [0, 0, 0] h)) (.inl ⟨rfl, fun _ => q_move rfl⟩) ?_
  refine Wr.pure (v := Value.pointer (some ⟨p, 0, none⟩)) 1 rfl (by kernel_rfl) (.inr (fun _ h => st_take [0, 0, 0] h)) (.inl ⟨rfl, fun _ => q_nil_ptr rfl⟩) ?_
  refine Wr.pure (v := Value.pointer (some ⟨p, 1, none⟩)) 2 rfl (by kernel_rfl) (.inr (fun _ h => st_take [0, 0, 0] h)) (.inl ⟨rfl, fun _ => q_field (m := 1) fo_82_1 rfl rfl⟩) ?_
  refine Wr.take (v := Value.slice (some ⟨b, 0, none⟩) since.length cap) 3 rfl (by kernel_rfl) (fun _ h => st_take [0, 0, 0] h) (.inl ⟨rfl, q_load sc_80 rfl (.cel (i := 1) rfl rfl)⟩) ?_
  refine Wr.pure (v := Value.pointer (some ⟨p, 0, none⟩)) 4 rfl (by kernel_rfl) (.inr (fun _ h => st_take [0, 0, 0] h)) (.inl ⟨rfl, fun _ => q_move rfl⟩) ?_
  refine Wr.pure (v := Value.pointer (some ⟨p, 0, none⟩)) 5 rfl (by kernel_rfl) (.inr (fun _ h => st_take [0, 0, 0] h)) (.inl ⟨rfl, fun _ => q_nil_ptr rfl⟩) ?_
  refine Wr.pure (v := Value.pointer (some ⟨p, 1, none⟩)) 6 rfl (by kernel_rfl) (.inr (fun _ h => st_take [0, 0, 0] h)) (.inl ⟨rfl, fun _ => q_field (m := 1) fo_82_1 rfl rfl⟩) ?_
  refine Wr.take (v := Value.slice (some ⟨b, 0, none⟩) since.length cap) 7 rfl (by kernel_rfl) (fun _ h => st_take [0, 0, 0] h) (.inl ⟨rfl, q_load sc_80 rfl (.cel (i := 1) rfl rfl)⟩) ?_
  refine Wr.take (v := Value.int .i64 ((since.length : Nat) : Int)) 8 rfl (by kernel_rfl) (fun _ h => st_take [0, 0, 0] h) (.inl ⟨rfl, q_len_slice Tryz.underlying80 rfl⟩) ?_
  refine Wr.take (v := Value.int .i64 (((min since.length 31) : Nat) : Int)) 9 rfl (by kernel_rfl) (fun _ h => st_take [0, 0, 0] h) (.inl ⟨rfl, q_min (c := (((min since.length 31) : Nat) : Int)) rfl rfl (by omega)⟩) ?_
  refine Wr.pure (v := Value.slice (some ⟨b, 0, none⟩) (min since.length 31) cap) 10 rfl (by kernel_rfl) (.inr (fun _ h => st_take [0, 0, 0] h)) (.inl ⟨rfl, fun _ => q_slice_low (h := (min since.length 31)) se_80 rfl rfl ⟨_, rfl⟩ (by omega) (by omega)⟩) ?_
  refine Wr.take (v := Value.int .i64 (((min since.length 31) : Nat) : Int)) 11 rfl (by kernel_rfl) (fun _ h => st_take [0, 0, 0] h) (.inl ⟨rfl, q_len_slice Tryz.underlying80 rfl⟩) ?_
  refine Wr.pure (v := Value.int .i64 0) 12 rfl (by kernel_rfl) (.inr (fun _ h => st_take [0, 0, 0] h)) (.inl ⟨rfl, fun _ => q_move rfl⟩) ?_
  refine Wr.done (by kernel_rfl) ?_
  refine Wx.go ?_
  refine Wc.block ?_
  refine Wc.loop (X := Nat × List ByteArray × Int) (fun (k, ss, bb) E => E 19 = Value.int .i64 ((k : Nat) : Int) ∧ E 1 = Value.int .i64 bb ∧ E 0 = Value.pointer (some ⟨p, 0, none⟩) ∧ E 17 = Value.slice (some ⟨b, 0, none⟩) (min since.length 31) cap ∧ E 18 = Value.int .i64 (((min since.length 31) : Nat) : Int) ∧ fallL ss ((since.take 31).drop k) bb = fallL secs (since.take 31) bits ∧ ss.length = secs.length ∧ (∀ s ∈ ss, s.size = 64) ∧ k ≤ min since.length 31) (fun (k, ss, bb) => (slp 122 2 b cap (flat since)) :: (pt p 82 [Value.slice (some ⟨bs, 0, none⟩) secs.length secs.length, Value.slice (some ⟨b, 0, none⟩) since.length cap, Value.bool down, Value.int .i64 ((count : Nat) : Int), mv]) :: (pt bs 9 (ss.map Value.string)) :: F) (fun (k, ss, bb) => 31 - k) (0, secs, bits) ?_ ?_ ?_
  · exact ⟨rfl, rfl, rfl, rfl, rfl, rfl, rfl, hw.size, (by omega)⟩
  · exact fun w hs => hs
  · rintro ⟨k, ss, bb⟩ E2 ⟨hE19_0, hE1_0, hE0_0, hE17_0, hE18_0, hp0, hp1, hp2, hp3⟩
    dsimp only at *
    refine Wc.seq ?_
    refine Wc.region ?_
    by_cases hlt : ((k : Nat) : Int) < (((min since.length 31) : Nat) : Int)
    ·
      obtain ⟨⟨a, s⟩, hget⟩ : ∃ q, since[k]? = some q := ⟨since[k]'(by omega), by simp [List.getElem?_eq_getElem (show k < since.length by omega)]⟩
      have hmem := List.mem_of_getElem? hget
      have ha : a < ss.length := by have := hw.at_ _ hmem; simp only at this; omega
      have hs : s.size = 64 := hw.size' _ hmem
      have hold : (ss.getD a default).size = 64 := by rw [List.getD_eq_getElem?_getD, List.getElem?_eq_getElem ha]; exact hp2 _ (List.getElem_mem ha)
      refine Wl.q (v := Value.bool true) (q_lss (r := true) hE19_0 hE18_0 (decide_eq_true hlt)) ?_
      refine Wl.done ?_
      refine Wx.go ?_
      refine Wc.seq ?_
      refine Wc.yes rfl ?_
      refine Wc.skip ?_
      refine Wx.go ?_
      refine Wc.seq ?_
      refine Wc.block ?_
      refine Wc.seq ?_
      refine Wc.region ?_
      refine Wl.q (v := Value.pointer (some ⟨b, k * 2, none⟩)) (q_idx (m := k * 2) se_80 hE17_0 hE19_0 (by omega) (by omega) (by simp)) ?_
      refine Wl.q (v := Value.agg #[Value.int .i64 ((a : Nat) : Int), Value.string s]) (q_loadAgg (vs := [Value.int .i64 ((a : Nat) : Int), Value.string s]) ag_122 rfl (flat_has (i := 0) rfl hget)) ?_
      refine Wl.e (e_alloc (vs := [Value.int .i64 0, Value.string (⟨#[]⟩)]) zo_122 rfl) (fun bx _ => ?_)
      refine Wl.imp (L' := (pt bx 122 ([Value.int .i64 0, Value.string (⟨#[]⟩)])) :: (slp 122 2 b cap (flat since)) :: (pt p 82 [Value.slice (some ⟨bs, 0, none⟩) secs.length secs.length, Value.slice (some ⟨b, 0, none⟩) since.length cap, Value.bool down, Value.int .i64 ((count : Nat) : Int), mv]) :: (pt bs 9 (ss.map Value.string)) :: F) (fun _ h => h) ?_
      refine Wl.e (e_storeAgg (i := 0) (vs := [Value.int .i64 ((a : Nat) : Int), Value.string s]) (c' := [Value.int .i64 ((a : Nat) : Int), Value.string s]) sz_122 rfl rfl rfl rfl (by simp) rfl) (fun _ _ => ?_)
      refine Wl.imp (L' := (pt bx 122 [Value.int .i64 ((a : Nat) : Int), Value.string s]) :: (slp 122 2 b cap (flat since)) :: (pt p 82 [Value.slice (some ⟨bs, 0, none⟩) secs.length secs.length, Value.slice (some ⟨b, 0, none⟩) since.length cap, Value.bool down, Value.int .i64 ((count : Nat) : Int), mv]) :: (pt bs 9 (ss.map Value.string)) :: F) (fun _ h => h) ?_
      refine Wl.done ?_
      refine Wx.go ?_
      refine Wc.seq ?_
      refine Wc.drawsS [] ((pt bx 122 [Value.int .i64 ((a : Nat) : Int), Value.string s]) :: (slp 122 2 b cap (flat since)) :: (pt p 82 [Value.slice (some ⟨bs, 0, none⟩) secs.length secs.length, Value.slice (some ⟨b, 0, none⟩) since.length cap, Value.bool down, Value.int .i64 ((count : Nat) : Int), mv]) :: (pt bs 9 (ss.map Value.string)) :: []) (by kernel_rfl) ?_
      refine Wr.pure (v := Value.pointer (some ⟨p, 0, none⟩)) 0 rfl (by kernel_rfl) (.inr (fun _ h => st_take [0, 0, 0, 0] h)) (.inl ⟨rfl, fun _ => q_move hE0_0⟩) ?_
      refine Wr.pure (v := Value.pointer (some ⟨p, 0, none⟩)) 1 rfl (by kernel_rfl) (.inr (fun _ h => st_take [0, 0, 0, 0] h)) (.inl ⟨rfl, fun _ => q_nil_ptr rfl⟩) ?_
      refine Wr.pure (v := Value.pointer (some ⟨p, 0, none⟩)) 2 rfl (by kernel_rfl) (.inr (fun _ h => st_take [0, 0, 0, 0] h)) (.inl ⟨rfl, fun _ => q_field (m := 0) fo_82_0 rfl rfl⟩) ?_
      refine Wr.take (v := Value.slice (some ⟨bs, 0, none⟩) secs.length secs.length) 3 rfl (by kernel_rfl) (fun _ h => st_take [0, 0, 0, 0] h) (.inl ⟨rfl, q_load sc_50 rfl (.cel (i := 2) rfl rfl)⟩) ?_
      refine Wr.pure (v := Value.pointer (some ⟨bx, 0, none⟩)) 4 rfl (by kernel_rfl) (.inr (fun _ h => st_take [0, 0, 0, 0] h)) (.inl ⟨rfl, fun _ => q_field (m := 0) fo_122_0 rfl rfl⟩) ?_
      refine Wr.take (v := Value.int .i64 ((a : Nat) : Int)) 5 rfl (by kernel_rfl) (fun _ h => st_take [0, 0, 0, 0] h) (.inl ⟨rfl, q_load sc_3 rfl (.cel (i := 0) rfl rfl)⟩) ?_
      refine Wr.pure (v := Value.pointer (some ⟨bs, a, none⟩)) 6 rfl (by kernel_rfl) (.inr (fun _ h => st_take [0, 0, 0, 0] h)) (.inl ⟨rfl, fun _ => q_idx (m := a) se_50 rfl rfl (by omega) (by omega) (by simp)⟩) ?_
      refine Wr.take (v := Value.string (ss.getD a default)) 7 rfl (by kernel_rfl) (fun _ h => st_take [0, 0, 0, 0] h) (.inl ⟨rfl, q_load sc_9 rfl (.cel (i := 3) rfl (map_get ha))⟩) ?_
      refine Wr.pure (v := Value.string (ss.getD a default)) 8 rfl (by kernel_rfl) (.inr (fun _ h => st_take [0, 0, 0, 0] h)) (.inl ⟨rfl, fun _ => q_assign rfl⟩) ?_
      refine Wr.done (by kernel_rfl) ?_
      refine Wx.go ?_
      refine Wc.seq ?_
      refine Wc.drawsS [26] ((pt bx 122 [Value.int .i64 ((a : Nat) : Int), Value.string s]) :: (slp 122 2 b cap (flat since)) :: (pt p 82 [Value.slice (some ⟨bs, 0, none⟩) secs.length secs.length, Value.slice (some ⟨b, 0, none⟩) since.length cap, Value.bool down, Value.int .i64 ((count : Nat) : Int), mv]) :: (pt bs 9 (ss.map Value.string)) :: []) (by kernel_rfl) ?_
      refine Wr.pure (v := Value.pointer (some ⟨p, 0, none⟩)) 0 rfl (by kernel_rfl) (.inr (fun _ h => st_take [0, 0, 0, 0] h)) (.inl ⟨rfl, fun _ => q_move hE0_0⟩) ?_
      refine Wr.pure (v := Value.pointer (some ⟨p, 0, none⟩)) 1 rfl (by kernel_rfl) (.inr (fun _ h => st_take [0, 0, 0, 0] h)) (.inl ⟨rfl, fun _ => q_nil_ptr rfl⟩) ?_
      refine Wr.pure (v := Value.pointer (some ⟨p, 0, none⟩)) 2 rfl (by kernel_rfl) (.inr (fun _ h => st_take [0, 0, 0, 0] h)) (.inl ⟨rfl, fun _ => q_field (m := 0) fo_82_0 rfl rfl⟩) ?_
      refine Wr.take (v := Value.slice (some ⟨bs, 0, none⟩) secs.length secs.length) 3 rfl (by kernel_rfl) (fun _ h => st_take [0, 0, 0, 0] h) (.inl ⟨rfl, q_load sc_50 rfl (.cel (i := 2) rfl rfl)⟩) ?_
      refine Wr.pure (v := Value.pointer (some ⟨bx, 0, none⟩)) 4 rfl (by kernel_rfl) (.inr (fun _ h => st_take [0, 0, 0, 0] h)) (.inl ⟨rfl, fun _ => q_field (m := 0) fo_122_0 rfl rfl⟩) ?_
      refine Wr.take (v := Value.int .i64 ((a : Nat) : Int)) 5 rfl (by kernel_rfl) (fun _ h => st_take [0, 0, 0, 0] h) (.inl ⟨rfl, q_load sc_3 rfl (.cel (i := 0) rfl rfl)⟩) ?_
      refine Wr.pure (v := Value.string (ss.getD a default)) 6 rfl (by kernel_rfl) (.inr (fun _ h => st_take [0, 0, 0, 0] h)) (.inl ⟨rfl, fun _ => q_move rfl⟩) ?_
      refine Wr.pure (v := Value.pointer (some ⟨bx, 1, none⟩)) 7 rfl (by kernel_rfl) (.inr (fun _ h => st_take [0, 0, 0, 0] h)) (.inl ⟨rfl, fun _ => q_field (m := 1) fo_122_1 rfl rfl⟩) ?_
      refine Wr.take (v := Value.string s) 8 rfl (by kernel_rfl) (fun _ h => st_take [0, 0, 0, 0] h) (.inl ⟨rfl, q_load sc_9 rfl (.cel (i := 0) rfl rfl)⟩) ?_
      refine Wr.pure (v := Value.pointer (some ⟨bx, 1, none⟩)) 9 rfl (by kernel_rfl) (.inr (fun _ h => st_take [0, 0, 0, 0] h)) (.inl ⟨rfl, fun _ => q_field (m := 1) fo_122_1 rfl rfl⟩) ?_
      refine Wr.take (v := Value.string s) 10 rfl (by kernel_rfl) (fun _ h => st_take [0, 0, 0, 0] h) (.inl ⟨rfl, q_load sc_9 rfl (.cel (i := 0) rfl rfl)⟩) ?_
      refine Wr.pure (v := Value.string (s.extract 0 32)) 11 rfl (by kernel_rfl) (.inr (fun _ h => st_take [0, 0, 0, 0] h)) (.inl ⟨rfl, fun _ => q_slice_str (l := 0) (h := 32) Tryz.underlying9 rfl rfl ⟨_, rfl⟩ (by omega) (by omega) rfl⟩) ?_
      refine Wr.pure (v := Value.string (ss.getD a default)) 12 rfl (by kernel_rfl) (.inr (fun _ h => st_take [0, 0, 0, 0] h)) (.inl ⟨rfl, fun _ => q_move rfl⟩) ?_
      refine Wr.pure (v := Value.string ((ss.getD a default).extract 32 ((ss.getD a default).size))) 13 rfl (by kernel_rfl) (.inr (fun _ h => st_take [0, 0, 0, 0] h)) (.inl ⟨rfl, fun _ => q_slice_str (l := 32) (h := (ss.getD a default).size) Tryz.underlying9 rfl ⟨_, rfl⟩ rfl (by omega) (by omega) rfl⟩) ?_
      refine Wr.pure (v := Value.string (s.extract 0 32 ++ (ss.getD a default).extract 32 (ss.getD a default).size)) 14 rfl (by kernel_rfl) (.inr (fun _ h => st_take [0, 0, 0, 0] h)) (.inl ⟨rfl, fun _ => q_cat (z := (s.extract 0 32 ++ (ss.getD a default).extract 32 (ss.getD a default).size)) rfl rfl (cat_bound hs hold) rfl⟩) ?_
      refine Wr.pure (v := Value.string (ss.getD a default)) 15 rfl (by kernel_rfl) (.inr (fun _ h => st_take [0, 0, 0, 0] h)) (.inl ⟨rfl, fun _ => q_move rfl⟩) ?_
      refine Wr.pure (v := Value.string ((ss.getD a default).extract 0 32)) 16 rfl (by kernel_rfl) (.inr (fun _ h => st_take [0, 0, 0, 0] h)) (.inl ⟨rfl, fun _ => q_slice_str (l := 0) (h := 32) Tryz.underlying9 rfl rfl ⟨_, rfl⟩ (by omega) (by omega) rfl⟩) ?_
      refine Wr.pure (v := Value.pointer (some ⟨bx, 1, none⟩)) 17 rfl (by kernel_rfl) (.inr (fun _ h => st_take [0, 0, 0, 0] h)) (.inl ⟨rfl, fun _ => q_field (m := 1) fo_122_1 rfl rfl⟩) ?_
      refine Wr.take (v := Value.string s) 18 rfl (by kernel_rfl) (fun _ h => st_take [0, 0, 0, 0] h) (.inl ⟨rfl, q_load sc_9 rfl (.cel (i := 0) rfl rfl)⟩) ?_
      refine Wr.pure (v := Value.string (s.extract 32 s.size)) 19 rfl (by kernel_rfl) (.inr (fun _ h => st_take [0, 0, 0, 0] h)) (.inl ⟨rfl, fun _ => q_slice_str (l := 32) (h := s.size) Tryz.underlying9 rfl ⟨_, rfl⟩ rfl (by omega) (by omega) rfl⟩) ?_
      refine Wr.pure (v := Value.string ((ss.getD a default).extract 0 32 ++ s.extract 32 s.size)) 20 rfl (by kernel_rfl) (.inr (fun _ h => st_take [0, 0, 0, 0] h)) (.inl ⟨rfl, fun _ => q_cat (z := ((ss.getD a default).extract 0 32 ++ s.extract 32 s.size)) rfl rfl (cat_bound hold hs) rfl⟩) ?_
      refine Wr.pure (v := Value.agg #[Value.string (ss.getD a default), Value.string s, Value.string (s.extract 0 32 ++ (ss.getD a default).extract 32 (ss.getD a default).size), Value.string ((ss.getD a default).extract 0 32 ++ s.extract 32 s.size)]) 21 rfl (by kernel_rfl) (.inr (fun _ h => st_take [0, 0, 0, 0] h)) (.inl ⟨rfl, fun _ => q_buildArr Tryz.underlying123 zo_123 sz_9 (by kernel_rfl)⟩) ?_
      refine Wr.pure (v := Value.int .i64 bb) 22 rfl (by kernel_rfl) (.inr (fun _ h => st_take [0, 0, 0, 0] h)) (.inl ⟨rfl, fun _ => q_move hE1_0⟩) ?_
      refine Wr.pure (v := Value.int .i64 (bb % 4)) 23 rfl (by kernel_rfl) (.inr (fun _ h => st_take [0, 0, 0, 0] h)) (.inl ⟨rfl, fun _ => q_and (c := (bb % 4)) rfl rfl (and3 _)⟩) ?_
      refine Wr.pure (v := Value.string (torn (ss.getD a default) s (bb % 4))) 24 rfl (by kernel_rfl) (.inr (fun _ h => st_take [0, 0, 0, 0] h)) (.inl ⟨rfl, fun _ => q_idx_agg (k := (bb % 4).toNat) Tryz.underlying123 sz_9 sc_9 rfl rfl (by omega) (by omega) rfl (torn_idx _ _ _)⟩) ?_
      refine Wr.pure (v := Value.pointer (some ⟨bs, a, none⟩)) 25 rfl (by kernel_rfl) (.inr (fun _ h => st_take [0, 0, 0, 0] h)) (.inl ⟨rfl, fun _ => q_idx (m := a) se_50 rfl rfl (by omega) (by omega) (by simp)⟩) ?_
      refine Wr.e 26 (by kernel_rfl) rfl (e_store (i := 3) (v := Value.string (torn (ss.getD a default) s (bb % 4))) sz_9 rfl rfl (fun _ _ => rfl) rfl (by simpa using ha)) (.inl (by kernel_rfl)) (fun _ _ => ?_)
      refine Wr.imp (L' := (pt bx 122 [Value.int .i64 ((a : Nat) : Int), Value.string s]) :: (slp 122 2 b cap (flat since)) :: (pt p 82 [Value.slice (some ⟨bs, 0, none⟩) secs.length secs.length, Value.slice (some ⟨b, 0, none⟩) since.length cap, Value.bool down, Value.int .i64 ((count : Nat) : Int), mv]) :: (pt bs 9 ((ss.set a (torn (ss.getD a default) s (bb % 4))).map Value.string)) :: F) (fun _ h => by rw [List.map_set]; exact h) ?_
      refine Wr.rebaseS [] ((pt bx 122 [Value.int .i64 ((a : Nat) : Int), Value.string s]) :: (slp 122 2 b cap (flat since)) :: (pt p 82 [Value.slice (some ⟨bs, 0, none⟩) secs.length secs.length, Value.slice (some ⟨b, 0, none⟩) since.length cap, Value.bool down, Value.int .i64 ((count : Nat) : Int), mv]) :: (pt bs 9 ((ss.set a (torn (ss.getD a default) s (bb % 4))).map Value.string)) :: []) (by kernel_rfl) ?_
      refine Wr.done (by kernel_rfl) ?_
      refine Wx.go ?_
      refine Wc.region ?_
      refine Wl.q (v := Value.int .i64 bb) (q_move hE1_0) ?_
      refine Wl.q (v := Value.int .i64 (bb / 4)) (q_shr (c := (bb / 4)) rfl rfl (by decide) (shr2 _)) ?_
      refine Wl.q (v := Value.int .i64 (bb / 4)) (q_assign rfl) ?_
      refine Wl.done ?_
      refine Wx.blockEnd ?_
      refine Wx.go ?_
      refine Wc.region ?_
      refine Wl.q (v := Value.int .i64 ((k + 1 : Nat) : Int)) (q_add (c := ((k + 1 : Nat) : Int)) hE19_0 rfl (by rw [wrap_i64] <;> omega)) ?_
      refine Wl.q (v := Value.int .i64 ((k + 1 : Nat) : Int)) (q_move rfl) ?_
      refine Wl.done ?_
      refine Wx.at (k + 1, ss.set a (torn (ss.getD a default) s (bb % 4)), bb / 4) ⟨(by simp only; omega), rfl, rfl, hE0_0, hE17_0, hE18_0, (by rw [← hp0, fall_step hget (by omega)]), (by simpa using hp1), (fun u hu => (List.mem_or_eq_of_mem_set hu).elim (hp2 u) (fun e => by rw [e]; exact torn_size _ hold hs)), (by omega)⟩ (fun w hs => st_drop hs)
    ·
      refine Wl.q (v := Value.bool false) (q_lss (r := false) hE19_0 hE18_0 (decide_eq_false hlt)) ?_
      refine Wl.done ?_
      refine Wx.go ?_
      refine Wc.seq ?_
      refine Wc.no rfl ?_
      refine Wc.exit ?_
      refine Wx.thenExit ?_
      refine Wx.thenExit ?_
      refine Wx.out ?_
      refine Wx.go ?_
      refine Wc.region ?_
      refine Wl.q (v := Value.pointer (some ⟨p, 0, none⟩)) (q_move hE0_0) ?_
      refine Wl.q (v := Value.pointer (some ⟨p, 0, none⟩)) (q_move hE0_0) ?_
      refine Wl.q (v := Value.pointer (some ⟨p, 0, none⟩)) (q_move hE0_0) ?_
      refine Wl.q (v := Value.pointer (some ⟨p, 0, none⟩)) (q_move hE0_0) ?_
      refine Wl.q (v := Value.func (.func 47) #[Value.pointer (some ⟨p, 0, none⟩)] #[]) (q_makeFunc (us := [Value.pointer (some ⟨p, 0, none⟩)]) (vs := []) rfl rfl) ?_
      refine Wl.q (v := Value.pointer (some ⟨p, 0, none⟩)) (q_nil_ptr rfl) ?_
      refine Wl.q (v := Value.pointer (some ⟨p, 1, none⟩)) (q_field (m := 1) fo_82_1 rfl rfl) ?_
      refine Wl.e (e_store (i := 1) (v := Value.slice none 0 0) sz_80 rfl rfl (fun _ _ => rfl) rfl (by simp)) (fun _ _ => ?_)
      refine Wl.imp (L' := (slp 122 2 b cap (flat since)) :: (pt p 82 [Value.slice (some ⟨bs, 0, none⟩) secs.length secs.length, Value.slice none 0 0, Value.bool down, Value.int .i64 ((count : Nat) : Int), mv]) :: (pt bs 9 (ss.map Value.string)) :: F) (fun _ h => h) ?_
      refine Wl.q (v := Value.pointer (some ⟨p, 0, none⟩)) (q_nil_ptr rfl) ?_
      refine Wl.q (v := Value.pointer (some ⟨p, 2, none⟩)) (q_field (m := 2) fo_82_2 rfl rfl) ?_
      refine Wl.e (e_store (i := 1) (v := Value.bool true) sz_4 rfl rfl (fun _ _ => rfl) rfl (by simp)) (fun _ _ => ?_)
      refine Wl.imp (L' := (slp 122 2 b cap (flat since)) :: (pt p 82 [Value.slice (some ⟨bs, 0, none⟩) secs.length secs.length, Value.slice none 0 0, Value.bool true, Value.int .i64 ((count : Nat) : Int), mv]) :: (pt bs 9 (ss.map Value.string)) :: F) (fun _ h => h) ?_
      refine Wl.q (v := Value.pointer (some ⟨p, 0, none⟩)) (q_nil_ptr rfl) ?_
      refine Wl.q (v := Value.pointer (some ⟨p, 4, none⟩)) (q_field (m := 4) fo_82_4 rfl rfl) ?_
      refine Wl.e (e_store (i := 1) (v := Value.func (.func 47) #[Value.pointer (some ⟨p, 0, none⟩)] #[]) sz_31 rfl rfl (fun _ _ => rfl) rfl (by simp)) (fun _ _ => ?_)
      refine Wl.imp (L' := (slp 122 2 b cap (flat since)) :: (pt p 82 ([Value.slice (some ⟨bs, 0, none⟩) secs.length secs.length, Value.slice none 0 0, Value.bool true, Value.int .i64 ((count : Nat) : Int), Value.func (.func 47) #[Value.pointer (some ⟨p, 0, none⟩)] #[]])) :: (pt bs 9 (ss.map Value.string)) :: F) (fun _ h => h) ?_
      refine Wl.done ?_
      refine Wx.fin0 rfl (.inr rfl) (fun w hs => ?_)
      have hend : k = min since.length 31 := by omega
      rw [hend, List.drop_of_length_le (by simp; omega)] at hp0
      simp only [fallL] at hp0
      rw [← hp0]
      exact ⟨(), trivial, rfl, st_drop hs⟩

set_option maxRecDepth 4000 in
theorem fall_nil (W0 : World) (p bs : Nat) (secs : List ByteArray) (since : List (Nat × ByteArray)) (down : Bool) (count : Nat) (mv : Value) (bits : Int) (hw : WFl secs since) (hnil : since = []) :
    Con Tryz.prog W0 59 #[Value.pointer (some ⟨p, 0, none⟩), Value.int .i64 bits] [pt p 82 [Value.slice (some ⟨bs, 0, none⟩) secs.length secs.length, Value.slice none 0 0, Value.bool down, Value.int .i64 ((count : Nat) : Int), mv], pt bs 9 (secs.map Value.string)] (X := Unit) (fun _ => True) (fun _ => .tuple #[]) (fun _ => [pt p 82 ([Value.slice (some ⟨bs, 0, none⟩) secs.length secs.length, Value.slice none 0 0, Value.bool true, Value.int .i64 ((count : Nat) : Int), Value.func (.func 47) #[Value.pointer (some ⟨p, 0, none⟩)] #[]]), pt bs 9 ((fallL secs (since.take 31) bits).map Value.string)]) := by
  refine Con.of (args := [Value.pointer (some ⟨p, 0, none⟩), Value.int .i64 bits]) Tryz.func59 rfl Tryz.ntmps59 rfl (fun F => ?_)
  show Wc _ W0 _ _ _ _ _ ((pt p 82 [Value.slice (some ⟨bs, 0, none⟩) secs.length secs.length, Value.slice none 0 0, Value.bool down, Value.int .i64 ((count : Nat) : Int), mv]) :: (pt bs 9 (secs.map Value.string)) :: F)
  refine Wc.seq ?_
  refine Wc.seq ?_
  refine Wc.drawsS [] ((pt p 82 [Value.slice (some ⟨bs, 0, none⟩) secs.length secs.length, Value.slice none 0 0, Value.bool down, Value.int .i64 ((count : Nat) : Int), mv]) :: (pt bs 9 (secs.map Value.string)) :: []) (by kernel_rfl) ?_
  refine Wr.pure (v := Value.pointer (some ⟨p, 0, none⟩)) 0 rfl (by kernel_rfl) (.inr (fun _ h => st_take [0, 0] h)) (.inl ⟨rfl, fun _ => q_move rfl⟩) ?_
  refine Wr.pure (v := Value.pointer (some ⟨p, 0, none⟩)) 1 rfl (by kernel_rfl) (.inr (fun _ h => st_take [0, 0] h)) (.inl ⟨rfl, fun _ => q_nil_ptr rfl⟩) ?_
  refine Wr.pure (v := Value.pointer (some ⟨p, 1, none⟩)) 2 rfl (by kernel_rfl) (.inr (fun _ h => st_take [0, 0] h)) (.inl ⟨rfl, fun _ => q_field (m := 1) fo_82_1 rfl rfl⟩) ?_
  refine Wr.take (v := Value.slice none 0 0) 3 rfl (by kernel_rfl) (fun _ h => st_take [0, 0] h) (.inl ⟨rfl, q_load sc_80 rfl (.cel (i := 0) rfl rfl)⟩) ?_
  refine Wr.pure (v := Value.pointer (some ⟨p, 0, none⟩)) 4 rfl (by kernel_rfl) (.inr (fun _ h => st_take [0, 0] h)) (.inl ⟨rfl, fun _ => q_move rfl⟩) ?_
  refine Wr.pure (v := Value.pointer (some ⟨p, 0, none⟩)) 5 rfl (by kernel_rfl) (.inr (fun _ h => st_take [0, 0] h)) (.inl ⟨rfl, fun _ => q_nil_ptr rfl⟩) ?_
  refine Wr.pure (v := Value.pointer (some ⟨p, 1, none⟩)) 6 rfl (by kernel_rfl) (.inr (fun _ h => st_take [0, 0] h)) (.inl ⟨rfl, fun _ => q_field (m := 1) fo_82_1 rfl rfl⟩) ?_
  refine Wr.take (v := Value.slice none 0 0) 7 rfl (by kernel_rfl) (fun _ h => st_take [0, 0] h) (.inl ⟨rfl, q_load sc_80 rfl (.cel (i := 0) rfl rfl)⟩) ?_
  refine Wr.take (v := Value.int .i64 0) 8 rfl (by kernel_rfl) (fun _ h => st_take [0, 0] h) (.inl ⟨rfl, q_len_slice Tryz.underlying80 rfl⟩) ?_
  refine Wr.take (v := Value.int .i64 0) 9 rfl (by kernel_rfl) (fun _ h => st_take [0, 0] h) (.inl ⟨rfl, q_min (c := 0) rfl rfl (by decide)⟩) ?_
  refine Wr.pure (v := Value.slice none 0 0) 10 rfl (by kernel_rfl) (.inr (fun _ h => st_take [0, 0] h)) (.inl ⟨rfl, fun _ => q_slice_nil Tryz.underlying80 rfl rfl ⟨_, rfl⟩ (by rw [sz_122]; rfl)⟩) ?_
  refine Wr.take (v := Value.int .i64 0) 11 rfl (by kernel_rfl) (fun _ h => st_take [0, 0] h) (.inl ⟨rfl, q_len_slice Tryz.underlying80 rfl⟩) ?_
  refine Wr.pure (v := Value.int .i64 0) 12 rfl (by kernel_rfl) (.inr (fun _ h => st_take [0, 0] h)) (.inl ⟨rfl, fun _ => q_move rfl⟩) ?_
  refine Wr.done (by kernel_rfl) ?_
  refine Wx.go ?_
  refine Wc.block ?_
  refine Wc.loop (X := Nat × List ByteArray × Int) (fun (k, ss, bb) E => E 19 = Value.int .i64 ((k : Nat) : Int) ∧ E 1 = Value.int .i64 bb ∧ E 0 = Value.pointer (some ⟨p, 0, none⟩) ∧ E 17 = Value.slice none 0 0 ∧ E 18 = Value.int .i64 0 ∧ fallL ss ((since.take 31).drop k) bb = fallL secs (since.take 31) bits ∧ ss.length = secs.length ∧ (∀ s ∈ ss, s.size = 64) ∧ k ≤ min since.length 31) (fun (k, ss, bb) => (pt p 82 [Value.slice (some ⟨bs, 0, none⟩) secs.length secs.length, Value.slice none 0 0, Value.bool down, Value.int .i64 ((count : Nat) : Int), mv]) :: (pt bs 9 (ss.map Value.string)) :: F) (fun (k, ss, bb) => 31 - k) (0, secs, bits) ?_ ?_ ?_
  · exact ⟨rfl, rfl, rfl, rfl, rfl, rfl, rfl, hw.size, (by omega)⟩
  · exact fun w hs => hs
  · rintro ⟨k, ss, bb⟩ E2 ⟨hE19_0, hE1_0, hE0_0, hE17_0, hE18_0, hp0, hp1, hp2, hp3⟩
    dsimp only at *
    refine Wc.seq ?_
    refine Wc.region ?_
    by_cases hlt : ((k : Nat) : Int) < 0
    ·
      exfalso; omega
    ·
      refine Wl.q (v := Value.bool false) (q_lss (r := false) hE19_0 hE18_0 (decide_eq_false hlt)) ?_
      refine Wl.done ?_
      refine Wx.go ?_
      refine Wc.seq ?_
      refine Wc.no rfl ?_
      refine Wc.exit ?_
      refine Wx.thenExit ?_
      refine Wx.thenExit ?_
      refine Wx.out ?_
      refine Wx.go ?_
      refine Wc.region ?_
      refine Wl.q (v := Value.pointer (some ⟨p, 0, none⟩)) (q_move hE0_0) ?_
      refine Wl.q (v := Value.pointer (some ⟨p, 0, none⟩)) (q_move hE0_0) ?_
      refine Wl.q (v := Value.pointer (some ⟨p, 0, none⟩)) (q_move hE0_0) ?_
      refine Wl.q (v := Value.pointer (some ⟨p, 0, none⟩)) (q_move hE0_0) ?_
      refine Wl.q (v := Value.func (.func 47) #[Value.pointer (some ⟨p, 0, none⟩)] #[]) (q_makeFunc (us := [Value.pointer (some ⟨p, 0, none⟩)]) (vs := []) rfl rfl) ?_
      refine Wl.q (v := Value.pointer (some ⟨p, 0, none⟩)) (q_nil_ptr rfl) ?_
      refine Wl.q (v := Value.pointer (some ⟨p, 1, none⟩)) (q_field (m := 1) fo_82_1 rfl rfl) ?_
      refine Wl.e (e_store (i := 0) (v := Value.slice none 0 0) sz_80 rfl rfl (fun _ _ => rfl) rfl (by simp)) (fun _ _ => ?_)
      refine Wl.imp (L' := (pt p 82 [Value.slice (some ⟨bs, 0, none⟩) secs.length secs.length, Value.slice none 0 0, Value.bool down, Value.int .i64 ((count : Nat) : Int), mv]) :: (pt bs 9 (ss.map Value.string)) :: F) (fun _ h => h) ?_
      refine Wl.q (v := Value.pointer (some ⟨p, 0, none⟩)) (q_nil_ptr rfl) ?_
      refine Wl.q (v := Value.pointer (some ⟨p, 2, none⟩)) (q_field (m := 2) fo_82_2 rfl rfl) ?_
      refine Wl.e (e_store (i := 0) (v := Value.bool true) sz_4 rfl rfl (fun _ _ => rfl) rfl (by simp)) (fun _ _ => ?_)
      refine Wl.imp (L' := (pt p 82 [Value.slice (some ⟨bs, 0, none⟩) secs.length secs.length, Value.slice none 0 0, Value.bool true, Value.int .i64 ((count : Nat) : Int), mv]) :: (pt bs 9 (ss.map Value.string)) :: F) (fun _ h => h) ?_
      refine Wl.q (v := Value.pointer (some ⟨p, 0, none⟩)) (q_nil_ptr rfl) ?_
      refine Wl.q (v := Value.pointer (some ⟨p, 4, none⟩)) (q_field (m := 4) fo_82_4 rfl rfl) ?_
      refine Wl.e (e_store (i := 0) (v := Value.func (.func 47) #[Value.pointer (some ⟨p, 0, none⟩)] #[]) sz_31 rfl rfl (fun _ _ => rfl) rfl (by simp)) (fun _ _ => ?_)
      refine Wl.imp (L' := (pt p 82 ([Value.slice (some ⟨bs, 0, none⟩) secs.length secs.length, Value.slice none 0 0, Value.bool true, Value.int .i64 ((count : Nat) : Int), Value.func (.func 47) #[Value.pointer (some ⟨p, 0, none⟩)] #[]])) :: (pt bs 9 (ss.map Value.string)) :: F) (fun _ h => h) ?_
      refine Wl.done ?_
      refine Wx.fin0 rfl (.inr rfl) (fun w hs => ?_)
      have hsl : since.length = 0 := by rw [hnil]; rfl
      have hend : k = min since.length 31 := by omega
      rw [hend, List.drop_of_length_le (by simp; omega)] at hp0
      simp only [fallL] at hp0
      rw [← hp0]
      exact ⟨(), trivial, rfl, hs⟩

theorem fall_c (W0 : World) (p bs : Nat) (secs : List ByteArray) (since : List (Nat × ByteArray)) (down : Bool) (count : Nat) (mv : Value) (bits : Int) (hw : WFl secs since) (sv : Value) :
  Con Tryz.prog W0 59 #[Value.pointer (some ⟨p, 0, none⟩), Value.int .i64 bits] [sl 122 2 sv since.length (flat since), pt p 82 [Value.slice (some ⟨bs, 0, none⟩) secs.length secs.length, sv, Value.bool down, Value.int .i64 ((count : Nat) : Int), mv], pt bs 9 (secs.map Value.string)] (X := Unit) (fun _ => True) (fun _ => .tuple #[]) (fun _ => [pt p 82 ([Value.slice (some ⟨bs, 0, none⟩) secs.length secs.length, Value.slice none 0 0, Value.bool true, Value.int .i64 ((count : Nat) : Int), Value.func (.func 47) #[Value.pointer (some ⟨p, 0, none⟩)] #[]]), pt bs 9 ((fallL secs (since.take 31) bits).map Value.string)]) := by
 refine Con.sl (fun e1 e2 e3 => ?_) (fun b cap e1 e2 e3 => ?_)
 · subst e1; exact fall_nil W0 p bs secs since down count mv bits hw (List.eq_nil_of_length_eq_zero e2)
 · subst e1; exact fall_blk W0 p bs secs since down count mv bits hw b cap e2

theorem may_cut0 (W0 : World) (p bs : Nat) (secs : List ByteArray) (since : List (Nat × ByteArray)) (count : Nat) (bits : Int) (hw : WFl secs since) (c : Nat) (sv : Value) :
  Con Tryz.prog W0 57 #[Value.pointer (some ⟨c, 0, none⟩)] [pt c 93 [Value.pointer (some ⟨p, 0, none⟩), Value.int .i64 0, Value.int .i64 bits], sl 122 2 sv since.length (flat since), pt p 82 ([Value.slice (some ⟨bs, 0, none⟩) secs.length secs.length, sv, Value.bool false, Value.int .i64 ((count : Nat) : Int), Value.func (.func 57) #[Value.pointer (some ⟨c, 0, none⟩)] #[]]), pt bs 9 (secs.map Value.string)] (X := Unit) (fun _ => True) (fun _ => .bool false) (fun _ => [pt p 82 ([Value.slice (some ⟨bs, 0, none⟩) secs.length secs.length, Value.slice none 0 0, Value.bool true, Value.int .i64 ((count : Nat) : Int), Value.func (.func 47) #[Value.pointer (some ⟨p, 0, none⟩)] #[]]), pt bs 9 ((fallL secs (since.take 31) bits).map Value.string)]) := by
 refine Con.of (args := [Value.pointer (some ⟨c, 0, none⟩)]) Tryz.func57 rfl Tryz.ntmps57 rfl (fun F => ?_)
 show Wc _ W0 _ _ _ _ _ ((pt c 93 [Value.pointer (some ⟨p, 0, none⟩), Value.int .i64 0, Value.int .i64 bits]) :: (sl 122 2 sv since.length (flat since)) :: (pt p 82 ([Value.slice (some ⟨bs, 0, none⟩) secs.length secs.length, sv, Value.bool false, Value.int .i64 ((count : Nat) : Int), Value.func (.func 57) #[Value.pointer (some ⟨c, 0, none⟩)] #[]])) :: (pt bs 9 (secs.map Value.string)) :: F)
 refine Wc.seq ?_
 refine Wc.region ?_
 refine Wl.q (v := Value.bool false) (q_assign rfl) ?_
 refine Wl.done ?_
 refine Wx.go ?_
 refine Wc.seq ?_
 refine Wc.seq ?_
 refine Wc.region ?_
 refine Wl.q (v := Value.pointer (some ⟨c, 0, none⟩)) (q_move rfl) ?_
 refine Wl.q (v := Value.pointer (some ⟨c, 0, none⟩)) (q_nil_ptr rfl) ?_
 refine Wl.q (v := Value.pointer (some ⟨c, 1, none⟩)) (q_field (m := 1) fo_93_1 rfl rfl) ?_
 refine Wl.q (v := Value.int .i64 0) (q_load sc_3 rfl (.cel (i := 0) rfl rfl)) ?_
 refine Wl.q (v := Value.int .i64 (-1)) (q_sub (c := (-1)) rfl rfl (by decide)) ?_
 refine Wl.q (v := Value.pointer (some ⟨c, 0, none⟩)) (q_nil_ptr rfl) ?_
 refine Wl.q (v := Value.pointer (some ⟨c, 1, none⟩)) (q_field (m := 1) fo_93_1 rfl rfl) ?_
 refine Wl.e (e_store (i := 0) (v := Value.int .i64 (-1)) sz_3 rfl rfl (fun _ _ => rfl) rfl (by simp)) (fun _ _ => ?_)
 refine Wl.imp (L' := (pt c 93 [Value.pointer (some ⟨p, 0, none⟩), Value.int .i64 (-1), Value.int .i64 bits]) :: (sl 122 2 sv since.length (flat since)) :: (pt p 82 ([Value.slice (some ⟨bs, 0, none⟩) secs.length secs.length, sv, Value.bool false, Value.int .i64 ((count : Nat) : Int), Value.func (.func 57) #[Value.pointer (some ⟨c, 0, none⟩)] #[]])) :: (pt bs 9 (secs.map Value.string)) :: F) (fun _ h => h) ?_
 refine Wl.done ?_
 refine Wx.go ?_
 refine Wc.seq ?_
 refine Wc.region ?_
 refine Wl.q (v := Value.pointer (some ⟨c, 0, none⟩)) (q_move rfl) ?_
 refine Wl.q (v := Value.pointer (some ⟨c, 0, none⟩)) (q_nil_ptr rfl) ?_
 refine Wl.q (v := Value.pointer (some ⟨c, 1, none⟩)) (q_field (m := 1) fo_93_1 rfl rfl) ?_
 refine Wl.q (v := Value.int .i64 (-1)) (q_load sc_3 rfl (.cel (i := 0) rfl rfl)) ?_
 refine Wl.q (v := Value.bool true) (q_lss (r := true) rfl rfl (decide_eq_true (by decide))) ?_
 refine Wl.done ?_
 refine Wx.go ?_
 refine Wc.yes rfl ?_
 refine Wc.seq ?_
 refine Wc.drawsS [8] ((pt c 93 [Value.pointer (some ⟨p, 0, none⟩), Value.int .i64 (-1), Value.int .i64 bits]) :: (sl 122 2 sv since.length (flat since)) :: (pt p 82 ([Value.slice (some ⟨bs, 0, none⟩) secs.length secs.length, sv, Value.bool false, Value.int .i64 ((count : Nat) : Int), Value.func (.func 57) #[Value.pointer (some ⟨c, 0, none⟩)] #[]])) :: (pt bs 9 (secs.map Value.string)) :: []) (by kernel_rfl) ?_
 refine Wr.pure (v := Value.pointer (some ⟨c, 0, none⟩)) 0 rfl (by kernel_rfl) (.inr (fun _ h => st_take [0, 0, 0, 0] h)) (.inl ⟨rfl, fun _ => q_move rfl⟩) ?_
 refine Wr.pure (v := Value.pointer (some ⟨c, 0, none⟩)) 1 rfl (by kernel_rfl) (.inr (fun _ h => st_take [0, 0, 0, 0] h)) (.inl ⟨rfl, fun _ => q_nil_ptr rfl⟩) ?_
 refine Wr.pure (v := Value.pointer (some ⟨c, 0, none⟩)) 2 rfl (by kernel_rfl) (.inr (fun _ h => st_take [0, 0, 0, 0] h)) (.inl ⟨rfl, fun _ => q_field (m := 0) fo_93_0 rfl rfl⟩) ?_
 refine Wr.take (v := Value.pointer (some ⟨p, 0, none⟩)) 3 rfl (by kernel_rfl) (fun _ h => st_take [0, 0, 0, 0] h) (.inl ⟨rfl, q_load sc_33 rfl (.cel (i := 0) rfl rfl)⟩) ?_
 refine Wr.pure (v := Value.pointer (some ⟨c, 0, none⟩)) 4 rfl (by kernel_rfl) (.inr (fun _ h => st_take [0, 0, 0, 0] h)) (.inl ⟨rfl, fun _ => q_move rfl⟩) ?_
 refine Wr.pure (v := Value.pointer (some ⟨c, 0, none⟩)) 5 rfl (by kernel_rfl) (.inr (fun _ h => st_take [0, 0, 0, 0] h)) (.inl ⟨rfl, fun _ => q_nil_ptr rfl⟩) ?_
 refine Wr.pure (v := Value.pointer (some ⟨c, 2, none⟩)) 6 rfl (by kernel_rfl) (.inr (fun _ h => st_take [0, 0, 0, 0] h)) (.inl ⟨rfl, fun _ => q_field (m := 2) fo_93_2 rfl rfl⟩) ?_
 refine Wr.take (v := Value.int .i64 bits) 7 rfl (by kernel_rfl) (fun _ h => st_take [0, 0, 0, 0] h) (.inl ⟨rfl, q_load sc_2 rfl (.cel (i := 0) rfl rfl)⟩) ?_
 refine Wr.imp (L' := (sl 122 2 sv since.length (flat since)) :: (pt p 82 ([Value.slice (some ⟨bs, 0, none⟩) secs.length secs.length, sv, Value.bool false, Value.int .i64 ((count : Nat) : Int), Value.func (.func 57) #[Value.pointer (some ⟨c, 0, none⟩)] #[]])) :: (pt bs 9 (secs.map Value.string)) :: (pt c 93 [Value.pointer (some ⟨p, 0, none⟩), Value.int .i64 (-1), Value.int .i64 bits]) :: F) (fun _ h => st_pull [1, 1, 1] h) ?_
 refine Wr.e 8 (by kernel_rfl) rfl (e_call (F := (pt c 93 [Value.pointer (some ⟨p, 0, none⟩), Value.int .i64 (-1), Value.int .i64 bits]) :: F) (args := [Value.pointer (some ⟨p, 0, none⟩), Value.int .i64 bits]) Tryz.call59 rfl (fall_c W0 p bs secs since false count (Value.func (.func 57) #[Value.pointer (some ⟨c, 0, none⟩)] #[]) bits hw sv)) (.inl (by kernel_rfl)) (fun _ _ => ?_)
 refine Wr.imp (L' := (pt p 82 ([Value.slice (some ⟨bs, 0, none⟩) secs.length secs.length, Value.slice none 0 0, Value.bool true, Value.int .i64 ((count : Nat) : Int), Value.func (.func 47) #[Value.pointer (some ⟨p, 0, none⟩)] #[]])) :: (pt bs 9 ((fallL secs (since.take 31) bits).map Value.string)) :: (pt c 93 [Value.pointer (some ⟨p, 0, none⟩), Value.int .i64 (-1), Value.int .i64 bits]) :: F) (fun _ h => h) ?_
 refine Wr.rebaseS [] ((pt p 82 ([Value.slice (some ⟨bs, 0, none⟩) secs.length secs.length, Value.slice none 0 0, Value.bool true, Value.int .i64 ((count : Nat) : Int), Value.func (.func 47) #[Value.pointer (some ⟨p, 0, none⟩)] #[]])) :: (pt bs 9 ((fallL secs (since.take 31) bits).map Value.string)) :: (pt c 93 [Value.pointer (some ⟨p, 0, none⟩), Value.int .i64 (-1), Value.int .i64 bits]) :: []) (by kernel_rfl) ?_
 refine Wr.done (by kernel_rfl) ?_
 refine Wx.go ?_
 refine Wc.seq ?_
 refine Wc.region ?_
 refine Wl.q (v := Value.bool false) (q_assign rfl) ?_
 refine Wl.done ?_
 refine Wx.go ?_
 refine Wc.ret ?_
 refine Wx.thenRet ?_
 refine Wx.fin1 rfl (.inl rfl) (fun w hs => ?_)
 exact ⟨(), trivial, rfl, st_drop (st_pull [2] hs)⟩

theorem may_cutS (W0 : World) (p c n : Nat) (bits : Int) (hn : n < 9223372036854775807) :
  Con Tryz.prog W0 57 #[Value.pointer (some ⟨c, 0, none⟩)] [pt c 93 [Value.pointer (some ⟨p, 0, none⟩), Value.int .i64 (((n + 1) : Nat) : Int), Value.int .i64 bits]] (X := Unit) (fun _ => True) (fun _ => .bool true) (fun _ => [pt c 93 [Value.pointer (some ⟨p, 0, none⟩), Value.int .i64 ((n : Nat) : Int), Value.int .i64 bits]]) := by
 refine Con.of (args := [Value.pointer (some ⟨c, 0, none⟩)]) Tryz.func57 rfl Tryz.ntmps57 rfl (fun F => ?_)
 show Wc _ W0 _ _ _ _ _ ((pt c 93 [Value.pointer (some ⟨p, 0, none⟩), Value.int .i64 (((n + 1) : Nat) : Int), Value.int .i64 bits]) :: F)
 refine Wc.seq ?_
 refine Wc.region ?_
 refine Wl.q (v := Value.bool false) (q_assign rfl) ?_
 refine Wl.done ?_
 refine Wx.go ?_
 refine Wc.seq ?_
 refine Wc.seq ?_
 refine Wc.region ?_
 refine Wl.q (v := Value.pointer (some ⟨c, 0, none⟩)) (q_move rfl) ?_
 refine Wl.q (v := Value.pointer (some ⟨c, 0, none⟩)) (q_nil_ptr rfl) ?_
 refine Wl.q (v := Value.pointer (some ⟨c, 1, none⟩)) (q_field (m := 1) fo_93_1 rfl rfl) ?_
 refine Wl.q (v := Value.int .i64 (((n + 1) : Nat) : Int)) (q_load sc_3 rfl (.cel (i := 0) rfl rfl)) ?_
 refine Wl.q (v := Value.int .i64 ((n : Nat) : Int)) (q_sub (c := ((n : Nat) : Int)) rfl rfl (by rw [wrap_i64] <;> omega)) ?_
 refine Wl.q (v := Value.pointer (some ⟨c, 0, none⟩)) (q_nil_ptr rfl) ?_
 refine Wl.q (v := Value.pointer (some ⟨c, 1, none⟩)) (q_field (m := 1) fo_93_1 rfl rfl) ?_
 refine Wl.e (e_store (i := 0) (v := Value.int .i64 ((n : Nat) : Int)) sz_3 rfl rfl (fun _ _ => rfl) rfl (by simp)) (fun _ _ => ?_)
 refine Wl.imp (L' := (pt c 93 [Value.pointer (some ⟨p, 0, none⟩), Value.int .i64 ((n : Nat) : Int), Value.int .i64 bits]) :: F) (fun _ h => h) ?_
 refine Wl.done ?_
 refine Wx.go ?_
 refine Wc.seq ?_
 refine Wc.region ?_
 refine Wl.q (v := Value.pointer (some ⟨c, 0, none⟩)) (q_move rfl) ?_
 refine Wl.q (v := Value.pointer (some ⟨c, 0, none⟩)) (q_nil_ptr rfl) ?_
 refine Wl.q (v := Value.pointer (some ⟨c, 1, none⟩)) (q_field (m := 1) fo_93_1 rfl rfl) ?_
 refine Wl.q (v := Value.int .i64 ((n : Nat) : Int)) (q_load sc_3 rfl (.cel (i := 0) rfl rfl)) ?_
 refine Wl.q (v := Value.bool false) (q_lss (r := false) rfl rfl (decide_eq_false (by omega))) ?_
 refine Wl.done ?_
 refine Wx.go ?_
 refine Wc.no rfl ?_
 refine Wc.skip ?_
 refine Wx.go ?_
 refine Wc.seq ?_
 refine Wc.region ?_
 refine Wl.q (v := Value.bool true) (q_assign rfl) ?_
 refine Wl.done ?_
 refine Wx.go ?_
 refine Wc.ret ?_
 refine Wx.fin1 rfl (.inl rfl) (fun w hs => ?_)
 exact ⟨(), trivial, rfl, hs⟩

theorem do_alw (W0 : World) (p : Nat) (secsV sv : Value) (count : Nat) (hcount : count < 4611686018427387904) (fcl : Nat) (hcl : ∀ args w, (callFunc fcl args).run Tryz.prog w = .ok (.enter fcl args) w) (vs : List Value) (R : List HP) {Y : Type} (M : Y → List HP) (hS : Con Tryz.prog W0 fcl vs.toArray [pt p 82 ([secsV, sv, Value.bool false, Value.int .i64 (((count + 1) : Nat) : Int), Value.func (.func 47) #[Value.pointer (some ⟨p, 0, none⟩)] #[]]), grp R] (X := Y) (fun _ => True) (fun _ => .tuple #[]) M) :
  Con Tryz.prog W0 118 #[Value.pointer (some ⟨p, 0, none⟩), .func (.func fcl) #[] vs.toArray] [pt p 82 ([secsV, sv, Value.bool false, Value.int .i64 ((count : Nat) : Int), Value.func (.func 47) #[Value.pointer (some ⟨p, 0, none⟩)] #[]]), grp R] (X := Y) (fun _ => True) (fun _ => .int .i64 0) (fun y => [grp (M y)]) := by
 refine Con.of (args := [Value.pointer (some ⟨p, 0, none⟩), .func (.func fcl) #[] vs.toArray]) Tryz.func118 rfl Tryz.ntmps118 rfl (fun F => ?_)
 show Wc _ W0 _ _ _ _ _ ((pt p 82 ([secsV, sv, Value.bool false, Value.int .i64 ((count : Nat) : Int), Value.func (.func 47) #[Value.pointer (some ⟨p, 0, none⟩)] #[]])) :: (grp R) :: F)
 refine Wc.seq ?_
 refine Wc.region ?_
 refine Wl.q (v := Value.int .i64 0) (q_assign rfl) ?_
 refine Wl.done ?_
 refine Wx.go ?_
 refine Wc.seq ?_
 refine Wc.seq ?_
 refine Wc.region ?_
 refine Wl.q (v := Value.pointer (some ⟨p, 0, none⟩)) (q_move rfl) ?_
 refine Wl.q (v := Value.pointer (some ⟨p, 0, none⟩)) (q_nil_ptr rfl) ?_
 refine Wl.q (v := Value.pointer (some ⟨p, 4, none⟩)) (q_field (m := 4) fo_82_4 rfl rfl) ?_
 refine Wl.q (v := Value.func (.func 47) #[Value.pointer (some ⟨p, 0, none⟩)] #[]) (q_load sc_31 rfl (.cel (i := 0) rfl rfl)) ?_
 refine Wl.e (e_callv (F := (pt p 82 ([secsV, sv, Value.bool false, Value.int .i64 ((count : Nat) : Int), Value.func (.func 47) #[Value.pointer (some ⟨p, 0, none⟩)] #[]])) :: (grp R) :: F) (args := [Value.pointer (some ⟨p, 0, none⟩)]) (mid := []) rfl Tryz.call47 rfl rfl (always_c W0 (Value.pointer (some ⟨p, 0, none⟩)))) (fun _ _ => ?_)
 refine Wl.imp (L' := (pt p 82 ([secsV, sv, Value.bool false, Value.int .i64 ((count : Nat) : Int), Value.func (.func 47) #[Value.pointer (some ⟨p, 0, none⟩)] #[]])) :: (grp R) :: F) (fun _ h => h) ?_
 refine Wl.q (v := Value.bool false) (q_not rfl rfl) ?_
 refine Wl.done ?_
 refine Wx.go ?_
 refine Wc.no rfl ?_
 refine Wc.skip ?_
 refine Wx.go ?_
 refine Wc.seq ?_
 refine Wc.region ?_
 refine Wl.q (v := Value.pointer (some ⟨p, 0, none⟩)) (q_move rfl) ?_
 refine Wl.q (v := Value.pointer (some ⟨p, 0, none⟩)) (q_nil_ptr rfl) ?_
 refine Wl.q (v := Value.pointer (some ⟨p, 3, none⟩)) (q_field (m := 3) fo_82_3 rfl rfl) ?_
 refine Wl.q (v := Value.int .i64 ((count : Nat) : Int)) (q_load sc_3 rfl (.cel (i := 0) rfl rfl)) ?_
 refine Wl.q (v := Value.int .i64 (((count + 1) : Nat) : Int)) (q_add (c := (((count + 1) : Nat) : Int)) rfl rfl (by rw [wrap_i64] <;> omega)) ?_
 refine Wl.q (v := Value.pointer (some ⟨p, 0, none⟩)) (q_nil_ptr rfl) ?_
 refine Wl.q (v := Value.pointer (some ⟨p, 3, none⟩)) (q_field (m := 3) fo_82_3 rfl rfl) ?_
 refine Wl.e (e_store (i := 0) (v := Value.int .i64 (((count + 1) : Nat) : Int)) sz_3 rfl rfl (fun _ _ => rfl) rfl (by simp)) (fun _ _ => ?_)
 refine Wl.imp (L' := (pt p 82 ([secsV, sv, Value.bool false, Value.int .i64 (((count + 1) : Nat) : Int), Value.func (.func 47) #[Value.pointer (some ⟨p, 0, none⟩)] #[]])) :: (grp R) :: F) (fun _ h => h) ?_
 refine Wl.done ?_
 refine Wx.go ?_
 refine Wc.seq ?_
 refine Wc.region ?_
 refine Wl.q (v := .func (.func fcl) #[] vs.toArray) (q_move rfl) ?_
 refine Wl.e (e_callv (F := F) (args := vs) (mid := []) rfl hcl rfl (by simp) hS) (fun y _ => ?_)
 refine Wl.imp (L' := (grp (M y)) :: F) (fun _ h => st_grp.2 h) ?_
 refine Wl.done ?_
 refine Wx.go ?_
 refine Wc.seq ?_
 refine Wc.region ?_
 refine Wl.q (v := Value.int .i64 0) (q_assign rfl) ?_
 refine Wl.done ?_
 refine Wx.go ?_
 refine Wc.ret ?_
 refine Wx.fin1 rfl (.inl rfl) (fun w hs => ?_)
 exact ⟨y, trivial, rfl, hs⟩

theorem do_cutS (W0 : World) (p : Nat) (secsV sv : Value) (count : Nat) (hcount : count < 4611686018427387904) (fcl : Nat) (hcl : ∀ args w, (callFunc fcl args).run Tryz.prog w = .ok (.enter fcl args) w) (vs : List Value) (R : List HP) {Y : Type} (M : Y → List HP) (c n : Nat) (bits : Int) (hn : n < 9223372036854775807) (hS : Con Tryz.prog W0 fcl vs.toArray [pt p 82 ([secsV, sv, Value.bool false, Value.int .i64 (((count + 1) : Nat) : Int), Value.func (.func 57) #[Value.pointer (some ⟨c, 0, none⟩)] #[]]), grp R] (X := Y) (fun _ => True) (fun _ => .tuple #[]) M) :
  Con Tryz.prog W0 118 #[Value.pointer (some ⟨p, 0, none⟩), .func (.func fcl) #[] vs.toArray] [pt p 82 ([secsV, sv, Value.bool false, Value.int .i64 ((count : Nat) : Int), Value.func (.func 57) #[Value.pointer (some ⟨c, 0, none⟩)] #[]]), grp R, pt c 93 [Value.pointer (some ⟨p, 0, none⟩), Value.int .i64 (((n + 1) : Nat) : Int), Value.int .i64 bits]] (X := Y) (fun _ => True) (fun _ => .int .i64 0) (fun y => [grp (M y), pt c 93 [Value.pointer (some ⟨p, 0, none⟩), Value.int .i64 ((n : Nat) : Int), Value.int .i64 bits]]) := by
 refine Con.of (args := [Value.pointer (some ⟨p, 0, none⟩), .func (.func fcl) #[] vs.toArray]) Tryz.func118 rfl Tryz.ntmps118 rfl (fun F => ?_)
 show Wc _ W0 _ _ _ _ _ ((pt p 82 ([secsV, sv, Value.bool false, Value.int .i64 ((count : Nat) : Int), Value.func (.func 57) #[Value.pointer (some ⟨c, 0, none⟩)] #[]])) :: (grp R) :: (pt c 93 [Value.pointer (some ⟨p, 0, none⟩), Value.int .i64 (((n + 1) : Nat) : Int), Value.int .i64 bits]) :: F)
 refine Wc.seq ?_
 refine Wc.region ?_
 refine Wl.q (v := Value.int .i64 0) (q_assign rfl) ?_
 refine Wl.done ?_
 refine Wx.go ?_
 refine Wc.seq ?_
 refine Wc.seq ?_
 refine Wc.region ?_
 refine Wl.q (v := Value.pointer (some ⟨p, 0, none⟩)) (q_move rfl) ?_
 refine Wl.q (v := Value.pointer (some ⟨p, 0, none⟩)) (q_nil_ptr rfl) ?_
 refine Wl.q (v := Value.pointer (some ⟨p, 4, none⟩)) (q_field (m := 4) fo_82_4 rfl rfl) ?_
 refine Wl.q (v := Value.func (.func 57) #[Value.pointer (some ⟨c, 0, none⟩)] #[]) (q_load sc_31 rfl (.cel (i := 0) rfl rfl)) ?_
 refine Wl.imp (L' := (pt c 93 [Value.pointer (some ⟨p, 0, none⟩), Value.int .i64 (((n + 1) : Nat) : Int), Value.int .i64 bits]) :: (pt p 82 ([secsV, sv, Value.bool false, Value.int .i64 ((count : Nat) : Int), Value.func (.func 57) #[Value.pointer (some ⟨c, 0, none⟩)] #[]])) :: (grp R) :: F) (fun _ h => st_pull [2] h) ?_
 refine Wl.e (e_callv (F := (pt p 82 ([secsV, sv, Value.bool false, Value.int .i64 ((count : Nat) : Int), Value.func (.func 57) #[Value.pointer (some ⟨c, 0, none⟩)] #[]])) :: (grp R) :: F) (args := [Value.pointer (some ⟨c, 0, none⟩)]) (mid := []) rfl Tryz.call57 rfl rfl (may_cutS W0 p c n bits hn)) (fun _ _ => ?_)
 refine Wl.imp (L' := (pt c 93 [Value.pointer (some ⟨p, 0, none⟩), Value.int .i64 ((n : Nat) : Int), Value.int .i64 bits]) :: (pt p 82 ([secsV, sv, Value.bool false, Value.int .i64 ((count : Nat) : Int), Value.func (.func 57) #[Value.pointer (some ⟨c, 0, none⟩)] #[]])) :: (grp R) :: F) (fun _ h => h) ?_
 refine Wl.q (v := Value.bool false) (q_not rfl rfl) ?_
 refine Wl.done ?_
 refine Wx.go ?_
 refine Wc.no rfl ?_
 refine Wc.skip ?_
 refine Wx.go ?_
 refine Wc.seq ?_
 refine Wc.region ?_
 refine Wl.q (v := Value.pointer (some ⟨p, 0, none⟩)) (q_move rfl) ?_
 refine Wl.q (v := Value.pointer (some ⟨p, 0, none⟩)) (q_nil_ptr rfl) ?_
 refine Wl.q (v := Value.pointer (some ⟨p, 3, none⟩)) (q_field (m := 3) fo_82_3 rfl rfl) ?_
 refine Wl.q (v := Value.int .i64 ((count : Nat) : Int)) (q_load sc_3 rfl (.cel (i := 1) rfl rfl)) ?_
 refine Wl.q (v := Value.int .i64 (((count + 1) : Nat) : Int)) (q_add (c := (((count + 1) : Nat) : Int)) rfl rfl (by rw [wrap_i64] <;> omega)) ?_
 refine Wl.q (v := Value.pointer (some ⟨p, 0, none⟩)) (q_nil_ptr rfl) ?_
 refine Wl.q (v := Value.pointer (some ⟨p, 3, none⟩)) (q_field (m := 3) fo_82_3 rfl rfl) ?_
 refine Wl.e (e_store (i := 1) (v := Value.int .i64 (((count + 1) : Nat) : Int)) sz_3 rfl rfl (fun _ _ => rfl) rfl (by simp)) (fun _ _ => ?_)
 refine Wl.imp (L' := (pt c 93 [Value.pointer (some ⟨p, 0, none⟩), Value.int .i64 ((n : Nat) : Int), Value.int .i64 bits]) :: (pt p 82 ([secsV, sv, Value.bool false, Value.int .i64 (((count + 1) : Nat) : Int), Value.func (.func 57) #[Value.pointer (some ⟨c, 0, none⟩)] #[]])) :: (grp R) :: F) (fun _ h => h) ?_
 refine Wl.done ?_
 refine Wx.go ?_
 refine Wc.seq ?_
 refine Wc.region ?_
 refine Wl.q (v := .func (.func fcl) #[] vs.toArray) (q_move rfl) ?_
 refine Wl.imp (L' := (pt p 82 ([secsV, sv, Value.bool false, Value.int .i64 (((count + 1) : Nat) : Int), Value.func (.func 57) #[Value.pointer (some ⟨c, 0, none⟩)] #[]])) :: (grp R) :: (pt c 93 [Value.pointer (some ⟨p, 0, none⟩), Value.int .i64 ((n : Nat) : Int), Value.int .i64 bits]) :: F) (fun _ h => st_pull [1, 1] h) ?_
 refine Wl.e (e_callv (F := (pt c 93 [Value.pointer (some ⟨p, 0, none⟩), Value.int .i64 ((n : Nat) : Int), Value.int .i64 bits]) :: F) (args := vs) (mid := []) rfl hcl rfl (by simp) hS) (fun y _ => ?_)
 refine Wl.imp (L' := (grp (M y)) :: (pt c 93 [Value.pointer (some ⟨p, 0, none⟩), Value.int .i64 ((n : Nat) : Int), Value.int .i64 bits]) :: F) (fun _ h => st_grp.2 h) ?_
 refine Wl.done ?_
 refine Wx.go ?_
 refine Wc.seq ?_
 refine Wc.region ?_
 refine Wl.q (v := Value.int .i64 0) (q_assign rfl) ?_
 refine Wl.done ?_
 refine Wx.go ?_
 refine Wc.ret ?_
 refine Wx.fin1 rfl (.inl rfl) (fun w hs => ?_)
 exact ⟨y, trivial, rfl, hs⟩

theorem do_cut0 (W0 : World) (p bs : Nat) (secs : List ByteArray) (since : List (Nat × ByteArray)) (count : Nat) (bits : Int) (hw : WFl secs since) (c : Nat) (sv fv : Value) :
  Con Tryz.prog W0 118 #[Value.pointer (some ⟨p, 0, none⟩), fv] [pt c 93 [Value.pointer (some ⟨p, 0, none⟩), Value.int .i64 0, Value.int .i64 bits], sl 122 2 sv since.length (flat since), pt p 82 ([Value.slice (some ⟨bs, 0, none⟩) secs.length secs.length, sv, Value.bool false, Value.int .i64 ((count : Nat) : Int), Value.func (.func 57) #[Value.pointer (some ⟨c, 0, none⟩)] #[]]), pt bs 9 (secs.map Value.string)] (X := Unit) (fun _ => True) (fun _ => .int .i64 6) (fun _ => [pt p 82 ([Value.slice (some ⟨bs, 0, none⟩) secs.length secs.length, Value.slice none 0 0, Value.bool true, Value.int .i64 ((count : Nat) : Int), Value.func (.func 47) #[Value.pointer (some ⟨p, 0, none⟩)] #[]]), pt bs 9 ((fallL secs (since.take 31) bits).map Value.string)]) := by
 refine Con.of (args := [Value.pointer (some ⟨p, 0, none⟩), fv]) Tryz.func118 rfl Tryz.ntmps118 rfl (fun F => ?_)
 show Wc _ W0 _ _ _ _ _ ((pt c 93 [Value.pointer (some ⟨p, 0, none⟩), Value.int .i64 0, Value.int .i64 bits]) :: (sl 122 2 sv since.length (flat since)) :: (pt p 82 ([Value.slice (some ⟨bs, 0, none⟩) secs.length secs.length, sv, Value.bool false, Value.int .i64 ((count : Nat) : Int), Value.func (.func 57) #[Value.pointer (some ⟨c, 0, none⟩)] #[]])) :: (pt bs 9 (secs.map Value.string)) :: F)
 refine Wc.seq ?_
 refine Wc.region ?_
 refine Wl.q (v := Value.int .i64 0) (q_assign rfl) ?_
 refine Wl.done ?_
 refine Wx.go ?_
 refine Wc.seq ?_
 refine Wc.seq ?_
 refine Wc.region ?_
 refine Wl.q (v := Value.pointer (some ⟨p, 0, none⟩)) (q_move rfl) ?_
 refine Wl.q (v := Value.pointer (some ⟨p, 0, none⟩)) (q_nil_ptr rfl) ?_
 refine Wl.q (v := Value.pointer (some ⟨p, 4, none⟩)) (q_field (m := 4) fo_82_4 rfl rfl) ?_
 refine Wl.q (v := Value.func (.func 57) #[Value.pointer (some ⟨c, 0, none⟩)] #[]) (q_load sc_31 rfl (.cel (i := 2) rfl rfl)) ?_
 refine Wl.e (e_callv (F := F) (args := [Value.pointer (some ⟨c, 0, none⟩)]) (mid := []) rfl Tryz.call57 rfl rfl (may_cut0 W0 p bs secs since count bits hw c sv)) (fun _ _ => ?_)
 refine Wl.imp (L' := (pt p 82 ([Value.slice (some ⟨bs, 0, none⟩) secs.length secs.length, Value.slice none 0 0, Value.bool true, Value.int .i64 ((count : Nat) : Int), Value.func (.func 47) #[Value.pointer (some ⟨p, 0, none⟩)] #[]])) :: (pt bs 9 ((fallL secs (since.take 31) bits).map Value.string)) :: F) (fun _ h => h) ?_
 refine Wl.q (v := Value.bool true) (q_not rfl rfl) ?_
 refine Wl.done ?_
 refine Wx.go ?_
 refine Wc.yes rfl ?_
 refine Wc.seq ?_
 refine Wc.region ?_
 refine Wl.q (v := Value.int .i64 6) (q_assign rfl) ?_
 refine Wl.done ?_
 refine Wx.go ?_
 refine Wc.ret ?_
 refine Wx.thenRet ?_
 refine Wx.fin1 rfl (.inl rfl) (fun w hs => ?_)
 exact ⟨(), trivial, rfl, hs⟩

end Go.Proofs.YtkndmgfahghcjaaGreat

