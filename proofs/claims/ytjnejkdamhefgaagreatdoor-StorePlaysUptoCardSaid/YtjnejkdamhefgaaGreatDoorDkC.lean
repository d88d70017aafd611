/- A part of the proof. -/
import Derived.Test.YtjnejkdamhefgaaGreatDoorDkM
import Derived.Test.YtjnejkdamhefgaaGreatDoorProg
namespace Go.Proofs.YtjnejkdamhefgaaGreatDoor
open Tryz
open Go Go.SL Go.Dk Go.RowKit
set_option linter.unusedVariables false
set_option maxRecDepth 8000
def mayR (p : Nat) (mv : Value) : Option (Nat × Int) → HP
 | none => pr (mv = .func (.func 30) #[.pointer (some ⟨p, 0, none⟩)] #[])
 | some (n, bits) => ex fun c => grp [pr (mv = .func (.func 49) #[.pointer (some ⟨c, 0, none⟩)] #[]), pt c 130 [.pointer (some ⟨p, 0, none⟩), .int .i64 (n : Int), .int .i64 bits]]
def isDisk (p : Nat) (d : DS) : HP := ex fun bs => ex fun sv => ex fun mv => grp [
 pt p 104 [.slice (some ⟨bs, 0, none⟩) d.secs.length d.secs.length, sv, .bool d.down, .int .i64 (d.count : Int), mv],
 pt bs 9 (d.secs.map Value.string), sl 166 2 sv d.since.length (flat d.since), mayR p mv d.cut]
theorem isDisk_mk {W0 w : World} {L : List HP} {p bs n : Nat} {sv mv : Value} {d : DS} (hn : n = d.secs.length)
  (h : st W0 w (pt p 104 [.slice (some ⟨bs, 0, none⟩) n n, sv, .bool d.down, .int .i64 (d.count : Int), mv] :: pt bs 9 (d.secs.map Value.string) :: sl 166 2 sv d.since.length (flat d.since) :: mayR p mv d.cut :: L)) :
  st W0 w (isDisk p d :: L) := by
 subst hn
 exact st_ex.2 ⟨bs, st_ex.2 ⟨sv, st_ex.2 ⟨mv, st_grp.2 h⟩⟩⟩
theorem isDisk_open {W0 w : World} {L : List HP} {p : Nat} {d : DS} (h : st W0 w (isDisk p d :: L)) : ∃ bs sv mv,
  st W0 w (pt p 104 [.slice (some ⟨bs, 0, none⟩) d.secs.length d.secs.length, sv, .bool d.down, .int .i64 (d.count : Int), mv] :: pt bs 9 (d.secs.map Value.string) :: sl 166 2 sv d.since.length (flat d.since) :: mayR p mv d.cut :: L) := by
 obtain ⟨bs, h⟩ := st_ex.1 h
 obtain ⟨sv, h⟩ := st_ex.1 h
 obtain ⟨mv, h⟩ := st_ex.1 h
 exact ⟨bs, sv, mv, st_grp.1 h⟩
theorem mayR_none {W0 w : World} {L : List HP} {p : Nat} (h : st W0 w L) : st W0 w (mayR p (.func (.func 30) #[.pointer (some ⟨p, 0, none⟩)] #[]) none :: L) := st_pr.2 ⟨rfl, h⟩
theorem mayR_some {W0 w : World} {L : List HP} {p c n : Nat} {bits : Int} (h : st W0 w (pt c 130 [.pointer (some ⟨p, 0, none⟩), .int .i64 (n : Int), .int .i64 bits] :: L)) :
  st W0 w (mayR p (.func (.func 49) #[.pointer (some ⟨c, 0, none⟩)] #[]) (some (n, bits)) :: L) := st_ex.2 ⟨c, st_grp.2 (st_pr.2 ⟨rfl, h⟩)⟩
theorem flat_has {W0 : World} {L : List HP} {b i e sz cap k : Nat} {l : List (Nat × ByteArray)} {q : Nat × ByteArray} (hi : L[i]? = some (slp e sz b cap (flat l))) (hk : l[k]? = some q) :
  ∀ j u, [Value.int .i64 (q.1 : Int), .string q.2][j]? = some u → Has W0 L b (k * 2 + j) u := fun j u hj => by
 obtain ⟨h1, h2⟩ := flat_get hk
 refine .row hi ?_
 match j with
 | 0 => simp at hj; rw [← hj]; exact h1
 | 1 => simp at hj; rw [← hj]; exact h2
 | j + 2 => simp at hj
theorem and3 (b : Int) : IntKind.i64.wrap ((BitVec.ofInt IntKind.i64.bits b &&& BitVec.ofInt IntKind.i64.bits 3).toNat) = b % 4 := by
 have h : (BitVec.ofInt 64 b &&& BitVec.ofInt 64 3).toNat = (b % 4).toNat := by
  rw [BitVec.toNat_and]
  have h3 : (BitVec.ofInt 64 3).toNat = 2 ^ 2 - 1 := by decide
  rw [h3, Nat.and_two_pow_sub_one_eq_mod]
  simp only [BitVec.toNat_ofInt]
  omega
 show IntKind.i64.wrap ((BitVec.ofInt 64 b &&& BitVec.ofInt 64 3).toNat) = b % 4
 rw [h, wrap_i64] <;> omega
theorem shr2 (b : Int) : b.fdiv (2 ^ min (Int.toNat 2) IntKind.i64.bits) = b / 4 := by
 show b.fdiv 4 = b / 4
 rw [Int.fdiv_eq_ediv_of_nonneg _ (by omega)]
theorem torn_idx (old s : ByteArray) (b : Int) :
  (#[Value.string old, .string s, .string (s.extract 0 32 ++ old.extract 32 old.size), .string (old.extract 0 32 ++ s.extract 32 s.size)] : Array Value)[(b % 4).toNat]? = some (.string (torn old s (b % 4))) := by
 have h : b % 4 = 0 ∨ b % 4 = 1 ∨ b % 4 = 2 ∨ b % 4 = 3 := by omega
 rcases h with h | h | h | h <;> rw [h] <;> rfl
theorem cat_bound {s u : ByteArray} {a b c d : Nat} (h1 : s.size = 64) (h2 : u.size = 64) : (s.extract a b).size + (u.extract c d).size ≤ 9223372036854775807 := by
 simp [ByteArray.size_extract]; omega
theorem disk_parts {W0 w : World} {L : List HP} {p : Nat} {mv : Value} {c : Option (Nat × Int)} (h : st W0 w (mayR p mv c :: L)) : ∃ fn us vs, mv = .func fn us vs := by
 cases c with
 | none => exact ⟨_, _, _, (st_pr.1 h).1⟩
 | some q => obtain ⟨c, h⟩ := st_ex.1 h; exact ⟨_, _, _, (st_pr.1 (st_grp.1 h)).1⟩
theorem Con.disk {P : Program} {W0 : World} {f : FuncId} {args : Array Value} {p : Nat} {d : DS} {pre : List HP} {X : Type} {φ : X → Prop} {val : X → Value} {post : X → List HP}
  (h : ∀ bs sv fn us vs, Con P W0 f args (pt p 104 [.slice (some ⟨bs, 0, none⟩) d.secs.length d.secs.length, sv, .bool d.down, .int .i64 (d.count : Int), .func fn us vs] :: pt bs 9 (d.secs.map Value.string) :: sl 166 2 sv d.since.length (flat d.since) :: mayR p (.func fn us vs) d.cut :: pre) φ val post) :
  Con P W0 f args (isDisk p d :: pre) φ val post := fun w F hs => by
 obtain ⟨bs, sv, mv, hs⟩ := isDisk_open hs
 obtain ⟨fn, us, vs, rfl⟩ := disk_parts (st_drop (st_drop (st_drop hs)))
 exact h bs sv fn us vs w F hs
theorem Con.alw {P : Program} {W0 : World} {f : FuncId} {args : Array Value} {p : Nat} {d : DS} {pre : List HP} {X : Type} {φ : X → Prop} {val : X → Value} {post : X → List HP} (hc : d.cut = none)
  (h : ∀ bs sv, Con P W0 f args (pt p 104 [.slice (some ⟨bs, 0, none⟩) d.secs.length d.secs.length, sv, .bool d.down, .int .i64 (d.count : Int), .func (.func 30) #[.pointer (some ⟨p, 0, none⟩)] #[]] :: pt bs 9 (d.secs.map Value.string) :: sl 166 2 sv d.since.length (flat d.since) :: pre) φ val post) :
  Con P W0 f args (isDisk p d :: pre) φ val post := fun w F hs => by
 obtain ⟨bs, sv, mv, hs⟩ := isDisk_open hs
 rw [hc] at hs
 have h3 := st_pull [3] hs
 obtain ⟨rfl, h4⟩ := st_pr.1 h3
 exact h bs sv w F h4
theorem Con.cutd {P : Program} {W0 : World} {f : FuncId} {args : Array Value} {p n : Nat} {bits : Int} {d : DS} {pre : List HP} {X : Type} {φ : X → Prop} {val : X → Value} {post : X → List HP} (hc : d.cut = some (n, bits))
  (h : ∀ bs sv c, Con P W0 f args (pt p 104 [.slice (some ⟨bs, 0, none⟩) d.secs.length d.secs.length, sv, .bool d.down, .int .i64 (d.count : Int), .func (.func 49) #[.pointer (some ⟨c, 0, none⟩)] #[]] :: pt bs 9 (d.secs.map Value.string) :: sl 166 2 sv d.since.length (flat d.since) :: pt c 130 [.pointer (some ⟨p, 0, none⟩), .int .i64 (n : Int), .int .i64 bits] :: pre) φ val post) :
  Con P W0 f args (isDisk p d :: pre) φ val post := fun w F hs => by
 obtain ⟨bs, sv, mv, hs⟩ := isDisk_open hs
 rw [hc] at hs
 have h3 := st_pull [3] hs
 obtain ⟨c, h3⟩ := st_ex.1 h3
 obtain ⟨rfl, h4⟩ := st_pr.1 (st_grp.1 h3)
 exact h bs sv c w F (st_pull [1, 1, 1, 0] h4)
theorem fo_104_4 : fieldOff prog 104 4 = some 4 := by kernel_rfl
theorem sc_32 : scalar prog 32 = true := by kernel_rfl
theorem fo_104_2 : fieldOff prog 104 2 = some 2 := by kernel_rfl
theorem sc_4 : scalar prog 4 = true := by kernel_rfl
theorem fo_104_1 : fieldOff prog 104 1 = some 1 := by kernel_rfl
theorem sc_58 : scalar prog 58 = true := by kernel_rfl
theorem se_58 : sliceElem prog 58 = some (166, 2) := by kernel_rfl
theorem ag_166 : aggSize prog 166 = some 2 := by kernel_rfl
theorem zo_166 : zeroOf prog 166 = some (Value.agg #[Value.int .i64 0, Value.string (⟨#[]⟩)]) := by kernel_rfl
theorem sz_166 : sizeIs prog 166 = some 2 := by kernel_rfl
theorem fo_104_0 : fieldOff prog 104 0 = some 0 := by kernel_rfl
theorem sc_57 : scalar prog 57 = true := by kernel_rfl
theorem fo_166_0 : fieldOff prog 166 0 = some 0 := by kernel_rfl
theorem sc_3 : scalar prog 3 = true := by kernel_rfl
theorem se_57 : sliceElem prog 57 = some (9, 1) := by kernel_rfl
theorem sc_9 : scalar prog 9 = true := by kernel_rfl
theorem fo_166_1 : fieldOff prog 166 1 = some 1 := by kernel_rfl
theorem zo_169 : zeroOf prog 169 = some (Value.agg #[Value.string (⟨#[]⟩), Value.string (⟨#[]⟩), Value.string (⟨#[]⟩), Value.string (⟨#[]⟩)]) := by kernel_rfl
theorem sz_9 : sizeIs prog 9 = some 1 := by kernel_rfl
theorem sz_58 : sizeIs prog 58 = some 1 := by kernel_rfl
theorem sz_4 : sizeIs prog 4 = some 1 := by kernel_rfl
theorem sz_32 : sizeIs prog 32 = some 1 := by kernel_rfl
theorem fo_130_1 : fieldOff prog 130 1 = some 1 := by kernel_rfl
theorem sz_3 : sizeIs prog 3 = some 1 := by kernel_rfl
theorem fo_130_0 : fieldOff prog 130 0 = some 0 := by kernel_rfl
theorem sc_25 : scalar prog 25 = true := by kernel_rfl
theorem fo_130_2 : fieldOff prog 130 2 = some 2 := by kernel_rfl
theorem sc_2 : scalar prog 2 = true := by kernel_rfl
theorem fo_104_3 : fieldOff prog 104 3 = some 3 := by kernel_rfl
theorem there_yes (W0 : World) (p : Nat) (a b c d : Value) (fn : Fn) (us vs : Array Value) :
  Con1 prog W0 52 #[Vp p] [pt p 104 [a, b, c, d, .func fn us vs]] (.bool true) ([pt p 104 [a, b, c, d, .func fn us vs]]) := by
 refine Con.of func52 rfl ntmps52 rfl (fun F => ?_)
 refine Wc.a 1 rfl (Wc.b 1 rfl (Wl.q (q_neq_nil (r := false) rfl rfl underlying25 rfl) (Wl.run 3 rfl (Wl.q (q_field fo_104_4 rfl rfl) (Wl.q (q_c 0 sc_32 rfl rfl rfl) (Wl.q (q_neq_func rfl rfl underlying32 rfl) (Wl.rg 2 rfl (Wc.ret (Wx.f1 rfl (fun w hs => ?_))))))))))
 exact ⟨(), trivial, rfl, hs⟩
theorem state_up (W0 : World) (p : Nat) (a b d : Value) (fn : Fn) (us vs : Array Value) :
  Con1 prog W0 48 #[Vp p] [pt p 104 [a, b, Vf, d, .func fn us vs]] (.int .i64 0) ([pt p 104 [a, b, Vf, d, .func fn us vs]]) := by
 refine Con.of func48 rfl ntmps48 rfl (fun F => ?_)
 show Wc _ W0 _ _ _ _ _ ((pt p 104 [a, b, Vf, d, .func fn us vs]) :: F)
 refine Wc.a 1 rfl (Wc.seq (Wc.block (Wc.b 1 rfl (Wl.e (e_c call52 (there_yes W0 p (a) (b) (Vf) (d) fn us vs)) (fun _ _ => Wl.q (q_not rfl rfl) (Wl.rg 1 rfl (Wc.no rfl (Wc.b 2 rfl (Wl.q (q_field fo_104_2 rfl rfl) (Wl.q (q_c 0 sc_4 rfl rfl rfl) (Wl.rg 1 rfl (Wc.no rfl (Wc.skip (Wx.blockEnd (Wx.go (Wc.a 1 rfl (Wc.ret (Wx.f1 rfl (fun w hs => ?_)))))))))))))))))))
 exact ⟨(), trivial, rfl, hs⟩
theorem state_down (W0 : World) (p : Nat) (a b d : Value) (fn : Fn) (us vs : Array Value) :
  Con1 prog W0 48 #[Vp p] [pt p 104 [a, b, Vt, d, .func fn us vs]] (.int .i64 6) ([pt p 104 [a, b, Vt, d, .func fn us vs]]) := by
 refine Con.of func48 rfl ntmps48 rfl (fun F => ?_)
 show Wc _ W0 _ _ _ _ _ ((pt p 104 [a, b, Vt, d, .func fn us vs]) :: F)
 refine Wc.a 1 rfl (Wc.seq (Wc.block (Wc.b 1 rfl (Wl.e (e_c call52 (there_yes W0 p (a) (b) (Vt) (d) fn us vs)) (fun _ _ => Wl.q (q_not rfl rfl) (Wl.rg 1 rfl (Wc.no rfl (Wc.b 2 rfl (Wl.q (q_field fo_104_2 rfl rfl) (Wl.q (q_c 0 sc_4 rfl rfl rfl) (Wl.rg 1 rfl (Wc.yes rfl (Wc.a 1 rfl (Wc.ret (Wx.blockRet (Wx.thenRet (Wx.f1 rfl (fun w hs => ?_))))))))))))))))))
 exact ⟨(), trivial, rfl, hs⟩
theorem always_c (W0 : World) (v : Value) :
  Con1 prog W0 30 #[v] [] (.bool true) [] := by
 refine Con.of func30 rfl ntmps30 rfl (fun F => ?_)
 refine Wc.a 1 rfl (Wc.a 1 rfl (Wc.ret (Wx.f1 rfl (fun w hs => ?_))))
 exact ⟨(), trivial, rfl, hs⟩
set_option maxRecDepth 4000 in
theorem fall_blk (W0 : World) (p bs : Nat) (secs : List ByteArray) (since : List (Nat × ByteArray)) (down : Bool) (count : Nat) (mv : Value) (bits : Int) (hw : WFl secs since) (b cap : Nat) (hcap : since.length ≤ cap) :
    Con prog W0 50 #[Vp p, Vi bits] [slp 166 2 b cap (flat since), pt p 104 [Vl bs secs.length secs.length, Vl b since.length cap, Value.bool down, Vi ((count : Nat) : Int), mv], pt bs 9 (secs.map Value.string)] (X := Unit) (fun _ => True) (fun _ => .tuple #[]) (fun _ => [pt p 104 ([Vl bs secs.length secs.length, Vn, Vt, Vi ((count : Nat) : Int), Value.func (.func 30) #[Vp p] #[]]), pt bs 9 ((fallL secs (since.take 31) bits).map Value.string)]) := by
  refine Con.of func50 rfl ntmps50 rfl (fun F => ?_)
  show Wc _ W0 _ _ _ _ _ ((slp 166 2 b cap (flat since)) :: (pt p 104 [Vl bs secs.length secs.length, Vl b since.length cap, Value.bool down, Vi ((count : Nat) : Int), mv]) :: (pt bs 9 (secs.map Value.string)) :: F)
  refine Wc.seq (Wc.seq (Wc.drawsS [] ((slp 166 2 b cap (flat since)) :: (pt p 104 [Vl bs secs.length secs.length, Vl b since.length cap, Value.bool down, Vi ((count : Nat) : Int), mv]) :: (pt bs 9 (secs.map Value.string)) :: []) (by kernel_rfl) (Wr.p 0 oo3 rfl (q_move rfl) (Wr.p 1 oo3 rfl (q_nil_ptr rfl) (Wr.p 2 oo3 rfl (q_field fo_104_1 rfl rfl) (Wr.t 3 oo3 rfl (q_c 1 sc_58 rfl rfl rfl) (Wr.p 4 oo3 rfl (q_move rfl) (Wr.p 5 oo3 rfl (q_nil_ptr rfl) (Wr.p 6 oo3 rfl (q_field fo_104_1 rfl rfl) (Wr.t 7 oo3 rfl (q_c 1 sc_58 rfl rfl rfl) (Wr.t 8 oo3 rfl (q_len_slice underlying58 rfl) (Wr.t 9 oo3 rfl (q_min (c := (((min since.length 31) : Nat) : Int)) rfl rfl (by omega)) (Wr.p 10 oo3 rfl (q_slice_low (h := (min since.length 31)) se_58 rfl rfl ⟨_, rfl⟩ (by omega) (by omega)) (Wr.t 11 oo3 rfl (q_len_slice underlying58 rfl) (Wr.p 12 oo3 rfl (q_move rfl) (Wr.z (Wx.go (Wc.block ?_))))))))))))))))))
  refine Wc.loop (X := Nat × List ByteArray × Int) (fun (k, ss, bb) E => E 19 = Vi ((k : Nat) : Int) ∧ E 1 = Vi bb ∧ E 0 = Vp p ∧ E 17 = Vl b (min since.length 31) cap ∧ E 18 = Vi (((min since.length 31) : Nat) : Int) ∧ fallL ss ((since.take 31).drop k) bb = fallL secs (since.take 31) bits ∧ ss.length = secs.length ∧ (∀ s ∈ ss, s.size = 64) ∧ k ≤ min since.length 31) (fun (k, ss, bb) => (slp 166 2 b cap (flat since)) :: (pt p 104 [Vl bs secs.length secs.length, Vl b since.length cap, Value.bool down, Vi ((count : Nat) : Int), mv]) :: (pt bs 9 (ss.map Value.string)) :: F) (fun (k, ss, bb) => 31 - k) (0, secs, bits) ?_ ?_ ?_
  · exact ⟨rfl, rfl, rfl, rfl, rfl, rfl, rfl, hw.size, (by omega)⟩
  · exact fun w hs => hs
  · rintro ⟨k, ss, bb⟩ E2 ⟨hE19_0, hE1_0, hE0_0, hE17_0, hE18_0, hp0, hp1, hp2, hp3⟩
    dsimp only at *
    refine Wc.sr ?_
    by_cases hlt : ((k : Nat) : Int) < (((min since.length 31) : Nat) : Int)
    ·
      obtain ⟨⟨a, s⟩, hget⟩ : ∃ q, since[k]? = some q := ⟨since[k]'(by omega), by simp [List.getElem?_eq_getElem (show k < since.length by omega)]⟩
      have hmem := List.mem_of_getElem? hget
      have ha : a < ss.length := by have := hw.at_ _ hmem; simp only at this; omega
      have hs : s.size = 64 := hw.size' _ hmem
      have hold : (ss.getD a default).size = 64 := by rw [List.getD_eq_getElem?_getD, List.getElem?_eq_getElem ha]; exact hp2 _ (List.getElem_mem ha)
      refine Wl.q (q_lss hE19_0 hE18_0 (dt hlt)) (Wl.dg (Wc.seq (Wc.yes rfl (Wc.skip (Wx.go (Wc.seq (Wc.block (Wc.sr (Wl.q (q_idx (m := k * 2) se_58 hE17_0 hE19_0 (by omega) (by omega) (by simp)) (Wl.q (v := Value.agg #[Vi ((a : Nat) : Int), Vs s]) (q_loadAgg (vs := [Vi ((a : Nat) : Int), Vs s]) ag_166 rfl (flat_has (i := 0) rfl hget)) (Wl.e (e_alloc (vs := [Vi 0, Vs (⟨#[]⟩)]) zo_166 rfl) (fun bx _ => Wl.e (e_storeAgg (i := 0) (vs := [Vi ((a : Nat) : Int), Vs s]) (c' := [Vi ((a : Nat) : Int), Vs s]) sz_166 rfl rfl rfl rfl (by simp) rfl) (fun _ _ => Wl.dg (Wc.seq (Wc.drawsS [] ((pt bx 166 [Vi ((a : Nat) : Int), Vs s]) :: (slp 166 2 b cap (flat since)) :: (pt p 104 [Vl bs secs.length secs.length, Vl b since.length cap, Value.bool down, Vi ((count : Nat) : Int), mv]) :: (pt bs 9 (ss.map Value.string)) :: []) (by kernel_rfl) (Wr.p 0 oo4 rfl (q_move hE0_0) (Wr.p 1 oo4 rfl (q_nil_ptr rfl) (Wr.p 2 oo4 rfl (q_field fo_104_0 rfl rfl) (Wr.t 3 oo4 rfl (q_c 2 sc_57 rfl rfl rfl) (Wr.p 4 oo4 rfl (q_field fo_166_0 rfl rfl) (Wr.t 5 oo4 rfl (q_c 0 sc_3 rfl rfl rfl) (Wr.p 6 oo4 rfl (q_idx (m := a) se_57 rfl rfl (by omega) (by omega) (by simp)) (Wr.t (v := Vs (ss.getD a default)) 7 oo4 rfl (q_load sc_9 rfl (.cel (i := 3) rfl (map_get ha))) ?_)))))))))))))))))))))))
      refine Wr.p 8 oo4 rfl (q_assign rfl) (Wr.z (Wx.go (Wc.seq (Wc.drawsS [26] ((pt bx 166 [Vi ((a : Nat) : Int), Vs s]) :: (slp 166 2 b cap (flat since)) :: (pt p 104 [Vl bs secs.length secs.length, Vl b since.length cap, Value.bool down, Vi ((count : Nat) : Int), mv]) :: (pt bs 9 (ss.map Value.string)) :: []) (by kernel_rfl) (Wr.p 0 oo4 rfl (q_move hE0_0) (Wr.p 1 oo4 rfl (q_nil_ptr rfl) (Wr.p 2 oo4 rfl (q_field fo_104_0 rfl rfl) (Wr.t 3 oo4 rfl (q_c 2 sc_57 rfl rfl rfl) (Wr.p 4 oo4 rfl (q_field fo_166_0 rfl rfl) (Wr.t 5 oo4 rfl (q_c 0 sc_3 rfl rfl rfl) (Wr.p 6 oo4 rfl (q_move rfl) (Wr.p 7 oo4 rfl (q_field fo_166_1 rfl rfl) (Wr.t 8 oo4 rfl (q_c 0 sc_9 rfl rfl rfl) (Wr.p 9 oo4 rfl (q_field fo_166_1 rfl rfl) (Wr.t 10 oo4 rfl (q_c 0 sc_9 rfl rfl rfl) (Wr.p 11 oo4 rfl (q_slice_str (l := 0) (h := 32) underlying9 rfl rfl ⟨_, rfl⟩ (by omega) (by omega) rfl) (Wr.p 12 oo4 rfl (q_move rfl) (Wr.p 13 oo4 rfl (q_slice_str (l := 32) (h := (ss.getD a default).size) underlying9 rfl ⟨_, rfl⟩ rfl (by omega) (by omega) rfl) (Wr.p 14 oo4 rfl (q_cat (z := (s.extract 0 32 ++ (ss.getD a default).extract 32 (ss.getD a default).size)) rfl rfl (cat_bound hs hold) rfl) (Wr.p 15 oo4 rfl (q_move rfl) (Wr.p 16 oo4 rfl (q_slice_str (l := 0) (h := 32) underlying9 rfl rfl ⟨_, rfl⟩ (by omega) (by omega) rfl) (Wr.p 17 oo4 rfl (q_field fo_166_1 rfl rfl) (Wr.t 18 oo4 rfl (q_c 0 sc_9 rfl rfl rfl) ?_)))))))))))))))))))))))
      refine Wr.p 19 oo4 rfl (q_slice_str (l := 32) (h := s.size) underlying9 rfl ⟨_, rfl⟩ rfl (by omega) (by omega) rfl) (Wr.p 20 oo4 rfl (q_cat (z := ((ss.getD a default).extract 0 32 ++ s.extract 32 s.size)) rfl rfl (cat_bound hold hs) rfl) (Wr.p (v := Value.agg #[Vs (ss.getD a default), Vs s, Vs (s.extract 0 32 ++ (ss.getD a default).extract 32 (ss.getD a default).size), Vs ((ss.getD a default).extract 0 32 ++ s.extract 32 s.size)]) 21 oo4 rfl (q_buildArr underlying169 zo_169 sz_9 (by kernel_rfl)) (Wr.p 22 oo4 rfl (q_move hE1_0) (Wr.p 23 oo4 rfl (q_and (c := (bb % 4)) rfl rfl (and3 _)) (Wr.p 24 oo4 rfl (q_idx_agg (k := (bb % 4).toNat) underlying169 sz_9 sc_9 rfl rfl (by omega) (by omega) rfl (torn_idx _ _ _)) (Wr.p 25 oo4 rfl (q_idx (m := a) se_57 rfl rfl (by omega) (by omega) (by simp)) (Wr.x0 26 rfl (e_store (i := 3) (v := Vs (torn (ss.getD a default) s (bb % 4))) sz_9 rfl rfl (fun _ _ => rfl) rfl (by simpa using ha)) (fun _ _ => Wr.imp (L' := (pt bx 166 [Vi ((a : Nat) : Int), Vs s]) :: (slp 166 2 b cap (flat since)) :: (pt p 104 [Vl bs secs.length secs.length, Vl b since.length cap, Value.bool down, Vi ((count : Nat) : Int), mv]) :: (pt bs 9 ((ss.set a (torn (ss.getD a default) s (bb % 4))).map Value.string)) :: F) (fun _ h => by rw [List.map_set]; exact h) (Wr.rebaseS [] ((pt bx 166 [Vi ((a : Nat) : Int), Vs s]) :: (slp 166 2 b cap (flat since)) :: (pt p 104 [Vl bs secs.length secs.length, Vl b since.length cap, Value.bool down, Vi ((count : Nat) : Int), mv]) :: (pt bs 9 ((ss.set a (torn (ss.getD a default) s (bb % 4))).map Value.string)) :: []) (by kernel_rfl) (Wr.z (Wx.go (Wc.region (Wl.q (v := Vi bb) (q_move hE1_0) (Wl.q (q_shr (c := (bb / 4)) rfl rfl (by decide) (shr2 _)) (Wl.run 1 rfl (Wl.done (Wx.blockEnd (Wx.go (Wc.region (Wl.q (q_add (c := ((k + 1 : Nat) : Int)) hE19_0 rfl (by rw [wrap_i64] <;> omega)) (Wl.run 1 rfl (Wl.done ?_))))))))))))))))))))))
      refine Wx.at (k + 1, ss.set a (torn (ss.getD a default) s (bb % 4)), bb / 4) ⟨(by simp only; omega), rfl, rfl, hE0_0, hE17_0, hE18_0, (by rw [← hp0, fall_step hget (by omega)]), (by simpa using hp1), (fun u hu => (List.mem_or_eq_of_mem_set hu).elim (hp2 u) (fun e => by rw [e]; exact torn_size _ hold hs)), (by omega)⟩ (fun w hs => st_drop hs)
    ·
      refine Wl.q (q_lss hE19_0 hE18_0 (df hlt)) (Wl.dg (Wc.seq (Wc.no rfl (Wc.exit (Wx.thenExit (Wx.thenExit (Wx.out (Wx.go (Wc.region (Wl.q (v := Vp p) (q_move hE0_0) (Wl.q (v := Vp p) (q_move hE0_0) (Wl.q (v := Vp p) (q_move hE0_0) (Wl.q (v := Vp p) (q_move hE0_0) (Wl.q (q_makeFunc (us := [Vp p]) (vs := []) rfl rfl) (Wl.run 1 rfl (Wl.q (q_field fo_104_1 rfl rfl) (Wl.e (e_store (i := 1) (v := Vn) sz_58 rfl rfl (fun _ _ => rfl) rfl (by simp)) (fun _ _ => Wl.run 1 rfl (Wl.q (q_field fo_104_2 rfl rfl) (Wl.e (e_store (i := 1) (v := Vt) sz_4 rfl rfl (fun _ _ => rfl) rfl (by simp)) (fun _ _ => Wl.run 1 rfl (Wl.q (q_field fo_104_4 rfl rfl) (Wl.e (e_store (i := 1) (v := Value.func (.func 30) #[Vp p] #[]) sz_32 rfl rfl (fun _ _ => rfl) rfl (by simp)) (fun _ _ => ?_))))))))))))))))))))))))
      refine Wl.done (Wx.fin0 rfl (.inr rfl) (fun w hs => ?_))
      have hend : k = min since.length 31 := by omega
      rw [hend, List.drop_of_length_le (by simp; omega)] at hp0
      simp only [fallL] at hp0
      rw [← hp0]
      exact ⟨(), trivial, rfl, st_drop hs⟩
set_option maxRecDepth 4000 in
theorem fall_nil (W0 : World) (p bs : Nat) (secs : List ByteArray) (since : List (Nat × ByteArray)) (down : Bool) (count : Nat) (mv : Value) (bits : Int) (hw : WFl secs since) (hnil : since = []) :
    Con prog W0 50 #[Vp p, Vi bits] [pt p 104 [Vl bs secs.length secs.length, Vn, Value.bool down, Vi ((count : Nat) : Int), mv], pt bs 9 (secs.map Value.string)] (X := Unit) (fun _ => True) (fun _ => .tuple #[]) (fun _ => [pt p 104 ([Vl bs secs.length secs.length, Vn, Vt, Vi ((count : Nat) : Int), Value.func (.func 30) #[Vp p] #[]]), pt bs 9 ((fallL secs (since.take 31) bits).map Value.string)]) := by
  refine Con.of func50 rfl ntmps50 rfl (fun F => ?_)
  show Wc _ W0 _ _ _ _ _ ((pt p 104 [Vl bs secs.length secs.length, Vn, Value.bool down, Vi ((count : Nat) : Int), mv]) :: (pt bs 9 (secs.map Value.string)) :: F)
  refine Wc.seq (Wc.seq (Wc.drawsS [] ((pt p 104 [Vl bs secs.length secs.length, Vn, Value.bool down, Vi ((count : Nat) : Int), mv]) :: (pt bs 9 (secs.map Value.string)) :: []) (by kernel_rfl) (Wr.p 0 oo2 rfl (q_move rfl) (Wr.p 1 oo2 rfl (q_nil_ptr rfl) (Wr.p 2 oo2 rfl (q_field fo_104_1 rfl rfl) (Wr.t 3 oo2 rfl (q_c 0 sc_58 rfl rfl rfl) (Wr.p 4 oo2 rfl (q_move rfl) (Wr.p 5 oo2 rfl (q_nil_ptr rfl) (Wr.p 6 oo2 rfl (q_field fo_104_1 rfl rfl) (Wr.t 7 oo2 rfl (q_c 0 sc_58 rfl rfl rfl) (Wr.t 8 oo2 rfl (q_len_slice underlying58 rfl) (Wr.t 9 oo2 rfl (q_min (c := 0) rfl rfl (by decide)) (Wr.p 10 oo2 rfl (q_slice_nil underlying58 rfl rfl ⟨_, rfl⟩ (by rw [sz_166]; rfl)) (Wr.t 11 oo2 rfl (q_len_slice underlying58 rfl) (Wr.p 12 oo2 rfl (q_move rfl) (Wr.z (Wx.go (Wc.block ?_))))))))))))))))))
  refine Wc.loop (X := Nat × List ByteArray × Int) (fun (k, ss, bb) E => E 19 = Vi ((k : Nat) : Int) ∧ E 1 = Vi bb ∧ E 0 = Vp p ∧ E 17 = Vn ∧ E 18 = Vi 0 ∧ fallL ss ((since.take 31).drop k) bb = fallL secs (since.take 31) bits ∧ ss.length = secs.length ∧ (∀ s ∈ ss, s.size = 64) ∧ k ≤ min since.length 31) (fun (k, ss, bb) => (pt p 104 [Vl bs secs.length secs.length, Vn, Value.bool down, Vi ((count : Nat) : Int), mv]) :: (pt bs 9 (ss.map Value.string)) :: F) (fun (k, ss, bb) => 31 - k) (0, secs, bits) ?_ ?_ ?_
  · exact ⟨rfl, rfl, rfl, rfl, rfl, rfl, rfl, hw.size, (by omega)⟩
  · exact fun w hs => hs
  · rintro ⟨k, ss, bb⟩ E2 ⟨hE19_0, hE1_0, hE0_0, hE17_0, hE18_0, hp0, hp1, hp2, hp3⟩
    dsimp only at *
    refine Wc.sr ?_
    by_cases hlt : ((k : Nat) : Int) < 0
    ·
      exfalso; omega
    ·
      refine Wl.q (q_lss hE19_0 hE18_0 (df hlt)) (Wl.dg (Wc.seq (Wc.no rfl (Wc.exit (Wx.thenExit (Wx.thenExit (Wx.out (Wx.go (Wc.region (Wl.q (v := Vp p) (q_move hE0_0) (Wl.q (v := Vp p) (q_move hE0_0) (Wl.q (v := Vp p) (q_move hE0_0) (Wl.q (v := Vp p) (q_move hE0_0) (Wl.q (q_makeFunc (us := [Vp p]) (vs := []) rfl rfl) (Wl.run 1 rfl (Wl.q (q_field fo_104_1 rfl rfl) (Wl.e (e_store (i := 0) (v := Vn) sz_58 rfl rfl (fun _ _ => rfl) rfl (by simp)) (fun _ _ => Wl.run 1 rfl (Wl.q (q_field fo_104_2 rfl rfl) (Wl.e (e_store (i := 0) (v := Vt) sz_4 rfl rfl (fun _ _ => rfl) rfl (by simp)) (fun _ _ => Wl.run 1 rfl (Wl.q (q_field fo_104_4 rfl rfl) (Wl.e (e_store (i := 0) (v := Value.func (.func 30) #[Vp p] #[]) sz_32 rfl rfl (fun _ _ => rfl) rfl (by simp)) (fun _ _ => ?_))))))))))))))))))))))))
      refine Wl.done (Wx.fin0 rfl (.inr rfl) (fun w hs => ?_))
      have hsl : since.length = 0 := by rw [hnil]; rfl
      have hend : k = min since.length 31 := by omega
      rw [hend, List.drop_of_length_le (by simp; omega)] at hp0
      simp only [fallL] at hp0
      rw [← hp0]
      exact ⟨(), trivial, rfl, hs⟩
theorem fall_c (W0 : World) (p bs : Nat) (secs : List ByteArray) (since : List (Nat × ByteArray)) (down : Bool) (count : Nat) (mv : Value) (bits : Int) (hw : WFl secs since) (sv : Value) :
  Con1 prog W0 50 #[Vp p, Vi bits] [sl 166 2 sv since.length (flat since), pt p 104 [Vl bs secs.length secs.length, sv, Value.bool down, Vi ((count : Nat) : Int), mv], pt bs 9 (secs.map Value.string)] (.tuple #[]) [pt p 104 ([Vl bs secs.length secs.length, Vn, Vt, Vi ((count : Nat) : Int), Value.func (.func 30) #[Vp p] #[]]), pt bs 9 ((fallL secs (since.take 31) bits).map Value.string)] := by
 refine Con.sl (fun e1 e2 e3 => ?_) (fun b cap e1 e2 e3 => ?_)
 · subst e1; exact fall_nil W0 p bs secs since down count mv bits hw (List.eq_nil_of_length_eq_zero e2)
 · subst e1; exact fall_blk W0 p bs secs since down count mv bits hw b cap e2
theorem may_cut0 (W0 : World) (p bs : Nat) (secs : List ByteArray) (since : List (Nat × ByteArray)) (count : Nat) (bits : Int) (hw : WFl secs since) (c : Nat) (sv : Value) :
  Con1 prog W0 49 #[Vp c] [pt c 130 [Vp p, Vi 0, Vi bits], sl 166 2 sv since.length (flat since), pt p 104 ([Vl bs secs.length secs.length, sv, Vf, Vi ((count : Nat) : Int), Value.func (.func 49) #[Vp c] #[]]), pt bs 9 (secs.map Value.string)] (.bool false) [pt p 104 ([Vl bs secs.length secs.length, Vn, Vt, Vi ((count : Nat) : Int), Value.func (.func 30) #[Vp p] #[]]), pt bs 9 ((fallL secs (since.take 31) bits).map Value.string)] := by
 refine Con.of func49 rfl ntmps49 rfl (fun F => ?_)
 show Wc _ W0 _ _ _ _ _ ((pt c 130 [Vp p, Vi 0, Vi bits]) :: (sl 166 2 sv since.length (flat since)) :: (pt p 104 ([Vl bs secs.length secs.length, sv, Vf, Vi ((count : Nat) : Int), Value.func (.func 49) #[Vp c] #[]])) :: (pt bs 9 (secs.map Value.string)) :: F)
 refine Wc.a 1 rfl (Wc.seq (Wc.b 2 rfl (Wl.q (q_field fo_130_1 rfl rfl) (Wl.q (q_c 0 sc_3 rfl rfl rfl) (Wl.q (q_sub (c := (-1)) rfl rfl (by decide)) (Wl.run 1 rfl (Wl.q (q_field fo_130_1 rfl rfl) (Wl.e (e_store (i := 0) (v := Vi (-1)) sz_3 rfl rfl (fun _ _ => rfl) rfl (by simp)) (fun _ _ => Wl.dg (Wc.b 2 rfl (Wl.q (q_field fo_130_1 rfl rfl) (Wl.q (q_c 0 sc_3 rfl rfl rfl) (Wl.q (q_lss rfl rfl (dt (by decide))) (Wl.dg (Wc.yes rfl (Wc.seq (Wc.drawsS [8] ((pt c 130 [Vp p, Vi (-1), Vi bits]) :: (sl 166 2 sv since.length (flat since)) :: (pt p 104 ([Vl bs secs.length secs.length, sv, Vf, Vi ((count : Nat) : Int), Value.func (.func 49) #[Vp c] #[]])) :: (pt bs 9 (secs.map Value.string)) :: []) (by kernel_rfl) (Wr.p 0 oo4 rfl (q_move rfl) (Wr.p 1 oo4 rfl (q_nil_ptr rfl) (Wr.p 2 oo4 rfl (q_field fo_130_0 rfl rfl) (Wr.t 3 oo4 rfl (q_c 0 sc_25 rfl rfl rfl) (Wr.p 4 oo4 rfl (q_move rfl) (Wr.p 5 oo4 rfl (q_nil_ptr rfl) ?_)))))))))))))))))))))))
 refine Wr.p 6 oo4 rfl (q_field fo_130_2 rfl rfl) (Wr.t 7 oo4 rfl (q_c 0 sc_2 rfl rfl rfl) (Wr.pull [1, 1, 1] (Wr.x0 8 rfl (e_c call50 (fall_c W0 p bs secs since false count (Value.func (.func 49) #[Vp c] #[]) bits hw sv)) (fun _ _ => Wr.rebaseS [] ((pt p 104 ([Vl bs secs.length secs.length, Vn, Vt, Vi ((count : Nat) : Int), Value.func (.func 30) #[Vp p] #[]])) :: (pt bs 9 ((fallL secs (since.take 31) bits).map Value.string)) :: (pt c 130 [Vp p, Vi (-1), Vi bits]) :: []) (by kernel_rfl) (Wr.z (Wx.go (Wc.a 1 rfl (Wc.ret (Wx.thenRet (Wx.f1 rfl (fun w hs => ?_)))))))))))
 exact ⟨(), trivial, rfl, st_drop (st_pull [2] hs)⟩
theorem may_cutS (W0 : World) (p c n : Nat) (bits : Int) (hn : n < 9223372036854775807) :
  Con1 prog W0 49 #[Vp c] [pt c 130 [Vp p, Vi (((n + 1) : Nat) : Int), Vi bits]] (.bool true) [pt c 130 [Vp p, Vi ((n : Nat) : Int), Vi bits]] := by
 refine Con.of func49 rfl ntmps49 rfl (fun F => ?_)
 show Wc _ W0 _ _ _ _ _ ((pt c 130 [Vp p, Vi (((n + 1) : Nat) : Int), Vi bits]) :: F)
 refine Wc.a 1 rfl (Wc.seq (Wc.b 2 rfl (Wl.q (q_field fo_130_1 rfl rfl) (Wl.q (q_c 0 sc_3 rfl rfl rfl) (Wl.q (q_sub (c := ((n : Nat) : Int)) rfl rfl (by rw [wrap_i64] <;> omega)) (Wl.run 1 rfl (Wl.q (q_field fo_130_1 rfl rfl) (Wl.e (e_store (i := 0) (v := Vi ((n : Nat) : Int)) sz_3 rfl rfl (fun _ _ => rfl) rfl (by simp)) (fun _ _ => Wl.dg (Wc.b 2 rfl (Wl.q (q_field fo_130_1 rfl rfl) (Wl.q (q_c 0 sc_3 rfl rfl rfl) (Wl.q (q_lss rfl rfl (df (by omega))) (Wl.dg (Wc.no rfl (Wc.skip (Wx.go (Wc.a 1 rfl (Wc.ret (Wx.f1 rfl (fun w hs => ?_)))))))))))))))))))))
 exact ⟨(), trivial, rfl, hs⟩
theorem do_alw (W0 : World) (p : Nat) (secsV sv : Value) (count : Nat) (hcount : count < 4611686018427387904) (fcl : Nat) (hcl : ∀ args w, (callFunc fcl args).run prog w = .ok (.enter fcl args) w) (vs : List Value) (R : List HP) {Y : Type} (M : Y → List HP) (hS : Con prog W0 fcl vs.toArray [pt p 104 ([secsV, sv, Vf, Vi (((count + 1) : Nat) : Int), Value.func (.func 30) #[Vp p] #[]]), grp R] (X := Y) (fun _ => True) (fun _ => .tuple #[]) M) :
  Con prog W0 302 #[Vp p, .func (.func fcl) #[] vs.toArray] [pt p 104 ([secsV, sv, Vf, Vi ((count : Nat) : Int), Value.func (.func 30) #[Vp p] #[]]), grp R] (X := Y) (fun _ => True) (fun _ => .int .i64 0) (fun y => [grp (M y)]) := by
 refine Con.of func302 rfl ntmps302 rfl (fun F => ?_)
 show Wc _ W0 _ _ _ _ _ ((pt p 104 ([secsV, sv, Vf, Vi ((count : Nat) : Int), Value.func (.func 30) #[Vp p] #[]])) :: (grp R) :: F)
 refine Wc.a 1 rfl (Wc.seq (Wc.b 2 rfl (Wl.q (q_field fo_104_4 rfl rfl) (Wl.q (q_c 0 sc_32 rfl rfl rfl) (Wl.e (e_callv (args := [Vp p]) (mid := []) rfl call30 rfl rfl (always_c W0 (Vp p))) (fun _ _ => Wl.q (q_not rfl rfl) (Wl.dg (Wc.no rfl (Wc.skip (Wx.go (Wc.b 2 rfl (Wl.q (q_field fo_104_3 rfl rfl) (Wl.q (q_c 0 sc_3 rfl rfl rfl) (Wl.q (q_add (c := (((count + 1) : Nat) : Int)) rfl rfl (by rw [wrap_i64] <;> omega)) (Wl.run 1 rfl (Wl.q (q_field fo_104_3 rfl rfl) (Wl.e (e_store (i := 0) (v := Vi (((count + 1) : Nat) : Int)) sz_3 rfl rfl (fun _ _ => rfl) rfl (by simp)) (fun _ _ => Wl.dg (Wc.b 1 rfl (Wl.e (e_callv (args := vs) (mid := []) rfl hcl rfl (by simp) hS) (fun y _ => Wl.imp (L' := (grp (M y)) :: F) (fun _ h => st_grp.2 h) (Wl.dg (Wc.a 1 rfl ?_)))))))))))))))))))))))
 refine Wc.ret (Wx.f1 rfl (fun w hs => ?_))
 exact ⟨y, trivial, rfl, hs⟩
theorem do_cutS (W0 : World) (p : Nat) (secsV sv : Value) (count : Nat) (hcount : count < 4611686018427387904) (fcl : Nat) (hcl : ∀ args w, (callFunc fcl args).run prog w = .ok (.enter fcl args) w) (vs : List Value) (R : List HP) {Y : Type} (M : Y → List HP) (c n : Nat) (bits : Int) (hn : n < 9223372036854775807) (hS : Con prog W0 fcl vs.toArray [pt p 104 ([secsV, sv, Vf, Vi (((count + 1) : Nat) : Int), Value.func (.func 49) #[Vp c] #[]]), grp R] (X := Y) (fun _ => True) (fun _ => .tuple #[]) M) :
  Con prog W0 302 #[Vp p, .func (.func fcl) #[] vs.toArray] [pt p 104 ([secsV, sv, Vf, Vi ((count : Nat) : Int), Value.func (.func 49) #[Vp c] #[]]), grp R, pt c 130 [Vp p, Vi (((n + 1) : Nat) : Int), Vi bits]] (X := Y) (fun _ => True) (fun _ => .int .i64 0) (fun y => [grp (M y), pt c 130 [Vp p, Vi ((n : Nat) : Int), Vi bits]]) := by
 refine Con.of func302 rfl ntmps302 rfl (fun F => ?_)
 show Wc _ W0 _ _ _ _ _ ((pt p 104 ([secsV, sv, Vf, Vi ((count : Nat) : Int), Value.func (.func 49) #[Vp c] #[]])) :: (grp R) :: (pt c 130 [Vp p, Vi (((n + 1) : Nat) : Int), Vi bits]) :: F)
 refine Wc.a 1 rfl (Wc.seq (Wc.b 2 rfl (Wl.q (q_field fo_104_4 rfl rfl) (Wl.q (q_c 0 sc_32 rfl rfl rfl) (Wl.pull [2] (Wl.e (e_callv (args := [Vp c]) (mid := []) rfl call49 rfl rfl (may_cutS W0 p c n bits hn)) (fun _ _ => Wl.q (q_not rfl rfl) (Wl.dg (Wc.no rfl (Wc.skip (Wx.go (Wc.b 2 rfl (Wl.q (q_field fo_104_3 rfl rfl) (Wl.q (q_c 1 sc_3 rfl rfl rfl) (Wl.q (q_add (c := (((count + 1) : Nat) : Int)) rfl rfl (by rw [wrap_i64] <;> omega)) (Wl.run 1 rfl (Wl.q (q_field fo_104_3 rfl rfl) (Wl.e (e_store (i := 1) (v := Vi (((count + 1) : Nat) : Int)) sz_3 rfl rfl (fun _ _ => rfl) rfl (by simp)) (fun _ _ => Wl.dg (Wc.b 1 rfl (Wl.pull [1, 1] (Wl.e (e_callv (args := vs) (mid := []) rfl hcl rfl (by simp) hS) (fun y _ => Wl.imp (L' := (grp (M y)) :: (pt c 130 [Vp p, Vi ((n : Nat) : Int), Vi bits]) :: F) (fun _ h => st_grp.2 h) ?_)))))))))))))))))))))))
 refine Wl.dg (Wc.a 1 rfl (Wc.ret (Wx.f1 rfl (fun w hs => ?_))))
 exact ⟨y, trivial, rfl, hs⟩
theorem do_cut0 (W0 : World) (p bs : Nat) (secs : List ByteArray) (since : List (Nat × ByteArray)) (count : Nat) (bits : Int) (hw : WFl secs since) (c : Nat) (sv fv : Value) :
  Con1 prog W0 302 #[Vp p, fv] [pt c 130 [Vp p, Vi 0, Vi bits], sl 166 2 sv since.length (flat since), pt p 104 ([Vl bs secs.length secs.length, sv, Vf, Vi ((count : Nat) : Int), Value.func (.func 49) #[Vp c] #[]]), pt bs 9 (secs.map Value.string)] (.int .i64 6) [pt p 104 ([Vl bs secs.length secs.length, Vn, Vt, Vi ((count : Nat) : Int), Value.func (.func 30) #[Vp p] #[]]), pt bs 9 ((fallL secs (since.take 31) bits).map Value.string)] := by
 refine Con.of func302 rfl ntmps302 rfl (fun F => ?_)
 show Wc _ W0 _ _ _ _ _ ((pt c 130 [Vp p, Vi 0, Vi bits]) :: (sl 166 2 sv since.length (flat since)) :: (pt p 104 ([Vl bs secs.length secs.length, sv, Vf, Vi ((count : Nat) : Int), Value.func (.func 49) #[Vp c] #[]])) :: (pt bs 9 (secs.map Value.string)) :: F)
 refine Wc.a 1 rfl (Wc.seq (Wc.b 2 rfl (Wl.q (q_field fo_104_4 rfl rfl) (Wl.q (q_c 2 sc_32 rfl rfl rfl) (Wl.e (e_callv (args := [Vp c]) (mid := []) rfl call49 rfl rfl (may_cut0 W0 p bs secs since count bits hw c sv)) (fun _ _ => Wl.q (q_not rfl rfl) (Wl.dg (Wc.yes rfl (Wc.a 1 rfl (Wc.ret (Wx.thenRet (Wx.f1 rfl (fun w hs => ?_)))))))))))))
 exact ⟨(), trivial, rfl, hs⟩
end Go.Proofs.YtjnejkdamhefgaaGreatDoor
