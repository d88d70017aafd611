/- What follows: contracts of the calls. -/
import Derived.Test.YtkdjagmgmodfnaaDdA
import Derived.Test.YtkdjagmgmodfnaaDdLv
namespace Go.Proofs.Ytkdjagmgmodfnaa
open Go Go.SL Go.Dd Go.RowKit
set_option linter.unusedVariables false
set_option maxRecDepth 8000
theorem fo_24_3 : fieldOff Try.prog 24 3 = some 3 := by kernel_rfl
theorem fo_24_0 : fieldOff Try.prog 24 0 = some 0 := by kernel_rfl
theorem fo_24_1 : fieldOff Try.prog 24 1 = some 1 := by kernel_rfl
theorem fo_24_2 : fieldOff Try.prog 24 2 = some 2 := by kernel_rfl
theorem dnew_s (W0 : World) (s : Nat) (ts : List TermR) (vb vc : Nat) (l : List Int) (m : Nat) (cells : List Value) (hm : l.length = m) (hc : l.map intV = cells) (h6 : m ≤ 65536) (hr : ∀ x ∈ l, 1 ≤ x ∧ x ≤ (ts.length : Int)) :
    Con Try.prog W0 10 #[.pointer (some ⟨s, 0, none⟩), .slice (some ⟨vb, 0, none⟩) m vc] [storeW s ts, pt vb 3 cells] (X := Nat) (fun _ => True) (fun k => .tuple #[.pointer (some ⟨k, 0, none⟩), .int .i64 0]) (fun k => [knowK k s ts (KL l), storeW s ts, pt vb 3 cells]) := Con.storeW fun hw hl => by
  subst hm
  have := new_ok_pt W0 s ts hw hl vb vc l [] (by omega) h6 hr
  rw [List.append_nil, hc] at this
  exact this.mono fun k _ => ⟨k, trivial, rfl, fun _ _ hs => st_swap (storeW_mk hw hl (st_swap hs))⟩

theorem khas_w (W0 : World) (k s : Nat) (ts : List TermR) (K : Nat → Prop) (x : Int) {b : Bool} (h : derB ts K x = b) : Con Try.prog W0 11 #[.pointer (some ⟨k, 0, none⟩), .int .i64 x] [storeW s ts, knowK k s ts K] (X := Unit) (fun _ => True) (fun _ => .bool b) (fun _ => [storeW s ts, knowK k s ts K]) := Con.storeW fun hw hl =>
  ((khas_is W0 k s ts K x hl h).pre fun _ _ hs => st_swap hs).mono fun _ _ => ⟨(), trivial, rfl, fun _ _ hs => storeW_mk hw hl (st_swap hs)⟩

theorem wf_one {n : Int} (hn : 0 ≤ n ∧ n ≤ 9223372036854775807) : Wf [(⟨1, n, 0, 0⟩ : TermR)] := by
  have ok : okT ⟨1, n, 0, 0⟩ := by unfold okT; simp only; omega
  have h := Wf.nil.mk (t := ⟨1, n, 0, 0⟩) ok.1 ok.2.1
  have hm : may ([] : List TermR).length ⟨1, n, 0, 0⟩ = true := decide_eq_true (.inl ⟨rfl, hn.1, rfl, rfl⟩)
  have e : (Dd.mk [] (⟨1, n, 0, 0⟩ : TermR)).1 = [⟨1, n, 0, 0⟩] := by
    unfold Dd.mk
    rw [if_neg (by rw [hm]; decide), if_neg (by simp), if_neg (by simp)]
    rfl
  rwa [e] at h

theorem same_c (W0 : World) (va vb : Value) (la lb : List Int) (hva : Rd W0 va la.length (la.flatMap int1)) (hvb : Rd W0 vb lb.length (lb.flatMap int1)) (hma : la.length ≤ 8) (hmb : lb.length ≤ 8) :
    Con Try.prog W0 9 #[va, vb] [] (X := Unit) (fun _ => True) (fun _ => .bool (decide (la = lb))) (fun _ => []) := by
  refine Con.of (args := [va, vb]) Try.func9 rfl Try.ntmps9 rfl (fun F => ?_)
  show Wc _ W0 _ _ _ _ _ (F)
  refine Wc.seq ?_
  refine Wc.region ?_
  refine Wl.q (v := Value.bool false) (q_assign rfl) ?_
  refine Wl.done ?_
  refine Wx.go ?_
  refine Wc.seq ?_
  refine Wc.seq ?_
  refine Wc.region ?_
  refine Wl.q (v := va) (q_move rfl) ?_
  refine Wl.q (v := Value.int .i64 ((la.length : Nat) : Int)) (q_len_is Try.underlying22 rfl hva.shape) ?_
  refine Wl.q (v := vb) (q_move rfl) ?_
  refine Wl.q (v := Value.int .i64 ((lb.length : Nat) : Int)) (q_len_is Try.underlying22 rfl hvb.shape) ?_
  by_cases hlen : ((la.length : Nat) : Int) = ((lb.length : Nat) : Int)
  ·
    refine Wl.q (v := Value.bool false) (q_neq (r := true) rfl rfl (decide_eq_true hlen)) ?_
    refine Wl.done ?_
    refine Wx.go ?_
    refine Wc.no rfl ?_
    refine Wc.skip ?_
    refine Wx.go ?_
    refine Wc.seq ?_
    refine Wc.seq ?_
    refine Wc.region ?_
    refine Wl.q (v := va) (q_move rfl) ?_
    refine Wl.q (v := Value.int .i64 ((la.length : Nat) : Int)) (q_len_is Try.underlying22 rfl hva.shape) ?_
    refine Wl.q (v := Value.int .i64 0) (q_move rfl) ?_
    refine Wl.done ?_
    refine Wx.go ?_
    refine Wc.block ?_
    refine Wc.loop (X := Nat) (fun i E => E 13 = Value.int .i64 ((i : Nat) : Int) ∧ E 0 = va ∧ E 1 = vb ∧ E 12 = Value.int .i64 ((la.length : Nat) : Int) ∧ i ≤ la.length ∧ la.take i = lb.take i) (fun i => F) (fun i => la.length - i) 0 ?_ ?_ ?_
    · exact ⟨rfl, rfl, rfl, rfl, (by omega), rfl⟩
    · exact fun w hs => hs
    · rintro i E2 ⟨hE13_0, hE0_0, hE1_0, hE12_0, hi, hti⟩
      refine Wc.seq ?_
      refine Wc.region ?_
      by_cases hlt : ((i : Nat) : Int) < ((la.length : Nat) : Int)
      ·
        obtain ⟨oa, hga⟩ : ∃ o, la[i]? = some o := ⟨la[i]'(by omega), List.getElem?_eq_getElem (by omega)⟩
        obtain ⟨ob, hgb⟩ : ∃ o, lb[i]? = some o := ⟨lb[i]'(by omega), List.getElem?_eq_getElem (by omega)⟩
        refine Wl.q (v := Value.bool true) (q_lss (r := true) hE13_0 hE12_0 (decide_eq_true hlt)) ?_
        refine Wl.done ?_
        refine Wx.go ?_
        refine Wc.seq ?_
        refine Wc.yes rfl ?_
        refine Wc.skip ?_
        refine Wx.go ?_
        refine Wc.seq ?_
        refine Wc.block ?_
        refine Wc.seq ?_
        refine Wc.region ?_
        refine Wl.q (v := Value.int .i64 ((i : Nat) : Int)) (q_move hE13_0) ?_
        refine Wl.q (v := Value.int .i64 ((i : Nat) : Int)) (q_assign rfl) ?_
        refine Wl.done ?_
        refine Wx.go ?_
        refine Wc.seq ?_
        refine Wc.drawsS [] ([]) (by kernel_rfl) ?_
        refine Wr.pure (v := va) 0 rfl (by kernel_rfl) (.inr (fun _ h => st_take [] h)) (.inl ⟨rfl, fun _ => q_move hE0_0⟩) ?_
        refine Wr.pure (v := Value.int .i64 ((i : Nat) : Int)) 1 rfl (by kernel_rfl) (.inr (fun _ h => st_take [] h)) (.inl ⟨rfl, fun _ => q_move rfl⟩) ?_
        refine Wr.pure (v := Value.pointer (some ⟨(rb va), ro va + i, none⟩)) 2 rfl (by kernel_rfl) (.inr (fun _ h => st_take [] h)) (.inl ⟨rfl, fun _ => q_idx_is (m := ro va + i) se_22 rfl (hva.some_ (by omega)) rfl (by omega) (by omega) (by simp)⟩) ?_
        refine Wr.take (v := Value.int .i64 oa) 3 rfl (by kernel_rfl) (fun _ h => st_take [] h) (.inl ⟨rfl, q_load sc_3 rfl (.old (rd1 hva hga))⟩) ?_
        refine Wr.pure (v := vb) 4 rfl (by kernel_rfl) (.inr (fun _ h => st_take [] h)) (.inl ⟨rfl, fun _ => q_move hE1_0⟩) ?_
        refine Wr.pure (v := Value.int .i64 ((i : Nat) : Int)) 5 rfl (by kernel_rfl) (.inr (fun _ h => st_take [] h)) (.inl ⟨rfl, fun _ => q_move rfl⟩) ?_
        refine Wr.pure (v := Value.pointer (some ⟨(rb vb), ro vb + i, none⟩)) 6 rfl (by kernel_rfl) (.inr (fun _ h => st_take [] h)) (.inl ⟨rfl, fun _ => q_idx_is (m := ro vb + i) se_22 rfl (hvb.some_ (by omega)) rfl (by omega) (by omega) (by simp)⟩) ?_
        refine Wr.take (v := Value.int .i64 ob) 7 rfl (by kernel_rfl) (fun _ h => st_take [] h) (.inl ⟨rfl, q_load sc_3 rfl (.old (rd1 hvb hgb))⟩) ?_
        by_cases hab0 : oa = ob
        ·
          have hab : oa = ob := hab0
          refine Wr.pure (v := Value.bool false) 8 rfl (by kernel_rfl) (.inr (fun _ h => st_take [] h)) (.inl ⟨rfl, fun _ => q_neq (r := true) rfl rfl (decide_eq_true hab0)⟩) ?_
          refine Wr.done (by kernel_rfl) ?_
          refine Wx.go ?_
          refine Wc.no rfl ?_
          refine Wc.skip ?_
          refine Wx.blockEnd ?_
          refine Wx.go ?_
          refine Wc.region ?_
          refine Wl.q (v := Value.int .i64 ((i + 1 : Nat) : Int)) (q_add (c := ((i + 1 : Nat) : Int)) hE13_0 rfl (by rw [wrap_i64] <;> omega)) ?_
          refine Wl.q (v := Value.int .i64 ((i + 1 : Nat) : Int)) (q_move rfl) ?_
          refine Wl.done ?_
          refine Wx.at (i + 1) ⟨(by omega), rfl, hE0_0, hE1_0, hE12_0, (by omega), (by rw [List.take_succ_eq_append_getElem (by omega), List.take_succ_eq_append_getElem (by omega), hti, (List.getElem?_eq_some_iff.1 hga).2, (List.getElem?_eq_some_iff.1 hgb).2, hab])⟩ (fun w hs => hs)
        ·
          have hab : ¬ oa = ob := hab0
          refine Wr.pure (v := Value.bool true) 8 rfl (by kernel_rfl) (.inr (fun _ h => st_take [] h)) (.inl ⟨rfl, fun _ => q_neq (r := false) rfl rfl (decide_eq_false hab0)⟩) ?_
          refine Wr.done (by kernel_rfl) ?_
          refine Wx.go ?_
          refine Wc.yes rfl ?_
          refine Wc.seq ?_
          refine Wc.region ?_
          refine Wl.q (v := Value.bool false) (q_assign rfl) ?_
          refine Wl.done ?_
          refine Wx.go ?_
          refine Wc.ret ?_
          refine Wx.blockRet ?_
          refine Wx.thenRet ?_
          refine Wx.thenRet ?_
          refine Wx.blockRet ?_
          refine Wx.thenRet ?_
          refine Wx.fin1 rfl (.inl rfl) (fun w hs => ?_)
          exact ⟨(), trivial, congrArg Value.bool (decide_eq_false (fun e => hab (by rw [e] at hga; rw [hga] at hgb; exact Option.some.inj hgb))).symm, hs⟩
      ·
        refine Wl.q (v := Value.bool false) (q_lss (r := false) hE13_0 hE12_0 (decide_eq_false hlt)) ?_
        refine Wl.done ?_
        refine Wx.go ?_
        refine Wc.seq ?_
        refine Wc.no rfl ?_
        refine Wc.exit ?_
        refine Wx.thenExit ?_
        refine Wx.thenExit ?_
        refine Wx.out ?_
        refine Wx.go ?_
        refine Wc.seq ?_
        refine Wc.region ?_
        refine Wl.q (v := Value.bool true) (q_assign rfl) ?_
        refine Wl.done ?_
        refine Wx.go ?_
        refine Wc.ret ?_
        refine Wx.fin1 rfl (.inl rfl) (fun w hs => ?_)
        exact ⟨(), trivial, congrArg Value.bool (decide_eq_true (by rw [← List.take_length (l := la), ← List.take_length (l := lb), ← show i = la.length by omega, ← show i = lb.length by omega]; exact hti)).symm, hs⟩
  ·
    refine Wl.q (v := Value.bool true) (q_neq (r := false) rfl rfl (decide_eq_false hlen)) ?_
    refine Wl.done ?_
    refine Wx.go ?_
    refine Wc.yes rfl ?_
    refine Wc.seq ?_
    refine Wc.region ?_
    refine Wl.q (v := Value.bool false) (q_assign rfl) ?_
    refine Wl.done ?_
    refine Wx.go ?_
    refine Wc.ret ?_
    refine Wx.thenRet ?_
    refine Wx.fin1 rfl (.inl rfl) (fun w hs => ?_)
    exact ⟨(), trivial, congrArg Value.bool (decide_eq_false (fun e => by rw [e] at hlen; omega)).symm, hs⟩

def tl4_1 (n : Int) : List TermR := [⟨1, n, 0, 0⟩]

set_option maxRecDepth 8000 in
set_option maxHeartbeats 4000000 in
theorem bu1_Build (W0 : World) (n : Int) (hn : 0 ≤ n ∧ n ≤ 9223372036854775807) (q0 : Nat)  :
    Con Try.prog W0 4 #[Value.slice (some ⟨q0, 0, none⟩) 1 1] [pt q0 31 [Value.int .u8 1, iv n, iv 0, iv 0]] (X := Nat × Nat) (fun _ => True) (fun y => Value.tuple #[Value.pointer (some ⟨y.1, 0, none⟩), Value.pointer (some ⟨y.2, 0, none⟩), Value.bool true]) (fun y => [pt q0 31 [Value.int .u8 1, iv n, iv 0, iv 0], storeW y.1 (tl4_1 n), refW y.2 (tl4_1 n)]) := by
  refine Con.of (args := [Value.slice (some ⟨q0, 0, none⟩) 1 1]) Try.func4 rfl Try.ntmps4 rfl (fun F => ?_)
  show Wc _ W0 _ _ _ _ _ ((pt q0 31 [Value.int .u8 1, iv n, iv 0, iv 0]) :: F)
  refine Wc.seq ?_
  refine Wc.region ?_
  refine Wl.q (v := Value.pointer none) (q_assign rfl) ?_
  refine Wl.q (v := Value.pointer none) (q_assign rfl) ?_
  refine Wl.q (v := Value.bool false) (q_assign rfl) ?_
  refine Wl.done ?_
  refine Wx.go ?_
  refine Wc.seq ?_
  refine Wc.region ?_
  refine Wl.e (e_call (F := (pt q0 31 [Value.int .u8 1, iv n, iv 0, iv 0]) :: F) (args := []) Try.call13 rfl (tnew_w W0)) (fun s1 _ => ?_)
  refine Wl.imp (L' := (storeW s1 []) :: (pt q0 31 [Value.int .u8 1, iv n, iv 0, iv 0]) :: F) (fun _ h => h) ?_
  refine Wl.q (v := pv s1) (q_assign rfl) ?_
  refine Wl.done ?_
  refine Wx.go ?_
  refine Wc.seq ?_
  refine Wc.region ?_
  refine Wl.e (e_call (F := (storeW s1 []) :: (pt q0 31 [Value.int .u8 1, iv n, iv 0, iv 0]) :: F) (args := []) Try.call14 rfl (rtnew_w W0)) (fun s2 _ => ?_)
  refine Wl.imp (L' := (refW s2 []) :: (storeW s1 []) :: (pt q0 31 [Value.int .u8 1, iv n, iv 0, iv 0]) :: F) (fun _ h => h) ?_
  refine Wl.q (v := pv s2) (q_assign rfl) ?_
  refine Wl.done ?_
  refine Wx.go ?_
  refine Wc.seq ?_
  refine Wc.seq ?_
  refine Wc.region ?_
  refine Wl.q (v := iv 0) (q_assign rfl) ?_
  refine Wl.done ?_
  refine Wx.go ?_
  refine Wc.block ?_
  refine Wc.rounds 64 ?_
  refine Wn.round ?_
  refine Wc.seq ?_
  refine Wc.seq ?_
  refine Wc.region ?_
  refine Wl.q (v := iv 0) (q_move rfl) ?_
  refine Wl.q (v := Value.slice (some ⟨q0, 0, none⟩) 1 1) (q_move rfl) ?_
  refine Wl.q (v := iv 1) (q_len_slice Try.underlying32 rfl) ?_
  refine Wl.q (v := Value.bool true) (q_lss (r := true) rfl rfl (decide_eq_true (by decide))) ?_
  refine Wl.done ?_
  refine Wx.go ?_
  refine Wc.yes rfl ?_
  refine Wc.skip ?_
  refine Wx.go ?_
  refine Wc.seq ?_
  refine Wc.block ?_
  refine Wc.seq ?_
  refine Wc.region ?_
  refine Wl.q (v := pv s1) (q_move rfl) ?_
  refine Wl.q (v := Value.slice (some ⟨q0, 0, none⟩) 1 1) (q_move rfl) ?_
  refine Wl.q (v := iv 0) (q_move rfl) ?_
  refine Wl.q (v := pv q0) (q_idx (m := 0) se_32 rfl rfl (by omega) (by omega) rfl) ?_
  refine Wl.q (v := Value.agg #[Value.int .u8 1, iv n, iv 0, iv 0]) (q_loadAgg (vs := [Value.int .u8 1, iv n, iv 0, iv 0]) ag_31 rfl (Has.of_pt (i := 2) rfl rfl)) ?_
  refine Wl.imp (L' := (storeW s1 []) :: (refW s2 []) :: (pt q0 31 [Value.int .u8 1, iv n, iv 0, iv 0]) :: F) (fun _ h => st_pull [1] h) ?_
  refine Wl.e (e_call (F := (refW s2 []) :: (pt q0 31 [Value.int .u8 1, iv n, iv 0, iv 0]) :: F) (args := [pv s1, Value.agg #[Value.int .u8 1, iv n, iv 0, iv 0]]) Try.call15 rfl (make_w W0 s1 [] (tl4_1 n) ⟨1, n, 0, 0⟩ 1 1 0 (by unfold okT; simp only; omega) (mk_new (decide_eq_true (.inl ⟨rfl, by show n ≥ (0 : Int); omega, rfl, rfl⟩)) (by simp) (by show 0 < 1048576; decide)) rfl)) (fun _ _ => ?_)
  refine Wl.imp (L' := (storeW s1 (tl4_1 n)) :: (refW s2 []) :: (pt q0 31 [Value.int .u8 1, iv n, iv 0, iv 0]) :: F) (fun _ h => h) ?_
  refine Wl.q (v := Value.tuple #[iv 1, iv 0]) (q_move rfl) ?_
  refine Wl.q (v := iv 1) (q_extract (i := 0) rfl rfl) ?_
  refine Wl.q (v := iv 0) (q_extract (i := 1) rfl rfl) ?_
  refine Wl.q (v := iv 1) (q_assign rfl) ?_
  refine Wl.q (v := iv 0) (q_assign rfl) ?_
  refine Wl.done ?_
  refine Wx.go ?_
  refine Wc.seq ?_
  refine Wc.region ?_
  refine Wl.q (v := pv s2) (q_move rfl) ?_
  refine Wl.q (v := Value.slice (some ⟨q0, 0, none⟩) 1 1) (q_move rfl) ?_
  refine Wl.q (v := iv 0) (q_move rfl) ?_
  refine Wl.q (v := pv q0) (q_idx (m := 0) se_32 rfl rfl (by omega) (by omega) rfl) ?_
  refine Wl.q (v := Value.agg #[Value.int .u8 1, iv n, iv 0, iv 0]) (q_loadAgg (vs := [Value.int .u8 1, iv n, iv 0, iv 0]) ag_31 rfl (Has.of_pt (i := 2) rfl rfl)) ?_
  refine Wl.imp (L' := (refW s2 []) :: (storeW s1 (tl4_1 n)) :: (pt q0 31 [Value.int .u8 1, iv n, iv 0, iv 0]) :: F) (fun _ h => st_pull [1] h) ?_
  refine Wl.e (e_call (F := (storeW s1 (tl4_1 n)) :: (pt q0 31 [Value.int .u8 1, iv n, iv 0, iv 0]) :: F) (args := [pv s2, Value.agg #[Value.int .u8 1, iv n, iv 0, iv 0]]) Try.call16 rfl (rmake_w W0 s2 [] (tl4_1 n) ⟨1, n, 0, 0⟩ 1 1 0 (by unfold okT; simp only; omega) (mk_new (decide_eq_true (.inl ⟨rfl, by show n ≥ (0 : Int); omega, rfl, rfl⟩)) (by simp) (by show 0 < 1048576; decide)) rfl)) (fun _ _ => ?_)
  refine Wl.imp (L' := (refW s2 (tl4_1 n)) :: (storeW s1 (tl4_1 n)) :: (pt q0 31 [Value.int .u8 1, iv n, iv 0, iv 0]) :: F) (fun _ h => h) ?_
  refine Wl.q (v := Value.tuple #[iv 1, iv 0]) (q_move rfl) ?_
  refine Wl.q (v := iv 1) (q_extract (i := 0) rfl rfl) ?_
  refine Wl.q (v := iv 0) (q_extract (i := 1) rfl rfl) ?_
  refine Wl.q (v := iv 1) (q_assign rfl) ?_
  refine Wl.q (v := iv 0) (q_assign rfl) ?_
  refine Wl.done ?_
  refine Wx.go ?_
  refine Wc.seq ?_
  refine Wc.region ?_
  refine Wl.q (v := iv 1) (q_move rfl) ?_
  refine Wl.q (v := iv 1) (q_move rfl) ?_
  refine Wl.q (v := Value.bool false) (q_neq (r := true) rfl rfl (decide_eq_true (by decide))) ?_
  refine Wl.q (v := Value.bool false) (q_move rfl) ?_
  refine Wl.q (v := iv 0) (q_move rfl) ?_
  refine Wl.q (v := iv 0) (q_move rfl) ?_
  refine Wl.q (v := Value.bool false) (q_neq (r := true) rfl rfl (decide_eq_true (by decide))) ?_
  refine Wl.q (v := Value.bool false) (q_pick (t := false) rfl rfl) ?_
  refine Wl.done ?_
  refine Wx.go ?_
  refine Wc.no rfl ?_
  refine Wc.skip ?_
  refine Wx.blockEnd ?_
  refine Wx.go ?_
  refine Wc.region ?_
  refine Wl.q (v := iv 0) (q_move rfl) ?_
  refine Wl.q (v := iv 1) (q_add (c := 1) rfl rfl (by decide)) ?_
  refine Wl.q (v := iv 1) (q_assign rfl) ?_
  refine Wl.done ?_
  refine Wx.again ?_
  refine Wn.round ?_
  refine Wc.seq ?_
  refine Wc.seq ?_
  refine Wc.region ?_
  refine Wl.q (v := iv 1) (q_move rfl) ?_
  refine Wl.q (v := Value.slice (some ⟨q0, 0, none⟩) 1 1) (q_move rfl) ?_
  refine Wl.q (v := iv 1) (q_len_slice Try.underlying32 rfl) ?_
  refine Wl.q (v := Value.bool false) (q_lss (r := false) rfl rfl (decide_eq_false (by decide))) ?_
  refine Wl.done ?_
  refine Wx.go ?_
  refine Wc.no rfl ?_
  refine Wc.exit ?_
  refine Wx.thenExit ?_
  refine Wx.thenExit ?_
  refine Wx.out ?_
  refine Wx.go ?_
  refine Wc.seq ?_
  refine Wc.region ?_
  refine Wl.q (v := pv s1) (q_move rfl) ?_
  refine Wl.q (v := pv s2) (q_move rfl) ?_
  refine Wl.q (v := pv s1) (q_move rfl) ?_
  refine Wl.q (v := Value.bool true) (q_neq_nil (r := false) rfl rfl Try.underlying25 rfl) ?_
  refine Wl.q (v := pv s1) (q_assign rfl) ?_
  refine Wl.q (v := pv s2) (q_assign rfl) ?_
  refine Wl.q (v := Value.bool true) (q_assign rfl) ?_
  refine Wl.done ?_
  refine Wx.go ?_
  refine Wc.ret ?_
  refine Wx.fin3 rfl (.inl rfl) (fun w hs => ?_)
  have hs : st W0 w ((pt q0 31 [Value.int .u8 1, iv n, iv 0, iv 0]) :: (storeW s1 (tl4_1 n)) :: (refW s2 (tl4_1 n)) :: F) := (st_pull [2, 1, 0] (hs))
  exact ⟨(s1, s2), trivial, rfl, hs⟩

set_option maxRecDepth 8000 in
theorem apart_same (W0 : World) (n : Int) (hn : 0 ≤ n ∧ n ≤ 9223372036854775807) (ga ea da gb eb db : Int) (hga : (-9223372036854775808 ≤ ga ∧ ga ≤ 9223372036854775807)) (hea : (-9223372036854775808 ≤ ea ∧ ea ≤ 9223372036854775807)) (hda : (-9223372036854775808 ≤ da ∧ da ≤ 9223372036854775807)) (hgb : (-9223372036854775808 ≤ gb ∧ gb ≤ 9223372036854775807)) (heb : (-9223372036854775808 ≤ eb ∧ eb ≤ 9223372036854775807)) (hdb : (-9223372036854775808 ≤ db ∧ db ≤ 9223372036854775807)) (va vb : Value) (la lb : List Int) (hva : Rd W0 va la.length (la.flatMap int1)) (hvb : Rd W0 vb lb.length (lb.flatMap int1)) (hma : la.length ≤ 8) (hmb : lb.length ≤ 8) (hloa : ∀ x ∈ la, (-9223372036854775808 ≤ x ∧ x ≤ 9223372036854775807)) (hlob : ∀ x ∈ lb, (-9223372036854775808 ≤ x ∧ x ≤ 9223372036854775807)) (hs0 : la = lb) :
    Con Try.prog W0 3 #[Value.int .i64 n, Value.agg #[Value.int .i64 ga, Value.int .i64 ea, Value.int .i64 da, va], Value.agg #[Value.int .i64 gb, Value.int .i64 eb, Value.int .i64 db, vb]] [] (X := Unit) (fun _ => True) (fun _ => .bool true) (fun _ => []) := by
  refine Con.of (args := [Value.int .i64 n, Value.agg #[Value.int .i64 ga, Value.int .i64 ea, Value.int .i64 da, va], Value.agg #[Value.int .i64 gb, Value.int .i64 eb, Value.int .i64 db, vb]]) Try.func3 rfl Try.ntmps3 rfl (fun F => ?_)
  show Wc _ W0 _ _ _ _ _ (F)
  have wf0 := wf_one hn
  refine Wc.seq ?_
  refine Wc.region ?_
  refine Wl.e (e_box (x := .tmp 1) (vs := [Value.int .i64 ga, Value.int .i64 ea, Value.int .i64 da, va]) rfl) (fun b1 _ => ?_)
  refine Wl.imp (L' := (pt b1 24 [Value.int .i64 ga, Value.int .i64 ea, Value.int .i64 da, va]) :: F) (fun _ h => h) ?_
  refine Wl.e (e_box (x := .tmp 2) (vs := [Value.int .i64 gb, Value.int .i64 eb, Value.int .i64 db, vb]) rfl) (fun b2 _ => ?_)
  refine Wl.imp (L' := (pt b2 24 [Value.int .i64 gb, Value.int .i64 eb, Value.int .i64 db, vb]) :: (pt b1 24 [Value.int .i64 ga, Value.int .i64 ea, Value.int .i64 da, va]) :: F) (fun _ h => h) ?_
  refine Wl.q (v := Value.bool false) (q_assign rfl) ?_
  refine Wl.done ?_
  refine Wx.go ?_
  refine Wc.seq ?_
  refine Wc.seq ?_
  refine Wc.region ?_
  refine Wl.q (v := Value.int .i64 n) (q_move rfl) ?_
  refine Wl.q (v := Value.bool false) (q_lss (r := false) rfl rfl (decide_eq_false (by omega))) ?_
  refine Wl.q (v := Value.bool false) (q_move rfl) ?_
  refine Wl.q (v := Value.pointer (some ⟨b1, 3, none⟩)) (q_field (m := 3) fo_24_3 rfl rfl) ?_
  refine Wl.q (v := va) (q_load sc_22 rfl (.cel (i := 1) rfl rfl)) ?_
  refine Wl.q (v := Value.int .i64 ((la.length : Nat) : Int)) (q_len_is Try.underlying22 rfl hva.shape) ?_
  refine Wl.q (v := Value.bool false) (q_gtr (r := false) rfl rfl (decide_eq_false (by omega))) ?_
  refine Wl.q (v := Value.bool false) (q_pick (t := false) rfl rfl) ?_
  refine Wl.q (v := Value.bool false) (q_move rfl) ?_
  refine Wl.q (v := Value.pointer (some ⟨b2, 3, none⟩)) (q_field (m := 3) fo_24_3 rfl rfl) ?_
  refine Wl.q (v := vb) (q_load sc_22 rfl (.cel (i := 0) rfl rfl)) ?_
  refine Wl.q (v := Value.int .i64 ((lb.length : Nat) : Int)) (q_len_is Try.underlying22 rfl hvb.shape) ?_
  refine Wl.q (v := Value.bool false) (q_gtr (r := false) rfl rfl (decide_eq_false (by omega))) ?_
  refine Wl.q (v := Value.bool false) (q_pick (t := false) rfl rfl) ?_
  refine Wl.done ?_
  refine Wx.go ?_
  refine Wc.no rfl ?_
  refine Wc.skip ?_
  refine Wx.go ?_
  refine Wc.seq ?_
  refine Wc.region ?_
  refine Wl.q (v := Value.int .i64 n) (q_move rfl) ?_
  refine Wl.q (v := Value.agg #[Value.int .u8 1, Value.int .i64 n, Value.int .i64 0, Value.int .i64 0]) (q_build (pl := [(0, 1), (1, 1), (2, 1), (3, 1)]) Try.underlying31 zo_31 (by kernel_rfl) (by kernel_rfl)) ?_
  refine Wl.e (e_buildSlice (cs := [Value.int .u8 1, Value.int .i64 n, Value.int .i64 0, Value.int .i64 0]) se_32 zo_31 (by decide) (by decide) (by kernel_rfl)) (fun b3 _ => ?_)
  refine Wl.imp (L' := (pt b3 31 [Value.int .u8 1, Value.int .i64 n, Value.int .i64 0, Value.int .i64 0]) :: (pt b2 24 [Value.int .i64 gb, Value.int .i64 eb, Value.int .i64 db, vb]) :: (pt b1 24 [Value.int .i64 ga, Value.int .i64 ea, Value.int .i64 da, va]) :: F) (fun _ h => h) ?_
  refine Wl.e (e_call (F := (pt b2 24 [Value.int .i64 gb, Value.int .i64 eb, Value.int .i64 db, vb]) :: (pt b1 24 [Value.int .i64 ga, Value.int .i64 ea, Value.int .i64 da, va]) :: F) (args := [Value.slice (some ⟨b3, 0, none⟩) 1 1]) Try.call4 rfl (bu1_Build W0 n hn b3)) (fun ⟨b4, b5⟩ _ => ?_)
  refine Wl.imp (L' := (pt b3 31 [Value.int .u8 1, Value.int .i64 n, Value.int .i64 0, Value.int .i64 0]) :: (storeW b4 [⟨1, n, 0, 0⟩]) :: (refW b5 (tl4_1 n)) :: (pt b2 24 [Value.int .i64 gb, Value.int .i64 eb, Value.int .i64 db, vb]) :: (pt b1 24 [Value.int .i64 ga, Value.int .i64 ea, Value.int .i64 da, va]) :: F) (fun _ h => h) ?_
  refine Wl.q (v := Value.tuple #[Value.pointer (some ⟨b4, 0, none⟩), Value.pointer (some ⟨b5, 0, none⟩), Value.bool true]) (q_move rfl) ?_
  refine Wl.q (v := Value.pointer (some ⟨b4, 0, none⟩)) (q_extract (i := 0) rfl rfl) ?_
  refine Wl.q (v := Value.pointer (some ⟨b5, 0, none⟩)) (q_extract (i := 1) rfl rfl) ?_
  refine Wl.q (v := Value.bool true) (q_extract (i := 2) rfl rfl) ?_
  refine Wl.q (v := Value.pointer (some ⟨b4, 0, none⟩)) (q_assign rfl) ?_
  refine Wl.q (v := Value.pointer (some ⟨b5, 0, none⟩)) (q_assign rfl) ?_
  refine Wl.q (v := Value.bool true) (q_assign rfl) ?_
  refine Wl.done ?_
  refine Wx.go ?_
  refine Wc.seq ?_
  refine Wc.region ?_
  refine Wl.q (v := Value.pointer (some ⟨b4, 0, none⟩)) (q_move rfl) ?_
  refine Wl.q (v := Value.pointer (some ⟨b1, 3, none⟩)) (q_field (m := 3) fo_24_3 rfl rfl) ?_
  refine Wl.q (v := va) (q_load sc_22 rfl (.cel (i := 4) rfl rfl)) ?_
  refine Wl.imp (L' := (storeW b4 [⟨1, n, 0, 0⟩]) :: (pt b3 31 [Value.int .u8 1, Value.int .i64 n, Value.int .i64 0, Value.int .i64 0]) :: (refW b5 (tl4_1 n)) :: (pt b2 24 [Value.int .i64 gb, Value.int .i64 eb, Value.int .i64 db, vb]) :: (pt b1 24 [Value.int .i64 ga, Value.int .i64 ea, Value.int .i64 da, va]) :: F) (fun _ h => st_pull [1] h) ?_
  refine Wl.e (e_call (F := (pt b3 31 [Value.int .u8 1, Value.int .i64 n, Value.int .i64 0, Value.int .i64 0]) :: (refW b5 (tl4_1 n)) :: (pt b2 24 [Value.int .i64 gb, Value.int .i64 eb, Value.int .i64 db, vb]) :: (pt b1 24 [Value.int .i64 ga, Value.int .i64 ea, Value.int .i64 da, va]) :: F) (args := [Value.pointer (some ⟨b4, 0, none⟩), Value.slice none 0 0, va]) Try.call5 rfl (digest_w W0 b4 [⟨1, n, 0, 0⟩] wf0 (by simp) va la hva hma hloa)) (fun ⟨z1, x⟩ D1 => ?_)
  refine Wl.imp (L' := (storeW b4 z1) :: (pt b3 31 [Value.int .u8 1, Value.int .i64 n, Value.int .i64 0, Value.int .i64 0]) :: (refW b5 (tl4_1 n)) :: (pt b2 24 [Value.int .i64 gb, Value.int .i64 eb, Value.int .i64 db, vb]) :: (pt b1 24 [Value.int .i64 ga, Value.int .i64 ea, Value.int .i64 da, va]) :: F) (fun _ h => h) ?_
  have D1 : DgJ [⟨1, n, 0, 0⟩] la z1 x := D1
  have D1l := D1.st.len
  have D1e := D1.st.ext.len
  simp only [List.length_singleton] at D1l D1e
  refine Wl.q (v := Value.tuple #[Value.int .i64 ((x : Nat) : Int), Value.int .i64 0]) (q_move rfl) ?_
  refine Wl.q (v := Value.int .i64 ((x : Nat) : Int)) (q_extract (i := 0) rfl rfl) ?_
  refine Wl.q (v := Value.int .i64 0) (q_extract (i := 1) rfl rfl) ?_
  refine Wl.q (v := Value.int .i64 ((x : Nat) : Int)) (q_assign rfl) ?_
  refine Wl.q (v := Value.int .i64 0) (q_assign rfl) ?_
  refine Wl.done ?_
  refine Wx.go ?_
  refine Wc.seq ?_
  refine Wc.region ?_
  refine Wl.q (v := Value.pointer (some ⟨b4, 0, none⟩)) (q_move rfl) ?_
  refine Wl.q (v := Value.pointer (some ⟨b2, 3, none⟩)) (q_field (m := 3) fo_24_3 rfl rfl) ?_
  refine Wl.q (v := vb) (q_load sc_22 rfl (.cel (i := 3) rfl rfl)) ?_
  refine Wl.e (e_call (F := (pt b3 31 [Value.int .u8 1, Value.int .i64 n, Value.int .i64 0, Value.int .i64 0]) :: (refW b5 (tl4_1 n)) :: (pt b2 24 [Value.int .i64 gb, Value.int .i64 eb, Value.int .i64 db, vb]) :: (pt b1 24 [Value.int .i64 ga, Value.int .i64 ea, Value.int .i64 da, va]) :: F) (args := [Value.pointer (some ⟨b4, 0, none⟩), Value.slice none 0 0, vb]) Try.call5 rfl (digest_w W0 b4 z1 D1.st.wf (by omega) vb lb hvb hmb hlob)) (fun ⟨z2, y⟩ D2 => ?_)
  refine Wl.imp (L' := (storeW b4 z2) :: (pt b3 31 [Value.int .u8 1, Value.int .i64 n, Value.int .i64 0, Value.int .i64 0]) :: (refW b5 (tl4_1 n)) :: (pt b2 24 [Value.int .i64 gb, Value.int .i64 eb, Value.int .i64 db, vb]) :: (pt b1 24 [Value.int .i64 ga, Value.int .i64 ea, Value.int .i64 da, va]) :: F) (fun _ h => h) ?_
  have D2 : DgJ z1 lb z2 y := D2
  have D2l := D2.st.len
  have D2e := D2.st.ext.len
  refine Wl.q (v := Value.tuple #[Value.int .i64 ((y : Nat) : Int), Value.int .i64 0]) (q_move rfl) ?_
  refine Wl.q (v := Value.int .i64 ((y : Nat) : Int)) (q_extract (i := 0) rfl rfl) ?_
  refine Wl.q (v := Value.int .i64 0) (q_extract (i := 1) rfl rfl) ?_
  refine Wl.q (v := Value.int .i64 ((y : Nat) : Int)) (q_assign rfl) ?_
  refine Wl.q (v := Value.int .i64 0) (q_assign rfl) ?_
  refine Wl.done ?_
  refine Wx.go ?_
  refine Wc.seq ?_
  refine Wc.region ?_
  refine Wl.q (v := Value.pointer (some ⟨b4, 0, none⟩)) (q_move rfl) ?_
  refine Wl.q (v := Value.pointer (some ⟨b1, 0, none⟩)) (q_field (m := 0) fo_24_0 rfl rfl) ?_
  refine Wl.q (v := Value.int .i64 ga) (q_load sc_3 rfl (.cel (i := 4) rfl rfl)) ?_
  refine Wl.q (v := Value.pointer (some ⟨b1, 1, none⟩)) (q_field (m := 1) fo_24_1 rfl rfl) ?_
  refine Wl.q (v := Value.int .i64 ea) (q_load sc_3 rfl (.cel (i := 4) rfl rfl)) ?_
  refine Wl.q (v := Value.pointer (some ⟨b1, 2, none⟩)) (q_field (m := 2) fo_24_2 rfl rfl) ?_
  refine Wl.q (v := Value.int .i64 da) (q_load sc_3 rfl (.cel (i := 4) rfl rfl)) ?_
  refine Wl.q (v := Value.int .i64 ((x : Nat) : Int)) (q_move rfl) ?_
  refine Wl.e (e_call (F := (pt b3 31 [Value.int .u8 1, Value.int .i64 n, Value.int .i64 0, Value.int .i64 0]) :: (refW b5 (tl4_1 n)) :: (pt b2 24 [Value.int .i64 gb, Value.int .i64 eb, Value.int .i64 db, vb]) :: (pt b1 24 [Value.int .i64 ga, Value.int .i64 ea, Value.int .i64 da, va]) :: F) (args := [Value.pointer (some ⟨b4, 0, none⟩), Value.int .i64 1, Value.int .i64 ga, Value.int .i64 ea, Value.int .i64 da, Value.int .i64 ((x : Nat) : Int)]) Try.call6 rfl (seed_w W0 b4 z2 D2.st.wf (by omega) (by omega) ga ea da hga hea hda x (at_rng (Exists.choose_spec ((D1.dig.pub.ext D2.st.ext))).1) (D1.dig.pub.ext D2.st.ext))) (fun ⟨z3, p⟩ D3 => ?_)
  refine Wl.imp (L' := (storeW b4 z3) :: (pt b3 31 [Value.int .u8 1, Value.int .i64 n, Value.int .i64 0, Value.int .i64 0]) :: (refW b5 (tl4_1 n)) :: (pt b2 24 [Value.int .i64 gb, Value.int .i64 eb, Value.int .i64 db, vb]) :: (pt b1 24 [Value.int .i64 ga, Value.int .i64 ea, Value.int .i64 da, va]) :: F) (fun _ h => h) ?_
  have D3 : SdJ z2 ga ea da x z3 p := D3
  have D3l := D3.st.len
  have D3e := D3.st.ext.len
  refine Wl.q (v := Value.tuple #[Value.int .i64 ((p : Nat) : Int), Value.int .i64 0]) (q_move rfl) ?_
  refine Wl.q (v := Value.int .i64 ((p : Nat) : Int)) (q_extract (i := 0) rfl rfl) ?_
  refine Wl.q (v := Value.int .i64 0) (q_extract (i := 1) rfl rfl) ?_
  refine Wl.q (v := Value.int .i64 ((p : Nat) : Int)) (q_assign rfl) ?_
  refine Wl.q (v := Value.int .i64 0) (q_assign rfl) ?_
  refine Wl.done ?_
  refine Wx.go ?_
  refine Wc.seq ?_
  refine Wc.region ?_
  refine Wl.q (v := Value.pointer (some ⟨b4, 0, none⟩)) (q_move rfl) ?_
  refine Wl.q (v := Value.pointer (some ⟨b2, 0, none⟩)) (q_field (m := 0) fo_24_0 rfl rfl) ?_
  refine Wl.q (v := Value.int .i64 gb) (q_load sc_3 rfl (.cel (i := 3) rfl rfl)) ?_
  refine Wl.q (v := Value.pointer (some ⟨b2, 1, none⟩)) (q_field (m := 1) fo_24_1 rfl rfl) ?_
  refine Wl.q (v := Value.int .i64 eb) (q_load sc_3 rfl (.cel (i := 3) rfl rfl)) ?_
  refine Wl.q (v := Value.pointer (some ⟨b2, 2, none⟩)) (q_field (m := 2) fo_24_2 rfl rfl) ?_
  refine Wl.q (v := Value.int .i64 db) (q_load sc_3 rfl (.cel (i := 3) rfl rfl)) ?_
  refine Wl.q (v := Value.int .i64 ((y : Nat) : Int)) (q_move rfl) ?_
  refine Wl.e (e_call (F := (pt b3 31 [Value.int .u8 1, Value.int .i64 n, Value.int .i64 0, Value.int .i64 0]) :: (refW b5 (tl4_1 n)) :: (pt b2 24 [Value.int .i64 gb, Value.int .i64 eb, Value.int .i64 db, vb]) :: (pt b1 24 [Value.int .i64 ga, Value.int .i64 ea, Value.int .i64 da, va]) :: F) (args := [Value.pointer (some ⟨b4, 0, none⟩), Value.int .i64 1, Value.int .i64 gb, Value.int .i64 eb, Value.int .i64 db, Value.int .i64 ((y : Nat) : Int)]) Try.call6 rfl (seed_w W0 b4 z3 D3.st.wf (by omega) (by omega) gb eb db hgb heb hdb y (at_rng (Exists.choose_spec ((D2.dig.pub.ext D3.st.ext))).1) (D2.dig.pub.ext D3.st.ext))) (fun ⟨z4, q⟩ D4 => ?_)
  refine Wl.imp (L' := (storeW b4 z4) :: (pt b3 31 [Value.int .u8 1, Value.int .i64 n, Value.int .i64 0, Value.int .i64 0]) :: (refW b5 (tl4_1 n)) :: (pt b2 24 [Value.int .i64 gb, Value.int .i64 eb, Value.int .i64 db, vb]) :: (pt b1 24 [Value.int .i64 ga, Value.int .i64 ea, Value.int .i64 da, va]) :: F) (fun _ h => h) ?_
  have D4 : SdJ z3 gb eb db y z4 q := D4
  have D4l := D4.st.len
  have D4e := D4.st.ext.len
  refine Wl.q (v := Value.tuple #[Value.int .i64 ((q : Nat) : Int), Value.int .i64 0]) (q_move rfl) ?_
  refine Wl.q (v := Value.int .i64 ((q : Nat) : Int)) (q_extract (i := 0) rfl rfl) ?_
  refine Wl.q (v := Value.int .i64 0) (q_extract (i := 1) rfl rfl) ?_
  refine Wl.q (v := Value.int .i64 ((q : Nat) : Int)) (q_assign rfl) ?_
  refine Wl.q (v := Value.int .i64 0) (q_assign rfl) ?_
  refine Wl.done ?_
  refine Wx.go ?_
  refine Wc.seq ?_
  refine Wc.region ?_
  refine Wl.q (v := Value.pointer (some ⟨b4, 0, none⟩)) (q_move rfl) ?_
  obtain ⟨z5, z6, z7, key, pub, own, CD⟩ := cd_made D4.st.wf (by omega) (by omega)
  have I := ap_facts D1 D2 D3 D4 CD
  refine Wl.e (e_call (F := (pt b3 31 [Value.int .u8 1, Value.int .i64 n, Value.int .i64 0, Value.int .i64 0]) :: (refW b5 (tl4_1 n)) :: (pt b2 24 [Value.int .i64 gb, Value.int .i64 eb, Value.int .i64 db, vb]) :: (pt b1 24 [Value.int .i64 ga, Value.int .i64 ea, Value.int .i64 da, va]) :: F) (args := [Value.pointer (some ⟨b4, 0, none⟩), Value.int .i64 1]) Try.call7 rfl (card_w W0 b4 z4 z5 z6 z7 key pub own (by omega) (by omega) CD)) (fun _ _ => ?_)
  refine Wl.imp (L' := (storeW b4 z6) :: (pt b3 31 [Value.int .u8 1, Value.int .i64 n, Value.int .i64 0, Value.int .i64 0]) :: (refW b5 (tl4_1 n)) :: (pt b2 24 [Value.int .i64 gb, Value.int .i64 eb, Value.int .i64 db, vb]) :: (pt b1 24 [Value.int .i64 ga, Value.int .i64 ea, Value.int .i64 da, va]) :: F) (fun _ h => h) ?_
  refine Wl.q (v := Value.tuple #[Value.int .i64 ((key : Nat) : Int), Value.int .i64 ((pub : Nat) : Int), Value.int .i64 0]) (q_move rfl) ?_
  refine Wl.q (v := Value.int .i64 ((key : Nat) : Int)) (q_extract (i := 0) rfl rfl) ?_
  refine Wl.q (v := Value.int .i64 ((pub : Nat) : Int)) (q_extract (i := 1) rfl rfl) ?_
  refine Wl.q (v := Value.int .i64 0) (q_extract (i := 2) rfl rfl) ?_
  refine Wl.q (v := Value.int .i64 ((key : Nat) : Int)) (q_assign rfl) ?_
  refine Wl.q (v := Value.int .i64 ((pub : Nat) : Int)) (q_assign rfl) ?_
  refine Wl.q (v := Value.int .i64 0) (q_assign rfl) ?_
  refine Wl.done ?_
  refine Wx.go ?_
  refine Wc.seq ?_
  refine Wc.region ?_
  refine Wl.q (v := Value.pointer (some ⟨b4, 0, none⟩)) (q_move rfl) ?_
  refine Wl.e (e_call (F := (pt b3 31 [Value.int .u8 1, Value.int .i64 n, Value.int .i64 0, Value.int .i64 0]) :: (refW b5 (tl4_1 n)) :: (pt b2 24 [Value.int .i64 gb, Value.int .i64 eb, Value.int .i64 db, vb]) :: (pt b1 24 [Value.int .i64 ga, Value.int .i64 ea, Value.int .i64 da, va]) :: F) (args := [Value.pointer (some ⟨b4, 0, none⟩), Value.int .i64 1]) Try.call8 rfl (own_w W0 b4 z4 z5 z6 z7 key pub own (by omega) (by omega) CD)) (fun _ _ => ?_)
  refine Wl.imp (L' := (storeW b4 z7) :: (pt b3 31 [Value.int .u8 1, Value.int .i64 n, Value.int .i64 0, Value.int .i64 0]) :: (refW b5 (tl4_1 n)) :: (pt b2 24 [Value.int .i64 gb, Value.int .i64 eb, Value.int .i64 db, vb]) :: (pt b1 24 [Value.int .i64 ga, Value.int .i64 ea, Value.int .i64 da, va]) :: F) (fun _ h => h) ?_
  refine Wl.q (v := Value.tuple #[Value.int .i64 ((own : Nat) : Int), Value.int .i64 0]) (q_move rfl) ?_
  refine Wl.q (v := Value.int .i64 ((own : Nat) : Int)) (q_extract (i := 0) rfl rfl) ?_
  refine Wl.q (v := Value.int .i64 0) (q_extract (i := 1) rfl rfl) ?_
  refine Wl.q (v := Value.int .i64 ((own : Nat) : Int)) (q_assign rfl) ?_
  refine Wl.q (v := Value.int .i64 0) (q_assign rfl) ?_
  refine Wl.done ?_
  refine Wx.go ?_
  refine Wc.seq ?_
  refine Wc.seq ?_
  refine Wc.region ?_
  refine Wl.q (v := Value.bool true) (q_move rfl) ?_
  refine Wl.q (v := Value.bool false) (q_not rfl rfl) ?_
  refine Wl.q (v := Value.bool false) (q_move rfl) ?_
  refine Wl.q (v := Value.int .i64 0) (q_move rfl) ?_
  refine Wl.q (v := Value.bool false) (q_neq (r := true) rfl rfl (decide_eq_true (by decide))) ?_
  refine Wl.q (v := Value.bool false) (q_pick (t := false) rfl rfl) ?_
  refine Wl.q (v := Value.bool false) (q_move rfl) ?_
  refine Wl.q (v := Value.int .i64 0) (q_move rfl) ?_
  refine Wl.q (v := Value.bool false) (q_neq (r := true) rfl rfl (decide_eq_true (by decide))) ?_
  refine Wl.q (v := Value.bool false) (q_pick (t := false) rfl rfl) ?_
  refine Wl.q (v := Value.bool false) (q_move rfl) ?_
  refine Wl.q (v := Value.int .i64 0) (q_move rfl) ?_
  refine Wl.q (v := Value.bool false) (q_neq (r := true) rfl rfl (decide_eq_true (by decide))) ?_
  refine Wl.q (v := Value.bool false) (q_pick (t := false) rfl rfl) ?_
  refine Wl.q (v := Value.bool false) (q_move rfl) ?_
  refine Wl.q (v := Value.int .i64 0) (q_move rfl) ?_
  refine Wl.q (v := Value.bool false) (q_neq (r := true) rfl rfl (decide_eq_true (by decide))) ?_
  refine Wl.q (v := Value.bool false) (q_pick (t := false) rfl rfl) ?_
  refine Wl.q (v := Value.bool false) (q_move rfl) ?_
  refine Wl.q (v := Value.int .i64 0) (q_move rfl) ?_
  refine Wl.q (v := Value.bool false) (q_neq (r := true) rfl rfl (decide_eq_true (by decide))) ?_
  refine Wl.q (v := Value.bool false) (q_pick (t := false) rfl rfl) ?_
  refine Wl.q (v := Value.bool false) (q_move rfl) ?_
  refine Wl.q (v := Value.int .i64 0) (q_move rfl) ?_
  refine Wl.q (v := Value.bool false) (q_neq (r := true) rfl rfl (decide_eq_true (by decide))) ?_
  refine Wl.q (v := Value.bool false) (q_pick (t := false) rfl rfl) ?_
  refine Wl.done ?_
  refine Wx.go ?_
  refine Wc.no rfl ?_
  refine Wc.skip ?_
  refine Wx.go ?_
  refine Wc.seq ?_
  refine Wc.region ?_
  refine Wl.q (v := Value.pointer (some ⟨b1, 0, none⟩)) (q_field (m := 0) fo_24_0 rfl rfl) ?_
  refine Wl.q (v := Value.int .i64 ga) (q_load sc_3 rfl (.cel (i := 4) rfl rfl)) ?_
  refine Wl.q (v := Value.pointer (some ⟨b2, 0, none⟩)) (q_field (m := 0) fo_24_0 rfl rfl) ?_
  refine Wl.q (v := Value.int .i64 gb) (q_load sc_3 rfl (.cel (i := 3) rfl rfl)) ?_
  by_cases hga2 : ga = gb
  ·
    refine Wl.q (v := Value.bool true) (q_eql (r := true) rfl rfl (decide_eq_true hga2)) ?_
    refine Wl.q (v := Value.bool true) (q_move rfl) ?_
    refine Wl.q (v := Value.pointer (some ⟨b1, 1, none⟩)) (q_field (m := 1) fo_24_1 rfl rfl) ?_
    refine Wl.q (v := Value.int .i64 ea) (q_load sc_3 rfl (.cel (i := 4) rfl rfl)) ?_
    refine Wl.q (v := Value.pointer (some ⟨b2, 1, none⟩)) (q_field (m := 1) fo_24_1 rfl rfl) ?_
    refine Wl.q (v := Value.int .i64 eb) (q_load sc_3 rfl (.cel (i := 3) rfl rfl)) ?_
    by_cases hea2 : ea = eb
    ·
      refine Wl.q (v := Value.bool true) (q_eql (r := true) rfl rfl (decide_eq_true hea2)) ?_
      refine Wl.q (v := Value.bool true) (q_pick (t := true) rfl rfl) ?_
      refine Wl.q (v := Value.bool true) (q_move rfl) ?_
      refine Wl.q (v := Value.pointer (some ⟨b1, 2, none⟩)) (q_field (m := 2) fo_24_2 rfl rfl) ?_
      refine Wl.q (v := Value.int .i64 da) (q_load sc_3 rfl (.cel (i := 4) rfl rfl)) ?_
      refine Wl.q (v := Value.pointer (some ⟨b2, 2, none⟩)) (q_field (m := 2) fo_24_2 rfl rfl) ?_
      refine Wl.q (v := Value.int .i64 db) (q_load sc_3 rfl (.cel (i := 3) rfl rfl)) ?_
      by_cases hda2 : da = db
      ·
        refine Wl.q (v := Value.bool true) (q_eql (r := true) rfl rfl (decide_eq_true hda2)) ?_
        refine Wl.q (v := Value.bool true) (q_pick (t := true) rfl rfl) ?_
        refine Wl.q (v := Value.bool true) (q_move rfl) ?_
        refine Wl.q (v := Value.pointer (some ⟨b1, 3, none⟩)) (q_field (m := 3) fo_24_3 rfl rfl) ?_
        refine Wl.q (v := va) (q_load sc_22 rfl (.cel (i := 4) rfl rfl)) ?_
        refine Wl.q (v := Value.pointer (some ⟨b2, 3, none⟩)) (q_field (m := 3) fo_24_3 rfl rfl) ?_
        refine Wl.q (v := vb) (q_load sc_22 rfl (.cel (i := 3) rfl rfl)) ?_
        refine Wl.e (e_call (F := (storeW b4 z7) :: (pt b3 31 [Value.int .u8 1, Value.int .i64 n, Value.int .i64 0, Value.int .i64 0]) :: (refW b5 (tl4_1 n)) :: (pt b2 24 [Value.int .i64 gb, Value.int .i64 eb, Value.int .i64 db, vb]) :: (pt b1 24 [Value.int .i64 ga, Value.int .i64 ea, Value.int .i64 da, va]) :: F) (args := [va, vb]) Try.call9 rfl ((same_c W0 va vb la lb hva hvb hma hmb).eqs (fun _ => congrArg Value.bool (decide_eq_true hs0)) (fun _ => rfl))) (fun _ _ => ?_)
        refine Wl.imp (L' := (storeW b4 z7) :: (pt b3 31 [Value.int .u8 1, Value.int .i64 n, Value.int .i64 0, Value.int .i64 0]) :: (refW b5 (tl4_1 n)) :: (pt b2 24 [Value.int .i64 gb, Value.int .i64 eb, Value.int .i64 db, vb]) :: (pt b1 24 [Value.int .i64 ga, Value.int .i64 ea, Value.int .i64 da, va]) :: F) (fun _ h => h) ?_
        refine Wl.q (v := Value.bool true) (q_pick (t := true) rfl rfl) ?_
        refine Wl.q (v := Value.bool true) (q_assign rfl) ?_
        refine Wl.done ?_
        refine Wx.go ?_
        refine Wc.seq ?_
        refine Wc.seq ?_
        refine Wc.region ?_
        refine Wl.q (v := Value.bool true) (q_move rfl) ?_
        refine Wl.q (v := Value.int .i64 ((p : Nat) : Int)) (q_move rfl) ?_
        refine Wl.q (v := Value.int .i64 ((q : Nat) : Int)) (q_move rfl) ?_
        refine Wl.q (v := Value.bool true) (q_eql (r := true) rfl rfl (decide_eq_true (congrArg Int.ofNat (I.sed.2 ⟨hga2, hea2, hda2, hs0⟩)))) ?_
        refine Wl.q (v := Value.bool false) (q_neq_bool (r := true) rfl rfl Try.underlying4 rfl) ?_
        refine Wl.q (v := Value.bool false) (q_move rfl) ?_
        refine Wl.q (v := Value.int .i64 ((x : Nat) : Int)) (q_move rfl) ?_
        refine Wl.q (v := Value.int .i64 ((y : Nat) : Int)) (q_move rfl) ?_
        refine Wl.q (v := Value.bool true) (q_eql (r := true) rfl rfl (decide_eq_true (congrArg Int.ofNat (I.dig.2 hs0)))) ?_
        refine Wl.q (v := Value.pointer (some ⟨b1, 3, none⟩)) (q_field (m := 3) fo_24_3 rfl rfl) ?_
        refine Wl.q (v := va) (q_load sc_22 rfl (.cel (i := 4) rfl rfl)) ?_
        refine Wl.q (v := Value.pointer (some ⟨b2, 3, none⟩)) (q_field (m := 3) fo_24_3 rfl rfl) ?_
        refine Wl.q (v := vb) (q_load sc_22 rfl (.cel (i := 3) rfl rfl)) ?_
        refine Wl.e (e_call (F := (storeW b4 z7) :: (pt b3 31 [Value.int .u8 1, Value.int .i64 n, Value.int .i64 0, Value.int .i64 0]) :: (refW b5 (tl4_1 n)) :: (pt b2 24 [Value.int .i64 gb, Value.int .i64 eb, Value.int .i64 db, vb]) :: (pt b1 24 [Value.int .i64 ga, Value.int .i64 ea, Value.int .i64 da, va]) :: F) (args := [va, vb]) Try.call9 rfl ((same_c W0 va vb la lb hva hvb hma hmb).eqs (fun _ => congrArg Value.bool (decide_eq_true hs0)) (fun _ => rfl))) (fun _ _ => ?_)
        refine Wl.imp (L' := (storeW b4 z7) :: (pt b3 31 [Value.int .u8 1, Value.int .i64 n, Value.int .i64 0, Value.int .i64 0]) :: (refW b5 (tl4_1 n)) :: (pt b2 24 [Value.int .i64 gb, Value.int .i64 eb, Value.int .i64 db, vb]) :: (pt b1 24 [Value.int .i64 ga, Value.int .i64 ea, Value.int .i64 da, va]) :: F) (fun _ h => h) ?_
        refine Wl.q (v := Value.bool false) (q_neq_bool (r := true) rfl rfl Try.underlying4 rfl) ?_
        refine Wl.q (v := Value.bool false) (q_pick (t := false) rfl rfl) ?_
        refine Wl.done ?_
        refine Wx.go ?_
        refine Wc.no rfl ?_
        refine Wc.skip ?_
        refine Wx.go ?_
        refine Wc.seq ?_
        refine Wc.region ?_
        refine Wl.q (v := Value.pointer (some ⟨b4, 0, none⟩)) (q_move rfl) ?_
        refine Wl.q (v := Value.int .i64 ((p : Nat) : Int)) (q_move rfl) ?_
        refine Wl.q (v := Value.int .i64 ((key : Nat) : Int)) (q_move rfl) ?_
        refine Wl.q (v := Value.int .i64 ((own : Nat) : Int)) (q_move rfl) ?_
        refine Wl.e (e_buildSlice (cs := [Value.int .i64 ((p : Nat) : Int), Value.int .i64 ((key : Nat) : Int), Value.int .i64 ((own : Nat) : Int)]) se_22 zo_3 (by decide) (by decide) (by kernel_rfl)) (fun b6 _ => ?_)
        refine Wl.imp (L' := (pt b6 3 [Value.int .i64 ((p : Nat) : Int), Value.int .i64 ((key : Nat) : Int), Value.int .i64 ((own : Nat) : Int)]) :: (storeW b4 z7) :: (pt b3 31 [Value.int .u8 1, Value.int .i64 n, Value.int .i64 0, Value.int .i64 0]) :: (refW b5 (tl4_1 n)) :: (pt b2 24 [Value.int .i64 gb, Value.int .i64 eb, Value.int .i64 db, vb]) :: (pt b1 24 [Value.int .i64 ga, Value.int .i64 ea, Value.int .i64 da, va]) :: F) (fun _ h => h) ?_
        refine Wl.imp (L' := (storeW b4 z7) :: (pt b6 3 [Value.int .i64 ((p : Nat) : Int), Value.int .i64 ((key : Nat) : Int), Value.int .i64 ((own : Nat) : Int)]) :: (pt b3 31 [Value.int .u8 1, Value.int .i64 n, Value.int .i64 0, Value.int .i64 0]) :: (refW b5 (tl4_1 n)) :: (pt b2 24 [Value.int .i64 gb, Value.int .i64 eb, Value.int .i64 db, vb]) :: (pt b1 24 [Value.int .i64 ga, Value.int .i64 ea, Value.int .i64 da, va]) :: F) (fun _ h => st_pull [1, 0] h) ?_
        refine Wl.e (e_call (F := (pt b3 31 [Value.int .u8 1, Value.int .i64 n, Value.int .i64 0, Value.int .i64 0]) :: (refW b5 (tl4_1 n)) :: (pt b2 24 [Value.int .i64 gb, Value.int .i64 eb, Value.int .i64 db, vb]) :: (pt b1 24 [Value.int .i64 ga, Value.int .i64 ea, Value.int .i64 da, va]) :: F) (args := [Value.pointer (some ⟨b4, 0, none⟩), Value.slice (some ⟨b6, 0, none⟩) 3 3]) Try.call10 rfl (dnew_s W0 b4 z7 b6 3 [(p : Int), (key : Int), (own : Int)] 3 _ rfl rfl (by decide) I.rng)) (fun k _ => ?_)
        refine Wl.imp (L' := (knowK k b4 z7 (KL [(p : Int), (key : Int), (own : Int)])) :: (storeW b4 z7) :: (pt b6 3 [Value.int .i64 ((p : Nat) : Int), Value.int .i64 ((key : Nat) : Int), Value.int .i64 ((own : Nat) : Int)]) :: (pt b3 31 [Value.int .u8 1, Value.int .i64 n, Value.int .i64 0, Value.int .i64 0]) :: (refW b5 (tl4_1 n)) :: (pt b2 24 [Value.int .i64 gb, Value.int .i64 eb, Value.int .i64 db, vb]) :: (pt b1 24 [Value.int .i64 ga, Value.int .i64 ea, Value.int .i64 da, va]) :: F) (fun _ h => h) ?_
        refine Wl.q (v := Value.tuple #[Value.pointer (some ⟨k, 0, none⟩), Value.int .i64 0]) (q_move rfl) ?_
        refine Wl.q (v := Value.pointer (some ⟨k, 0, none⟩)) (q_extract (i := 0) rfl rfl) ?_
        refine Wl.q (v := Value.int .i64 0) (q_extract (i := 1) rfl rfl) ?_
        refine Wl.q (v := Value.pointer (some ⟨k, 0, none⟩)) (q_assign rfl) ?_
        refine Wl.q (v := Value.int .i64 0) (q_assign rfl) ?_
        refine Wl.done ?_
        refine Wx.go ?_
        refine Wc.seq ?_
        refine Wc.region ?_
        refine Wl.q (v := Value.int .i64 0) (q_move rfl) ?_
        refine Wl.q (v := Value.bool true) (q_eql (r := true) rfl rfl (decide_eq_true (by decide))) ?_
        refine Wl.q (v := Value.bool true) (q_move rfl) ?_
        refine Wl.q (v := Value.pointer (some ⟨k, 0, none⟩)) (q_move rfl) ?_
        refine Wl.q (v := Value.int .i64 ((q : Nat) : Int)) (q_move rfl) ?_
        refine Wl.imp (L' := (storeW b4 z7) :: (knowK k b4 z7 (KL [(p : Int), (key : Int), (own : Int)])) :: (pt b6 3 [Value.int .i64 ((p : Nat) : Int), Value.int .i64 ((key : Nat) : Int), Value.int .i64 ((own : Nat) : Int)]) :: (pt b3 31 [Value.int .u8 1, Value.int .i64 n, Value.int .i64 0, Value.int .i64 0]) :: (refW b5 (tl4_1 n)) :: (pt b2 24 [Value.int .i64 gb, Value.int .i64 eb, Value.int .i64 db, vb]) :: (pt b1 24 [Value.int .i64 ga, Value.int .i64 ea, Value.int .i64 da, va]) :: F) (fun _ h => st_pull [1, 0] h) ?_
        refine Wl.e (e_call (F := (pt b6 3 [Value.int .i64 ((p : Nat) : Int), Value.int .i64 ((key : Nat) : Int), Value.int .i64 ((own : Nat) : Int)]) :: (pt b3 31 [Value.int .u8 1, Value.int .i64 n, Value.int .i64 0, Value.int .i64 0]) :: (refW b5 (tl4_1 n)) :: (pt b2 24 [Value.int .i64 gb, Value.int .i64 eb, Value.int .i64 db, vb]) :: (pt b1 24 [Value.int .i64 ga, Value.int .i64 ea, Value.int .i64 da, va]) :: F) (args := [Value.pointer (some ⟨k, 0, none⟩), Value.int .i64 ((q : Nat) : Int)]) Try.call11 rfl (khas_w W0 k b4 z7 _ (q : Int) (I.has.trans (decide_eq_true (Int.ofNat.inj (congrArg Int.ofNat (I.sed.2 ⟨hga2, hea2, hda2, hs0⟩))))))) (fun _ _ => ?_)
        refine Wl.imp (L' := (storeW b4 z7) :: (knowK k b4 z7 (KL [(p : Int), (key : Int), (own : Int)])) :: (pt b6 3 [Value.int .i64 ((p : Nat) : Int), Value.int .i64 ((key : Nat) : Int), Value.int .i64 ((own : Nat) : Int)]) :: (pt b3 31 [Value.int .u8 1, Value.int .i64 n, Value.int .i64 0, Value.int .i64 0]) :: (refW b5 (tl4_1 n)) :: (pt b2 24 [Value.int .i64 gb, Value.int .i64 eb, Value.int .i64 db, vb]) :: (pt b1 24 [Value.int .i64 ga, Value.int .i64 ea, Value.int .i64 da, va]) :: F) (fun _ h => h) ?_
        refine Wl.q (v := Value.bool true) (q_move rfl) ?_
        refine Wl.q (v := Value.bool true) (q_eql_bool (r := true) rfl rfl Try.underlying4 rfl) ?_
        refine Wl.q (v := Value.bool true) (q_pick (t := true) rfl rfl) ?_
        refine Wl.q (v := Value.bool true) (q_move rfl) ?_
        refine Wl.q (v := Value.pointer (some ⟨k, 0, none⟩)) (q_move rfl) ?_
        refine Wl.e (e_call (F := (pt b6 3 [Value.int .i64 ((p : Nat) : Int), Value.int .i64 ((key : Nat) : Int), Value.int .i64 ((own : Nat) : Int)]) :: (pt b3 31 [Value.int .u8 1, Value.int .i64 n, Value.int .i64 0, Value.int .i64 0]) :: (refW b5 (tl4_1 n)) :: (pt b2 24 [Value.int .i64 gb, Value.int .i64 eb, Value.int .i64 db, vb]) :: (pt b1 24 [Value.int .i64 ga, Value.int .i64 ea, Value.int .i64 da, va]) :: F) (args := [Value.pointer (some ⟨k, 0, none⟩), Value.int .i64 1]) Try.call11 rfl (khas_w W0 k b4 z7 _ 1 I.not)) (fun _ _ => ?_)
        refine Wl.imp (L' := (storeW b4 z7) :: (knowK k b4 z7 (KL [(p : Int), (key : Int), (own : Int)])) :: (pt b6 3 [Value.int .i64 ((p : Nat) : Int), Value.int .i64 ((key : Nat) : Int), Value.int .i64 ((own : Nat) : Int)]) :: (pt b3 31 [Value.int .u8 1, Value.int .i64 n, Value.int .i64 0, Value.int .i64 0]) :: (refW b5 (tl4_1 n)) :: (pt b2 24 [Value.int .i64 gb, Value.int .i64 eb, Value.int .i64 db, vb]) :: (pt b1 24 [Value.int .i64 ga, Value.int .i64 ea, Value.int .i64 da, va]) :: F) (fun _ h => h) ?_
        refine Wl.q (v := Value.bool true) (q_not rfl rfl) ?_
        refine Wl.q (v := Value.bool true) (q_pick (t := true) rfl rfl) ?_
        refine Wl.q (v := Value.bool true) (q_move rfl) ?_
        refine Wl.e (e_call (F := (storeW b4 z7) :: (knowK k b4 z7 (KL [(p : Int), (key : Int), (own : Int)])) :: (pt b6 3 [Value.int .i64 ((p : Nat) : Int), Value.int .i64 ((key : Nat) : Int), Value.int .i64 ((own : Nat) : Int)]) :: (pt b3 31 [Value.int .u8 1, Value.int .i64 n, Value.int .i64 0, Value.int .i64 0]) :: (refW b5 (tl4_1 n)) :: (pt b2 24 [Value.int .i64 gb, Value.int .i64 eb, Value.int .i64 db, vb]) :: (pt b1 24 [Value.int .i64 ga, Value.int .i64 ea, Value.int .i64 da, va]) :: F) (args := []) Try.call12 rfl (au1_lives W0)) (fun _ _ => ?_)
        refine Wl.imp (L' := (storeW b4 z7) :: (knowK k b4 z7 (KL [(p : Int), (key : Int), (own : Int)])) :: (pt b6 3 [Value.int .i64 ((p : Nat) : Int), Value.int .i64 ((key : Nat) : Int), Value.int .i64 ((own : Nat) : Int)]) :: (pt b3 31 [Value.int .u8 1, Value.int .i64 n, Value.int .i64 0, Value.int .i64 0]) :: (refW b5 (tl4_1 n)) :: (pt b2 24 [Value.int .i64 gb, Value.int .i64 eb, Value.int .i64 db, vb]) :: (pt b1 24 [Value.int .i64 ga, Value.int .i64 ea, Value.int .i64 da, va]) :: F) (fun _ h => h) ?_
        refine Wl.q (v := Value.bool true) (q_pick (t := true) rfl rfl) ?_
        refine Wl.q (v := Value.bool true) (q_assign rfl) ?_
        refine Wl.done ?_
        refine Wx.go ?_
        refine Wc.ret ?_
        refine Wx.fin1 rfl (.inl rfl) (fun w hs => ?_)
        exact ⟨(), trivial, rfl, (st_drop (st_drop (st_drop (st_drop (st_drop (st_drop (st_drop (st_pull [0, 0, 0, 0, 0, 0, 0] hs))))))))⟩
      ·
        refine Wl.q (v := Value.bool false) (q_eql (r := false) rfl rfl (decide_eq_false hda2)) ?_
        refine Wl.q (v := Value.bool false) (q_pick (t := true) rfl rfl) ?_
        refine Wl.q (v := Value.bool false) (q_move rfl) ?_
        refine Wl.no ?_
        refine Wl.no ?_
        refine Wl.no ?_
        refine Wl.no ?_
        refine Wl.no ?_
        refine Wl.q (v := Value.bool false) (q_pick (t := false) rfl rfl) ?_
        refine Wl.q (v := Value.bool false) (q_assign rfl) ?_
        refine Wl.done ?_
        refine Wx.go ?_
        refine Wc.seq ?_
        refine Wc.seq ?_
        refine Wc.region ?_
        refine Wl.q (v := Value.bool false) (q_move rfl) ?_
        refine Wl.q (v := Value.int .i64 ((p : Nat) : Int)) (q_move rfl) ?_
        refine Wl.q (v := Value.int .i64 ((q : Nat) : Int)) (q_move rfl) ?_
        refine Wl.q (v := Value.bool false) (q_eql (r := false) rfl rfl (decide_eq_false (fun h => hda2 (I.sed.1 (Int.ofNat.inj h)).2.2.1))) ?_
        refine Wl.q (v := Value.bool false) (q_neq_bool (r := true) rfl rfl Try.underlying4 rfl) ?_
        refine Wl.q (v := Value.bool false) (q_move rfl) ?_
        refine Wl.q (v := Value.int .i64 ((x : Nat) : Int)) (q_move rfl) ?_
        refine Wl.q (v := Value.int .i64 ((y : Nat) : Int)) (q_move rfl) ?_
        refine Wl.q (v := Value.bool true) (q_eql (r := true) rfl rfl (decide_eq_true (congrArg Int.ofNat (I.dig.2 hs0)))) ?_
        refine Wl.q (v := Value.pointer (some ⟨b1, 3, none⟩)) (q_field (m := 3) fo_24_3 rfl rfl) ?_
        refine Wl.q (v := va) (q_load sc_22 rfl (.cel (i := 4) rfl rfl)) ?_
        refine Wl.q (v := Value.pointer (some ⟨b2, 3, none⟩)) (q_field (m := 3) fo_24_3 rfl rfl) ?_
        refine Wl.q (v := vb) (q_load sc_22 rfl (.cel (i := 3) rfl rfl)) ?_
        refine Wl.e (e_call (F := (storeW b4 z7) :: (pt b3 31 [Value.int .u8 1, Value.int .i64 n, Value.int .i64 0, Value.int .i64 0]) :: (refW b5 (tl4_1 n)) :: (pt b2 24 [Value.int .i64 gb, Value.int .i64 eb, Value.int .i64 db, vb]) :: (pt b1 24 [Value.int .i64 ga, Value.int .i64 ea, Value.int .i64 da, va]) :: F) (args := [va, vb]) Try.call9 rfl ((same_c W0 va vb la lb hva hvb hma hmb).eqs (fun _ => congrArg Value.bool (decide_eq_true hs0)) (fun _ => rfl))) (fun _ _ => ?_)
        refine Wl.imp (L' := (storeW b4 z7) :: (pt b3 31 [Value.int .u8 1, Value.int .i64 n, Value.int .i64 0, Value.int .i64 0]) :: (refW b5 (tl4_1 n)) :: (pt b2 24 [Value.int .i64 gb, Value.int .i64 eb, Value.int .i64 db, vb]) :: (pt b1 24 [Value.int .i64 ga, Value.int .i64 ea, Value.int .i64 da, va]) :: F) (fun _ h => h) ?_
        refine Wl.q (v := Value.bool false) (q_neq_bool (r := true) rfl rfl Try.underlying4 rfl) ?_
        refine Wl.q (v := Value.bool false) (q_pick (t := false) rfl rfl) ?_
        refine Wl.done ?_
        refine Wx.go ?_
        refine Wc.no rfl ?_
        refine Wc.skip ?_
        refine Wx.go ?_
        refine Wc.seq ?_
        refine Wc.region ?_
        refine Wl.q (v := Value.pointer (some ⟨b4, 0, none⟩)) (q_move rfl) ?_
        refine Wl.q (v := Value.int .i64 ((p : Nat) : Int)) (q_move rfl) ?_
        refine Wl.q (v := Value.int .i64 ((key : Nat) : Int)) (q_move rfl) ?_
        refine Wl.q (v := Value.int .i64 ((own : Nat) : Int)) (q_move rfl) ?_
        refine Wl.e (e_buildSlice (cs := [Value.int .i64 ((p : Nat) : Int), Value.int .i64 ((key : Nat) : Int), Value.int .i64 ((own : Nat) : Int)]) se_22 zo_3 (by decide) (by decide) (by kernel_rfl)) (fun b7 _ => ?_)
        refine Wl.imp (L' := (pt b7 3 [Value.int .i64 ((p : Nat) : Int), Value.int .i64 ((key : Nat) : Int), Value.int .i64 ((own : Nat) : Int)]) :: (storeW b4 z7) :: (pt b3 31 [Value.int .u8 1, Value.int .i64 n, Value.int .i64 0, Value.int .i64 0]) :: (refW b5 (tl4_1 n)) :: (pt b2 24 [Value.int .i64 gb, Value.int .i64 eb, Value.int .i64 db, vb]) :: (pt b1 24 [Value.int .i64 ga, Value.int .i64 ea, Value.int .i64 da, va]) :: F) (fun _ h => h) ?_
        refine Wl.imp (L' := (storeW b4 z7) :: (pt b7 3 [Value.int .i64 ((p : Nat) : Int), Value.int .i64 ((key : Nat) : Int), Value.int .i64 ((own : Nat) : Int)]) :: (pt b3 31 [Value.int .u8 1, Value.int .i64 n, Value.int .i64 0, Value.int .i64 0]) :: (refW b5 (tl4_1 n)) :: (pt b2 24 [Value.int .i64 gb, Value.int .i64 eb, Value.int .i64 db, vb]) :: (pt b1 24 [Value.int .i64 ga, Value.int .i64 ea, Value.int .i64 da, va]) :: F) (fun _ h => st_pull [1, 0] h) ?_
        refine Wl.e (e_call (F := (pt b3 31 [Value.int .u8 1, Value.int .i64 n, Value.int .i64 0, Value.int .i64 0]) :: (refW b5 (tl4_1 n)) :: (pt b2 24 [Value.int .i64 gb, Value.int .i64 eb, Value.int .i64 db, vb]) :: (pt b1 24 [Value.int .i64 ga, Value.int .i64 ea, Value.int .i64 da, va]) :: F) (args := [Value.pointer (some ⟨b4, 0, none⟩), Value.slice (some ⟨b7, 0, none⟩) 3 3]) Try.call10 rfl (dnew_s W0 b4 z7 b7 3 [(p : Int), (key : Int), (own : Int)] 3 _ rfl rfl (by decide) I.rng)) (fun k _ => ?_)
        refine Wl.imp (L' := (knowK k b4 z7 (KL [(p : Int), (key : Int), (own : Int)])) :: (storeW b4 z7) :: (pt b7 3 [Value.int .i64 ((p : Nat) : Int), Value.int .i64 ((key : Nat) : Int), Value.int .i64 ((own : Nat) : Int)]) :: (pt b3 31 [Value.int .u8 1, Value.int .i64 n, Value.int .i64 0, Value.int .i64 0]) :: (refW b5 (tl4_1 n)) :: (pt b2 24 [Value.int .i64 gb, Value.int .i64 eb, Value.int .i64 db, vb]) :: (pt b1 24 [Value.int .i64 ga, Value.int .i64 ea, Value.int .i64 da, va]) :: F) (fun _ h => h) ?_
        refine Wl.q (v := Value.tuple #[Value.pointer (some ⟨k, 0, none⟩), Value.int .i64 0]) (q_move rfl) ?_
        refine Wl.q (v := Value.pointer (some ⟨k, 0, none⟩)) (q_extract (i := 0) rfl rfl) ?_
        refine Wl.q (v := Value.int .i64 0) (q_extract (i := 1) rfl rfl) ?_
        refine Wl.q (v := Value.pointer (some ⟨k, 0, none⟩)) (q_assign rfl) ?_
        refine Wl.q (v := Value.int .i64 0) (q_assign rfl) ?_
        refine Wl.done ?_
        refine Wx.go ?_
        refine Wc.seq ?_
        refine Wc.region ?_
        refine Wl.q (v := Value.int .i64 0) (q_move rfl) ?_
        refine Wl.q (v := Value.bool true) (q_eql (r := true) rfl rfl (decide_eq_true (by decide))) ?_
        refine Wl.q (v := Value.bool true) (q_move rfl) ?_
        refine Wl.q (v := Value.pointer (some ⟨k, 0, none⟩)) (q_move rfl) ?_
        refine Wl.q (v := Value.int .i64 ((q : Nat) : Int)) (q_move rfl) ?_
        refine Wl.imp (L' := (storeW b4 z7) :: (knowK k b4 z7 (KL [(p : Int), (key : Int), (own : Int)])) :: (pt b7 3 [Value.int .i64 ((p : Nat) : Int), Value.int .i64 ((key : Nat) : Int), Value.int .i64 ((own : Nat) : Int)]) :: (pt b3 31 [Value.int .u8 1, Value.int .i64 n, Value.int .i64 0, Value.int .i64 0]) :: (refW b5 (tl4_1 n)) :: (pt b2 24 [Value.int .i64 gb, Value.int .i64 eb, Value.int .i64 db, vb]) :: (pt b1 24 [Value.int .i64 ga, Value.int .i64 ea, Value.int .i64 da, va]) :: F) (fun _ h => st_pull [1, 0] h) ?_
        refine Wl.e (e_call (F := (pt b7 3 [Value.int .i64 ((p : Nat) : Int), Value.int .i64 ((key : Nat) : Int), Value.int .i64 ((own : Nat) : Int)]) :: (pt b3 31 [Value.int .u8 1, Value.int .i64 n, Value.int .i64 0, Value.int .i64 0]) :: (refW b5 (tl4_1 n)) :: (pt b2 24 [Value.int .i64 gb, Value.int .i64 eb, Value.int .i64 db, vb]) :: (pt b1 24 [Value.int .i64 ga, Value.int .i64 ea, Value.int .i64 da, va]) :: F) (args := [Value.pointer (some ⟨k, 0, none⟩), Value.int .i64 ((q : Nat) : Int)]) Try.call11 rfl (khas_w W0 k b4 z7 _ (q : Int) (I.has.trans (decide_eq_false (fun h => (fun h => hda2 (I.sed.1 (Int.ofNat.inj h)).2.2.1) (congrArg Int.ofNat h)))))) (fun _ _ => ?_)
        refine Wl.imp (L' := (storeW b4 z7) :: (knowK k b4 z7 (KL [(p : Int), (key : Int), (own : Int)])) :: (pt b7 3 [Value.int .i64 ((p : Nat) : Int), Value.int .i64 ((key : Nat) : Int), Value.int .i64 ((own : Nat) : Int)]) :: (pt b3 31 [Value.int .u8 1, Value.int .i64 n, Value.int .i64 0, Value.int .i64 0]) :: (refW b5 (tl4_1 n)) :: (pt b2 24 [Value.int .i64 gb, Value.int .i64 eb, Value.int .i64 db, vb]) :: (pt b1 24 [Value.int .i64 ga, Value.int .i64 ea, Value.int .i64 da, va]) :: F) (fun _ h => h) ?_
        refine Wl.q (v := Value.bool false) (q_move rfl) ?_
        refine Wl.q (v := Value.bool true) (q_eql_bool (r := true) rfl rfl Try.underlying4 rfl) ?_
        refine Wl.q (v := Value.bool true) (q_pick (t := true) rfl rfl) ?_
        refine Wl.q (v := Value.bool true) (q_move rfl) ?_
        refine Wl.q (v := Value.pointer (some ⟨k, 0, none⟩)) (q_move rfl) ?_
        refine Wl.e (e_call (F := (pt b7 3 [Value.int .i64 ((p : Nat) : Int), Value.int .i64 ((key : Nat) : Int), Value.int .i64 ((own : Nat) : Int)]) :: (pt b3 31 [Value.int .u8 1, Value.int .i64 n, Value.int .i64 0, Value.int .i64 0]) :: (refW b5 (tl4_1 n)) :: (pt b2 24 [Value.int .i64 gb, Value.int .i64 eb, Value.int .i64 db, vb]) :: (pt b1 24 [Value.int .i64 ga, Value.int .i64 ea, Value.int .i64 da, va]) :: F) (args := [Value.pointer (some ⟨k, 0, none⟩), Value.int .i64 1]) Try.call11 rfl (khas_w W0 k b4 z7 _ 1 I.not)) (fun _ _ => ?_)
        refine Wl.imp (L' := (storeW b4 z7) :: (knowK k b4 z7 (KL [(p : Int), (key : Int), (own : Int)])) :: (pt b7 3 [Value.int .i64 ((p : Nat) : Int), Value.int .i64 ((key : Nat) : Int), Value.int .i64 ((own : Nat) : Int)]) :: (pt b3 31 [Value.int .u8 1, Value.int .i64 n, Value.int .i64 0, Value.int .i64 0]) :: (refW b5 (tl4_1 n)) :: (pt b2 24 [Value.int .i64 gb, Value.int .i64 eb, Value.int .i64 db, vb]) :: (pt b1 24 [Value.int .i64 ga, Value.int .i64 ea, Value.int .i64 da, va]) :: F) (fun _ h => h) ?_
        refine Wl.q (v := Value.bool true) (q_not rfl rfl) ?_
        refine Wl.q (v := Value.bool true) (q_pick (t := true) rfl rfl) ?_
        refine Wl.q (v := Value.bool true) (q_move rfl) ?_
        refine Wl.e (e_call (F := (storeW b4 z7) :: (knowK k b4 z7 (KL [(p : Int), (key : Int), (own : Int)])) :: (pt b7 3 [Value.int .i64 ((p : Nat) : Int), Value.int .i64 ((key : Nat) : Int), Value.int .i64 ((own : Nat) : Int)]) :: (pt b3 31 [Value.int .u8 1, Value.int .i64 n, Value.int .i64 0, Value.int .i64 0]) :: (refW b5 (tl4_1 n)) :: (pt b2 24 [Value.int .i64 gb, Value.int .i64 eb, Value.int .i64 db, vb]) :: (pt b1 24 [Value.int .i64 ga, Value.int .i64 ea, Value.int .i64 da, va]) :: F) (args := []) Try.call12 rfl (au1_lives W0)) (fun _ _ => ?_)
        refine Wl.imp (L' := (storeW b4 z7) :: (knowK k b4 z7 (KL [(p : Int), (key : Int), (own : Int)])) :: (pt b7 3 [Value.int .i64 ((p : Nat) : Int), Value.int .i64 ((key : Nat) : Int), Value.int .i64 ((own : Nat) : Int)]) :: (pt b3 31 [Value.int .u8 1, Value.int .i64 n, Value.int .i64 0, Value.int .i64 0]) :: (refW b5 (tl4_1 n)) :: (pt b2 24 [Value.int .i64 gb, Value.int .i64 eb, Value.int .i64 db, vb]) :: (pt b1 24 [Value.int .i64 ga, Value.int .i64 ea, Value.int .i64 da, va]) :: F) (fun _ h => h) ?_
        refine Wl.q (v := Value.bool true) (q_pick (t := true) rfl rfl) ?_
        refine Wl.q (v := Value.bool true) (q_assign rfl) ?_
        refine Wl.done ?_
        refine Wx.go ?_
        refine Wc.ret ?_
        refine Wx.fin1 rfl (.inl rfl) (fun w hs => ?_)
        exact ⟨(), trivial, rfl, (st_drop (st_drop (st_drop (st_drop (st_drop (st_drop (st_drop (st_pull [0, 0, 0, 0, 0, 0, 0] hs))))))))⟩
    ·
      refine Wl.q (v := Value.bool false) (q_eql (r := false) rfl rfl (decide_eq_false hea2)) ?_
      refine Wl.q (v := Value.bool false) (q_pick (t := true) rfl rfl) ?_
      refine Wl.q (v := Value.bool false) (q_move rfl) ?_
      refine Wl.no ?_
      refine Wl.no ?_
      refine Wl.no ?_
      refine Wl.no ?_
      refine Wl.no ?_
      refine Wl.q (v := Value.bool false) (q_pick (t := false) rfl rfl) ?_
      refine Wl.q (v := Value.bool false) (q_move rfl) ?_
      refine Wl.no ?_
      refine Wl.no ?_
      refine Wl.no ?_
      refine Wl.no ?_
      refine Wl.no ?_
      refine Wl.q (v := Value.bool false) (q_pick (t := false) rfl rfl) ?_
      refine Wl.q (v := Value.bool false) (q_assign rfl) ?_
      refine Wl.done ?_
      refine Wx.go ?_
      refine Wc.seq ?_
      refine Wc.seq ?_
      refine Wc.region ?_
      refine Wl.q (v := Value.bool false) (q_move rfl) ?_
      refine Wl.q (v := Value.int .i64 ((p : Nat) : Int)) (q_move rfl) ?_
      refine Wl.q (v := Value.int .i64 ((q : Nat) : Int)) (q_move rfl) ?_
      refine Wl.q (v := Value.bool false) (q_eql (r := false) rfl rfl (decide_eq_false (fun h => hea2 (I.sed.1 (Int.ofNat.inj h)).2.1))) ?_
      refine Wl.q (v := Value.bool false) (q_neq_bool (r := true) rfl rfl Try.underlying4 rfl) ?_
      refine Wl.q (v := Value.bool false) (q_move rfl) ?_
      refine Wl.q (v := Value.int .i64 ((x : Nat) : Int)) (q_move rfl) ?_
      refine Wl.q (v := Value.int .i64 ((y : Nat) : Int)) (q_move rfl) ?_
      refine Wl.q (v := Value.bool true) (q_eql (r := true) rfl rfl (decide_eq_true (congrArg Int.ofNat (I.dig.2 hs0)))) ?_
      refine Wl.q (v := Value.pointer (some ⟨b1, 3, none⟩)) (q_field (m := 3) fo_24_3 rfl rfl) ?_
      refine Wl.q (v := va) (q_load sc_22 rfl (.cel (i := 4) rfl rfl)) ?_
      refine Wl.q (v := Value.pointer (some ⟨b2, 3, none⟩)) (q_field (m := 3) fo_24_3 rfl rfl) ?_
      refine Wl.q (v := vb) (q_load sc_22 rfl (.cel (i := 3) rfl rfl)) ?_
      refine Wl.e (e_call (F := (storeW b4 z7) :: (pt b3 31 [Value.int .u8 1, Value.int .i64 n, Value.int .i64 0, Value.int .i64 0]) :: (refW b5 (tl4_1 n)) :: (pt b2 24 [Value.int .i64 gb, Value.int .i64 eb, Value.int .i64 db, vb]) :: (pt b1 24 [Value.int .i64 ga, Value.int .i64 ea, Value.int .i64 da, va]) :: F) (args := [va, vb]) Try.call9 rfl ((same_c W0 va vb la lb hva hvb hma hmb).eqs (fun _ => congrArg Value.bool (decide_eq_true hs0)) (fun _ => rfl))) (fun _ _ => ?_)
      refine Wl.imp (L' := (storeW b4 z7) :: (pt b3 31 [Value.int .u8 1, Value.int .i64 n, Value.int .i64 0, Value.int .i64 0]) :: (refW b5 (tl4_1 n)) :: (pt b2 24 [Value.int .i64 gb, Value.int .i64 eb, Value.int .i64 db, vb]) :: (pt b1 24 [Value.int .i64 ga, Value.int .i64 ea, Value.int .i64 da, va]) :: F) (fun _ h => h) ?_
      refine Wl.q (v := Value.bool false) (q_neq_bool (r := true) rfl rfl Try.underlying4 rfl) ?_
      refine Wl.q (v := Value.bool false) (q_pick (t := false) rfl rfl) ?_
      refine Wl.done ?_
      refine Wx.go ?_
      refine Wc.no rfl ?_
      refine Wc.skip ?_
      refine Wx.go ?_
      refine Wc.seq ?_
      refine Wc.region ?_
      refine Wl.q (v := Value.pointer (some ⟨b4, 0, none⟩)) (q_move rfl) ?_
      refine Wl.q (v := Value.int .i64 ((p : Nat) : Int)) (q_move rfl) ?_
      refine Wl.q (v := Value.int .i64 ((key : Nat) : Int)) (q_move rfl) ?_
      refine Wl.q (v := Value.int .i64 ((own : Nat) : Int)) (q_move rfl) ?_
      refine Wl.e (e_buildSlice (cs := [Value.int .i64 ((p : Nat) : Int), Value.int .i64 ((key : Nat) : Int), Value.int .i64 ((own : Nat) : Int)]) se_22 zo_3 (by decide) (by decide) (by kernel_rfl)) (fun b8 _ => ?_)
      refine Wl.imp (L' := (pt b8 3 [Value.int .i64 ((p : Nat) : Int), Value.int .i64 ((key : Nat) : Int), Value.int .i64 ((own : Nat) : Int)]) :: (storeW b4 z7) :: (pt b3 31 [Value.int .u8 1, Value.int .i64 n, Value.int .i64 0, Value.int .i64 0]) :: (refW b5 (tl4_1 n)) :: (pt b2 24 [Value.int .i64 gb, Value.int .i64 eb, Value.int .i64 db, vb]) :: (pt b1 24 [Value.int .i64 ga, Value.int .i64 ea, Value.int .i64 da, va]) :: F) (fun _ h => h) ?_
      refine Wl.imp (L' := (storeW b4 z7) :: (pt b8 3 [Value.int .i64 ((p : Nat) : Int), Value.int .i64 ((key : Nat) : Int), Value.int .i64 ((own : Nat) : Int)]) :: (pt b3 31 [Value.int .u8 1, Value.int .i64 n, Value.int .i64 0, Value.int .i64 0]) :: (refW b5 (tl4_1 n)) :: (pt b2 24 [Value.int .i64 gb, Value.int .i64 eb, Value.int .i64 db, vb]) :: (pt b1 24 [Value.int .i64 ga, Value.int .i64 ea, Value.int .i64 da, va]) :: F) (fun _ h => st_pull [1, 0] h) ?_
      refine Wl.e (e_call (F := (pt b3 31 [Value.int .u8 1, Value.int .i64 n, Value.int .i64 0, Value.int .i64 0]) :: (refW b5 (tl4_1 n)) :: (pt b2 24 [Value.int .i64 gb, Value.int .i64 eb, Value.int .i64 db, vb]) :: (pt b1 24 [Value.int .i64 ga, Value.int .i64 ea, Value.int .i64 da, va]) :: F) (args := [Value.pointer (some ⟨b4, 0, none⟩), Value.slice (some ⟨b8, 0, none⟩) 3 3]) Try.call10 rfl (dnew_s W0 b4 z7 b8 3 [(p : Int), (key : Int), (own : Int)] 3 _ rfl rfl (by decide) I.rng)) (fun k _ => ?_)
      refine Wl.imp (L' := (knowK k b4 z7 (KL [(p : Int), (key : Int), (own : Int)])) :: (storeW b4 z7) :: (pt b8 3 [Value.int .i64 ((p : Nat) : Int), Value.int .i64 ((key : Nat) : Int), Value.int .i64 ((own : Nat) : Int)]) :: (pt b3 31 [Value.int .u8 1, Value.int .i64 n, Value.int .i64 0, Value.int .i64 0]) :: (refW b5 (tl4_1 n)) :: (pt b2 24 [Value.int .i64 gb, Value.int .i64 eb, Value.int .i64 db, vb]) :: (pt b1 24 [Value.int .i64 ga, Value.int .i64 ea, Value.int .i64 da, va]) :: F) (fun _ h => h) ?_
      refine Wl.q (v := Value.tuple #[Value.pointer (some ⟨k, 0, none⟩), Value.int .i64 0]) (q_move rfl) ?_
      refine Wl.q (v := Value.pointer (some ⟨k, 0, none⟩)) (q_extract (i := 0) rfl rfl) ?_
      refine Wl.q (v := Value.int .i64 0) (q_extract (i := 1) rfl rfl) ?_
      refine Wl.q (v := Value.pointer (some ⟨k, 0, none⟩)) (q_assign rfl) ?_
      refine Wl.q (v := Value.int .i64 0) (q_assign rfl) ?_
      refine Wl.done ?_
      refine Wx.go ?_
      refine Wc.seq ?_
      refine Wc.region ?_
      refine Wl.q (v := Value.int .i64 0) (q_move rfl) ?_
      refine Wl.q (v := Value.bool true) (q_eql (r := true) rfl rfl (decide_eq_true (by decide))) ?_
      refine Wl.q (v := Value.bool true) (q_move rfl) ?_
      refine Wl.q (v := Value.pointer (some ⟨k, 0, none⟩)) (q_move rfl) ?_
      refine Wl.q (v := Value.int .i64 ((q : Nat) : Int)) (q_move rfl) ?_
      refine Wl.imp (L' := (storeW b4 z7) :: (knowK k b4 z7 (KL [(p : Int), (key : Int), (own : Int)])) :: (pt b8 3 [Value.int .i64 ((p : Nat) : Int), Value.int .i64 ((key : Nat) : Int), Value.int .i64 ((own : Nat) : Int)]) :: (pt b3 31 [Value.int .u8 1, Value.int .i64 n, Value.int .i64 0, Value.int .i64 0]) :: (refW b5 (tl4_1 n)) :: (pt b2 24 [Value.int .i64 gb, Value.int .i64 eb, Value.int .i64 db, vb]) :: (pt b1 24 [Value.int .i64 ga, Value.int .i64 ea, Value.int .i64 da, va]) :: F) (fun _ h => st_pull [1, 0] h) ?_
      refine Wl.e (e_call (F := (pt b8 3 [Value.int .i64 ((p : Nat) : Int), Value.int .i64 ((key : Nat) : Int), Value.int .i64 ((own : Nat) : Int)]) :: (pt b3 31 [Value.int .u8 1, Value.int .i64 n, Value.int .i64 0, Value.int .i64 0]) :: (refW b5 (tl4_1 n)) :: (pt b2 24 [Value.int .i64 gb, Value.int .i64 eb, Value.int .i64 db, vb]) :: (pt b1 24 [Value.int .i64 ga, Value.int .i64 ea, Value.int .i64 da, va]) :: F) (args := [Value.pointer (some ⟨k, 0, none⟩), Value.int .i64 ((q : Nat) : Int)]) Try.call11 rfl (khas_w W0 k b4 z7 _ (q : Int) (I.has.trans (decide_eq_false (fun h => (fun h => hea2 (I.sed.1 (Int.ofNat.inj h)).2.1) (congrArg Int.ofNat h)))))) (fun _ _ => ?_)
      refine Wl.imp (L' := (storeW b4 z7) :: (knowK k b4 z7 (KL [(p : Int), (key : Int), (own : Int)])) :: (pt b8 3 [Value.int .i64 ((p : Nat) : Int), Value.int .i64 ((key : Nat) : Int), Value.int .i64 ((own : Nat) : Int)]) :: (pt b3 31 [Value.int .u8 1, Value.int .i64 n, Value.int .i64 0, Value.int .i64 0]) :: (refW b5 (tl4_1 n)) :: (pt b2 24 [Value.int .i64 gb, Value.int .i64 eb, Value.int .i64 db, vb]) :: (pt b1 24 [Value.int .i64 ga, Value.int .i64 ea, Value.int .i64 da, va]) :: F) (fun _ h => h) ?_
      refine Wl.q (v := Value.bool false) (q_move rfl) ?_
      refine Wl.q (v := Value.bool true) (q_eql_bool (r := true) rfl rfl Try.underlying4 rfl) ?_
      refine Wl.q (v := Value.bool true) (q_pick (t := true) rfl rfl) ?_
      refine Wl.q (v := Value.bool true) (q_move rfl) ?_
      refine Wl.q (v := Value.pointer (some ⟨k, 0, none⟩)) (q_move rfl) ?_
      refine Wl.e (e_call (F := (pt b8 3 [Value.int .i64 ((p : Nat) : Int), Value.int .i64 ((key : Nat) : Int), Value.int .i64 ((own : Nat) : Int)]) :: (pt b3 31 [Value.int .u8 1, Value.int .i64 n, Value.int .i64 0, Value.int .i64 0]) :: (refW b5 (tl4_1 n)) :: (pt b2 24 [Value.int .i64 gb, Value.int .i64 eb, Value.int .i64 db, vb]) :: (pt b1 24 [Value.int .i64 ga, Value.int .i64 ea, Value.int .i64 da, va]) :: F) (args := [Value.pointer (some ⟨k, 0, none⟩), Value.int .i64 1]) Try.call11 rfl (khas_w W0 k b4 z7 _ 1 I.not)) (fun _ _ => ?_)
      refine Wl.imp (L' := (storeW b4 z7) :: (knowK k b4 z7 (KL [(p : Int), (key : Int), (own : Int)])) :: (pt b8 3 [Value.int .i64 ((p : Nat) : Int), Value.int .i64 ((key : Nat) : Int), Value.int .i64 ((own : Nat) : Int)]) :: (pt b3 31 [Value.int .u8 1, Value.int .i64 n, Value.int .i64 0, Value.int .i64 0]) :: (refW b5 (tl4_1 n)) :: (pt b2 24 [Value.int .i64 gb, Value.int .i64 eb, Value.int .i64 db, vb]) :: (pt b1 24 [Value.int .i64 ga, Value.int .i64 ea, Value.int .i64 da, va]) :: F) (fun _ h => h) ?_
      refine Wl.q (v := Value.bool true) (q_not rfl rfl) ?_
      refine Wl.q (v := Value.bool true) (q_pick (t := true) rfl rfl) ?_
      refine Wl.q (v := Value.bool true) (q_move rfl) ?_
      refine Wl.e (e_call (F := (storeW b4 z7) :: (knowK k b4 z7 (KL [(p : Int), (key : Int), (own : Int)])) :: (pt b8 3 [Value.int .i64 ((p : Nat) : Int), Value.int .i64 ((key : Nat) : Int), Value.int .i64 ((own : Nat) : Int)]) :: (pt b3 31 [Value.int .u8 1, Value.int .i64 n, Value.int .i64 0, Value.int .i64 0]) :: (refW b5 (tl4_1 n)) :: (pt b2 24 [Value.int .i64 gb, Value.int .i64 eb, Value.int .i64 db, vb]) :: (pt b1 24 [Value.int .i64 ga, Value.int .i64 ea, Value.int .i64 da, va]) :: F) (args := []) Try.call12 rfl (au1_lives W0)) (fun _ _ => ?_)
      refine Wl.imp (L' := (storeW b4 z7) :: (knowK k b4 z7 (KL [(p : Int), (key : Int), (own : Int)])) :: (pt b8 3 [Value.int .i64 ((p : Nat) : Int), Value.int .i64 ((key : Nat) : Int), Value.int .i64 ((own : Nat) : Int)]) :: (pt b3 31 [Value.int .u8 1, Value.int .i64 n, Value.int .i64 0, Value.int .i64 0]) :: (refW b5 (tl4_1 n)) :: (pt b2 24 [Value.int .i64 gb, Value.int .i64 eb, Value.int .i64 db, vb]) :: (pt b1 24 [Value.int .i64 ga, Value.int .i64 ea, Value.int .i64 da, va]) :: F) (fun _ h => h) ?_
      refine Wl.q (v := Value.bool true) (q_pick (t := true) rfl rfl) ?_
      refine Wl.q (v := Value.bool true) (q_assign rfl) ?_
      refine Wl.done ?_
      refine Wx.go ?_
      refine Wc.ret ?_
      refine Wx.fin1 rfl (.inl rfl) (fun w hs => ?_)
      exact ⟨(), trivial, rfl, (st_drop (st_drop (st_drop (st_drop (st_drop (st_drop (st_drop (st_pull [0, 0, 0, 0, 0, 0, 0] hs))))))))⟩
  ·
    refine Wl.q (v := Value.bool false) (q_eql (r := false) rfl rfl (decide_eq_false hga2)) ?_
    refine Wl.q (v := Value.bool false) (q_move rfl) ?_
    refine Wl.no ?_
    refine Wl.no ?_
    refine Wl.no ?_
    refine Wl.no ?_
    refine Wl.no ?_
    refine Wl.q (v := Value.bool false) (q_pick (t := false) rfl rfl) ?_
    refine Wl.q (v := Value.bool false) (q_move rfl) ?_
    refine Wl.no ?_
    refine Wl.no ?_
    refine Wl.no ?_
    refine Wl.no ?_
    refine Wl.no ?_
    refine Wl.q (v := Value.bool false) (q_pick (t := false) rfl rfl) ?_
    refine Wl.q (v := Value.bool false) (q_move rfl) ?_
    refine Wl.no ?_
    refine Wl.no ?_
    refine Wl.no ?_
    refine Wl.no ?_
    refine Wl.no ?_
    refine Wl.q (v := Value.bool false) (q_pick (t := false) rfl rfl) ?_
    refine Wl.q (v := Value.bool false) (q_assign rfl) ?_
    refine Wl.done ?_
    refine Wx.go ?_
    refine Wc.seq ?_
    refine Wc.seq ?_
    refine Wc.region ?_
    refine Wl.q (v := Value.bool false) (q_move rfl) ?_
    refine Wl.q (v := Value.int .i64 ((p : Nat) : Int)) (q_move rfl) ?_
    refine Wl.q (v := Value.int .i64 ((q : Nat) : Int)) (q_move rfl) ?_
    refine Wl.q (v := Value.bool false) (q_eql (r := false) rfl rfl (decide_eq_false (fun h => hga2 (I.sed.1 (Int.ofNat.inj h)).1))) ?_
    refine Wl.q (v := Value.bool false) (q_neq_bool (r := true) rfl rfl Try.underlying4 rfl) ?_
    refine Wl.q (v := Value.bool false) (q_move rfl) ?_
    refine Wl.q (v := Value.int .i64 ((x : Nat) : Int)) (q_move rfl) ?_
    refine Wl.q (v := Value.int .i64 ((y : Nat) : Int)) (q_move rfl) ?_
    refine Wl.q (v := Value.bool true) (q_eql (r := true) rfl rfl (decide_eq_true (congrArg Int.ofNat (I.dig.2 hs0)))) ?_
    refine Wl.q (v := Value.pointer (some ⟨b1, 3, none⟩)) (q_field (m := 3) fo_24_3 rfl rfl) ?_
    refine Wl.q (v := va) (q_load sc_22 rfl (.cel (i := 4) rfl rfl)) ?_
    refine Wl.q (v := Value.pointer (some ⟨b2, 3, none⟩)) (q_field (m := 3) fo_24_3 rfl rfl) ?_
    refine Wl.q (v := vb) (q_load sc_22 rfl (.cel (i := 3) rfl rfl)) ?_
    refine Wl.e (e_call (F := (storeW b4 z7) :: (pt b3 31 [Value.int .u8 1, Value.int .i64 n, Value.int .i64 0, Value.int .i64 0]) :: (refW b5 (tl4_1 n)) :: (pt b2 24 [Value.int .i64 gb, Value.int .i64 eb, Value.int .i64 db, vb]) :: (pt b1 24 [Value.int .i64 ga, Value.int .i64 ea, Value.int .i64 da, va]) :: F) (args := [va, vb]) Try.call9 rfl ((same_c W0 va vb la lb hva hvb hma hmb).eqs (fun _ => congrArg Value.bool (decide_eq_true hs0)) (fun _ => rfl))) (fun _ _ => ?_)
    refine Wl.imp (L' := (storeW b4 z7) :: (pt b3 31 [Value.int .u8 1, Value.int .i64 n, Value.int .i64 0, Value.int .i64 0]) :: (refW b5 (tl4_1 n)) :: (pt b2 24 [Value.int .i64 gb, Value.int .i64 eb, Value.int .i64 db, vb]) :: (pt b1 24 [Value.int .i64 ga, Value.int .i64 ea, Value.int .i64 da, va]) :: F) (fun _ h => h) ?_
    refine Wl.q (v := Value.bool false) (q_neq_bool (r := true) rfl rfl Try.underlying4 rfl) ?_
    refine Wl.q (v := Value.bool false) (q_pick (t := false) rfl rfl) ?_
    refine Wl.done ?_
    refine Wx.go ?_
    refine Wc.no rfl ?_
    refine Wc.skip ?_
    refine Wx.go ?_
    refine Wc.seq ?_
    refine Wc.region ?_
    refine Wl.q (v := Value.pointer (some ⟨b4, 0, none⟩)) (q_move rfl) ?_
    refine Wl.q (v := Value.int .i64 ((p : Nat) : Int)) (q_move rfl) ?_
    refine Wl.q (v := Value.int .i64 ((key : Nat) : Int)) (q_move rfl) ?_
    refine Wl.q (v := Value.int .i64 ((own : Nat) : Int)) (q_move rfl) ?_
    refine Wl.e (e_buildSlice (cs := [Value.int .i64 ((p : Nat) : Int), Value.int .i64 ((key : Nat) : Int), Value.int .i64 ((own : Nat) : Int)]) se_22 zo_3 (by decide) (by decide) (by kernel_rfl)) (fun b9 _ => ?_)
    refine Wl.imp (L' := (pt b9 3 [Value.int .i64 ((p : Nat) : Int), Value.int .i64 ((key : Nat) : Int), Value.int .i64 ((own : Nat) : Int)]) :: (storeW b4 z7) :: (pt b3 31 [Value.int .u8 1, Value.int .i64 n, Value.int .i64 0, Value.int .i64 0]) :: (refW b5 (tl4_1 n)) :: (pt b2 24 [Value.int .i64 gb, Value.int .i64 eb, Value.int .i64 db, vb]) :: (pt b1 24 [Value.int .i64 ga, Value.int .i64 ea, Value.int .i64 da, va]) :: F) (fun _ h => h) ?_
    refine Wl.imp (L' := (storeW b4 z7) :: (pt b9 3 [Value.int .i64 ((p : Nat) : Int), Value.int .i64 ((key : Nat) : Int), Value.int .i64 ((own : Nat) : Int)]) :: (pt b3 31 [Value.int .u8 1, Value.int .i64 n, Value.int .i64 0, Value.int .i64 0]) :: (refW b5 (tl4_1 n)) :: (pt b2 24 [Value.int .i64 gb, Value.int .i64 eb, Value.int .i64 db, vb]) :: (pt b1 24 [Value.int .i64 ga, Value.int .i64 ea, Value.int .i64 da, va]) :: F) (fun _ h => st_pull [1, 0] h) ?_
    refine Wl.e (e_call (F := (pt b3 31 [Value.int .u8 1, Value.int .i64 n, Value.int .i64 0, Value.int .i64 0]) :: (refW b5 (tl4_1 n)) :: (pt b2 24 [Value.int .i64 gb, Value.int .i64 eb, Value.int .i64 db, vb]) :: (pt b1 24 [Value.int .i64 ga, Value.int .i64 ea, Value.int .i64 da, va]) :: F) (args := [Value.pointer (some ⟨b4, 0, none⟩), Value.slice (some ⟨b9, 0, none⟩) 3 3]) Try.call10 rfl (dnew_s W0 b4 z7 b9 3 [(p : Int), (key : Int), (own : Int)] 3 _ rfl rfl (by decide) I.rng)) (fun k _ => ?_)
    refine Wl.imp (L' := (knowK k b4 z7 (KL [(p : Int), (key : Int), (own : Int)])) :: (storeW b4 z7) :: (pt b9 3 [Value.int .i64 ((p : Nat) : Int), Value.int .i64 ((key : Nat) : Int), Value.int .i64 ((own : Nat) : Int)]) :: (pt b3 31 [Value.int .u8 1, Value.int .i64 n, Value.int .i64 0, Value.int .i64 0]) :: (refW b5 (tl4_1 n)) :: (pt b2 24 [Value.int .i64 gb, Value.int .i64 eb, Value.int .i64 db, vb]) :: (pt b1 24 [Value.int .i64 ga, Value.int .i64 ea, Value.int .i64 da, va]) :: F) (fun _ h => h) ?_
    refine Wl.q (v := Value.tuple #[Value.pointer (some ⟨k, 0, none⟩), Value.int .i64 0]) (q_move rfl) ?_
    refine Wl.q (v := Value.pointer (some ⟨k, 0, none⟩)) (q_extract (i := 0) rfl rfl) ?_
    refine Wl.q (v := Value.int .i64 0) (q_extract (i := 1) rfl rfl) ?_
    refine Wl.q (v := Value.pointer (some ⟨k, 0, none⟩)) (q_assign rfl) ?_
    refine Wl.q (v := Value.int .i64 0) (q_assign rfl) ?_
    refine Wl.done ?_
    refine Wx.go ?_
    refine Wc.seq ?_
    refine Wc.region ?_
    refine Wl.q (v := Value.int .i64 0) (q_move rfl) ?_
    refine Wl.q (v := Value.bool true) (q_eql (r := true) rfl rfl (decide_eq_true (by decide))) ?_
    refine Wl.q (v := Value.bool true) (q_move rfl) ?_
    refine Wl.q (v := Value.pointer (some ⟨k, 0, none⟩)) (q_move rfl) ?_
    refine Wl.q (v := Value.int .i64 ((q : Nat) : Int)) (q_move rfl) ?_
    refine Wl.imp (L' := (storeW b4 z7) :: (knowK k b4 z7 (KL [(p : Int), (key : Int), (own : Int)])) :: (pt b9 3 [Value.int .i64 ((p : Nat) : Int), Value.int .i64 ((key : Nat) : Int), Value.int .i64 ((own : Nat) : Int)]) :: (pt b3 31 [Value.int .u8 1, Value.int .i64 n, Value.int .i64 0, Value.int .i64 0]) :: (refW b5 (tl4_1 n)) :: (pt b2 24 [Value.int .i64 gb, Value.int .i64 eb, Value.int .i64 db, vb]) :: (pt b1 24 [Value.int .i64 ga, Value.int .i64 ea, Value.int .i64 da, va]) :: F) (fun _ h => st_pull [1, 0] h) ?_
    refine Wl.e (e_call (F := (pt b9 3 [Value.int .i64 ((p : Nat) : Int), Value.int .i64 ((key : Nat) : Int), Value.int .i64 ((own : Nat) : Int)]) :: (pt b3 31 [Value.int .u8 1, Value.int .i64 n, Value.int .i64 0, Value.int .i64 0]) :: (refW b5 (tl4_1 n)) :: (pt b2 24 [Value.int .i64 gb, Value.int .i64 eb, Value.int .i64 db, vb]) :: (pt b1 24 [Value.int .i64 ga, Value.int .i64 ea, Value.int .i64 da, va]) :: F) (args := [Value.pointer (some ⟨k, 0, none⟩), Value.int .i64 ((q : Nat) : Int)]) Try.call11 rfl (khas_w W0 k b4 z7 _ (q : Int) (I.has.trans (decide_eq_false (fun h => (fun h => hga2 (I.sed.1 (Int.ofNat.inj h)).1) (congrArg Int.ofNat h)))))) (fun _ _ => ?_)
    refine Wl.imp (L' := (storeW b4 z7) :: (knowK k b4 z7 (KL [(p : Int), (key : Int), (own : Int)])) :: (pt b9 3 [Value.int .i64 ((p : Nat) : Int), Value.int .i64 ((key : Nat) : Int), Value.int .i64 ((own : Nat) : Int)]) :: (pt b3 31 [Value.int .u8 1, Value.int .i64 n, Value.int .i64 0, Value.int .i64 0]) :: (refW b5 (tl4_1 n)) :: (pt b2 24 [Value.int .i64 gb, Value.int .i64 eb, Value.int .i64 db, vb]) :: (pt b1 24 [Value.int .i64 ga, Value.int .i64 ea, Value.int .i64 da, va]) :: F) (fun _ h => h) ?_
    refine Wl.q (v := Value.bool false) (q_move rfl) ?_
    refine Wl.q (v := Value.bool true) (q_eql_bool (r := true) rfl rfl Try.underlying4 rfl) ?_
    refine Wl.q (v := Value.bool true) (q_pick (t := true) rfl rfl) ?_
    refine Wl.q (v := Value.bool true) (q_move rfl) ?_
    refine Wl.q (v := Value.pointer (some ⟨k, 0, none⟩)) (q_move rfl) ?_
    refine Wl.e (e_call (F := (pt b9 3 [Value.int .i64 ((p : Nat) : Int), Value.int .i64 ((key : Nat) : Int), Value.int .i64 ((own : Nat) : Int)]) :: (pt b3 31 [Value.int .u8 1, Value.int .i64 n, Value.int .i64 0, Value.int .i64 0]) :: (refW b5 (tl4_1 n)) :: (pt b2 24 [Value.int .i64 gb, Value.int .i64 eb, Value.int .i64 db, vb]) :: (pt b1 24 [Value.int .i64 ga, Value.int .i64 ea, Value.int .i64 da, va]) :: F) (args := [Value.pointer (some ⟨k, 0, none⟩), Value.int .i64 1]) Try.call11 rfl (khas_w W0 k b4 z7 _ 1 I.not)) (fun _ _ => ?_)
    refine Wl.imp (L' := (storeW b4 z7) :: (knowK k b4 z7 (KL [(p : Int), (key : Int), (own : Int)])) :: (pt b9 3 [Value.int .i64 ((p : Nat) : Int), Value.int .i64 ((key : Nat) : Int), Value.int .i64 ((own : Nat) : Int)]) :: (pt b3 31 [Value.int .u8 1, Value.int .i64 n, Value.int .i64 0, Value.int .i64 0]) :: (refW b5 (tl4_1 n)) :: (pt b2 24 [Value.int .i64 gb, Value.int .i64 eb, Value.int .i64 db, vb]) :: (pt b1 24 [Value.int .i64 ga, Value.int .i64 ea, Value.int .i64 da, va]) :: F) (fun _ h => h) ?_
    refine Wl.q (v := Value.bool true) (q_not rfl rfl) ?_
    refine Wl.q (v := Value.bool true) (q_pick (t := true) rfl rfl) ?_
    refine Wl.q (v := Value.bool true) (q_move rfl) ?_
    refine Wl.e (e_call (F := (storeW b4 z7) :: (knowK k b4 z7 (KL [(p : Int), (key : Int), (own : Int)])) :: (pt b9 3 [Value.int .i64 ((p : Nat) : Int), Value.int .i64 ((key : Nat) : Int), Value.int .i64 ((own : Nat) : Int)]) :: (pt b3 31 [Value.int .u8 1, Value.int .i64 n, Value.int .i64 0, Value.int .i64 0]) :: (refW b5 (tl4_1 n)) :: (pt b2 24 [Value.int .i64 gb, Value.int .i64 eb, Value.int .i64 db, vb]) :: (pt b1 24 [Value.int .i64 ga, Value.int .i64 ea, Value.int .i64 da, va]) :: F) (args := []) Try.call12 rfl (au1_lives W0)) (fun _ _ => ?_)
    refine Wl.imp (L' := (storeW b4 z7) :: (knowK k b4 z7 (KL [(p : Int), (key : Int), (own : Int)])) :: (pt b9 3 [Value.int .i64 ((p : Nat) : Int), Value.int .i64 ((key : Nat) : Int), Value.int .i64 ((own : Nat) : Int)]) :: (pt b3 31 [Value.int .u8 1, Value.int .i64 n, Value.int .i64 0, Value.int .i64 0]) :: (refW b5 (tl4_1 n)) :: (pt b2 24 [Value.int .i64 gb, Value.int .i64 eb, Value.int .i64 db, vb]) :: (pt b1 24 [Value.int .i64 ga, Value.int .i64 ea, Value.int .i64 da, va]) :: F) (fun _ h => h) ?_
    refine Wl.q (v := Value.bool true) (q_pick (t := true) rfl rfl) ?_
    refine Wl.q (v := Value.bool true) (q_assign rfl) ?_
    refine Wl.done ?_
    refine Wx.go ?_
    refine Wc.ret ?_
    refine Wx.fin1 rfl (.inl rfl) (fun w hs => ?_)
    exact ⟨(), trivial, rfl, (st_drop (st_drop (st_drop (st_drop (st_drop (st_drop (st_drop (st_pull [0, 0, 0, 0, 0, 0, 0] hs))))))))⟩

set_option maxRecDepth 8000 in
theorem apart_other (W0 : World) (n : Int) (hn : 0 ≤ n ∧ n ≤ 9223372036854775807) (ga ea da gb eb db : Int) (hga : (-9223372036854775808 ≤ ga ∧ ga ≤ 9223372036854775807)) (hea : (-9223372036854775808 ≤ ea ∧ ea ≤ 9223372036854775807)) (hda : (-9223372036854775808 ≤ da ∧ da ≤ 9223372036854775807)) (hgb : (-9223372036854775808 ≤ gb ∧ gb ≤ 9223372036854775807)) (heb : (-9223372036854775808 ≤ eb ∧ eb ≤ 9223372036854775807)) (hdb : (-9223372036854775808 ≤ db ∧ db ≤ 9223372036854775807)) (va vb : Value) (la lb : List Int) (hva : Rd W0 va la.length (la.flatMap int1)) (hvb : Rd W0 vb lb.length (lb.flatMap int1)) (hma : la.length ≤ 8) (hmb : lb.length ≤ 8) (hloa : ∀ x ∈ la, (-9223372036854775808 ≤ x ∧ x ≤ 9223372036854775807)) (hlob : ∀ x ∈ lb, (-9223372036854775808 ≤ x ∧ x ≤ 9223372036854775807)) (hs0 : ¬ la = lb) :
    Con Try.prog W0 3 #[Value.int .i64 n, Value.agg #[Value.int .i64 ga, Value.int .i64 ea, Value.int .i64 da, va], Value.agg #[Value.int .i64 gb, Value.int .i64 eb, Value.int .i64 db, vb]] [] (X := Unit) (fun _ => True) (fun _ => .bool true) (fun _ => []) := by
  refine Con.of (args := [Value.int .i64 n, Value.agg #[Value.int .i64 ga, Value.int .i64 ea, Value.int .i64 da, va], Value.agg #[Value.int .i64 gb, Value.int .i64 eb, Value.int .i64 db, vb]]) Try.func3 rfl Try.ntmps3 rfl (fun F => ?_)
  show Wc _ W0 _ _ _ _ _ (F)
  have wf0 := wf_one hn
  refine Wc.seq ?_
  refine Wc.region ?_
  refine Wl.e (e_box (x := .tmp 1) (vs := [Value.int .i64 ga, Value.int .i64 ea, Value.int .i64 da, va]) rfl) (fun b1 _ => ?_)
  refine Wl.imp (L' := (pt b1 24 [Value.int .i64 ga, Value.int .i64 ea, Value.int .i64 da, va]) :: F) (fun _ h => h) ?_
  refine Wl.e (e_box (x := .tmp 2) (vs := [Value.int .i64 gb, Value.int .i64 eb, Value.int .i64 db, vb]) rfl) (fun b2 _ => ?_)
  refine Wl.imp (L' := (pt b2 24 [Value.int .i64 gb, Value.int .i64 eb, Value.int .i64 db, vb]) :: (pt b1 24 [Value.int .i64 ga, Value.int .i64 ea, Value.int .i64 da, va]) :: F) (fun _ h => h) ?_
  refine Wl.q (v := Value.bool false) (q_assign rfl) ?_
  refine Wl.done ?_
  refine Wx.go ?_
  refine Wc.seq ?_
  refine Wc.seq ?_
  refine Wc.region ?_
  refine Wl.q (v := Value.int .i64 n) (q_move rfl) ?_
  refine Wl.q (v := Value.bool false) (q_lss (r := false) rfl rfl (decide_eq_false (by omega))) ?_
  refine Wl.q (v := Value.bool false) (q_move rfl) ?_
  refine Wl.q (v := Value.pointer (some ⟨b1, 3, none⟩)) (q_field (m := 3) fo_24_3 rfl rfl) ?_
  refine Wl.q (v := va) (q_load sc_22 rfl (.cel (i := 1) rfl rfl)) ?_
  refine Wl.q (v := Value.int .i64 ((la.length : Nat) : Int)) (q_len_is Try.underlying22 rfl hva.shape) ?_
  refine Wl.q (v := Value.bool false) (q_gtr (r := false) rfl rfl (decide_eq_false (by omega))) ?_
  refine Wl.q (v := Value.bool false) (q_pick (t := false) rfl rfl) ?_
  refine Wl.q (v := Value.bool false) (q_move rfl) ?_
  refine Wl.q (v := Value.pointer (some ⟨b2, 3, none⟩)) (q_field (m := 3) fo_24_3 rfl rfl) ?_
  refine Wl.q (v := vb) (q_load sc_22 rfl (.cel (i := 0) rfl rfl)) ?_
  refine Wl.q (v := Value.int .i64 ((lb.length : Nat) : Int)) (q_len_is Try.underlying22 rfl hvb.shape) ?_
  refine Wl.q (v := Value.bool false) (q_gtr (r := false) rfl rfl (decide_eq_false (by omega))) ?_
  refine Wl.q (v := Value.bool false) (q_pick (t := false) rfl rfl) ?_
  refine Wl.done ?_
  refine Wx.go ?_
  refine Wc.no rfl ?_
  refine Wc.skip ?_
  refine Wx.go ?_
  refine Wc.seq ?_
  refine Wc.region ?_
  refine Wl.q (v := Value.int .i64 n) (q_move rfl) ?_
  refine Wl.q (v := Value.agg #[Value.int .u8 1, Value.int .i64 n, Value.int .i64 0, Value.int .i64 0]) (q_build (pl := [(0, 1), (1, 1), (2, 1), (3, 1)]) Try.underlying31 zo_31 (by kernel_rfl) (by kernel_rfl)) ?_
  refine Wl.e (e_buildSlice (cs := [Value.int .u8 1, Value.int .i64 n, Value.int .i64 0, Value.int .i64 0]) se_32 zo_31 (by decide) (by decide) (by kernel_rfl)) (fun b3 _ => ?_)
  refine Wl.imp (L' := (pt b3 31 [Value.int .u8 1, Value.int .i64 n, Value.int .i64 0, Value.int .i64 0]) :: (pt b2 24 [Value.int .i64 gb, Value.int .i64 eb, Value.int .i64 db, vb]) :: (pt b1 24 [Value.int .i64 ga, Value.int .i64 ea, Value.int .i64 da, va]) :: F) (fun _ h => h) ?_
  refine Wl.e (e_call (F := (pt b2 24 [Value.int .i64 gb, Value.int .i64 eb, Value.int .i64 db, vb]) :: (pt b1 24 [Value.int .i64 ga, Value.int .i64 ea, Value.int .i64 da, va]) :: F) (args := [Value.slice (some ⟨b3, 0, none⟩) 1 1]) Try.call4 rfl (bu1_Build W0 n hn b3)) (fun ⟨b4, b5⟩ _ => ?_)
  refine Wl.imp (L' := (pt b3 31 [Value.int .u8 1, Value.int .i64 n, Value.int .i64 0, Value.int .i64 0]) :: (storeW b4 [⟨1, n, 0, 0⟩]) :: (refW b5 (tl4_1 n)) :: (pt b2 24 [Value.int .i64 gb, Value.int .i64 eb, Value.int .i64 db, vb]) :: (pt b1 24 [Value.int .i64 ga, Value.int .i64 ea, Value.int .i64 da, va]) :: F) (fun _ h => h) ?_
  refine Wl.q (v := Value.tuple #[Value.pointer (some ⟨b4, 0, none⟩), Value.pointer (some ⟨b5, 0, none⟩), Value.bool true]) (q_move rfl) ?_
  refine Wl.q (v := Value.pointer (some ⟨b4, 0, none⟩)) (q_extract (i := 0) rfl rfl) ?_
  refine Wl.q (v := Value.pointer (some ⟨b5, 0, none⟩)) (q_extract (i := 1) rfl rfl) ?_
  refine Wl.q (v := Value.bool true) (q_extract (i := 2) rfl rfl) ?_
  refine Wl.q (v := Value.pointer (some ⟨b4, 0, none⟩)) (q_assign rfl) ?_
  refine Wl.q (v := Value.pointer (some ⟨b5, 0, none⟩)) (q_assign rfl) ?_
  refine Wl.q (v := Value.bool true) (q_assign rfl) ?_
  refine Wl.done ?_
  refine Wx.go ?_
  refine Wc.seq ?_
  refine Wc.region ?_
  refine Wl.q (v := Value.pointer (some ⟨b4, 0, none⟩)) (q_move rfl) ?_
  refine Wl.q (v := Value.pointer (some ⟨b1, 3, none⟩)) (q_field (m := 3) fo_24_3 rfl rfl) ?_
  refine Wl.q (v := va) (q_load sc_22 rfl (.cel (i := 4) rfl rfl)) ?_
  refine Wl.imp (L' := (storeW b4 [⟨1, n, 0, 0⟩]) :: (pt b3 31 [Value.int .u8 1, Value.int .i64 n, Value.int .i64 0, Value.int .i64 0]) :: (refW b5 (tl4_1 n)) :: (pt b2 24 [Value.int .i64 gb, Value.int .i64 eb, Value.int .i64 db, vb]) :: (pt b1 24 [Value.int .i64 ga, Value.int .i64 ea, Value.int .i64 da, va]) :: F) (fun _ h => st_pull [1] h) ?_
  refine Wl.e (e_call (F := (pt b3 31 [Value.int .u8 1, Value.int .i64 n, Value.int .i64 0, Value.int .i64 0]) :: (refW b5 (tl4_1 n)) :: (pt b2 24 [Value.int .i64 gb, Value.int .i64 eb, Value.int .i64 db, vb]) :: (pt b1 24 [Value.int .i64 ga, Value.int .i64 ea, Value.int .i64 da, va]) :: F) (args := [Value.pointer (some ⟨b4, 0, none⟩), Value.slice none 0 0, va]) Try.call5 rfl (digest_w W0 b4 [⟨1, n, 0, 0⟩] wf0 (by simp) va la hva hma hloa)) (fun ⟨z1, x⟩ D1 => ?_)
  refine Wl.imp (L' := (storeW b4 z1) :: (pt b3 31 [Value.int .u8 1, Value.int .i64 n, Value.int .i64 0, Value.int .i64 0]) :: (refW b5 (tl4_1 n)) :: (pt b2 24 [Value.int .i64 gb, Value.int .i64 eb, Value.int .i64 db, vb]) :: (pt b1 24 [Value.int .i64 ga, Value.int .i64 ea, Value.int .i64 da, va]) :: F) (fun _ h => h) ?_
  have D1 : DgJ [⟨1, n, 0, 0⟩] la z1 x := D1
  have D1l := D1.st.len
  have D1e := D1.st.ext.len
  simp only [List.length_singleton] at D1l D1e
  refine Wl.q (v := Value.tuple #[Value.int .i64 ((x : Nat) : Int), Value.int .i64 0]) (q_move rfl) ?_
  refine Wl.q (v := Value.int .i64 ((x : Nat) : Int)) (q_extract (i := 0) rfl rfl) ?_
  refine Wl.q (v := Value.int .i64 0) (q_extract (i := 1) rfl rfl) ?_
  refine Wl.q (v := Value.int .i64 ((x : Nat) : Int)) (q_assign rfl) ?_
  refine Wl.q (v := Value.int .i64 0) (q_assign rfl) ?_
  refine Wl.done ?_
  refine Wx.go ?_
  refine Wc.seq ?_
  refine Wc.region ?_
  refine Wl.q (v := Value.pointer (some ⟨b4, 0, none⟩)) (q_move rfl) ?_
  refine Wl.q (v := Value.pointer (some ⟨b2, 3, none⟩)) (q_field (m := 3) fo_24_3 rfl rfl) ?_
  refine Wl.q (v := vb) (q_load sc_22 rfl (.cel (i := 3) rfl rfl)) ?_
  refine Wl.e (e_call (F := (pt b3 31 [Value.int .u8 1, Value.int .i64 n, Value.int .i64 0, Value.int .i64 0]) :: (refW b5 (tl4_1 n)) :: (pt b2 24 [Value.int .i64 gb, Value.int .i64 eb, Value.int .i64 db, vb]) :: (pt b1 24 [Value.int .i64 ga, Value.int .i64 ea, Value.int .i64 da, va]) :: F) (args := [Value.pointer (some ⟨b4, 0, none⟩), Value.slice none 0 0, vb]) Try.call5 rfl (digest_w W0 b4 z1 D1.st.wf (by omega) vb lb hvb hmb hlob)) (fun ⟨z2, y⟩ D2 => ?_)
  refine Wl.imp (L' := (storeW b4 z2) :: (pt b3 31 [Value.int .u8 1, Value.int .i64 n, Value.int .i64 0, Value.int .i64 0]) :: (refW b5 (tl4_1 n)) :: (pt b2 24 [Value.int .i64 gb, Value.int .i64 eb, Value.int .i64 db, vb]) :: (pt b1 24 [Value.int .i64 ga, Value.int .i64 ea, Value.int .i64 da, va]) :: F) (fun _ h => h) ?_
  have D2 : DgJ z1 lb z2 y := D2
  have D2l := D2.st.len
  have D2e := D2.st.ext.len
  refine Wl.q (v := Value.tuple #[Value.int .i64 ((y : Nat) : Int), Value.int .i64 0]) (q_move rfl) ?_
  refine Wl.q (v := Value.int .i64 ((y : Nat) : Int)) (q_extract (i := 0) rfl rfl) ?_
  refine Wl.q (v := Value.int .i64 0) (q_extract (i := 1) rfl rfl) ?_
  refine Wl.q (v := Value.int .i64 ((y : Nat) : Int)) (q_assign rfl) ?_
  refine Wl.q (v := Value.int .i64 0) (q_assign rfl) ?_
  refine Wl.done ?_
  refine Wx.go ?_
  refine Wc.seq ?_
  refine Wc.region ?_
  refine Wl.q (v := Value.pointer (some ⟨b4, 0, none⟩)) (q_move rfl) ?_
  refine Wl.q (v := Value.pointer (some ⟨b1, 0, none⟩)) (q_field (m := 0) fo_24_0 rfl rfl) ?_
  refine Wl.q (v := Value.int .i64 ga) (q_load sc_3 rfl (.cel (i := 4) rfl rfl)) ?_
  refine Wl.q (v := Value.pointer (some ⟨b1, 1, none⟩)) (q_field (m := 1) fo_24_1 rfl rfl) ?_
  refine Wl.q (v := Value.int .i64 ea) (q_load sc_3 rfl (.cel (i := 4) rfl rfl)) ?_
  refine Wl.q (v := Value.pointer (some ⟨b1, 2, none⟩)) (q_field (m := 2) fo_24_2 rfl rfl) ?_
  refine Wl.q (v := Value.int .i64 da) (q_load sc_3 rfl (.cel (i := 4) rfl rfl)) ?_
  refine Wl.q (v := Value.int .i64 ((x : Nat) : Int)) (q_move rfl) ?_
  refine Wl.e (e_call (F := (pt b3 31 [Value.int .u8 1, Value.int .i64 n, Value.int .i64 0, Value.int .i64 0]) :: (refW b5 (tl4_1 n)) :: (pt b2 24 [Value.int .i64 gb, Value.int .i64 eb, Value.int .i64 db, vb]) :: (pt b1 24 [Value.int .i64 ga, Value.int .i64 ea, Value.int .i64 da, va]) :: F) (args := [Value.pointer (some ⟨b4, 0, none⟩), Value.int .i64 1, Value.int .i64 ga, Value.int .i64 ea, Value.int .i64 da, Value.int .i64 ((x : Nat) : Int)]) Try.call6 rfl (seed_w W0 b4 z2 D2.st.wf (by omega) (by omega) ga ea da hga hea hda x (at_rng (Exists.choose_spec ((D1.dig.pub.ext D2.st.ext))).1) (D1.dig.pub.ext D2.st.ext))) (fun ⟨z3, p⟩ D3 => ?_)
  refine Wl.imp (L' := (storeW b4 z3) :: (pt b3 31 [Value.int .u8 1, Value.int .i64 n, Value.int .i64 0, Value.int .i64 0]) :: (refW b5 (tl4_1 n)) :: (pt b2 24 [Value.int .i64 gb, Value.int .i64 eb, Value.int .i64 db, vb]) :: (pt b1 24 [Value.int .i64 ga, Value.int .i64 ea, Value.int .i64 da, va]) :: F) (fun _ h => h) ?_
  have D3 : SdJ z2 ga ea da x z3 p := D3
  have D3l := D3.st.len
  have D3e := D3.st.ext.len
  refine Wl.q (v := Value.tuple #[Value.int .i64 ((p : Nat) : Int), Value.int .i64 0]) (q_move rfl) ?_
  refine Wl.q (v := Value.int .i64 ((p : Nat) : Int)) (q_extract (i := 0) rfl rfl) ?_
  refine Wl.q (v := Value.int .i64 0) (q_extract (i := 1) rfl rfl) ?_
  refine Wl.q (v := Value.int .i64 ((p : Nat) : Int)) (q_assign rfl) ?_
  refine Wl.q (v := Value.int .i64 0) (q_assign rfl) ?_
  refine Wl.done ?_
  refine Wx.go ?_
  refine Wc.seq ?_
  refine Wc.region ?_
  refine Wl.q (v := Value.pointer (some ⟨b4, 0, none⟩)) (q_move rfl) ?_
  refine Wl.q (v := Value.pointer (some ⟨b2, 0, none⟩)) (q_field (m := 0) fo_24_0 rfl rfl) ?_
  refine Wl.q (v := Value.int .i64 gb) (q_load sc_3 rfl (.cel (i := 3) rfl rfl)) ?_
  refine Wl.q (v := Value.pointer (some ⟨b2, 1, none⟩)) (q_field (m := 1) fo_24_1 rfl rfl) ?_
  refine Wl.q (v := Value.int .i64 eb) (q_load sc_3 rfl (.cel (i := 3) rfl rfl)) ?_
  refine Wl.q (v := Value.pointer (some ⟨b2, 2, none⟩)) (q_field (m := 2) fo_24_2 rfl rfl) ?_
  refine Wl.q (v := Value.int .i64 db) (q_load sc_3 rfl (.cel (i := 3) rfl rfl)) ?_
  refine Wl.q (v := Value.int .i64 ((y : Nat) : Int)) (q_move rfl) ?_
  refine Wl.e (e_call (F := (pt b3 31 [Value.int .u8 1, Value.int .i64 n, Value.int .i64 0, Value.int .i64 0]) :: (refW b5 (tl4_1 n)) :: (pt b2 24 [Value.int .i64 gb, Value.int .i64 eb, Value.int .i64 db, vb]) :: (pt b1 24 [Value.int .i64 ga, Value.int .i64 ea, Value.int .i64 da, va]) :: F) (args := [Value.pointer (some ⟨b4, 0, none⟩), Value.int .i64 1, Value.int .i64 gb, Value.int .i64 eb, Value.int .i64 db, Value.int .i64 ((y : Nat) : Int)]) Try.call6 rfl (seed_w W0 b4 z3 D3.st.wf (by omega) (by omega) gb eb db hgb heb hdb y (at_rng (Exists.choose_spec ((D2.dig.pub.ext D3.st.ext))).1) (D2.dig.pub.ext D3.st.ext))) (fun ⟨z4, q⟩ D4 => ?_)
  refine Wl.imp (L' := (storeW b4 z4) :: (pt b3 31 [Value.int .u8 1, Value.int .i64 n, Value.int .i64 0, Value.int .i64 0]) :: (refW b5 (tl4_1 n)) :: (pt b2 24 [Value.int .i64 gb, Value.int .i64 eb, Value.int .i64 db, vb]) :: (pt b1 24 [Value.int .i64 ga, Value.int .i64 ea, Value.int .i64 da, va]) :: F) (fun _ h => h) ?_
  have D4 : SdJ z3 gb eb db y z4 q := D4
  have D4l := D4.st.len
  have D4e := D4.st.ext.len
  refine Wl.q (v := Value.tuple #[Value.int .i64 ((q : Nat) : Int), Value.int .i64 0]) (q_move rfl) ?_
  refine Wl.q (v := Value.int .i64 ((q : Nat) : Int)) (q_extract (i := 0) rfl rfl) ?_
  refine Wl.q (v := Value.int .i64 0) (q_extract (i := 1) rfl rfl) ?_
  refine Wl.q (v := Value.int .i64 ((q : Nat) : Int)) (q_assign rfl) ?_
  refine Wl.q (v := Value.int .i64 0) (q_assign rfl) ?_
  refine Wl.done ?_
  refine Wx.go ?_
  refine Wc.seq ?_
  refine Wc.region ?_
  refine Wl.q (v := Value.pointer (some ⟨b4, 0, none⟩)) (q_move rfl) ?_
  obtain ⟨z5, z6, z7, key, pub, own, CD⟩ := cd_made D4.st.wf (by omega) (by omega)
  have I := ap_facts D1 D2 D3 D4 CD
  refine Wl.e (e_call (F := (pt b3 31 [Value.int .u8 1, Value.int .i64 n, Value.int .i64 0, Value.int .i64 0]) :: (refW b5 (tl4_1 n)) :: (pt b2 24 [Value.int .i64 gb, Value.int .i64 eb, Value.int .i64 db, vb]) :: (pt b1 24 [Value.int .i64 ga, Value.int .i64 ea, Value.int .i64 da, va]) :: F) (args := [Value.pointer (some ⟨b4, 0, none⟩), Value.int .i64 1]) Try.call7 rfl (card_w W0 b4 z4 z5 z6 z7 key pub own (by omega) (by omega) CD)) (fun _ _ => ?_)
  refine Wl.imp (L' := (storeW b4 z6) :: (pt b3 31 [Value.int .u8 1, Value.int .i64 n, Value.int .i64 0, Value.int .i64 0]) :: (refW b5 (tl4_1 n)) :: (pt b2 24 [Value.int .i64 gb, Value.int .i64 eb, Value.int .i64 db, vb]) :: (pt b1 24 [Value.int .i64 ga, Value.int .i64 ea, Value.int .i64 da, va]) :: F) (fun _ h => h) ?_
  refine Wl.q (v := Value.tuple #[Value.int .i64 ((key : Nat) : Int), Value.int .i64 ((pub : Nat) : Int), Value.int .i64 0]) (q_move rfl) ?_
  refine Wl.q (v := Value.int .i64 ((key : Nat) : Int)) (q_extract (i := 0) rfl rfl) ?_
  refine Wl.q (v := Value.int .i64 ((pub : Nat) : Int)) (q_extract (i := 1) rfl rfl) ?_
  refine Wl.q (v := Value.int .i64 0) (q_extract (i := 2) rfl rfl) ?_
  refine Wl.q (v := Value.int .i64 ((key : Nat) : Int)) (q_assign rfl) ?_
  refine Wl.q (v := Value.int .i64 ((pub : Nat) : Int)) (q_assign rfl) ?_
  refine Wl.q (v := Value.int .i64 0) (q_assign rfl) ?_
  refine Wl.done ?_
  refine Wx.go ?_
  refine Wc.seq ?_
  refine Wc.region ?_
  refine Wl.q (v := Value.pointer (some ⟨b4, 0, none⟩)) (q_move rfl) ?_
  refine Wl.e (e_call (F := (pt b3 31 [Value.int .u8 1, Value.int .i64 n, Value.int .i64 0, Value.int .i64 0]) :: (refW b5 (tl4_1 n)) :: (pt b2 24 [Value.int .i64 gb, Value.int .i64 eb, Value.int .i64 db, vb]) :: (pt b1 24 [Value.int .i64 ga, Value.int .i64 ea, Value.int .i64 da, va]) :: F) (args := [Value.pointer (some ⟨b4, 0, none⟩), Value.int .i64 1]) Try.call8 rfl (own_w W0 b4 z4 z5 z6 z7 key pub own (by omega) (by omega) CD)) (fun _ _ => ?_)
  refine Wl.imp (L' := (storeW b4 z7) :: (pt b3 31 [Value.int .u8 1, Value.int .i64 n, Value.int .i64 0, Value.int .i64 0]) :: (refW b5 (tl4_1 n)) :: (pt b2 24 [Value.int .i64 gb, Value.int .i64 eb, Value.int .i64 db, vb]) :: (pt b1 24 [Value.int .i64 ga, Value.int .i64 ea, Value.int .i64 da, va]) :: F) (fun _ h => h) ?_
  refine Wl.q (v := Value.tuple #[Value.int .i64 ((own : Nat) : Int), Value.int .i64 0]) (q_move rfl) ?_
  refine Wl.q (v := Value.int .i64 ((own : Nat) : Int)) (q_extract (i := 0) rfl rfl) ?_
  refine Wl.q (v := Value.int .i64 0) (q_extract (i := 1) rfl rfl) ?_
  refine Wl.q (v := Value.int .i64 ((own : Nat) : Int)) (q_assign rfl) ?_
  refine Wl.q (v := Value.int .i64 0) (q_assign rfl) ?_
  refine Wl.done ?_
  refine Wx.go ?_
  refine Wc.seq ?_
  refine Wc.seq ?_
  refine Wc.region ?_
  refine Wl.q (v := Value.bool true) (q_move rfl) ?_
  refine Wl.q (v := Value.bool false) (q_not rfl rfl) ?_
  refine Wl.q (v := Value.bool false) (q_move rfl) ?_
  refine Wl.q (v := Value.int .i64 0) (q_move rfl) ?_
  refine Wl.q (v := Value.bool false) (q_neq (r := true) rfl rfl (decide_eq_true (by decide))) ?_
  refine Wl.q (v := Value.bool false) (q_pick (t := false) rfl rfl) ?_
  refine Wl.q (v := Value.bool false) (q_move rfl) ?_
  refine Wl.q (v := Value.int .i64 0) (q_move rfl) ?_
  refine Wl.q (v := Value.bool false) (q_neq (r := true) rfl rfl (decide_eq_true (by decide))) ?_
  refine Wl.q (v := Value.bool false) (q_pick (t := false) rfl rfl) ?_
  refine Wl.q (v := Value.bool false) (q_move rfl) ?_
  refine Wl.q (v := Value.int .i64 0) (q_move rfl) ?_
  refine Wl.q (v := Value.bool false) (q_neq (r := true) rfl rfl (decide_eq_true (by decide))) ?_
  refine Wl.q (v := Value.bool false) (q_pick (t := false) rfl rfl) ?_
  refine Wl.q (v := Value.bool false) (q_move rfl) ?_
  refine Wl.q (v := Value.int .i64 0) (q_move rfl) ?_
  refine Wl.q (v := Value.bool false) (q_neq (r := true) rfl rfl (decide_eq_true (by decide))) ?_
  refine Wl.q (v := Value.bool false) (q_pick (t := false) rfl rfl) ?_
  refine Wl.q (v := Value.bool false) (q_move rfl) ?_
  refine Wl.q (v := Value.int .i64 0) (q_move rfl) ?_
  refine Wl.q (v := Value.bool false) (q_neq (r := true) rfl rfl (decide_eq_true (by decide))) ?_
  refine Wl.q (v := Value.bool false) (q_pick (t := false) rfl rfl) ?_
  refine Wl.q (v := Value.bool false) (q_move rfl) ?_
  refine Wl.q (v := Value.int .i64 0) (q_move rfl) ?_
  refine Wl.q (v := Value.bool false) (q_neq (r := true) rfl rfl (decide_eq_true (by decide))) ?_
  refine Wl.q (v := Value.bool false) (q_pick (t := false) rfl rfl) ?_
  refine Wl.done ?_
  refine Wx.go ?_
  refine Wc.no rfl ?_
  refine Wc.skip ?_
  refine Wx.go ?_
  refine Wc.seq ?_
  refine Wc.region ?_
  refine Wl.q (v := Value.pointer (some ⟨b1, 0, none⟩)) (q_field (m := 0) fo_24_0 rfl rfl) ?_
  refine Wl.q (v := Value.int .i64 ga) (q_load sc_3 rfl (.cel (i := 4) rfl rfl)) ?_
  refine Wl.q (v := Value.pointer (some ⟨b2, 0, none⟩)) (q_field (m := 0) fo_24_0 rfl rfl) ?_
  refine Wl.q (v := Value.int .i64 gb) (q_load sc_3 rfl (.cel (i := 3) rfl rfl)) ?_
  by_cases hga2 : ga = gb
  ·
    refine Wl.q (v := Value.bool true) (q_eql (r := true) rfl rfl (decide_eq_true hga2)) ?_
    refine Wl.q (v := Value.bool true) (q_move rfl) ?_
    refine Wl.q (v := Value.pointer (some ⟨b1, 1, none⟩)) (q_field (m := 1) fo_24_1 rfl rfl) ?_
    refine Wl.q (v := Value.int .i64 ea) (q_load sc_3 rfl (.cel (i := 4) rfl rfl)) ?_
    refine Wl.q (v := Value.pointer (some ⟨b2, 1, none⟩)) (q_field (m := 1) fo_24_1 rfl rfl) ?_
    refine Wl.q (v := Value.int .i64 eb) (q_load sc_3 rfl (.cel (i := 3) rfl rfl)) ?_
    by_cases hea2 : ea = eb
    ·
      refine Wl.q (v := Value.bool true) (q_eql (r := true) rfl rfl (decide_eq_true hea2)) ?_
      refine Wl.q (v := Value.bool true) (q_pick (t := true) rfl rfl) ?_
      refine Wl.q (v := Value.bool true) (q_move rfl) ?_
      refine Wl.q (v := Value.pointer (some ⟨b1, 2, none⟩)) (q_field (m := 2) fo_24_2 rfl rfl) ?_
      refine Wl.q (v := Value.int .i64 da) (q_load sc_3 rfl (.cel (i := 4) rfl rfl)) ?_
      refine Wl.q (v := Value.pointer (some ⟨b2, 2, none⟩)) (q_field (m := 2) fo_24_2 rfl rfl) ?_
      refine Wl.q (v := Value.int .i64 db) (q_load sc_3 rfl (.cel (i := 3) rfl rfl)) ?_
      by_cases hda2 : da = db
      ·
        refine Wl.q (v := Value.bool true) (q_eql (r := true) rfl rfl (decide_eq_true hda2)) ?_
        refine Wl.q (v := Value.bool true) (q_pick (t := true) rfl rfl) ?_
        refine Wl.q (v := Value.bool true) (q_move rfl) ?_
        refine Wl.q (v := Value.pointer (some ⟨b1, 3, none⟩)) (q_field (m := 3) fo_24_3 rfl rfl) ?_
        refine Wl.q (v := va) (q_load sc_22 rfl (.cel (i := 4) rfl rfl)) ?_
        refine Wl.q (v := Value.pointer (some ⟨b2, 3, none⟩)) (q_field (m := 3) fo_24_3 rfl rfl) ?_
        refine Wl.q (v := vb) (q_load sc_22 rfl (.cel (i := 3) rfl rfl)) ?_
        refine Wl.e (e_call (F := (storeW b4 z7) :: (pt b3 31 [Value.int .u8 1, Value.int .i64 n, Value.int .i64 0, Value.int .i64 0]) :: (refW b5 (tl4_1 n)) :: (pt b2 24 [Value.int .i64 gb, Value.int .i64 eb, Value.int .i64 db, vb]) :: (pt b1 24 [Value.int .i64 ga, Value.int .i64 ea, Value.int .i64 da, va]) :: F) (args := [va, vb]) Try.call9 rfl ((same_c W0 va vb la lb hva hvb hma hmb).eqs (fun _ => congrArg Value.bool (decide_eq_false hs0)) (fun _ => rfl))) (fun _ _ => ?_)
        refine Wl.imp (L' := (storeW b4 z7) :: (pt b3 31 [Value.int .u8 1, Value.int .i64 n, Value.int .i64 0, Value.int .i64 0]) :: (refW b5 (tl4_1 n)) :: (pt b2 24 [Value.int .i64 gb, Value.int .i64 eb, Value.int .i64 db, vb]) :: (pt b1 24 [Value.int .i64 ga, Value.int .i64 ea, Value.int .i64 da, va]) :: F) (fun _ h => h) ?_
        refine Wl.q (v := Value.bool false) (q_pick (t := true) rfl rfl) ?_
        refine Wl.q (v := Value.bool false) (q_assign rfl) ?_
        refine Wl.done ?_
        refine Wx.go ?_
        refine Wc.seq ?_
        refine Wc.seq ?_
        refine Wc.region ?_
        refine Wl.q (v := Value.bool false) (q_move rfl) ?_
        refine Wl.q (v := Value.int .i64 ((p : Nat) : Int)) (q_move rfl) ?_
        refine Wl.q (v := Value.int .i64 ((q : Nat) : Int)) (q_move rfl) ?_
        refine Wl.q (v := Value.bool false) (q_eql (r := false) rfl rfl (decide_eq_false (fun h => hs0 (I.sed.1 (Int.ofNat.inj h)).2.2.2))) ?_
        refine Wl.q (v := Value.bool false) (q_neq_bool (r := true) rfl rfl Try.underlying4 rfl) ?_
        refine Wl.q (v := Value.bool false) (q_move rfl) ?_
        refine Wl.q (v := Value.int .i64 ((x : Nat) : Int)) (q_move rfl) ?_
        refine Wl.q (v := Value.int .i64 ((y : Nat) : Int)) (q_move rfl) ?_
        refine Wl.q (v := Value.bool false) (q_eql (r := false) rfl rfl (decide_eq_false (fun h => hs0 (I.dig.1 (Int.ofNat.inj h))))) ?_
        refine Wl.q (v := Value.pointer (some ⟨b1, 3, none⟩)) (q_field (m := 3) fo_24_3 rfl rfl) ?_
        refine Wl.q (v := va) (q_load sc_22 rfl (.cel (i := 4) rfl rfl)) ?_
        refine Wl.q (v := Value.pointer (some ⟨b2, 3, none⟩)) (q_field (m := 3) fo_24_3 rfl rfl) ?_
        refine Wl.q (v := vb) (q_load sc_22 rfl (.cel (i := 3) rfl rfl)) ?_
        refine Wl.e (e_call (F := (storeW b4 z7) :: (pt b3 31 [Value.int .u8 1, Value.int .i64 n, Value.int .i64 0, Value.int .i64 0]) :: (refW b5 (tl4_1 n)) :: (pt b2 24 [Value.int .i64 gb, Value.int .i64 eb, Value.int .i64 db, vb]) :: (pt b1 24 [Value.int .i64 ga, Value.int .i64 ea, Value.int .i64 da, va]) :: F) (args := [va, vb]) Try.call9 rfl ((same_c W0 va vb la lb hva hvb hma hmb).eqs (fun _ => congrArg Value.bool (decide_eq_false hs0)) (fun _ => rfl))) (fun _ _ => ?_)
        refine Wl.imp (L' := (storeW b4 z7) :: (pt b3 31 [Value.int .u8 1, Value.int .i64 n, Value.int .i64 0, Value.int .i64 0]) :: (refW b5 (tl4_1 n)) :: (pt b2 24 [Value.int .i64 gb, Value.int .i64 eb, Value.int .i64 db, vb]) :: (pt b1 24 [Value.int .i64 ga, Value.int .i64 ea, Value.int .i64 da, va]) :: F) (fun _ h => h) ?_
        refine Wl.q (v := Value.bool false) (q_neq_bool (r := true) rfl rfl Try.underlying4 rfl) ?_
        refine Wl.q (v := Value.bool false) (q_pick (t := false) rfl rfl) ?_
        refine Wl.done ?_
        refine Wx.go ?_
        refine Wc.no rfl ?_
        refine Wc.skip ?_
        refine Wx.go ?_
        refine Wc.seq ?_
        refine Wc.region ?_
        refine Wl.q (v := Value.pointer (some ⟨b4, 0, none⟩)) (q_move rfl) ?_
        refine Wl.q (v := Value.int .i64 ((p : Nat) : Int)) (q_move rfl) ?_
        refine Wl.q (v := Value.int .i64 ((key : Nat) : Int)) (q_move rfl) ?_
        refine Wl.q (v := Value.int .i64 ((own : Nat) : Int)) (q_move rfl) ?_
        refine Wl.e (e_buildSlice (cs := [Value.int .i64 ((p : Nat) : Int), Value.int .i64 ((key : Nat) : Int), Value.int .i64 ((own : Nat) : Int)]) se_22 zo_3 (by decide) (by decide) (by kernel_rfl)) (fun b6 _ => ?_)
        refine Wl.imp (L' := (pt b6 3 [Value.int .i64 ((p : Nat) : Int), Value.int .i64 ((key : Nat) : Int), Value.int .i64 ((own : Nat) : Int)]) :: (storeW b4 z7) :: (pt b3 31 [Value.int .u8 1, Value.int .i64 n, Value.int .i64 0, Value.int .i64 0]) :: (refW b5 (tl4_1 n)) :: (pt b2 24 [Value.int .i64 gb, Value.int .i64 eb, Value.int .i64 db, vb]) :: (pt b1 24 [Value.int .i64 ga, Value.int .i64 ea, Value.int .i64 da, va]) :: F) (fun _ h => h) ?_
        refine Wl.imp (L' := (storeW b4 z7) :: (pt b6 3 [Value.int .i64 ((p : Nat) : Int), Value.int .i64 ((key : Nat) : Int), Value.int .i64 ((own : Nat) : Int)]) :: (pt b3 31 [Value.int .u8 1, Value.int .i64 n, Value.int .i64 0, Value.int .i64 0]) :: (refW b5 (tl4_1 n)) :: (pt b2 24 [Value.int .i64 gb, Value.int .i64 eb, Value.int .i64 db, vb]) :: (pt b1 24 [Value.int .i64 ga, Value.int .i64 ea, Value.int .i64 da, va]) :: F) (fun _ h => st_pull [1, 0] h) ?_
        refine Wl.e (e_call (F := (pt b3 31 [Value.int .u8 1, Value.int .i64 n, Value.int .i64 0, Value.int .i64 0]) :: (refW b5 (tl4_1 n)) :: (pt b2 24 [Value.int .i64 gb, Value.int .i64 eb, Value.int .i64 db, vb]) :: (pt b1 24 [Value.int .i64 ga, Value.int .i64 ea, Value.int .i64 da, va]) :: F) (args := [Value.pointer (some ⟨b4, 0, none⟩), Value.slice (some ⟨b6, 0, none⟩) 3 3]) Try.call10 rfl (dnew_s W0 b4 z7 b6 3 [(p : Int), (key : Int), (own : Int)] 3 _ rfl rfl (by decide) I.rng)) (fun k _ => ?_)
        refine Wl.imp (L' := (knowK k b4 z7 (KL [(p : Int), (key : Int), (own : Int)])) :: (storeW b4 z7) :: (pt b6 3 [Value.int .i64 ((p : Nat) : Int), Value.int .i64 ((key : Nat) : Int), Value.int .i64 ((own : Nat) : Int)]) :: (pt b3 31 [Value.int .u8 1, Value.int .i64 n, Value.int .i64 0, Value.int .i64 0]) :: (refW b5 (tl4_1 n)) :: (pt b2 24 [Value.int .i64 gb, Value.int .i64 eb, Value.int .i64 db, vb]) :: (pt b1 24 [Value.int .i64 ga, Value.int .i64 ea, Value.int .i64 da, va]) :: F) (fun _ h => h) ?_
        refine Wl.q (v := Value.tuple #[Value.pointer (some ⟨k, 0, none⟩), Value.int .i64 0]) (q_move rfl) ?_
        refine Wl.q (v := Value.pointer (some ⟨k, 0, none⟩)) (q_extract (i := 0) rfl rfl) ?_
        refine Wl.q (v := Value.int .i64 0) (q_extract (i := 1) rfl rfl) ?_
        refine Wl.q (v := Value.pointer (some ⟨k, 0, none⟩)) (q_assign rfl) ?_
        refine Wl.q (v := Value.int .i64 0) (q_assign rfl) ?_
        refine Wl.done ?_
        refine Wx.go ?_
        refine Wc.seq ?_
        refine Wc.region ?_
        refine Wl.q (v := Value.int .i64 0) (q_move rfl) ?_
        refine Wl.q (v := Value.bool true) (q_eql (r := true) rfl rfl (decide_eq_true (by decide))) ?_
        refine Wl.q (v := Value.bool true) (q_move rfl) ?_
        refine Wl.q (v := Value.pointer (some ⟨k, 0, none⟩)) (q_move rfl) ?_
        refine Wl.q (v := Value.int .i64 ((q : Nat) : Int)) (q_move rfl) ?_
        refine Wl.imp (L' := (storeW b4 z7) :: (knowK k b4 z7 (KL [(p : Int), (key : Int), (own : Int)])) :: (pt b6 3 [Value.int .i64 ((p : Nat) : Int), Value.int .i64 ((key : Nat) : Int), Value.int .i64 ((own : Nat) : Int)]) :: (pt b3 31 [Value.int .u8 1, Value.int .i64 n, Value.int .i64 0, Value.int .i64 0]) :: (refW b5 (tl4_1 n)) :: (pt b2 24 [Value.int .i64 gb, Value.int .i64 eb, Value.int .i64 db, vb]) :: (pt b1 24 [Value.int .i64 ga, Value.int .i64 ea, Value.int .i64 da, va]) :: F) (fun _ h => st_pull [1, 0] h) ?_
        refine Wl.e (e_call (F := (pt b6 3 [Value.int .i64 ((p : Nat) : Int), Value.int .i64 ((key : Nat) : Int), Value.int .i64 ((own : Nat) : Int)]) :: (pt b3 31 [Value.int .u8 1, Value.int .i64 n, Value.int .i64 0, Value.int .i64 0]) :: (refW b5 (tl4_1 n)) :: (pt b2 24 [Value.int .i64 gb, Value.int .i64 eb, Value.int .i64 db, vb]) :: (pt b1 24 [Value.int .i64 ga, Value.int .i64 ea, Value.int .i64 da, va]) :: F) (args := [Value.pointer (some ⟨k, 0, none⟩), Value.int .i64 ((q : Nat) : Int)]) Try.call11 rfl (khas_w W0 k b4 z7 _ (q : Int) (I.has.trans (decide_eq_false (fun h => (fun h => hs0 (I.sed.1 (Int.ofNat.inj h)).2.2.2) (congrArg Int.ofNat h)))))) (fun _ _ => ?_)
        refine Wl.imp (L' := (storeW b4 z7) :: (knowK k b4 z7 (KL [(p : Int), (key : Int), (own : Int)])) :: (pt b6 3 [Value.int .i64 ((p : Nat) : Int), Value.int .i64 ((key : Nat) : Int), Value.int .i64 ((own : Nat) : Int)]) :: (pt b3 31 [Value.int .u8 1, Value.int .i64 n, Value.int .i64 0, Value.int .i64 0]) :: (refW b5 (tl4_1 n)) :: (pt b2 24 [Value.int .i64 gb, Value.int .i64 eb, Value.int .i64 db, vb]) :: (pt b1 24 [Value.int .i64 ga, Value.int .i64 ea, Value.int .i64 da, va]) :: F) (fun _ h => h) ?_
        refine Wl.q (v := Value.bool false) (q_move rfl) ?_
        refine Wl.q (v := Value.bool true) (q_eql_bool (r := true) rfl rfl Try.underlying4 rfl) ?_
        refine Wl.q (v := Value.bool true) (q_pick (t := true) rfl rfl) ?_
        refine Wl.q (v := Value.bool true) (q_move rfl) ?_
        refine Wl.q (v := Value.pointer (some ⟨k, 0, none⟩)) (q_move rfl) ?_
        refine Wl.e (e_call (F := (pt b6 3 [Value.int .i64 ((p : Nat) : Int), Value.int .i64 ((key : Nat) : Int), Value.int .i64 ((own : Nat) : Int)]) :: (pt b3 31 [Value.int .u8 1, Value.int .i64 n, Value.int .i64 0, Value.int .i64 0]) :: (refW b5 (tl4_1 n)) :: (pt b2 24 [Value.int .i64 gb, Value.int .i64 eb, Value.int .i64 db, vb]) :: (pt b1 24 [Value.int .i64 ga, Value.int .i64 ea, Value.int .i64 da, va]) :: F) (args := [Value.pointer (some ⟨k, 0, none⟩), Value.int .i64 1]) Try.call11 rfl (khas_w W0 k b4 z7 _ 1 I.not)) (fun _ _ => ?_)
        refine Wl.imp (L' := (storeW b4 z7) :: (knowK k b4 z7 (KL [(p : Int), (key : Int), (own : Int)])) :: (pt b6 3 [Value.int .i64 ((p : Nat) : Int), Value.int .i64 ((key : Nat) : Int), Value.int .i64 ((own : Nat) : Int)]) :: (pt b3 31 [Value.int .u8 1, Value.int .i64 n, Value.int .i64 0, Value.int .i64 0]) :: (refW b5 (tl4_1 n)) :: (pt b2 24 [Value.int .i64 gb, Value.int .i64 eb, Value.int .i64 db, vb]) :: (pt b1 24 [Value.int .i64 ga, Value.int .i64 ea, Value.int .i64 da, va]) :: F) (fun _ h => h) ?_
        refine Wl.q (v := Value.bool true) (q_not rfl rfl) ?_
        refine Wl.q (v := Value.bool true) (q_pick (t := true) rfl rfl) ?_
        refine Wl.q (v := Value.bool true) (q_move rfl) ?_
        refine Wl.e (e_call (F := (storeW b4 z7) :: (knowK k b4 z7 (KL [(p : Int), (key : Int), (own : Int)])) :: (pt b6 3 [Value.int .i64 ((p : Nat) : Int), Value.int .i64 ((key : Nat) : Int), Value.int .i64 ((own : Nat) : Int)]) :: (pt b3 31 [Value.int .u8 1, Value.int .i64 n, Value.int .i64 0, Value.int .i64 0]) :: (refW b5 (tl4_1 n)) :: (pt b2 24 [Value.int .i64 gb, Value.int .i64 eb, Value.int .i64 db, vb]) :: (pt b1 24 [Value.int .i64 ga, Value.int .i64 ea, Value.int .i64 da, va]) :: F) (args := []) Try.call12 rfl (au1_lives W0)) (fun _ _ => ?_)
        refine Wl.imp (L' := (storeW b4 z7) :: (knowK k b4 z7 (KL [(p : Int), (key : Int), (own : Int)])) :: (pt b6 3 [Value.int .i64 ((p : Nat) : Int), Value.int .i64 ((key : Nat) : Int), Value.int .i64 ((own : Nat) : Int)]) :: (pt b3 31 [Value.int .u8 1, Value.int .i64 n, Value.int .i64 0, Value.int .i64 0]) :: (refW b5 (tl4_1 n)) :: (pt b2 24 [Value.int .i64 gb, Value.int .i64 eb, Value.int .i64 db, vb]) :: (pt b1 24 [Value.int .i64 ga, Value.int .i64 ea, Value.int .i64 da, va]) :: F) (fun _ h => h) ?_
        refine Wl.q (v := Value.bool true) (q_pick (t := true) rfl rfl) ?_
        refine Wl.q (v := Value.bool true) (q_assign rfl) ?_
        refine Wl.done ?_
        refine Wx.go ?_
        refine Wc.ret ?_
        refine Wx.fin1 rfl (.inl rfl) (fun w hs => ?_)
        exact ⟨(), trivial, rfl, (st_drop (st_drop (st_drop (st_drop (st_drop (st_drop (st_drop (st_pull [0, 0, 0, 0, 0, 0, 0] hs))))))))⟩
      ·
        refine Wl.q (v := Value.bool false) (q_eql (r := false) rfl rfl (decide_eq_false hda2)) ?_
        refine Wl.q (v := Value.bool false) (q_pick (t := true) rfl rfl) ?_
        refine Wl.q (v := Value.bool false) (q_move rfl) ?_
        refine Wl.no ?_
        refine Wl.no ?_
        refine Wl.no ?_
        refine Wl.no ?_
        refine Wl.no ?_
        refine Wl.q (v := Value.bool false) (q_pick (t := false) rfl rfl) ?_
        refine Wl.q (v := Value.bool false) (q_assign rfl) ?_
        refine Wl.done ?_
        refine Wx.go ?_
        refine Wc.seq ?_
        refine Wc.seq ?_
        refine Wc.region ?_
        refine Wl.q (v := Value.bool false) (q_move rfl) ?_
        refine Wl.q (v := Value.int .i64 ((p : Nat) : Int)) (q_move rfl) ?_
        refine Wl.q (v := Value.int .i64 ((q : Nat) : Int)) (q_move rfl) ?_
        refine Wl.q (v := Value.bool false) (q_eql (r := false) rfl rfl (decide_eq_false (fun h => hda2 (I.sed.1 (Int.ofNat.inj h)).2.2.1))) ?_
        refine Wl.q (v := Value.bool false) (q_neq_bool (r := true) rfl rfl Try.underlying4 rfl) ?_
        refine Wl.q (v := Value.bool false) (q_move rfl) ?_
        refine Wl.q (v := Value.int .i64 ((x : Nat) : Int)) (q_move rfl) ?_
        refine Wl.q (v := Value.int .i64 ((y : Nat) : Int)) (q_move rfl) ?_
        refine Wl.q (v := Value.bool false) (q_eql (r := false) rfl rfl (decide_eq_false (fun h => hs0 (I.dig.1 (Int.ofNat.inj h))))) ?_
        refine Wl.q (v := Value.pointer (some ⟨b1, 3, none⟩)) (q_field (m := 3) fo_24_3 rfl rfl) ?_
        refine Wl.q (v := va) (q_load sc_22 rfl (.cel (i := 4) rfl rfl)) ?_
        refine Wl.q (v := Value.pointer (some ⟨b2, 3, none⟩)) (q_field (m := 3) fo_24_3 rfl rfl) ?_
        refine Wl.q (v := vb) (q_load sc_22 rfl (.cel (i := 3) rfl rfl)) ?_
        refine Wl.e (e_call (F := (storeW b4 z7) :: (pt b3 31 [Value.int .u8 1, Value.int .i64 n, Value.int .i64 0, Value.int .i64 0]) :: (refW b5 (tl4_1 n)) :: (pt b2 24 [Value.int .i64 gb, Value.int .i64 eb, Value.int .i64 db, vb]) :: (pt b1 24 [Value.int .i64 ga, Value.int .i64 ea, Value.int .i64 da, va]) :: F) (args := [va, vb]) Try.call9 rfl ((same_c W0 va vb la lb hva hvb hma hmb).eqs (fun _ => congrArg Value.bool (decide_eq_false hs0)) (fun _ => rfl))) (fun _ _ => ?_)
        refine Wl.imp (L' := (storeW b4 z7) :: (pt b3 31 [Value.int .u8 1, Value.int .i64 n, Value.int .i64 0, Value.int .i64 0]) :: (refW b5 (tl4_1 n)) :: (pt b2 24 [Value.int .i64 gb, Value.int .i64 eb, Value.int .i64 db, vb]) :: (pt b1 24 [Value.int .i64 ga, Value.int .i64 ea, Value.int .i64 da, va]) :: F) (fun _ h => h) ?_
        refine Wl.q (v := Value.bool false) (q_neq_bool (r := true) rfl rfl Try.underlying4 rfl) ?_
        refine Wl.q (v := Value.bool false) (q_pick (t := false) rfl rfl) ?_
        refine Wl.done ?_
        refine Wx.go ?_
        refine Wc.no rfl ?_
        refine Wc.skip ?_
        refine Wx.go ?_
        refine Wc.seq ?_
        refine Wc.region ?_
        refine Wl.q (v := Value.pointer (some ⟨b4, 0, none⟩)) (q_move rfl) ?_
        refine Wl.q (v := Value.int .i64 ((p : Nat) : Int)) (q_move rfl) ?_
        refine Wl.q (v := Value.int .i64 ((key : Nat) : Int)) (q_move rfl) ?_
        refine Wl.q (v := Value.int .i64 ((own : Nat) : Int)) (q_move rfl) ?_
        refine Wl.e (e_buildSlice (cs := [Value.int .i64 ((p : Nat) : Int), Value.int .i64 ((key : Nat) : Int), Value.int .i64 ((own : Nat) : Int)]) se_22 zo_3 (by decide) (by decide) (by kernel_rfl)) (fun b7 _ => ?_)
        refine Wl.imp (L' := (pt b7 3 [Value.int .i64 ((p : Nat) : Int), Value.int .i64 ((key : Nat) : Int), Value.int .i64 ((own : Nat) : Int)]) :: (storeW b4 z7) :: (pt b3 31 [Value.int .u8 1, Value.int .i64 n, Value.int .i64 0, Value.int .i64 0]) :: (refW b5 (tl4_1 n)) :: (pt b2 24 [Value.int .i64 gb, Value.int .i64 eb, Value.int .i64 db, vb]) :: (pt b1 24 [Value.int .i64 ga, Value.int .i64 ea, Value.int .i64 da, va]) :: F) (fun _ h => h) ?_
        refine Wl.imp (L' := (storeW b4 z7) :: (pt b7 3 [Value.int .i64 ((p : Nat) : Int), Value.int .i64 ((key : Nat) : Int), Value.int .i64 ((own : Nat) : Int)]) :: (pt b3 31 [Value.int .u8 1, Value.int .i64 n, Value.int .i64 0, Value.int .i64 0]) :: (refW b5 (tl4_1 n)) :: (pt b2 24 [Value.int .i64 gb, Value.int .i64 eb, Value.int .i64 db, vb]) :: (pt b1 24 [Value.int .i64 ga, Value.int .i64 ea, Value.int .i64 da, va]) :: F) (fun _ h => st_pull [1, 0] h) ?_
        refine Wl.e (e_call (F := (pt b3 31 [Value.int .u8 1, Value.int .i64 n, Value.int .i64 0, Value.int .i64 0]) :: (refW b5 (tl4_1 n)) :: (pt b2 24 [Value.int .i64 gb, Value.int .i64 eb, Value.int .i64 db, vb]) :: (pt b1 24 [Value.int .i64 ga, Value.int .i64 ea, Value.int .i64 da, va]) :: F) (args := [Value.pointer (some ⟨b4, 0, none⟩), Value.slice (some ⟨b7, 0, none⟩) 3 3]) Try.call10 rfl (dnew_s W0 b4 z7 b7 3 [(p : Int), (key : Int), (own : Int)] 3 _ rfl rfl (by decide) I.rng)) (fun k _ => ?_)
        refine Wl.imp (L' := (knowK k b4 z7 (KL [(p : Int), (key : Int), (own : Int)])) :: (storeW b4 z7) :: (pt b7 3 [Value.int .i64 ((p : Nat) : Int), Value.int .i64 ((key : Nat) : Int), Value.int .i64 ((own : Nat) : Int)]) :: (pt b3 31 [Value.int .u8 1, Value.int .i64 n, Value.int .i64 0, Value.int .i64 0]) :: (refW b5 (tl4_1 n)) :: (pt b2 24 [Value.int .i64 gb, Value.int .i64 eb, Value.int .i64 db, vb]) :: (pt b1 24 [Value.int .i64 ga, Value.int .i64 ea, Value.int .i64 da, va]) :: F) (fun _ h => h) ?_
        refine Wl.q (v := Value.tuple #[Value.pointer (some ⟨k, 0, none⟩), Value.int .i64 0]) (q_move rfl) ?_
        refine Wl.q (v := Value.pointer (some ⟨k, 0, none⟩)) (q_extract (i := 0) rfl rfl) ?_
        refine Wl.q (v := Value.int .i64 0) (q_extract (i := 1) rfl rfl) ?_
        refine Wl.q (v := Value.pointer (some ⟨k, 0, none⟩)) (q_assign rfl) ?_
        refine Wl.q (v := Value.int .i64 0) (q_assign rfl) ?_
        refine Wl.done ?_
        refine Wx.go ?_
        refine Wc.seq ?_
        refine Wc.region ?_
        refine Wl.q (v := Value.int .i64 0) (q_move rfl) ?_
        refine Wl.q (v := Value.bool true) (q_eql (r := true) rfl rfl (decide_eq_true (by decide))) ?_
        refine Wl.q (v := Value.bool true) (q_move rfl) ?_
        refine Wl.q (v := Value.pointer (some ⟨k, 0, none⟩)) (q_move rfl) ?_
        refine Wl.q (v := Value.int .i64 ((q : Nat) : Int)) (q_move rfl) ?_
        refine Wl.imp (L' := (storeW b4 z7) :: (knowK k b4 z7 (KL [(p : Int), (key : Int), (own : Int)])) :: (pt b7 3 [Value.int .i64 ((p : Nat) : Int), Value.int .i64 ((key : Nat) : Int), Value.int .i64 ((own : Nat) : Int)]) :: (pt b3 31 [Value.int .u8 1, Value.int .i64 n, Value.int .i64 0, Value.int .i64 0]) :: (refW b5 (tl4_1 n)) :: (pt b2 24 [Value.int .i64 gb, Value.int .i64 eb, Value.int .i64 db, vb]) :: (pt b1 24 [Value.int .i64 ga, Value.int .i64 ea, Value.int .i64 da, va]) :: F) (fun _ h => st_pull [1, 0] h) ?_
        refine Wl.e (e_call (F := (pt b7 3 [Value.int .i64 ((p : Nat) : Int), Value.int .i64 ((key : Nat) : Int), Value.int .i64 ((own : Nat) : Int)]) :: (pt b3 31 [Value.int .u8 1, Value.int .i64 n, Value.int .i64 0, Value.int .i64 0]) :: (refW b5 (tl4_1 n)) :: (pt b2 24 [Value.int .i64 gb, Value.int .i64 eb, Value.int .i64 db, vb]) :: (pt b1 24 [Value.int .i64 ga, Value.int .i64 ea, Value.int .i64 da, va]) :: F) (args := [Value.pointer (some ⟨k, 0, none⟩), Value.int .i64 ((q : Nat) : Int)]) Try.call11 rfl (khas_w W0 k b4 z7 _ (q : Int) (I.has.trans (decide_eq_false (fun h => (fun h => hda2 (I.sed.1 (Int.ofNat.inj h)).2.2.1) (congrArg Int.ofNat h)))))) (fun _ _ => ?_)
        refine Wl.imp (L' := (storeW b4 z7) :: (knowK k b4 z7 (KL [(p : Int), (key : Int), (own : Int)])) :: (pt b7 3 [Value.int .i64 ((p : Nat) : Int), Value.int .i64 ((key : Nat) : Int), Value.int .i64 ((own : Nat) : Int)]) :: (pt b3 31 [Value.int .u8 1, Value.int .i64 n, Value.int .i64 0, Value.int .i64 0]) :: (refW b5 (tl4_1 n)) :: (pt b2 24 [Value.int .i64 gb, Value.int .i64 eb, Value.int .i64 db, vb]) :: (pt b1 24 [Value.int .i64 ga, Value.int .i64 ea, Value.int .i64 da, va]) :: F) (fun _ h => h) ?_
        refine Wl.q (v := Value.bool false) (q_move rfl) ?_
        refine Wl.q (v := Value.bool true) (q_eql_bool (r := true) rfl rfl Try.underlying4 rfl) ?_
        refine Wl.q (v := Value.bool true) (q_pick (t := true) rfl rfl) ?_
        refine Wl.q (v := Value.bool true) (q_move rfl) ?_
        refine Wl.q (v := Value.pointer (some ⟨k, 0, none⟩)) (q_move rfl) ?_
        refine Wl.e (e_call (F := (pt b7 3 [Value.int .i64 ((p : Nat) : Int), Value.int .i64 ((key : Nat) : Int), Value.int .i64 ((own : Nat) : Int)]) :: (pt b3 31 [Value.int .u8 1, Value.int .i64 n, Value.int .i64 0, Value.int .i64 0]) :: (refW b5 (tl4_1 n)) :: (pt b2 24 [Value.int .i64 gb, Value.int .i64 eb, Value.int .i64 db, vb]) :: (pt b1 24 [Value.int .i64 ga, Value.int .i64 ea, Value.int .i64 da, va]) :: F) (args := [Value.pointer (some ⟨k, 0, none⟩), Value.int .i64 1]) Try.call11 rfl (khas_w W0 k b4 z7 _ 1 I.not)) (fun _ _ => ?_)
        refine Wl.imp (L' := (storeW b4 z7) :: (knowK k b4 z7 (KL [(p : Int), (key : Int), (own : Int)])) :: (pt b7 3 [Value.int .i64 ((p : Nat) : Int), Value.int .i64 ((key : Nat) : Int), Value.int .i64 ((own : Nat) : Int)]) :: (pt b3 31 [Value.int .u8 1, Value.int .i64 n, Value.int .i64 0, Value.int .i64 0]) :: (refW b5 (tl4_1 n)) :: (pt b2 24 [Value.int .i64 gb, Value.int .i64 eb, Value.int .i64 db, vb]) :: (pt b1 24 [Value.int .i64 ga, Value.int .i64 ea, Value.int .i64 da, va]) :: F) (fun _ h => h) ?_
        refine Wl.q (v := Value.bool true) (q_not rfl rfl) ?_
        refine Wl.q (v := Value.bool true) (q_pick (t := true) rfl rfl) ?_
        refine Wl.q (v := Value.bool true) (q_move rfl) ?_
        refine Wl.e (e_call (F := (storeW b4 z7) :: (knowK k b4 z7 (KL [(p : Int), (key : Int), (own : Int)])) :: (pt b7 3 [Value.int .i64 ((p : Nat) : Int), Value.int .i64 ((key : Nat) : Int), Value.int .i64 ((own : Nat) : Int)]) :: (pt b3 31 [Value.int .u8 1, Value.int .i64 n, Value.int .i64 0, Value.int .i64 0]) :: (refW b5 (tl4_1 n)) :: (pt b2 24 [Value.int .i64 gb, Value.int .i64 eb, Value.int .i64 db, vb]) :: (pt b1 24 [Value.int .i64 ga, Value.int .i64 ea, Value.int .i64 da, va]) :: F) (args := []) Try.call12 rfl (au1_lives W0)) (fun _ _ => ?_)
        refine Wl.imp (L' := (storeW b4 z7) :: (knowK k b4 z7 (KL [(p : Int), (key : Int), (own : Int)])) :: (pt b7 3 [Value.int .i64 ((p : Nat) : Int), Value.int .i64 ((key : Nat) : Int), Value.int .i64 ((own : Nat) : Int)]) :: (pt b3 31 [Value.int .u8 1, Value.int .i64 n, Value.int .i64 0, Value.int .i64 0]) :: (refW b5 (tl4_1 n)) :: (pt b2 24 [Value.int .i64 gb, Value.int .i64 eb, Value.int .i64 db, vb]) :: (pt b1 24 [Value.int .i64 ga, Value.int .i64 ea, Value.int .i64 da, va]) :: F) (fun _ h => h) ?_
        refine Wl.q (v := Value.bool true) (q_pick (t := true) rfl rfl) ?_
        refine Wl.q (v := Value.bool true) (q_assign rfl) ?_
        refine Wl.done ?_
        refine Wx.go ?_
        refine Wc.ret ?_
        refine Wx.fin1 rfl (.inl rfl) (fun w hs => ?_)
        exact ⟨(), trivial, rfl, (st_drop (st_drop (st_drop (st_drop (st_drop (st_drop (st_drop (st_pull [0, 0, 0, 0, 0, 0, 0] hs))))))))⟩
    ·
      refine Wl.q (v := Value.bool false) (q_eql (r := false) rfl rfl (decide_eq_false hea2)) ?_
      refine Wl.q (v := Value.bool false) (q_pick (t := true) rfl rfl) ?_
      refine Wl.q (v := Value.bool false) (q_move rfl) ?_
      refine Wl.no ?_
      refine Wl.no ?_
      refine Wl.no ?_
      refine Wl.no ?_
      refine Wl.no ?_
      refine Wl.q (v := Value.bool false) (q_pick (t := false) rfl rfl) ?_
      refine Wl.q (v := Value.bool false) (q_move rfl) ?_
      refine Wl.no ?_
      refine Wl.no ?_
      refine Wl.no ?_
      refine Wl.no ?_
      refine Wl.no ?_
      refine Wl.q (v := Value.bool false) (q_pick (t := false) rfl rfl) ?_
      refine Wl.q (v := Value.bool false) (q_assign rfl) ?_
      refine Wl.done ?_
      refine Wx.go ?_
      refine Wc.seq ?_
      refine Wc.seq ?_
      refine Wc.region ?_
      refine Wl.q (v := Value.bool false) (q_move rfl) ?_
      refine Wl.q (v := Value.int .i64 ((p : Nat) : Int)) (q_move rfl) ?_
      refine Wl.q (v := Value.int .i64 ((q : Nat) : Int)) (q_move rfl) ?_
      refine Wl.q (v := Value.bool false) (q_eql (r := false) rfl rfl (decide_eq_false (fun h => hea2 (I.sed.1 (Int.ofNat.inj h)).2.1))) ?_
      refine Wl.q (v := Value.bool false) (q_neq_bool (r := true) rfl rfl Try.underlying4 rfl) ?_
      refine Wl.q (v := Value.bool false) (q_move rfl) ?_
      refine Wl.q (v := Value.int .i64 ((x : Nat) : Int)) (q_move rfl) ?_
      refine Wl.q (v := Value.int .i64 ((y : Nat) : Int)) (q_move rfl) ?_
      refine Wl.q (v := Value.bool false) (q_eql (r := false) rfl rfl (decide_eq_false (fun h => hs0 (I.dig.1 (Int.ofNat.inj h))))) ?_
      refine Wl.q (v := Value.pointer (some ⟨b1, 3, none⟩)) (q_field (m := 3) fo_24_3 rfl rfl) ?_
      refine Wl.q (v := va) (q_load sc_22 rfl (.cel (i := 4) rfl rfl)) ?_
      refine Wl.q (v := Value.pointer (some ⟨b2, 3, none⟩)) (q_field (m := 3) fo_24_3 rfl rfl) ?_
      refine Wl.q (v := vb) (q_load sc_22 rfl (.cel (i := 3) rfl rfl)) ?_
      refine Wl.e (e_call (F := (storeW b4 z7) :: (pt b3 31 [Value.int .u8 1, Value.int .i64 n, Value.int .i64 0, Value.int .i64 0]) :: (refW b5 (tl4_1 n)) :: (pt b2 24 [Value.int .i64 gb, Value.int .i64 eb, Value.int .i64 db, vb]) :: (pt b1 24 [Value.int .i64 ga, Value.int .i64 ea, Value.int .i64 da, va]) :: F) (args := [va, vb]) Try.call9 rfl ((same_c W0 va vb la lb hva hvb hma hmb).eqs (fun _ => congrArg Value.bool (decide_eq_false hs0)) (fun _ => rfl))) (fun _ _ => ?_)
      refine Wl.imp (L' := (storeW b4 z7) :: (pt b3 31 [Value.int .u8 1, Value.int .i64 n, Value.int .i64 0, Value.int .i64 0]) :: (refW b5 (tl4_1 n)) :: (pt b2 24 [Value.int .i64 gb, Value.int .i64 eb, Value.int .i64 db, vb]) :: (pt b1 24 [Value.int .i64 ga, Value.int .i64 ea, Value.int .i64 da, va]) :: F) (fun _ h => h) ?_
      refine Wl.q (v := Value.bool false) (q_neq_bool (r := true) rfl rfl Try.underlying4 rfl) ?_
      refine Wl.q (v := Value.bool false) (q_pick (t := false) rfl rfl) ?_
      refine Wl.done ?_
      refine Wx.go ?_
      refine Wc.no rfl ?_
      refine Wc.skip ?_
      refine Wx.go ?_
      refine Wc.seq ?_
      refine Wc.region ?_
      refine Wl.q (v := Value.pointer (some ⟨b4, 0, none⟩)) (q_move rfl) ?_
      refine Wl.q (v := Value.int .i64 ((p : Nat) : Int)) (q_move rfl) ?_
      refine Wl.q (v := Value.int .i64 ((key : Nat) : Int)) (q_move rfl) ?_
      refine Wl.q (v := Value.int .i64 ((own : Nat) : Int)) (q_move rfl) ?_
      refine Wl.e (e_buildSlice (cs := [Value.int .i64 ((p : Nat) : Int), Value.int .i64 ((key : Nat) : Int), Value.int .i64 ((own : Nat) : Int)]) se_22 zo_3 (by decide) (by decide) (by kernel_rfl)) (fun b8 _ => ?_)
      refine Wl.imp (L' := (pt b8 3 [Value.int .i64 ((p : Nat) : Int), Value.int .i64 ((key : Nat) : Int), Value.int .i64 ((own : Nat) : Int)]) :: (storeW b4 z7) :: (pt b3 31 [Value.int .u8 1, Value.int .i64 n, Value.int .i64 0, Value.int .i64 0]) :: (refW b5 (tl4_1 n)) :: (pt b2 24 [Value.int .i64 gb, Value.int .i64 eb, Value.int .i64 db, vb]) :: (pt b1 24 [Value.int .i64 ga, Value.int .i64 ea, Value.int .i64 da, va]) :: F) (fun _ h => h) ?_
      refine Wl.imp (L' := (storeW b4 z7) :: (pt b8 3 [Value.int .i64 ((p : Nat) : Int), Value.int .i64 ((key : Nat) : Int), Value.int .i64 ((own : Nat) : Int)]) :: (pt b3 31 [Value.int .u8 1, Value.int .i64 n, Value.int .i64 0, Value.int .i64 0]) :: (refW b5 (tl4_1 n)) :: (pt b2 24 [Value.int .i64 gb, Value.int .i64 eb, Value.int .i64 db, vb]) :: (pt b1 24 [Value.int .i64 ga, Value.int .i64 ea, Value.int .i64 da, va]) :: F) (fun _ h => st_pull [1, 0] h) ?_
      refine Wl.e (e_call (F := (pt b3 31 [Value.int .u8 1, Value.int .i64 n, Value.int .i64 0, Value.int .i64 0]) :: (refW b5 (tl4_1 n)) :: (pt b2 24 [Value.int .i64 gb, Value.int .i64 eb, Value.int .i64 db, vb]) :: (pt b1 24 [Value.int .i64 ga, Value.int .i64 ea, Value.int .i64 da, va]) :: F) (args := [Value.pointer (some ⟨b4, 0, none⟩), Value.slice (some ⟨b8, 0, none⟩) 3 3]) Try.call10 rfl (dnew_s W0 b4 z7 b8 3 [(p : Int), (key : Int), (own : Int)] 3 _ rfl rfl (by decide) I.rng)) (fun k _ => ?_)
      refine Wl.imp (L' := (knowK k b4 z7 (KL [(p : Int), (key : Int), (own : Int)])) :: (storeW b4 z7) :: (pt b8 3 [Value.int .i64 ((p : Nat) : Int), Value.int .i64 ((key : Nat) : Int), Value.int .i64 ((own : Nat) : Int)]) :: (pt b3 31 [Value.int .u8 1, Value.int .i64 n, Value.int .i64 0, Value.int .i64 0]) :: (refW b5 (tl4_1 n)) :: (pt b2 24 [Value.int .i64 gb, Value.int .i64 eb, Value.int .i64 db, vb]) :: (pt b1 24 [Value.int .i64 ga, Value.int .i64 ea, Value.int .i64 da, va]) :: F) (fun _ h => h) ?_
      refine Wl.q (v := Value.tuple #[Value.pointer (some ⟨k, 0, none⟩), Value.int .i64 0]) (q_move rfl) ?_
      refine Wl.q (v := Value.pointer (some ⟨k, 0, none⟩)) (q_extract (i := 0) rfl rfl) ?_
      refine Wl.q (v := Value.int .i64 0) (q_extract (i := 1) rfl rfl) ?_
      refine Wl.q (v := Value.pointer (some ⟨k, 0, none⟩)) (q_assign rfl) ?_
      refine Wl.q (v := Value.int .i64 0) (q_assign rfl) ?_
      refine Wl.done ?_
      refine Wx.go ?_
      refine Wc.seq ?_
      refine Wc.region ?_
      refine Wl.q (v := Value.int .i64 0) (q_move rfl) ?_
      refine Wl.q (v := Value.bool true) (q_eql (r := true) rfl rfl (decide_eq_true (by decide))) ?_
      refine Wl.q (v := Value.bool true) (q_move rfl) ?_
      refine Wl.q (v := Value.pointer (some ⟨k, 0, none⟩)) (q_move rfl) ?_
      refine Wl.q (v := Value.int .i64 ((q : Nat) : Int)) (q_move rfl) ?_
      refine Wl.imp (L' := (storeW b4 z7) :: (knowK k b4 z7 (KL [(p : Int), (key : Int), (own : Int)])) :: (pt b8 3 [Value.int .i64 ((p : Nat) : Int), Value.int .i64 ((key : Nat) : Int), Value.int .i64 ((own : Nat) : Int)]) :: (pt b3 31 [Value.int .u8 1, Value.int .i64 n, Value.int .i64 0, Value.int .i64 0]) :: (refW b5 (tl4_1 n)) :: (pt b2 24 [Value.int .i64 gb, Value.int .i64 eb, Value.int .i64 db, vb]) :: (pt b1 24 [Value.int .i64 ga, Value.int .i64 ea, Value.int .i64 da, va]) :: F) (fun _ h => st_pull [1, 0] h) ?_
      refine Wl.e (e_call (F := (pt b8 3 [Value.int .i64 ((p : Nat) : Int), Value.int .i64 ((key : Nat) : Int), Value.int .i64 ((own : Nat) : Int)]) :: (pt b3 31 [Value.int .u8 1, Value.int .i64 n, Value.int .i64 0, Value.int .i64 0]) :: (refW b5 (tl4_1 n)) :: (pt b2 24 [Value.int .i64 gb, Value.int .i64 eb, Value.int .i64 db, vb]) :: (pt b1 24 [Value.int .i64 ga, Value.int .i64 ea, Value.int .i64 da, va]) :: F) (args := [Value.pointer (some ⟨k, 0, none⟩), Value.int .i64 ((q : Nat) : Int)]) Try.call11 rfl (khas_w W0 k b4 z7 _ (q : Int) (I.has.trans (decide_eq_false (fun h => (fun h => hea2 (I.sed.1 (Int.ofNat.inj h)).2.1) (congrArg Int.ofNat h)))))) (fun _ _ => ?_)
      refine Wl.imp (L' := (storeW b4 z7) :: (knowK k b4 z7 (KL [(p : Int), (key : Int), (own : Int)])) :: (pt b8 3 [Value.int .i64 ((p : Nat) : Int), Value.int .i64 ((key : Nat) : Int), Value.int .i64 ((own : Nat) : Int)]) :: (pt b3 31 [Value.int .u8 1, Value.int .i64 n, Value.int .i64 0, Value.int .i64 0]) :: (refW b5 (tl4_1 n)) :: (pt b2 24 [Value.int .i64 gb, Value.int .i64 eb, Value.int .i64 db, vb]) :: (pt b1 24 [Value.int .i64 ga, Value.int .i64 ea, Value.int .i64 da, va]) :: F) (fun _ h => h) ?_
      refine Wl.q (v := Value.bool false) (q_move rfl) ?_
      refine Wl.q (v := Value.bool true) (q_eql_bool (r := true) rfl rfl Try.underlying4 rfl) ?_
      refine Wl.q (v := Value.bool true) (q_pick (t := true) rfl rfl) ?_
      refine Wl.q (v := Value.bool true) (q_move rfl) ?_
      refine Wl.q (v := Value.pointer (some ⟨k, 0, none⟩)) (q_move rfl) ?_
      refine Wl.e (e_call (F := (pt b8 3 [Value.int .i64 ((p : Nat) : Int), Value.int .i64 ((key : Nat) : Int), Value.int .i64 ((own : Nat) : Int)]) :: (pt b3 31 [Value.int .u8 1, Value.int .i64 n, Value.int .i64 0, Value.int .i64 0]) :: (refW b5 (tl4_1 n)) :: (pt b2 24 [Value.int .i64 gb, Value.int .i64 eb, Value.int .i64 db, vb]) :: (pt b1 24 [Value.int .i64 ga, Value.int .i64 ea, Value.int .i64 da, va]) :: F) (args := [Value.pointer (some ⟨k, 0, none⟩), Value.int .i64 1]) Try.call11 rfl (khas_w W0 k b4 z7 _ 1 I.not)) (fun _ _ => ?_)
      refine Wl.imp (L' := (storeW b4 z7) :: (knowK k b4 z7 (KL [(p : Int), (key : Int), (own : Int)])) :: (pt b8 3 [Value.int .i64 ((p : Nat) : Int), Value.int .i64 ((key : Nat) : Int), Value.int .i64 ((own : Nat) : Int)]) :: (pt b3 31 [Value.int .u8 1, Value.int .i64 n, Value.int .i64 0, Value.int .i64 0]) :: (refW b5 (tl4_1 n)) :: (pt b2 24 [Value.int .i64 gb, Value.int .i64 eb, Value.int .i64 db, vb]) :: (pt b1 24 [Value.int .i64 ga, Value.int .i64 ea, Value.int .i64 da, va]) :: F) (fun _ h => h) ?_
      refine Wl.q (v := Value.bool true) (q_not rfl rfl) ?_
      refine Wl.q (v := Value.bool true) (q_pick (t := true) rfl rfl) ?_
      refine Wl.q (v := Value.bool true) (q_move rfl) ?_
      refine Wl.e (e_call (F := (storeW b4 z7) :: (knowK k b4 z7 (KL [(p : Int), (key : Int), (own : Int)])) :: (pt b8 3 [Value.int .i64 ((p : Nat) : Int), Value.int .i64 ((key : Nat) : Int), Value.int .i64 ((own : Nat) : Int)]) :: (pt b3 31 [Value.int .u8 1, Value.int .i64 n, Value.int .i64 0, Value.int .i64 0]) :: (refW b5 (tl4_1 n)) :: (pt b2 24 [Value.int .i64 gb, Value.int .i64 eb, Value.int .i64 db, vb]) :: (pt b1 24 [Value.int .i64 ga, Value.int .i64 ea, Value.int .i64 da, va]) :: F) (args := []) Try.call12 rfl (au1_lives W0)) (fun _ _ => ?_)
      refine Wl.imp (L' := (storeW b4 z7) :: (knowK k b4 z7 (KL [(p : Int), (key : Int), (own : Int)])) :: (pt b8 3 [Value.int .i64 ((p : Nat) : Int), Value.int .i64 ((key : Nat) : Int), Value.int .i64 ((own : Nat) : Int)]) :: (pt b3 31 [Value.int .u8 1, Value.int .i64 n, Value.int .i64 0, Value.int .i64 0]) :: (refW b5 (tl4_1 n)) :: (pt b2 24 [Value.int .i64 gb, Value.int .i64 eb, Value.int .i64 db, vb]) :: (pt b1 24 [Value.int .i64 ga, Value.int .i64 ea, Value.int .i64 da, va]) :: F) (fun _ h => h) ?_
      refine Wl.q (v := Value.bool true) (q_pick (t := true) rfl rfl) ?_
      refine Wl.q (v := Value.bool true) (q_assign rfl) ?_
      refine Wl.done ?_
      refine Wx.go ?_
      refine Wc.ret ?_
      refine Wx.fin1 rfl (.inl rfl) (fun w hs => ?_)
      exact ⟨(), trivial, rfl, (st_drop (st_drop (st_drop (st_drop (st_drop (st_drop (st_drop (st_pull [0, 0, 0, 0, 0, 0, 0] hs))))))))⟩
  ·
    refine Wl.q (v := Value.bool false) (q_eql (r := false) rfl rfl (decide_eq_false hga2)) ?_
    refine Wl.q (v := Value.bool false) (q_move rfl) ?_
    refine Wl.no ?_
    refine Wl.no ?_
    refine Wl.no ?_
    refine Wl.no ?_
    refine Wl.no ?_
    refine Wl.q (v := Value.bool false) (q_pick (t := false) rfl rfl) ?_
    refine Wl.q (v := Value.bool false) (q_move rfl) ?_
    refine Wl.no ?_
    refine Wl.no ?_
    refine Wl.no ?_
    refine Wl.no ?_
    refine Wl.no ?_
    refine Wl.q (v := Value.bool false) (q_pick (t := false) rfl rfl) ?_
    refine Wl.q (v := Value.bool false) (q_move rfl) ?_
    refine Wl.no ?_
    refine Wl.no ?_
    refine Wl.no ?_
    refine Wl.no ?_
    refine Wl.no ?_
    refine Wl.q (v := Value.bool false) (q_pick (t := false) rfl rfl) ?_
    refine Wl.q (v := Value.bool false) (q_assign rfl) ?_
    refine Wl.done ?_
    refine Wx.go ?_
    refine Wc.seq ?_
    refine Wc.seq ?_
    refine Wc.region ?_
    refine Wl.q (v := Value.bool false) (q_move rfl) ?_
    refine Wl.q (v := Value.int .i64 ((p : Nat) : Int)) (q_move rfl) ?_
    refine Wl.q (v := Value.int .i64 ((q : Nat) : Int)) (q_move rfl) ?_
    refine Wl.q (v := Value.bool false) (q_eql (r := false) rfl rfl (decide_eq_false (fun h => hga2 (I.sed.1 (Int.ofNat.inj h)).1))) ?_
    refine Wl.q (v := Value.bool false) (q_neq_bool (r := true) rfl rfl Try.underlying4 rfl) ?_
    refine Wl.q (v := Value.bool false) (q_move rfl) ?_
    refine Wl.q (v := Value.int .i64 ((x : Nat) : Int)) (q_move rfl) ?_
    refine Wl.q (v := Value.int .i64 ((y : Nat) : Int)) (q_move rfl) ?_
    refine Wl.q (v := Value.bool false) (q_eql (r := false) rfl rfl (decide_eq_false (fun h => hs0 (I.dig.1 (Int.ofNat.inj h))))) ?_
    refine Wl.q (v := Value.pointer (some ⟨b1, 3, none⟩)) (q_field (m := 3) fo_24_3 rfl rfl) ?_
    refine Wl.q (v := va) (q_load sc_22 rfl (.cel (i := 4) rfl rfl)) ?_
    refine Wl.q (v := Value.pointer (some ⟨b2, 3, none⟩)) (q_field (m := 3) fo_24_3 rfl rfl) ?_
    refine Wl.q (v := vb) (q_load sc_22 rfl (.cel (i := 3) rfl rfl)) ?_
    refine Wl.e (e_call (F := (storeW b4 z7) :: (pt b3 31 [Value.int .u8 1, Value.int .i64 n, Value.int .i64 0, Value.int .i64 0]) :: (refW b5 (tl4_1 n)) :: (pt b2 24 [Value.int .i64 gb, Value.int .i64 eb, Value.int .i64 db, vb]) :: (pt b1 24 [Value.int .i64 ga, Value.int .i64 ea, Value.int .i64 da, va]) :: F) (args := [va, vb]) Try.call9 rfl ((same_c W0 va vb la lb hva hvb hma hmb).eqs (fun _ => congrArg Value.bool (decide_eq_false hs0)) (fun _ => rfl))) (fun _ _ => ?_)
    refine Wl.imp (L' := (storeW b4 z7) :: (pt b3 31 [Value.int .u8 1, Value.int .i64 n, Value.int .i64 0, Value.int .i64 0]) :: (refW b5 (tl4_1 n)) :: (pt b2 24 [Value.int .i64 gb, Value.int .i64 eb, Value.int .i64 db, vb]) :: (pt b1 24 [Value.int .i64 ga, Value.int .i64 ea, Value.int .i64 da, va]) :: F) (fun _ h => h) ?_
    refine Wl.q (v := Value.bool false) (q_neq_bool (r := true) rfl rfl Try.underlying4 rfl) ?_
    refine Wl.q (v := Value.bool false) (q_pick (t := false) rfl rfl) ?_
    refine Wl.done ?_
    refine Wx.go ?_
    refine Wc.no rfl ?_
    refine Wc.skip ?_
    refine Wx.go ?_
    refine Wc.seq ?_
    refine Wc.region ?_
    refine Wl.q (v := Value.pointer (some ⟨b4, 0, none⟩)) (q_move rfl) ?_
    refine Wl.q (v := Value.int .i64 ((p : Nat) : Int)) (q_move rfl) ?_
    refine Wl.q (v := Value.int .i64 ((key : Nat) : Int)) (q_move rfl) ?_
    refine Wl.q (v := Value.int .i64 ((own : Nat) : Int)) (q_move rfl) ?_
    refine Wl.e (e_buildSlice (cs := [Value.int .i64 ((p : Nat) : Int), Value.int .i64 ((key : Nat) : Int), Value.int .i64 ((own : Nat) : Int)]) se_22 zo_3 (by decide) (by decide) (by kernel_rfl)) (fun b9 _ => ?_)
    refine Wl.imp (L' := (pt b9 3 [Value.int .i64 ((p : Nat) : Int), Value.int .i64 ((key : Nat) : Int), Value.int .i64 ((own : Nat) : Int)]) :: (storeW b4 z7) :: (pt b3 31 [Value.int .u8 1, Value.int .i64 n, Value.int .i64 0, Value.int .i64 0]) :: (refW b5 (tl4_1 n)) :: (pt b2 24 [Value.int .i64 gb, Value.int .i64 eb, Value.int .i64 db, vb]) :: (pt b1 24 [Value.int .i64 ga, Value.int .i64 ea, Value.int .i64 da, va]) :: F) (fun _ h => h) ?_
    refine Wl.imp (L' := (storeW b4 z7) :: (pt b9 3 [Value.int .i64 ((p : Nat) : Int), Value.int .i64 ((key : Nat) : Int), Value.int .i64 ((own : Nat) : Int)]) :: (pt b3 31 [Value.int .u8 1, Value.int .i64 n, Value.int .i64 0, Value.int .i64 0]) :: (refW b5 (tl4_1 n)) :: (pt b2 24 [Value.int .i64 gb, Value.int .i64 eb, Value.int .i64 db, vb]) :: (pt b1 24 [Value.int .i64 ga, Value.int .i64 ea, Value.int .i64 da, va]) :: F) (fun _ h => st_pull [1, 0] h) ?_
    refine Wl.e (e_call (F := (pt b3 31 [Value.int .u8 1, Value.int .i64 n, Value.int .i64 0, Value.int .i64 0]) :: (refW b5 (tl4_1 n)) :: (pt b2 24 [Value.int .i64 gb, Value.int .i64 eb, Value.int .i64 db, vb]) :: (pt b1 24 [Value.int .i64 ga, Value.int .i64 ea, Value.int .i64 da, va]) :: F) (args := [Value.pointer (some ⟨b4, 0, none⟩), Value.slice (some ⟨b9, 0, none⟩) 3 3]) Try.call10 rfl (dnew_s W0 b4 z7 b9 3 [(p : Int), (key : Int), (own : Int)] 3 _ rfl rfl (by decide) I.rng)) (fun k _ => ?_)
    refine Wl.imp (L' := (knowK k b4 z7 (KL [(p : Int), (key : Int), (own : Int)])) :: (storeW b4 z7) :: (pt b9 3 [Value.int .i64 ((p : Nat) : Int), Value.int .i64 ((key : Nat) : Int), Value.int .i64 ((own : Nat) : Int)]) :: (pt b3 31 [Value.int .u8 1, Value.int .i64 n, Value.int .i64 0, Value.int .i64 0]) :: (refW b5 (tl4_1 n)) :: (pt b2 24 [Value.int .i64 gb, Value.int .i64 eb, Value.int .i64 db, vb]) :: (pt b1 24 [Value.int .i64 ga, Value.int .i64 ea, Value.int .i64 da, va]) :: F) (fun _ h => h) ?_
    refine Wl.q (v := Value.tuple #[Value.pointer (some ⟨k, 0, none⟩), Value.int .i64 0]) (q_move rfl) ?_
    refine Wl.q (v := Value.pointer (some ⟨k, 0, none⟩)) (q_extract (i := 0) rfl rfl) ?_
    refine Wl.q (v := Value.int .i64 0) (q_extract (i := 1) rfl rfl) ?_
    refine Wl.q (v := Value.pointer (some ⟨k, 0, none⟩)) (q_assign rfl) ?_
    refine Wl.q (v := Value.int .i64 0) (q_assign rfl) ?_
    refine Wl.done ?_
    refine Wx.go ?_
    refine Wc.seq ?_
    refine Wc.region ?_
    refine Wl.q (v := Value.int .i64 0) (q_move rfl) ?_
    refine Wl.q (v := Value.bool true) (q_eql (r := true) rfl rfl (decide_eq_true (by decide))) ?_
    refine Wl.q (v := Value.bool true) (q_move rfl) ?_
    refine Wl.q (v := Value.pointer (some ⟨k, 0, none⟩)) (q_move rfl) ?_
    refine Wl.q (v := Value.int .i64 ((q : Nat) : Int)) (q_move rfl) ?_
    refine Wl.imp (L' := (storeW b4 z7) :: (knowK k b4 z7 (KL [(p : Int), (key : Int), (own : Int)])) :: (pt b9 3 [Value.int .i64 ((p : Nat) : Int), Value.int .i64 ((key : Nat) : Int), Value.int .i64 ((own : Nat) : Int)]) :: (pt b3 31 [Value.int .u8 1, Value.int .i64 n, Value.int .i64 0, Value.int .i64 0]) :: (refW b5 (tl4_1 n)) :: (pt b2 24 [Value.int .i64 gb, Value.int .i64 eb, Value.int .i64 db, vb]) :: (pt b1 24 [Value.int .i64 ga, Value.int .i64 ea, Value.int .i64 da, va]) :: F) (fun _ h => st_pull [1, 0] h) ?_
    refine Wl.e (e_call (F := (pt b9 3 [Value.int .i64 ((p : Nat) : Int), Value.int .i64 ((key : Nat) : Int), Value.int .i64 ((own : Nat) : Int)]) :: (pt b3 31 [Value.int .u8 1, Value.int .i64 n, Value.int .i64 0, Value.int .i64 0]) :: (refW b5 (tl4_1 n)) :: (pt b2 24 [Value.int .i64 gb, Value.int .i64 eb, Value.int .i64 db, vb]) :: (pt b1 24 [Value.int .i64 ga, Value.int .i64 ea, Value.int .i64 da, va]) :: F) (args := [Value.pointer (some ⟨k, 0, none⟩), Value.int .i64 ((q : Nat) : Int)]) Try.call11 rfl (khas_w W0 k b4 z7 _ (q : Int) (I.has.trans (decide_eq_false (fun h => (fun h => hga2 (I.sed.1 (Int.ofNat.inj h)).1) (congrArg Int.ofNat h)))))) (fun _ _ => ?_)
    refine Wl.imp (L' := (storeW b4 z7) :: (knowK k b4 z7 (KL [(p : Int), (key : Int), (own : Int)])) :: (pt b9 3 [Value.int .i64 ((p : Nat) : Int), Value.int .i64 ((key : Nat) : Int), Value.int .i64 ((own : Nat) : Int)]) :: (pt b3 31 [Value.int .u8 1, Value.int .i64 n, Value.int .i64 0, Value.int .i64 0]) :: (refW b5 (tl4_1 n)) :: (pt b2 24 [Value.int .i64 gb, Value.int .i64 eb, Value.int .i64 db, vb]) :: (pt b1 24 [Value.int .i64 ga, Value.int .i64 ea, Value.int .i64 da, va]) :: F) (fun _ h => h) ?_
    refine Wl.q (v := Value.bool false) (q_move rfl) ?_
    refine Wl.q (v := Value.bool true) (q_eql_bool (r := true) rfl rfl Try.underlying4 rfl) ?_
    refine Wl.q (v := Value.bool true) (q_pick (t := true) rfl rfl) ?_
    refine Wl.q (v := Value.bool true) (q_move rfl) ?_
    refine Wl.q (v := Value.pointer (some ⟨k, 0, none⟩)) (q_move rfl) ?_
    refine Wl.e (e_call (F := (pt b9 3 [Value.int .i64 ((p : Nat) : Int), Value.int .i64 ((key : Nat) : Int), Value.int .i64 ((own : Nat) : Int)]) :: (pt b3 31 [Value.int .u8 1, Value.int .i64 n, Value.int .i64 0, Value.int .i64 0]) :: (refW b5 (tl4_1 n)) :: (pt b2 24 [Value.int .i64 gb, Value.int .i64 eb, Value.int .i64 db, vb]) :: (pt b1 24 [Value.int .i64 ga, Value.int .i64 ea, Value.int .i64 da, va]) :: F) (args := [Value.pointer (some ⟨k, 0, none⟩), Value.int .i64 1]) Try.call11 rfl (khas_w W0 k b4 z7 _ 1 I.not)) (fun _ _ => ?_)
    refine Wl.imp (L' := (storeW b4 z7) :: (knowK k b4 z7 (KL [(p : Int), (key : Int), (own : Int)])) :: (pt b9 3 [Value.int .i64 ((p : Nat) : Int), Value.int .i64 ((key : Nat) : Int), Value.int .i64 ((own : Nat) : Int)]) :: (pt b3 31 [Value.int .u8 1, Value.int .i64 n, Value.int .i64 0, Value.int .i64 0]) :: (refW b5 (tl4_1 n)) :: (pt b2 24 [Value.int .i64 gb, Value.int .i64 eb, Value.int .i64 db, vb]) :: (pt b1 24 [Value.int .i64 ga, Value.int .i64 ea, Value.int .i64 da, va]) :: F) (fun _ h => h) ?_
    refine Wl.q (v := Value.bool true) (q_not rfl rfl) ?_
    refine Wl.q (v := Value.bool true) (q_pick (t := true) rfl rfl) ?_
    refine Wl.q (v := Value.bool true) (q_move rfl) ?_
    refine Wl.e (e_call (F := (storeW b4 z7) :: (knowK k b4 z7 (KL [(p : Int), (key : Int), (own : Int)])) :: (pt b9 3 [Value.int .i64 ((p : Nat) : Int), Value.int .i64 ((key : Nat) : Int), Value.int .i64 ((own : Nat) : Int)]) :: (pt b3 31 [Value.int .u8 1, Value.int .i64 n, Value.int .i64 0, Value.int .i64 0]) :: (refW b5 (tl4_1 n)) :: (pt b2 24 [Value.int .i64 gb, Value.int .i64 eb, Value.int .i64 db, vb]) :: (pt b1 24 [Value.int .i64 ga, Value.int .i64 ea, Value.int .i64 da, va]) :: F) (args := []) Try.call12 rfl (au1_lives W0)) (fun _ _ => ?_)
    refine Wl.imp (L' := (storeW b4 z7) :: (knowK k b4 z7 (KL [(p : Int), (key : Int), (own : Int)])) :: (pt b9 3 [Value.int .i64 ((p : Nat) : Int), Value.int .i64 ((key : Nat) : Int), Value.int .i64 ((own : Nat) : Int)]) :: (pt b3 31 [Value.int .u8 1, Value.int .i64 n, Value.int .i64 0, Value.int .i64 0]) :: (refW b5 (tl4_1 n)) :: (pt b2 24 [Value.int .i64 gb, Value.int .i64 eb, Value.int .i64 db, vb]) :: (pt b1 24 [Value.int .i64 ga, Value.int .i64 ea, Value.int .i64 da, va]) :: F) (fun _ h => h) ?_
    refine Wl.q (v := Value.bool true) (q_pick (t := true) rfl rfl) ?_
    refine Wl.q (v := Value.bool true) (q_assign rfl) ?_
    refine Wl.done ?_
    refine Wx.go ?_
    refine Wc.ret ?_
    refine Wx.fin1 rfl (.inl rfl) (fun w hs => ?_)
    exact ⟨(), trivial, rfl, (st_drop (st_drop (st_drop (st_drop (st_drop (st_drop (st_drop (st_pull [0, 0, 0, 0, 0, 0, 0] hs))))))))⟩

theorem apart_out (W0 : World) (n : Int) (ga ea da gb eb db : Int) (va vb : Value) (la lb : List Int) (hva : Rd W0 va la.length (la.flatMap int1)) (hvb : Rd W0 vb lb.length (lb.flatMap int1)) (h : n < 0 ∨ 8 < la.length ∨ 8 < lb.length) :
    Con Try.prog W0 3 #[Value.int .i64 n, Value.agg #[Value.int .i64 ga, Value.int .i64 ea, Value.int .i64 da, va], Value.agg #[Value.int .i64 gb, Value.int .i64 eb, Value.int .i64 db, vb]] [] (X := Unit) (fun _ => True) (fun _ => .bool true) (fun _ => []) := by
  refine Con.of (args := [Value.int .i64 n, Value.agg #[Value.int .i64 ga, Value.int .i64 ea, Value.int .i64 da, va], Value.agg #[Value.int .i64 gb, Value.int .i64 eb, Value.int .i64 db, vb]]) Try.func3 rfl Try.ntmps3 rfl (fun F => ?_)
  show Wc _ W0 _ _ _ _ _ (F)
  refine Wc.seq ?_
  refine Wc.region ?_
  refine Wl.e (e_box (x := .tmp 1) (vs := [Value.int .i64 ga, Value.int .i64 ea, Value.int .i64 da, va]) rfl) (fun b1 _ => ?_)
  refine Wl.imp (L' := (pt b1 24 [Value.int .i64 ga, Value.int .i64 ea, Value.int .i64 da, va]) :: F) (fun _ h => h) ?_
  refine Wl.e (e_box (x := .tmp 2) (vs := [Value.int .i64 gb, Value.int .i64 eb, Value.int .i64 db, vb]) rfl) (fun b2 _ => ?_)
  refine Wl.imp (L' := (pt b2 24 [Value.int .i64 gb, Value.int .i64 eb, Value.int .i64 db, vb]) :: (pt b1 24 [Value.int .i64 ga, Value.int .i64 ea, Value.int .i64 da, va]) :: F) (fun _ h => h) ?_
  refine Wl.q (v := Value.bool false) (q_assign rfl) ?_
  refine Wl.done ?_
  refine Wx.go ?_
  refine Wc.seq ?_
  refine Wc.seq ?_
  refine Wc.region ?_
  refine Wl.q (v := Value.int .i64 n) (q_move rfl) ?_
  by_cases g1 : n < 0
  ·
    refine Wl.q (v := Value.bool true) (q_lss (r := true) rfl rfl (decide_eq_true g1)) ?_
    refine Wl.q (v := Value.bool true) (q_move rfl) ?_
    refine Wl.no ?_
    refine Wl.no ?_
    refine Wl.no ?_
    refine Wl.no ?_
    refine Wl.q (v := Value.bool true) (q_pick (t := true) rfl rfl) ?_
    refine Wl.q (v := Value.bool true) (q_move rfl) ?_
    refine Wl.no ?_
    refine Wl.no ?_
    refine Wl.no ?_
    refine Wl.no ?_
    refine Wl.q (v := Value.bool true) (q_pick (t := true) rfl rfl) ?_
    refine Wl.done ?_
    refine Wx.go ?_
    refine Wc.yes rfl ?_
    refine Wc.seq ?_
    refine Wc.region ?_
    refine Wl.q (v := Value.bool true) (q_assign rfl) ?_
    refine Wl.done ?_
    refine Wx.go ?_
    refine Wc.ret ?_
    refine Wx.thenRet ?_
    refine Wx.fin1 rfl (.inl rfl) (fun w hs => ?_)
    exact ⟨(), trivial, rfl, (st_drop (st_drop (st_pull [0, 0] hs)))⟩
  ·
    refine Wl.q (v := Value.bool false) (q_lss (r := false) rfl rfl (decide_eq_false g1)) ?_
    refine Wl.q (v := Value.bool false) (q_move rfl) ?_
    refine Wl.q (v := Value.pointer (some ⟨b1, 3, none⟩)) (q_field (m := 3) fo_24_3 rfl rfl) ?_
    refine Wl.q (v := va) (q_load sc_22 rfl (.cel (i := 1) rfl rfl)) ?_
    refine Wl.q (v := Value.int .i64 ((la.length : Nat) : Int)) (q_len_is Try.underlying22 rfl hva.shape) ?_
    by_cases g2 : ((la.length : Nat) : Int) > 8
    ·
      refine Wl.q (v := Value.bool true) (q_gtr (r := true) rfl rfl (decide_eq_true g2)) ?_
      refine Wl.q (v := Value.bool true) (q_pick (t := false) rfl rfl) ?_
      refine Wl.q (v := Value.bool true) (q_move rfl) ?_
      refine Wl.no ?_
      refine Wl.no ?_
      refine Wl.no ?_
      refine Wl.no ?_
      refine Wl.q (v := Value.bool true) (q_pick (t := true) rfl rfl) ?_
      refine Wl.done ?_
      refine Wx.go ?_
      refine Wc.yes rfl ?_
      refine Wc.seq ?_
      refine Wc.region ?_
      refine Wl.q (v := Value.bool true) (q_assign rfl) ?_
      refine Wl.done ?_
      refine Wx.go ?_
      refine Wc.ret ?_
      refine Wx.thenRet ?_
      refine Wx.fin1 rfl (.inl rfl) (fun w hs => ?_)
      exact ⟨(), trivial, rfl, (st_drop (st_drop (st_pull [0, 0] hs)))⟩
    ·
      refine Wl.q (v := Value.bool false) (q_gtr (r := false) rfl rfl (decide_eq_false g2)) ?_
      refine Wl.q (v := Value.bool false) (q_pick (t := false) rfl rfl) ?_
      refine Wl.q (v := Value.bool false) (q_move rfl) ?_
      refine Wl.q (v := Value.pointer (some ⟨b2, 3, none⟩)) (q_field (m := 3) fo_24_3 rfl rfl) ?_
      refine Wl.q (v := vb) (q_load sc_22 rfl (.cel (i := 0) rfl rfl)) ?_
      refine Wl.q (v := Value.int .i64 ((lb.length : Nat) : Int)) (q_len_is Try.underlying22 rfl hvb.shape) ?_
      by_cases g3 : ((lb.length : Nat) : Int) > 8
      ·
        refine Wl.q (v := Value.bool true) (q_gtr (r := true) rfl rfl (decide_eq_true g3)) ?_
        refine Wl.q (v := Value.bool true) (q_pick (t := false) rfl rfl) ?_
        refine Wl.done ?_
        refine Wx.go ?_
        refine Wc.yes rfl ?_
        refine Wc.seq ?_
        refine Wc.region ?_
        refine Wl.q (v := Value.bool true) (q_assign rfl) ?_
        refine Wl.done ?_
        refine Wx.go ?_
        refine Wc.ret ?_
        refine Wx.thenRet ?_
        refine Wx.fin1 rfl (.inl rfl) (fun w hs => ?_)
        exact ⟨(), trivial, rfl, (st_drop (st_drop (st_pull [0, 0] hs)))⟩
      ·
        exfalso; omega

theorem apart_law (W0 : World) (n : Int) (hn : -9223372036854775808 ≤ n ∧ n ≤ 9223372036854775807) (ga ea da gb eb db : Int) (hga : (-9223372036854775808 ≤ ga ∧ ga ≤ 9223372036854775807)) (hea : (-9223372036854775808 ≤ ea ∧ ea ≤ 9223372036854775807)) (hda : (-9223372036854775808 ≤ da ∧ da ≤ 9223372036854775807)) (hgb : (-9223372036854775808 ≤ gb ∧ gb ≤ 9223372036854775807)) (heb : (-9223372036854775808 ≤ eb ∧ eb ≤ 9223372036854775807)) (hdb : (-9223372036854775808 ≤ db ∧ db ≤ 9223372036854775807)) (va vb : Value) (la lb : List Int) (hva : Rd W0 va la.length (la.flatMap int1)) (hvb : Rd W0 vb lb.length (lb.flatMap int1)) (hloa : ∀ x ∈ la, (-9223372036854775808 ≤ x ∧ x ≤ 9223372036854775807)) (hlob : ∀ x ∈ lb, (-9223372036854775808 ≤ x ∧ x ≤ 9223372036854775807)) : Con Try.prog W0 3 #[.int .i64 n, .agg #[.int .i64 ga, .int .i64 ea, .int .i64 da, va], .agg #[.int .i64 gb, .int .i64 eb, .int .i64 db, vb]] [] (X := Unit) (fun _ => True) (fun _ => .bool true) (fun _ => []) := by
  by_cases h : n < 0 ∨ 8 < la.length ∨ 8 < lb.length
  · exact apart_out W0 n ga ea da gb eb db va vb la lb hva hvb h
  by_cases hs : la = lb
  · exact apart_same W0 n ⟨by omega, hn.2⟩ ga ea da gb eb db hga hea hda hgb heb hdb va vb la lb hva hvb (by omega) (by omega) hloa hlob hs
  · exact apart_other W0 n ⟨by omega, hn.2⟩ ga ea da gb eb db hga hea hda hgb heb hdb va vb la lb hva hvb (by omega) (by omega) hloa hlob hs

end Go.Proofs.Ytkdjagmgmodfnaa
