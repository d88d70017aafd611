/- What follows: contracts of the calls. -/
import Derived.Test.YtjjghmkjdgogiaaDdLv
namespace Go.Proofs.Ytjjghmkjdgogiaa
open Go Go.SL Go.Dd Go.RowKit
set_option linter.unusedVariables false
set_option maxRecDepth 8000

theorem dnew_h (W0 : World) (s : Nat) (ts : List TermR) (hv : Value) (S : ChS) (h6 : (hasN S).length ≤ 65) (hr : ∀ x ∈ hasI S, 1 ≤ x ∧ x ≤ (ts.length : Int)) :
    Con Try.prog W0 14 #[.pointer (some ⟨s, 0, none⟩), hv] [storeW s ts, sl 3 1 hv (hasN S).length ((hasN S).map natV)] (X := Nat) (fun _ => True) (fun k => .tuple #[.pointer (some ⟨k, 0, none⟩), .int .i64 0]) (fun k => [knowK k s ts (KL (hasI S)), storeW s ts, sl 3 1 hv (hasN S).length ((hasN S).map natV)]) := Con.storeW fun hw hl => by
  have := new_ok_sl W0 s ts hw hl hv (hasI S) (by rw [hasI_len]; omega) (by rw [hasI_len]; omega) hr
  rw [hasI_len, hasI_V] at this
  exact this.mono fun k _ => ⟨k, trivial, rfl, fun _ _ hs => st_swap (storeW_mk hw hl (st_swap hs))⟩
theorem khas_w (W0 : World) (k s : Nat) (ts : List TermR) (K : Nat → Prop) (x : Int) {b : Bool} (h : derB ts K x = b) : Con Try.prog W0 16 #[.pointer (some ⟨k, 0, none⟩), .int .i64 x] [storeW s ts, knowK k s ts K] (X := Unit) (fun _ => True) (fun _ => .bool b) (fun _ => [storeW s ts, knowK k s ts K]) := Con.storeW fun hw hl =>
  ((khas_is W0 k s ts K x hl h).pre fun _ _ hs => st_swap hs).mono fun _ _ => ⟨(), trivial, rfl, fun _ _ hs => storeW_mk hw hl (st_swap hs)⟩
theorem wf_one {n : Int} (hn : 0 ≤ n ∧ n ≤ 9223372036854775807) : Wf [(⟨1, n, 0, 0⟩ : TermR)] := by
  have ok : okT ⟨1, n, 0, 0⟩ := by unfold okT; simp only; omega
  have h := Wf.nil.mk (t := ⟨1, n, 0, 0⟩) ok.1 ok.2.1
  have hm : may ([] : List TermR).length ⟨1, n, 0, 0⟩ = true := decide_eq_true (.inl ⟨rfl, hn.1, rfl, rfl⟩)
  have e : (Dd.mk [] (⟨1, n, 0, 0⟩ : TermR)).1 = [⟨1, n, 0, 0⟩] := by
    unfold Dd.mk
    rw [if_neg (by rw [hm]; decide), if_neg (by simp), if_neg (by simp)]
    rfl
  rwa [e] at h
theorem fg_has {T : List TermR} {n s : Int} {b c : Nat} {S : ChS} {g : List Nat} {q x : Nat} (hw : Wf T) (hk : Kd n T) (hT : Ext S.ts T) (I : ChI 1 s b c S) (hG : GoneI T s S g) (hx : IsK T 1 s q x) (hr : 1 ≤ x ∧ x ≤ T.length) {t : Bool} (ht : t = decide (x ∈ g)) : derB T (KL (hasI S)) ((x : Nat) : Int) = !t := by
  subst ht
  have hi := forgets hw hk hT I (fun y => hasI_mem S y) hx
  have hm := hG.mem hw hx
  by_cases h : x ∈ g
  · rw [decide_eq_true h]
    refine Bool.eq_false_iff.2 fun hd => ?_
    exact hi.1 (derB_iff.1 hd).2.2 (hm.1 h)
  · rw [decide_eq_false h]
    exact derB_iff.2 ⟨by omega, by omega, hi.2 fun hg => h (hm.2 hg)⟩
theorem fg_root {T : List TermR} {n s : Int} {b c : Nat} {S : ChS} (hw : Wf T) (hk : Kd n T) (hT : Ext S.ts T) (I : ChI 1 s b c S) : derB T (KL (hasI S)) 1 = false :=
  Bool.eq_false_iff.2 fun hd => forgets_root hw hk hT I (fun y => hasI_mem S y) (derB_iff.1 hd).2.2

def tl2_1 (n : Int) : List TermR := [⟨1, n, 0, 0⟩]

set_option maxRecDepth 8000 in
set_option maxHeartbeats 4000000 in
theorem bu1_Build (W0 : World) (n : Int) (hn : 0 ≤ n ∧ n ≤ 9223372036854775807) (q0 : Nat)  :
    Con Try.prog W0 6 #[Value.slice (some ⟨q0, 0, none⟩) 1 1] [pt q0 28 [Value.int .u8 1, iv n, iv 0, iv 0]] (X := Nat × Nat) (fun _ => True) (fun y => Value.tuple #[Value.pointer (some ⟨y.1, 0, none⟩), Value.pointer (some ⟨y.2, 0, none⟩), Value.bool true]) (fun y => [pt q0 28 [Value.int .u8 1, iv n, iv 0, iv 0], storeW y.1 (tl2_1 n), refW y.2 (tl2_1 n)]) := by
  refine Con.of (args := [Value.slice (some ⟨q0, 0, none⟩) 1 1]) Try.func6 rfl Try.ntmps6 rfl (fun F => ?_)
  show Wc _ W0 _ _ _ _ _ ((pt q0 28 [Value.int .u8 1, iv n, iv 0, iv 0]) :: F)
  refine Wc.seq ?_
  refine Wc.region ?_
  refine Wl.q (v := Value.pointer none) (q_assign rfl) ?_
  refine Wl.q (v := Value.pointer none) (q_assign rfl) ?_
  refine Wl.q (v := Value.bool false) (q_assign rfl) ?_
  refine Wl.done ?_
  refine Wx.go ?_
  refine Wc.seq ?_
  refine Wc.region ?_
  refine Wl.e (e_call (F := (pt q0 28 [Value.int .u8 1, iv n, iv 0, iv 0]) :: F) (args := []) Try.call17 rfl (tnew_w W0)) (fun s1 _ => ?_)
  refine Wl.imp (L' := (storeW s1 []) :: (pt q0 28 [Value.int .u8 1, iv n, iv 0, iv 0]) :: F) (fun _ h => h) ?_
  refine Wl.q (v := pv s1) (q_assign rfl) ?_
  refine Wl.done ?_
  refine Wx.go ?_
  refine Wc.seq ?_
  refine Wc.region ?_
  refine Wl.e (e_call (F := (storeW s1 []) :: (pt q0 28 [Value.int .u8 1, iv n, iv 0, iv 0]) :: F) (args := []) Try.call18 rfl (rtnew_w W0)) (fun s2 _ => ?_)
  refine Wl.imp (L' := (refW s2 []) :: (storeW s1 []) :: (pt q0 28 [Value.int .u8 1, iv n, iv 0, iv 0]) :: F) (fun _ h => h) ?_
  refine Wl.q (v := pv s2) (q_assign rfl) ?_
  refine Wl.done ?_
  refine Wx.go ?_
  refine Wc.seq ?_
  refine Wc.seq ?_
  refine Wc.region ?_
  refine Wl.q (v := iv 0) (q_assign rfl) ?_
  refine Wl.done ?_
  refine Wx.go ?_
  refine Wc.block ?_
  refine Wc.rounds 64 ?_
  refine Wn.round ?_
  refine Wc.seq ?_
  refine Wc.seq ?_
  refine Wc.region ?_
  refine Wl.q (v := iv 0) (q_move rfl) ?_
  refine Wl.q (v := Value.slice (some ⟨q0, 0, none⟩) 1 1) (q_move rfl) ?_
  refine Wl.q (v := iv 1) (q_len_slice Try.underlying29 rfl) ?_
  refine Wl.q (v := Value.bool true) (q_lss (r := true) rfl rfl (decide_eq_true (by decide))) ?_
  refine Wl.done ?_
  refine Wx.go ?_
  refine Wc.yes rfl ?_
  refine Wc.skip ?_
  refine Wx.go ?_
  refine Wc.seq ?_
  refine Wc.block ?_
  refine Wc.seq ?_
  refine Wc.region ?_
  refine Wl.q (v := pv s1) (q_move rfl) ?_
  refine Wl.q (v := Value.slice (some ⟨q0, 0, none⟩) 1 1) (q_move rfl) ?_
  refine Wl.q (v := iv 0) (q_move rfl) ?_
  refine Wl.q (v := pv q0) (q_idx (m := 0) se_29 rfl rfl (by omega) (by omega) rfl) ?_
  refine Wl.q (v := Value.agg #[Value.int .u8 1, iv n, iv 0, iv 0]) (q_loadAgg (vs := [Value.int .u8 1, iv n, iv 0, iv 0]) ag_28 rfl (Has.of_pt (i := 2) rfl rfl)) ?_
  refine Wl.imp (L' := (storeW s1 []) :: (refW s2 []) :: (pt q0 28 [Value.int .u8 1, iv n, iv 0, iv 0]) :: F) (fun _ h => st_pull [1] h) ?_
  refine Wl.e (e_call (F := (refW s2 []) :: (pt q0 28 [Value.int .u8 1, iv n, iv 0, iv 0]) :: F) (args := [pv s1, Value.agg #[Value.int .u8 1, iv n, iv 0, iv 0]]) Try.call19 rfl (make_w W0 s1 [] (tl2_1 n) ⟨1, n, 0, 0⟩ 1 1 0 (by unfold okT; simp only; omega) (mk_new (decide_eq_true (.inl ⟨rfl, by show n ≥ (0 : Int); omega, rfl, rfl⟩)) (by simp) (by show 0 < 1048576; decide)) rfl)) (fun _ _ => ?_)
  refine Wl.imp (L' := (storeW s1 (tl2_1 n)) :: (refW s2 []) :: (pt q0 28 [Value.int .u8 1, iv n, iv 0, iv 0]) :: F) (fun _ h => h) ?_
  refine Wl.q (v := Value.tuple #[iv 1, iv 0]) (q_move rfl) ?_
  refine Wl.q (v := iv 1) (q_extract (i := 0) rfl rfl) ?_
  refine Wl.q (v := iv 0) (q_extract (i := 1) rfl rfl) ?_
  refine Wl.q (v := iv 1) (q_assign rfl) ?_
  refine Wl.q (v := iv 0) (q_assign rfl) ?_
  refine Wl.done ?_
  refine Wx.go ?_
  refine Wc.seq ?_
  refine Wc.region ?_
  refine Wl.q (v := pv s2) (q_move rfl) ?_
  refine Wl.q (v := Value.slice (some ⟨q0, 0, none⟩) 1 1) (q_move rfl) ?_
  refine Wl.q (v := iv 0) (q_move rfl) ?_
  refine Wl.q (v := pv q0) (q_idx (m := 0) se_29 rfl rfl (by omega) (by omega) rfl) ?_
  refine Wl.q (v := Value.agg #[Value.int .u8 1, iv n, iv 0, iv 0]) (q_loadAgg (vs := [Value.int .u8 1, iv n, iv 0, iv 0]) ag_28 rfl (Has.of_pt (i := 2) rfl rfl)) ?_
  refine Wl.imp (L' := (refW s2 []) :: (storeW s1 (tl2_1 n)) :: (pt q0 28 [Value.int .u8 1, iv n, iv 0, iv 0]) :: F) (fun _ h => st_pull [1] h) ?_
  refine Wl.e (e_call (F := (storeW s1 (tl2_1 n)) :: (pt q0 28 [Value.int .u8 1, iv n, iv 0, iv 0]) :: F) (args := [pv s2, Value.agg #[Value.int .u8 1, iv n, iv 0, iv 0]]) Try.call20 rfl (rmake_w W0 s2 [] (tl2_1 n) ⟨1, n, 0, 0⟩ 1 1 0 (by unfold okT; simp only; omega) (mk_new (decide_eq_true (.inl ⟨rfl, by show n ≥ (0 : Int); omega, rfl, rfl⟩)) (by simp) (by show 0 < 1048576; decide)) rfl)) (fun _ _ => ?_)
  refine Wl.imp (L' := (refW s2 (tl2_1 n)) :: (storeW s1 (tl2_1 n)) :: (pt q0 28 [Value.int .u8 1, iv n, iv 0, iv 0]) :: F) (fun _ h => h) ?_
  refine Wl.q (v := Value.tuple #[iv 1, iv 0]) (q_move rfl) ?_
  refine Wl.q (v := iv 1) (q_extract (i := 0) rfl rfl) ?_
  refine Wl.q (v := iv 0) (q_extract (i := 1) rfl rfl) ?_
  refine Wl.q (v := iv 1) (q_assign rfl) ?_
  refine Wl.q (v := iv 0) (q_assign rfl) ?_
  refine Wl.done ?_
  refine Wx.go ?_
  refine Wc.seq ?_
  refine Wc.region ?_
  refine Wl.q (v := iv 1) (q_move rfl) ?_
  refine Wl.q (v := iv 1) (q_move rfl) ?_
  refine Wl.q (v := Value.bool false) (q_neq (r := true) rfl rfl (decide_eq_true (by decide))) ?_
  refine Wl.q (v := Value.bool false) (q_move rfl) ?_
  refine Wl.q (v := iv 0) (q_move rfl) ?_
  refine Wl.q (v := iv 0) (q_move rfl) ?_
  refine Wl.q (v := Value.bool false) (q_neq (r := true) rfl rfl (decide_eq_true (by decide))) ?_
  refine Wl.q (v := Value.bool false) (q_pick (t := false) rfl rfl) ?_
  refine Wl.done ?_
  refine Wx.go ?_
  refine Wc.no rfl ?_
  refine Wc.skip ?_
  refine Wx.blockEnd ?_
  refine Wx.go ?_
  refine Wc.region ?_
  refine Wl.q (v := iv 0) (q_move rfl) ?_
  refine Wl.q (v := iv 1) (q_add (c := 1) rfl rfl (by decide)) ?_
  refine Wl.q (v := iv 1) (q_assign rfl) ?_
  refine Wl.done ?_
  refine Wx.again ?_
  refine Wn.round ?_
  refine Wc.seq ?_
  refine Wc.seq ?_
  refine Wc.region ?_
  refine Wl.q (v := iv 1) (q_move rfl) ?_
  refine Wl.q (v := Value.slice (some ⟨q0, 0, none⟩) 1 1) (q_move rfl) ?_
  refine Wl.q (v := iv 1) (q_len_slice Try.underlying29 rfl) ?_
  refine Wl.q (v := Value.bool false) (q_lss (r := false) rfl rfl (decide_eq_false (by decide))) ?_
  refine Wl.done ?_
  refine Wx.go ?_
  refine Wc.no rfl ?_
  refine Wc.exit ?_
  refine Wx.thenExit ?_
  refine Wx.thenExit ?_
  refine Wx.out ?_
  refine Wx.go ?_
  refine Wc.seq ?_
  refine Wc.region ?_
  refine Wl.q (v := pv s1) (q_move rfl) ?_
  refine Wl.q (v := pv s2) (q_move rfl) ?_
  refine Wl.q (v := pv s1) (q_move rfl) ?_
  refine Wl.q (v := Value.bool true) (q_neq_nil (r := false) rfl rfl Try.underlying22 rfl) ?_
  refine Wl.q (v := pv s1) (q_assign rfl) ?_
  refine Wl.q (v := pv s2) (q_assign rfl) ?_
  refine Wl.q (v := Value.bool true) (q_assign rfl) ?_
  refine Wl.done ?_
  refine Wx.go ?_
  refine Wc.ret ?_
  refine Wx.fin3 rfl (.inl rfl) (fun w hs => ?_)
  have hs : st W0 w ((pt q0 28 [Value.int .u8 1, iv n, iv 0, iv 0]) :: (storeW s1 (tl2_1 n)) :: (refW s2 (tl2_1 n)) :: F) := (st_pull [2, 1, 0] (hs))
  exact ⟨(s1, s2), trivial, rfl, hs⟩

set_option maxRecDepth 8000 in
theorem forgets_in (W0 : World) (n sd : Int) (hn : 0 ≤ n ∧ n ≤ 9223372036854775807) (hs0 : i64R sd) (vt : Value) (tk : List Int) (ht : Rd W0 vt tk.length (tk.flatMap int1)) (htm : tk.length ≤ 60) (hto : ∀ x ∈ tk, i64R x) :
    Con Try.prog W0 5 #[Value.int .i64 n, Value.int .i64 sd, vt] [] (X := Unit) (fun _ => True) (fun _ => .bool true) (fun _ => []) := by
  refine Con.of (args := [Value.int .i64 n, Value.int .i64 sd, vt]) Try.func5 rfl Try.ntmps5 rfl (fun F => ?_)
  show Wc _ W0 _ _ _ _ _ (F)
  have wf0 := wf_one hn
  have hI0 : ChI 1 sd 3 0 (startS [⟨1, n, 0, 0⟩] 1 sd) := ChI.start wf0 (by simp only [List.length_singleton]; omega) hs0 (by simp only [List.length_singleton]; omega)
  refine Wc.seq ?_
  refine Wc.region ?_
  refine Wl.q (v := Value.bool false) (q_assign rfl) ?_
  refine Wl.done ?_
  refine Wx.go ?_
  refine Wc.seq ?_
  refine Wc.seq ?_
  refine Wc.region ?_
  refine Wl.q (v := Value.int .i64 n) (q_move rfl) ?_
  refine Wl.q (v := Value.bool false) (q_lss (r := false) rfl rfl (decide_eq_false (by omega))) ?_
  refine Wl.q (v := Value.bool false) (q_move rfl) ?_
  refine Wl.q (v := vt) (q_move rfl) ?_
  refine Wl.q (v := Value.int .i64 ((tk.length : Nat) : Int)) (q_len_is Try.underlying41 rfl ht.shape) ?_
  refine Wl.q (v := Value.bool false) (q_gtr (r := false) rfl rfl (decide_eq_false (by omega))) ?_
  refine Wl.q (v := Value.bool false) (q_pick (t := false) rfl rfl) ?_
  refine Wl.done ?_
  refine Wx.go ?_
  refine Wc.no rfl ?_
  refine Wc.skip ?_
  refine Wx.go ?_
  refine Wc.seq ?_
  refine Wc.region ?_
  refine Wl.q (v := Value.int .i64 n) (q_move rfl) ?_
  refine Wl.q (v := Value.agg #[Value.int .u8 1, Value.int .i64 n, Value.int .i64 0, Value.int .i64 0]) (q_build (pl := [(0, 1), (1, 1), (2, 1), (3, 1)]) Try.underlying28 zo_28 (by kernel_rfl) (by kernel_rfl)) ?_
  refine Wl.e (e_buildSlice (cs := [Value.int .u8 1, Value.int .i64 n, Value.int .i64 0, Value.int .i64 0]) se_29 zo_28 (by decide) (by decide) (by kernel_rfl)) (fun b1 _ => ?_)
  refine Wl.imp (L' := (pt b1 28 [Value.int .u8 1, Value.int .i64 n, Value.int .i64 0, Value.int .i64 0]) :: F) (fun _ h => h) ?_
  refine Wl.e (e_call (F := F) (args := [Value.slice (some ⟨b1, 0, none⟩) 1 1]) Try.call6 rfl (bu1_Build W0 n hn b1)) (fun ⟨b2, b3⟩ _ => ?_)
  refine Wl.imp (L' := (pt b1 28 [Value.int .u8 1, Value.int .i64 n, Value.int .i64 0, Value.int .i64 0]) :: (storeW b2 [⟨1, n, 0, 0⟩]) :: (refW b3 (tl2_1 n)) :: F) (fun _ h => h) ?_
  refine Wl.q (v := Value.tuple #[Value.pointer (some ⟨b2, 0, none⟩), Value.pointer (some ⟨b3, 0, none⟩), Value.bool true]) (q_move rfl) ?_
  refine Wl.q (v := Value.pointer (some ⟨b2, 0, none⟩)) (q_extract (i := 0) rfl rfl) ?_
  refine Wl.q (v := Value.pointer (some ⟨b3, 0, none⟩)) (q_extract (i := 1) rfl rfl) ?_
  refine Wl.q (v := Value.bool true) (q_extract (i := 2) rfl rfl) ?_
  refine Wl.q (v := Value.pointer (some ⟨b2, 0, none⟩)) (q_assign rfl) ?_
  refine Wl.q (v := Value.pointer (some ⟨b3, 0, none⟩)) (q_assign rfl) ?_
  refine Wl.q (v := Value.bool true) (q_assign rfl) ?_
  refine Wl.done ?_
  refine Wx.go ?_
  refine Wc.seq ?_
  refine Wc.region ?_
  refine Wl.q (v := Value.pointer (some ⟨b2, 0, none⟩)) (q_move rfl) ?_
  refine Wl.q (v := Value.int .i64 sd) (q_move rfl) ?_
  refine Wl.imp (L' := (storeW b2 [⟨1, n, 0, 0⟩]) :: (pt b1 28 [Value.int .u8 1, Value.int .i64 n, Value.int .i64 0, Value.int .i64 0]) :: (refW b3 (tl2_1 n)) :: F) (fun _ h => st_pull [1] h) ?_
  refine Wl.e (e_call (F := (pt b1 28 [Value.int .u8 1, Value.int .i64 n, Value.int .i64 0, Value.int .i64 0]) :: (refW b3 (tl2_1 n)) :: F) (args := [Value.pointer (some ⟨b2, 0, none⟩), Value.int .i64 1, Value.int .i64 sd]) Try.call12 rfl (new_s W0 b2 [⟨1, n, 0, 0⟩] 1 sd wf0 (by simp only [List.length_singleton]; omega) hs0 (by simp only [List.length_singleton]; omega))) (fun ⟨c, mb⟩ _ => ?_)
  refine Wl.imp (L' := (pt c 67 ([Value.pointer (some ⟨b2, 0, none⟩), Value.int .i64 (((startS [⟨1, n, 0, 0⟩] 1 sd).z : Nat) : Int), Value.int .i64 (((startS [⟨1, n, 0, 0⟩] 1 sd).nx : Nat) : Int), Value.map (some mb)])) :: (mp mb (leftV ((startS [⟨1, n, 0, 0⟩] 1 sd).left))) :: (storeW b2 ((startS [⟨1, n, 0, 0⟩] 1 sd).ts)) :: (pt b1 28 [Value.int .u8 1, Value.int .i64 n, Value.int .i64 0, Value.int .i64 0]) :: (refW b3 (tl2_1 n)) :: F) (fun _ h => h) ?_
  refine Wl.q (v := Value.tuple #[Value.pointer (some ⟨c, 0, none⟩), Value.int .i64 0]) (q_move rfl) ?_
  refine Wl.q (v := Value.pointer (some ⟨c, 0, none⟩)) (q_extract (i := 0) rfl rfl) ?_
  refine Wl.q (v := Value.int .i64 0) (q_extract (i := 1) rfl rfl) ?_
  refine Wl.q (v := Value.pointer (some ⟨c, 0, none⟩)) (q_assign rfl) ?_
  refine Wl.q (v := Value.int .i64 0) (q_assign rfl) ?_
  refine Wl.done ?_
  refine Wx.go ?_
  refine Wc.seq ?_
  refine Wc.seq ?_
  refine Wc.region ?_
  refine Wl.q (v := Value.bool true) (q_move rfl) ?_
  refine Wl.q (v := Value.bool false) (q_not rfl rfl) ?_
  refine Wl.q (v := Value.bool false) (q_move rfl) ?_
  refine Wl.q (v := Value.int .i64 0) (q_move rfl) ?_
  refine Wl.q (v := Value.bool false) (q_neq (r := true) rfl rfl (decide_eq_true (by decide))) ?_
  refine Wl.q (v := Value.bool false) (q_pick (t := false) rfl rfl) ?_
  refine Wl.q (v := Value.bool false) (q_move rfl) ?_
  refine Wl.q (v := Value.pointer (some ⟨c, 0, none⟩)) (q_move rfl) ?_
  refine Wl.q (v := Value.bool false) (q_eql_nil (r := false) rfl rfl Try.underlying42 rfl) ?_
  refine Wl.q (v := Value.bool false) (q_pick (t := false) rfl rfl) ?_
  refine Wl.done ?_
  refine Wx.go ?_
  refine Wc.no rfl ?_
  refine Wc.skip ?_
  refine Wx.go ?_
  refine Wc.seq ?_
  refine Wc.region ?_
  refine Wl.q (v := Value.slice none 0 0) (q_assign rfl) ?_
  refine Wl.done ?_
  refine Wx.go ?_
  refine Wc.seq ?_
  refine Wc.seq ?_
  refine Wc.region ?_
  refine Wl.q (v := Value.int .i64 0) (q_assign rfl) ?_
  refine Wl.done ?_
  refine Wx.go ?_
  refine Wc.block ?_
  refine Wc.loop (X := Nat × ChS × List Nat × Value) (fun (i, S, g, gv) E => E 13 = Value.int .i64 ((i : Nat) : Int) ∧ E 12 = gv ∧ E 1 = Value.int .i64 sd ∧ E 2 = vt ∧ E 7 = Value.pointer (some ⟨b2, 0, none⟩) ∧ E 10 = Value.pointer (some ⟨c, 0, none⟩) ∧ i ≤ tk.length ∧ ChI 1 sd 3 i S ∧ Kd n S.ts ∧ GoneI S.ts sd S g ∧ g.length ≤ i) (fun (i, S, g, gv) => (sl 3 1 gv g.length (g.map natV)) :: (pt c 67 [Value.pointer (some ⟨b2, 0, none⟩), Value.int .i64 ((S.z : Nat) : Int), Value.int .i64 ((S.nx : Nat) : Int), Value.map (some mb)]) :: (mp mb (leftV S.left)) :: (storeW b2 S.ts) :: F) (fun (i, S, g, gv) => tk.length - i) (0, (startS [⟨1, n, 0, 0⟩] 1 sd), [], Value.slice none 0 0) ?_ ?_ ?_
  · exact ⟨rfl, rfl, rfl, rfl, rfl, rfl, (Nat.zero_le _), hI0, Kd.one.begin, (GoneI.start rfl), (Nat.le_refl _)⟩
  · exact fun w hs => st_sl_nil (st_drop (st_drop (st_pull [3, 3] hs)))
  · rintro ⟨i, S, g, gv⟩ E5 ⟨hE13_3, hE12_3, hE1_3, hE2_3, hE7_3, hE10_3, hi, hI, hKd0, hG, hgl⟩
    dsimp only at *
    refine Wc.seq ?_
    refine Wc.seq ?_
    refine Wc.region ?_
    refine Wl.q (v := Value.int .i64 ((i : Nat) : Int)) (q_move hE13_3) ?_
    refine Wl.q (v := vt) (q_move hE2_3) ?_
    refine Wl.q (v := Value.int .i64 ((tk.length : Nat) : Int)) (q_len_is Try.underlying41 rfl ht.shape) ?_
    by_cases hlt : ((i : Nat) : Int) < ((tk.length : Nat) : Int)
    ·
      obtain ⟨o, hget⟩ : ∃ o, tk[i]? = some o := ⟨tk[i]'(by omega), List.getElem?_eq_getElem (by omega)⟩
      have ho := hto o (List.mem_of_getElem? hget)
      have TI := take_I hI (by omega) o
      refine Wl.q (v := Value.bool true) (q_lss (r := true) rfl rfl (decide_eq_true hlt)) ?_
      refine Wl.done ?_
      refine Wx.go ?_
      refine Wc.yes rfl ?_
      refine Wc.skip ?_
      refine Wx.go ?_
      refine Wc.seq ?_
      refine Wc.block ?_
      refine Wc.seq ?_
      refine Wc.seq ?_
      refine Wc.region ?_
      refine Wl.q (v := vt) (q_move hE2_3) ?_
      refine Wl.q (v := Value.int .i64 ((i : Nat) : Int)) (q_move hE13_3) ?_
      refine Wl.q (v := Value.pointer (some ⟨(rb vt), ro vt + i, none⟩)) (q_idx_is (m := ro vt + i) se_41 rfl (ht.some_ (by omega)) rfl (by omega) (by omega) (by simp)) ?_
      refine Wl.q (v := Value.int .i64 o) (q_load sc_3 rfl (.old (rd1 ht hget))) ?_
      by_cases hbig : o > 100
      ·
        refine Wl.q (v := Value.bool true) (q_gtr (r := true) rfl rfl (decide_eq_true hbig)) ?_
        refine Wl.done ?_
        refine Wx.go ?_
        refine Wc.yes rfl ?_
        refine Wc.exit ?_
        refine Wx.thenExit ?_
        refine Wx.out ?_
        refine Wx.go ?_
        refine Wc.region ?_
        refine Wl.q (v := Value.int .i64 ((i : Nat) : Int)) (q_move hE13_3) ?_
        refine Wl.q (v := Value.int .i64 ((i + 1 : Nat) : Int)) (q_add (c := ((i + 1 : Nat) : Int)) rfl rfl (by rw [wrap_i64] <;> omega)) ?_
        refine Wl.q (v := Value.int .i64 ((i + 1 : Nat) : Int)) (q_assign rfl) ?_
        refine Wl.done ?_
        refine Wx.at (i + 1, S, g, gv) ⟨(by simp only; omega), rfl, hE12_3, hE1_3, hE2_3, hE7_3, hE10_3, (by simp only; omega), hI.more, hKd0, hG, (by simp only; omega)⟩ (fun w hs => hs)
      ·
        refine Wl.q (v := Value.bool false) (q_gtr (r := false) rfl rfl (decide_eq_false hbig)) ?_
        refine Wl.done ?_
        refine Wx.go ?_
        refine Wc.no rfl ?_
        refine Wc.skip ?_
        refine Wx.go ?_
        refine Wc.seq ?_
        refine Wc.region ?_
        refine Wl.q (v := Value.pointer (some ⟨c, 0, none⟩)) (q_move hE10_3) ?_
        refine Wl.q (v := vt) (q_move hE2_3) ?_
        refine Wl.q (v := Value.int .i64 ((i : Nat) : Int)) (q_move hE13_3) ?_
        refine Wl.q (v := Value.pointer (some ⟨(rb vt), ro vt + i, none⟩)) (q_idx_is (m := ro vt + i) se_41 rfl (ht.some_ (by omega)) rfl (by omega) (by omega) (by simp)) ?_
        refine Wl.q (v := Value.int .i64 o) (q_load sc_3 rfl (.old (rd1 ht hget))) ?_
        refine Wl.imp (L' := (pt c 67 [Value.pointer (some ⟨b2, 0, none⟩), Value.int .i64 ((S.z : Nat) : Int), Value.int .i64 ((S.nx : Nat) : Int), Value.map (some mb)]) :: (mp mb (leftV S.left)) :: (storeW b2 S.ts) :: (sl 3 1 gv g.length (g.map natV)) :: F) (fun _ h => st_pull [1, 1, 1] h) ?_
        refine Wl.e (e_call (F := (sl 3 1 gv g.length (g.map natV)) :: F) (args := [Value.pointer (some ⟨c, 0, none⟩), Value.int .i64 o]) Try.call13 rfl (take_w W0 c mb b2 S hI (by omega) o ho)) (fun _ _ => ?_)
        refine Wl.imp (L' := (pt c 67 [Value.pointer (some ⟨b2, 0, none⟩), Value.int .i64 (((takeR S o).1.z : Nat) : Int), Value.int .i64 (((takeR S o).1.nx : Nat) : Int), Value.map (some mb)]) :: (mp mb (leftV ((takeR S o).1.left))) :: (storeW b2 ((takeR S o).1.ts)) :: (sl 3 1 gv g.length (g.map natV)) :: F) (fun _ h => h) ?_
        refine Wl.q (v := Value.tuple #[Value.int .i64 (((takeR S o).2.1 : Nat) : Int), Value.int .i64 (((takeR S o).2.2 : Nat) : Int)]) (q_move rfl) ?_
        refine Wl.q (v := Value.int .i64 (((takeR S o).2.1 : Nat) : Int)) (q_extract (i := 0) rfl rfl) ?_
        refine Wl.q (v := Value.int .i64 (((takeR S o).2.2 : Nat) : Int)) (q_extract (i := 1) rfl rfl) ?_
        refine Wl.q (v := Value.int .i64 (((takeR S o).2.1 : Nat) : Int)) (q_assign rfl) ?_
        refine Wl.q (v := Value.int .i64 (((takeR S o).2.2 : Nat) : Int)) (q_assign rfl) ?_
        refine Wl.done ?_
        refine Wx.go ?_
        refine Wc.seq ?_
        refine Wc.region ?_
        refine Wl.q (v := Value.int .i64 (((takeR S o).2.2 : Nat) : Int)) (q_move rfl) ?_
        by_cases he : (((takeR S o).2.2 : Nat) : Int) = 0
        ·
          have he0 : (takeR S o).2.2 = 0 := Int.ofNat.inj he
          have TI0 := TI
          rw [he0] at TI0
          have TG := GoneI.take hG TI0
          refine Wl.q (v := Value.bool true) (q_eql (r := true) rfl rfl (decide_eq_true he)) ?_
          refine Wl.done ?_
          refine Wx.go ?_
          refine Wc.yes rfl ?_
          refine Wc.seq ?_
          refine Wc.seq ?_
          refine Wc.region ?_
          refine Wl.q (v := Value.int .i64 0) (q_assign rfl) ?_
          refine Wl.done ?_
          refine Wx.go ?_
          refine Wc.block ?_
          refine Wc.loop (X := Nat) (fun j E => E 16 = Value.int .i64 ((j : Nat) : Int) ∧ E 1 = Value.int .i64 sd ∧ E 2 = vt ∧ E 7 = Value.pointer (some ⟨b2, 0, none⟩) ∧ E 10 = Value.pointer (some ⟨c, 0, none⟩) ∧ E 12 = gv ∧ E 13 = Value.int .i64 ((i : Nat) : Int) ∧ E 14 = Value.int .i64 (((takeR S o).2.1 : Nat) : Int) ∧ j ≤ g.length) (fun j => (sl 3 1 gv g.length (g.map natV)) :: (pt c 67 [Value.pointer (some ⟨b2, 0, none⟩), Value.int .i64 (((takeR S o).1.z : Nat) : Int), Value.int .i64 (((takeR S o).1.nx : Nat) : Int), Value.map (some mb)]) :: (mp mb (leftV ((takeR S o).1.left))) :: (storeW b2 ((takeR S o).1.ts)) :: F) (fun j => g.length - j) 0 ?_ ?_ ?_
          · exact ⟨rfl, hE1_3, hE2_3, hE7_3, hE10_3, hE12_3, hE13_3, rfl, (Nat.zero_le _)⟩
          · exact fun w hs => (st_pull [3, 0, 0, 0] (hs))
          · rintro j E7 ⟨hE16_5, hE1_5, hE2_5, hE7_5, hE10_5, hE12_5, hE13_5, hE14_5, hj⟩
            refine Wc.seq ?_
            refine Wc.seq ?_
            refine Wc.region ?_
            refine Wl.q (v := Value.int .i64 ((j : Nat) : Int)) (q_move hE16_5) ?_
            refine Wl.q (v := gv) (q_move hE12_5) ?_
            refine Wl.q (v := Value.int .i64 ((g.length : Nat) : Int)) (q_len_sl (i := 0) Try.underlying41 rfl rfl) ?_
            by_cases hlj : ((j : Nat) : Int) < ((g.length : Nat) : Int)
            ·
              obtain ⟨y, hy⟩ : ∃ y, g[j]? = some y := ⟨g[j]'(by omega), List.getElem?_eq_getElem (by omega)⟩
              refine Wl.sl (i := 0) (m := g.length) rfl (by omega) (fun gb gc hgv hcg => ?_)
              subst hgv
              refine Wl.q (v := Value.bool true) (q_lss (r := true) rfl rfl (decide_eq_true hlj)) ?_
              refine Wl.done ?_
              refine Wx.go ?_
              refine Wc.yes rfl ?_
              refine Wc.skip ?_
              refine Wx.go ?_
              refine Wc.seq ?_
              refine Wc.block ?_
              refine Wc.seq ?_
              refine Wc.region ?_
              refine Wl.q (v := Value.slice (some ⟨gb, 0, none⟩) g.length gc) (q_move hE12_5) ?_
              refine Wl.q (v := Value.int .i64 ((j : Nat) : Int)) (q_move hE16_5) ?_
              refine Wl.q (v := Value.pointer (some ⟨gb, j, none⟩)) (q_idx (m := j) se_41 rfl rfl (by omega) (by omega) (by simp)) ?_
              refine Wl.q (v := Value.int .i64 ((y : Nat) : Int)) (q_load sc_3 rfl (.row (i := 0) rfl (map_at hy))) ?_
              refine Wl.q (v := Value.int .i64 (((takeR S o).2.1 : Nat) : Int)) (q_move hE14_5) ?_
              refine Wl.q (v := Value.bool false) (q_eql (r := false) rfl rfl (decide_eq_false (fun h => TG.2 (Int.ofNat.inj h ▸ List.mem_of_getElem? hy)))) ?_
              refine Wl.done ?_
              refine Wx.go ?_
              refine Wc.no rfl ?_
              refine Wc.skip ?_
              refine Wx.blockEnd ?_
              refine Wx.go ?_
              refine Wc.region ?_
              refine Wl.q (v := Value.int .i64 ((j : Nat) : Int)) (q_move hE16_5) ?_
              refine Wl.q (v := Value.int .i64 ((j + 1 : Nat) : Int)) (q_add (c := ((j + 1 : Nat) : Int)) rfl rfl (by rw [wrap_i64] <;> omega)) ?_
              refine Wl.q (v := Value.int .i64 ((j + 1 : Nat) : Int)) (q_assign rfl) ?_
              refine Wl.done ?_
              refine Wx.at (j + 1) ⟨(by omega), rfl, hE1_5, hE2_5, hE7_5, hE10_5, hE12_5, hE13_5, hE14_5, (by omega)⟩ (fun w hs => (fun hs => (st_sl_mk (e := 3) (by simp) hcg hs)) hs)
            ·
              refine Wl.q (v := Value.bool false) (q_lss (r := false) rfl rfl (decide_eq_false hlj)) ?_
              refine Wl.done ?_
              refine Wx.go ?_
              refine Wc.no rfl ?_
              refine Wc.exit ?_
              refine Wx.thenExit ?_
              refine Wx.thenExit ?_
              refine Wx.out ?_
              refine Wx.go ?_
              refine Wc.region ?_
              refine Wl.q (v := gv) (q_move hE12_5) ?_
              refine Wl.q (v := Value.int .i64 (((takeR S o).2.1 : Nat) : Int)) (q_move hE14_5) ?_
              refine Wl.e (e_buildSlice (cs := [Value.int .i64 (((takeR S o).2.1 : Nat) : Int)]) se_41 zo_3 (by decide) (by decide) (by kernel_rfl)) (fun b8 _ => ?_)
              refine Wl.imp (L' := (pt b8 3 [Value.int .i64 (((takeR S o).2.1 : Nat) : Int)]) :: (sl 3 1 gv g.length (g.map natV)) :: (pt c 67 [Value.pointer (some ⟨b2, 0, none⟩), Value.int .i64 (((takeR S o).1.z : Nat) : Int), Value.int .i64 (((takeR S o).1.nx : Nat) : Int), Value.map (some mb)]) :: (mp mb (leftV ((takeR S o).1.left))) :: (storeW b2 ((takeR S o).1.ts)) :: F) (fun _ h => h) ?_
              refine Wl.e (e_append (i := 1) (k := 1) (m := 1) (off := 0) (news := [Value.int .i64 (((takeR S o).2.1 : Nat) : Int)]) Try.underlying41 sz_3 by_3 zo_3 rfl rfl rfl rfl rfl (Has.of_pt (i := 0) rfl rfl) rfl (by decide) (by simp only [maxLen]; omega) (by omega)) (fun gv2 _ => ?_)
              refine Wl.imp (L' := (pt b8 3 [Value.int .i64 (((takeR S o).2.1 : Nat) : Int)]) :: (sl 3 1 gv2 (g.length + 1) ((g.map natV) ++ [Value.int .i64 (((takeR S o).2.1 : Nat) : Int)])) :: (pt c 67 [Value.pointer (some ⟨b2, 0, none⟩), Value.int .i64 (((takeR S o).1.z : Nat) : Int), Value.int .i64 (((takeR S o).1.nx : Nat) : Int), Value.map (some mb)]) :: (mp mb (leftV ((takeR S o).1.left))) :: (storeW b2 ((takeR S o).1.ts)) :: F) (fun _ h => h) ?_
              refine Wl.q (v := gv2) (q_assign rfl) ?_
              refine Wl.done ?_
              refine Wx.blockEnd ?_
              refine Wx.go ?_
              refine Wc.region ?_
              refine Wl.q (v := Value.int .i64 ((i : Nat) : Int)) (q_move hE13_5) ?_
              refine Wl.q (v := Value.int .i64 ((i + 1 : Nat) : Int)) (q_add (c := ((i + 1 : Nat) : Int)) rfl rfl (by rw [wrap_i64] <;> omega)) ?_
              refine Wl.q (v := Value.int .i64 ((i + 1 : Nat) : Int)) (q_assign rfl) ?_
              refine Wl.done ?_
              refine Wx.at (i + 1, (takeR S o).1, g ++ [(takeR S o).2.1], gv2) ⟨(by simp only; omega), rfl, rfl, hE1_5, hE2_5, hE7_5, hE10_5, (by simp only; omega), TI.ch, (hKd0.take o), TG.1, (by simp only [List.length_append, List.length_singleton]; omega)⟩ (fun w hs => by rw [List.length_append, List.map_append]; exact (st_drop (st_pull [0] hs)))
        ·
          refine Wl.q (v := Value.bool false) (q_eql (r := false) rfl rfl (decide_eq_false he)) ?_
          refine Wl.done ?_
          refine Wx.go ?_
          refine Wc.no rfl ?_
          refine Wc.skip ?_
          refine Wx.blockEnd ?_
          refine Wx.go ?_
          refine Wc.region ?_
          refine Wl.q (v := Value.int .i64 ((i : Nat) : Int)) (q_move hE13_3) ?_
          refine Wl.q (v := Value.int .i64 ((i + 1 : Nat) : Int)) (q_add (c := ((i + 1 : Nat) : Int)) rfl rfl (by rw [wrap_i64] <;> omega)) ?_
          refine Wl.q (v := Value.int .i64 ((i + 1 : Nat) : Int)) (q_assign rfl) ?_
          refine Wl.done ?_
          refine Wx.at (i + 1, S, g, gv) ⟨(by simp only; omega), rfl, hE12_3, hE1_3, hE2_3, hE7_3, hE10_3, (by simp only; omega), hI.more, hKd0, hG, (by simp only; omega)⟩ (fun w hs => by rw [TI.bad (fun h => he (congrArg Int.ofNat h))] at hs; exact (st_pull [3, 0, 0, 0] (hs)))
    ·
      have hIc := hI.ll
      have hIn := hI.nxc
      have hIl := hI.len
      have hpos := hI.ok.pos
      have hrt := at_rng hKd0.1
      refine Wl.q (v := Value.bool false) (q_lss (r := false) rfl rfl (decide_eq_false hlt)) ?_
      refine Wl.done ?_
      refine Wx.go ?_
      refine Wc.no rfl ?_
      refine Wc.exit ?_
      refine Wx.thenExit ?_
      refine Wx.thenExit ?_
      refine Wx.out ?_
      refine Wx.go ?_
      refine Wc.seq ?_
      refine Wc.region ?_
      refine Wl.q (v := Value.slice none 0 0) (q_assign rfl) ?_
      refine Wl.done ?_
      refine Wx.go ?_
      refine Wc.seq ?_
      refine Wc.seq ?_
      refine Wc.region ?_
      refine Wl.q (v := Value.int .i64 0) (q_assign rfl) ?_
      refine Wl.done ?_
      refine Wx.go ?_
      refine Wc.block ?_
      refine Wc.loop (X := Nat × Value) (fun (j, kv) E => E 18 = Value.int .i64 ((j : Nat) : Int) ∧ E 17 = kv ∧ E 1 = Value.int .i64 sd ∧ E 7 = Value.pointer (some ⟨b2, 0, none⟩) ∧ E 10 = Value.pointer (some ⟨c, 0, none⟩) ∧ E 12 = gv ∧ j ≤ 103) (fun (j, kv) => (sl 3 1 kv ((keysR S.ts 1 sd j).2.length) ((keysR S.ts 1 sd j).2.map natV)) :: (sl 3 1 gv g.length (g.map natV)) :: (pt c 67 [Value.pointer (some ⟨b2, 0, none⟩), Value.int .i64 ((S.z : Nat) : Int), Value.int .i64 ((S.nx : Nat) : Int), Value.map (some mb)]) :: (mp mb (leftV S.left)) :: (storeW b2 ((keysR S.ts 1 sd j).1)) :: F) (fun (j, kv) => 103 - j) (0, Value.slice none 0 0) ?_ ?_ ?_
      · exact ⟨rfl, rfl, hE1_3, hE7_3, hE10_3, hE12_3, (Nat.zero_le _)⟩
      · exact fun w hs => st_sl_nil hs
      · rintro ⟨j, kv⟩ E10 ⟨hE18_8, hE17_8, hE1_8, hE7_8, hE10_8, hE12_8, hj⟩
        dsimp only at *
        have KI := keysR_ok (app := 1) hI.ok.wf (by omega) hs0 (by omega) j hj
        have hke := KI.ext.len
        have hkl := KI.len
        have hkn := KI.num
        refine Wc.seq ?_
        refine Wc.seq ?_
        refine Wc.region ?_
        refine Wl.q (v := Value.int .i64 ((j : Nat) : Int)) (q_move hE18_8) ?_
        by_cases hlk : ((j : Nat) : Int) ≤ 102
        ·
          refine Wl.q (v := Value.bool true) (q_leq (r := true) rfl rfl (decide_eq_true hlk)) ?_
          refine Wl.done ?_
          refine Wx.go ?_
          refine Wc.yes rfl ?_
          refine Wc.skip ?_
          refine Wx.go ?_
          refine Wc.seq ?_
          refine Wc.block ?_
          refine Wc.seq ?_
          refine Wc.region ?_
          refine Wl.q (v := Value.pointer (some ⟨b2, 0, none⟩)) (q_move hE7_8) ?_
          refine Wl.q (v := Value.int .i64 sd) (q_move hE1_8) ?_
          refine Wl.q (v := Value.int .i64 ((j : Nat) : Int)) (q_move hE18_8) ?_
          refine Wl.imp (L' := (storeW b2 ((keysR S.ts 1 sd j).1)) :: (sl 3 1 kv ((keysR S.ts 1 sd j).2.length) ((keysR S.ts 1 sd j).2.map natV)) :: (sl 3 1 gv g.length (g.map natV)) :: (pt c 67 [Value.pointer (some ⟨b2, 0, none⟩), Value.int .i64 ((S.z : Nat) : Int), Value.int .i64 ((S.nx : Nat) : Int), Value.map (some mb)]) :: (mp mb (leftV S.left)) :: F) (fun _ h => st_pull [4] h) ?_
          refine Wl.e (e_call (F := (sl 3 1 kv ((keysR S.ts 1 sd j).2.length) ((keysR S.ts 1 sd j).2.map natV)) :: (sl 3 1 gv g.length (g.map natV)) :: (pt c 67 [Value.pointer (some ⟨b2, 0, none⟩), Value.int .i64 ((S.z : Nat) : Int), Value.int .i64 ((S.nx : Nat) : Int), Value.map (some mb)]) :: (mp mb (leftV S.left)) :: F) (args := [Value.pointer (some ⟨b2, 0, none⟩), Value.int .i64 1, Value.int .i64 sd, Value.int .i64 ((j : Nat) : Int)]) Try.call7 rfl (key_w W0 b2 ((keysR S.ts 1 sd j).1) 1 sd j KI.wf (by omega) hs0 (by omega) (by omega))) (fun _ _ => ?_)
          refine Wl.imp (L' := (storeW b2 ((keyF (chainR ((keysR S.ts 1 sd j).1) 1 sd j)).1)) :: (sl 3 1 kv ((keysR S.ts 1 sd j).2.length) ((keysR S.ts 1 sd j).2.map natV)) :: (sl 3 1 gv g.length (g.map natV)) :: (pt c 67 [Value.pointer (some ⟨b2, 0, none⟩), Value.int .i64 ((S.z : Nat) : Int), Value.int .i64 ((S.nx : Nat) : Int), Value.map (some mb)]) :: (mp mb (leftV S.left)) :: F) (fun _ h => h) ?_
          refine Wl.q (v := Value.tuple #[Value.int .i64 (((keyF (chainR ((keysR S.ts 1 sd j).1) 1 sd j)).2 : Nat) : Int), Value.int .i64 0]) (q_move rfl) ?_
          refine Wl.q (v := Value.int .i64 (((keyF (chainR ((keysR S.ts 1 sd j).1) 1 sd j)).2 : Nat) : Int)) (q_extract (i := 0) rfl rfl) ?_
          refine Wl.q (v := Value.int .i64 0) (q_extract (i := 1) rfl rfl) ?_
          refine Wl.q (v := Value.int .i64 (((keyF (chainR ((keysR S.ts 1 sd j).1) 1 sd j)).2 : Nat) : Int)) (q_assign rfl) ?_
          refine Wl.q (v := Value.int .i64 0) (q_assign rfl) ?_
          refine Wl.done ?_
          refine Wx.go ?_
          refine Wc.seq ?_
          refine Wc.seq ?_
          refine Wc.region ?_
          refine Wl.q (v := Value.int .i64 0) (q_move rfl) ?_
          refine Wl.q (v := Value.bool false) (q_neq (r := true) rfl rfl (decide_eq_true (by decide))) ?_
          refine Wl.done ?_
          refine Wx.go ?_
          refine Wc.no rfl ?_
          refine Wc.skip ?_
          refine Wx.go ?_
          refine Wc.region ?_
          refine Wl.q (v := kv) (q_move hE17_8) ?_
          refine Wl.q (v := Value.int .i64 (((keyF (chainR ((keysR S.ts 1 sd j).1) 1 sd j)).2 : Nat) : Int)) (q_move rfl) ?_
          refine Wl.e (e_buildSlice (cs := [Value.int .i64 (((keyF (chainR ((keysR S.ts 1 sd j).1) 1 sd j)).2 : Nat) : Int)]) se_41 zo_3 (by decide) (by decide) (by kernel_rfl)) (fun b11 _ => ?_)
          refine Wl.imp (L' := (pt b11 3 [Value.int .i64 (((keyF (chainR ((keysR S.ts 1 sd j).1) 1 sd j)).2 : Nat) : Int)]) :: (storeW b2 ((keyF (chainR ((keysR S.ts 1 sd j).1) 1 sd j)).1)) :: (sl 3 1 kv ((keysR S.ts 1 sd j).2.length) ((keysR S.ts 1 sd j).2.map natV)) :: (sl 3 1 gv g.length (g.map natV)) :: (pt c 67 [Value.pointer (some ⟨b2, 0, none⟩), Value.int .i64 ((S.z : Nat) : Int), Value.int .i64 ((S.nx : Nat) : Int), Value.map (some mb)]) :: (mp mb (leftV S.left)) :: F) (fun _ h => h) ?_
          refine Wl.e (e_append (i := 2) (k := 1) (m := 1) (off := 0) (news := [Value.int .i64 (((keyF (chainR ((keysR S.ts 1 sd j).1) 1 sd j)).2 : Nat) : Int)]) Try.underlying41 sz_3 by_3 zo_3 rfl rfl rfl rfl rfl (Has.of_pt (i := 0) rfl rfl) rfl (by decide) (by simp only [maxLen]; omega) (by omega)) (fun kv2 _ => ?_)
          refine Wl.imp (L' := (pt b11 3 [Value.int .i64 (((keyF (chainR ((keysR S.ts 1 sd j).1) 1 sd j)).2 : Nat) : Int)]) :: (storeW b2 ((keyF (chainR ((keysR S.ts 1 sd j).1) 1 sd j)).1)) :: (sl 3 1 kv2 (((keysR S.ts 1 sd j).2.length) + 1) (((keysR S.ts 1 sd j).2.map natV) ++ [Value.int .i64 (((keyF (chainR ((keysR S.ts 1 sd j).1) 1 sd j)).2 : Nat) : Int)])) :: (sl 3 1 gv g.length (g.map natV)) :: (pt c 67 [Value.pointer (some ⟨b2, 0, none⟩), Value.int .i64 ((S.z : Nat) : Int), Value.int .i64 ((S.nx : Nat) : Int), Value.map (some mb)]) :: (mp mb (leftV S.left)) :: F) (fun _ h => h) ?_
          refine Wl.q (v := kv2) (q_assign rfl) ?_
          refine Wl.done ?_
          refine Wx.blockEnd ?_
          refine Wx.go ?_
          refine Wc.region ?_
          refine Wl.q (v := Value.int .i64 ((j : Nat) : Int)) (q_move hE18_8) ?_
          refine Wl.q (v := Value.int .i64 ((j + 1 : Nat) : Int)) (q_add (c := ((j + 1 : Nat) : Int)) rfl rfl (by rw [wrap_i64] <;> omega)) ?_
          refine Wl.q (v := Value.int .i64 ((j + 1 : Nat) : Int)) (q_assign rfl) ?_
          refine Wl.done ?_
          refine Wx.at (j + 1, kv2) ⟨(by simp only; omega), rfl, rfl, hE1_8, hE7_8, hE10_8, hE12_8, (by simp only; omega)⟩ (fun w hs => by rw [show (keysR S.ts 1 sd (j + 1)).2 = (keysR S.ts 1 sd j).2 ++ [(keyF (chainR (keysR S.ts 1 sd j).1 1 sd j)).2] from rfl, List.length_append, List.map_append]; exact (st_pull [1, 1, 1, 1, 0] (st_drop (st_pull [0] hs))))
        ·
          have hje : j = 103 := by omega
          have hKd := hKd0.keys (app := 1) (s := sd) j
          have hGT := hG.ext KI.ext
          refine Wl.q (v := Value.bool false) (q_leq (r := false) rfl rfl (decide_eq_false hlk)) ?_
          refine Wl.done ?_
          refine Wx.go ?_
          refine Wc.no rfl ?_
          refine Wc.exit ?_
          refine Wx.thenExit ?_
          refine Wx.thenExit ?_
          refine Wx.out ?_
          refine Wx.go ?_
          refine Wc.seq ?_
          refine Wc.region ?_
          refine Wl.q (v := Value.pointer (some ⟨b2, 0, none⟩)) (q_move hE7_8) ?_
          refine Wl.q (v := Value.pointer (some ⟨c, 0, none⟩)) (q_move hE10_8) ?_
          refine Wl.imp (L' := (pt c 67 [Value.pointer (some ⟨b2, 0, none⟩), Value.int .i64 ((S.z : Nat) : Int), Value.int .i64 ((S.nx : Nat) : Int), Value.map (some mb)]) :: (mp mb (leftV S.left)) :: (sl 3 1 kv ((keysR S.ts 1 sd j).2.length) ((keysR S.ts 1 sd j).2.map natV)) :: (sl 3 1 gv g.length (g.map natV)) :: (storeW b2 ((keysR S.ts 1 sd j).1)) :: F) (fun _ h => st_pull [2, 2] h) ?_
          refine Wl.e (e_call (F := (sl 3 1 kv ((keysR S.ts 1 sd j).2.length) ((keysR S.ts 1 sd j).2.map natV)) :: (sl 3 1 gv g.length (g.map natV)) :: (storeW b2 ((keysR S.ts 1 sd j).1)) :: F) (args := [Value.pointer (some ⟨c, 0, none⟩)]) Try.call15 rfl (has_w W0 c mb b2 S hI.ok (by omega) (by omega))) (fun hv _ => ?_)
          refine Wl.imp (L' := (sl 3 1 hv ((hasN S).length) ((hasN S).map natV)) :: (pt c 67 [Value.pointer (some ⟨b2, 0, none⟩), Value.int .i64 ((S.z : Nat) : Int), Value.int .i64 ((S.nx : Nat) : Int), Value.map (some mb)]) :: (mp mb (leftV S.left)) :: (sl 3 1 kv ((keysR S.ts 1 sd j).2.length) ((keysR S.ts 1 sd j).2.map natV)) :: (sl 3 1 gv g.length (g.map natV)) :: (storeW b2 ((keysR S.ts 1 sd j).1)) :: F) (fun _ h => h) ?_
          refine Wl.imp (L' := (storeW b2 ((keysR S.ts 1 sd j).1)) :: (sl 3 1 hv ((hasN S).length) ((hasN S).map natV)) :: (pt c 67 [Value.pointer (some ⟨b2, 0, none⟩), Value.int .i64 ((S.z : Nat) : Int), Value.int .i64 ((S.nx : Nat) : Int), Value.map (some mb)]) :: (mp mb (leftV S.left)) :: (sl 3 1 kv ((keysR S.ts 1 sd j).2.length) ((keysR S.ts 1 sd j).2.map natV)) :: (sl 3 1 gv g.length (g.map natV)) :: F) (fun _ h => st_pull [5, 0] h) ?_
          refine Wl.e (e_call (F := (pt c 67 [Value.pointer (some ⟨b2, 0, none⟩), Value.int .i64 ((S.z : Nat) : Int), Value.int .i64 ((S.nx : Nat) : Int), Value.map (some mb)]) :: (mp mb (leftV S.left)) :: (sl 3 1 kv ((keysR S.ts 1 sd j).2.length) ((keysR S.ts 1 sd j).2.map natV)) :: (sl 3 1 gv g.length (g.map natV)) :: F) (args := [Value.pointer (some ⟨b2, 0, none⟩), hv]) Try.call14 rfl (dnew_h W0 b2 (keysR S.ts 1 sd j).1 hv S (hasN_len2 hI) (hasI_rng hI KI.ext))) (fun k _ => ?_)
          refine Wl.imp (L' := (knowK k b2 (keysR S.ts 1 sd j).1 (KL (hasI S))) :: (storeW b2 ((keysR S.ts 1 sd j).1)) :: (sl 3 1 hv ((hasN S).length) ((hasN S).map natV)) :: (pt c 67 [Value.pointer (some ⟨b2, 0, none⟩), Value.int .i64 ((S.z : Nat) : Int), Value.int .i64 ((S.nx : Nat) : Int), Value.map (some mb)]) :: (mp mb (leftV S.left)) :: (sl 3 1 kv ((keysR S.ts 1 sd j).2.length) ((keysR S.ts 1 sd j).2.map natV)) :: (sl 3 1 gv g.length (g.map natV)) :: F) (fun _ h => h) ?_
          refine Wl.q (v := Value.tuple #[Value.pointer (some ⟨k, 0, none⟩), Value.int .i64 0]) (q_move rfl) ?_
          refine Wl.q (v := Value.pointer (some ⟨k, 0, none⟩)) (q_extract (i := 0) rfl rfl) ?_
          refine Wl.q (v := Value.int .i64 0) (q_extract (i := 1) rfl rfl) ?_
          refine Wl.q (v := Value.pointer (some ⟨k, 0, none⟩)) (q_assign rfl) ?_
          refine Wl.q (v := Value.int .i64 0) (q_assign rfl) ?_
          refine Wl.done ?_
          refine Wx.go ?_
          refine Wc.seq ?_
          refine Wc.seq ?_
          refine Wc.region ?_
          refine Wl.q (v := Value.int .i64 0) (q_move rfl) ?_
          refine Wl.q (v := Value.bool false) (q_neq (r := true) rfl rfl (decide_eq_true (by decide))) ?_
          refine Wl.done ?_
          refine Wx.go ?_
          refine Wc.no rfl ?_
          refine Wc.skip ?_
          refine Wx.go ?_
          refine Wc.seq ?_
          refine Wc.seq ?_
          refine Wc.region ?_
          refine Wl.q (v := Value.int .i64 0) (q_assign rfl) ?_
          refine Wl.done ?_
          refine Wx.go ?_
          refine Wc.block ?_
          refine Wc.loop (X := Nat) (fun q E => E 23 = Value.int .i64 ((q : Nat) : Int) ∧ E 12 = gv ∧ E 17 = kv ∧ E 21 = Value.pointer (some ⟨k, 0, none⟩) ∧ q ≤ (keysR S.ts 1 sd j).2.length) (fun q => (sl 3 1 kv ((keysR S.ts 1 sd j).2.length) ((keysR S.ts 1 sd j).2.map natV)) :: (sl 3 1 gv g.length (g.map natV)) :: (knowK k b2 (keysR S.ts 1 sd j).1 (KL (hasI S))) :: (storeW b2 ((keysR S.ts 1 sd j).1)) :: F) (fun q => (keysR S.ts 1 sd j).2.length - q) 0 ?_ ?_ ?_
          · exact ⟨rfl, hE12_8, hE17_8, rfl, (Nat.zero_le _)⟩
          · exact fun w hs => (st_pull [2, 2, 0, 0] (st_drop (st_drop (st_drop (st_pull [2, 2, 2] hs)))))
          · rintro q E13 ⟨hE23_11, hE12_11, hE17_11, hE21_11, hq⟩
            refine Wc.seq ?_
            refine Wc.seq ?_
            refine Wc.region ?_
            refine Wl.q (v := Value.int .i64 ((q : Nat) : Int)) (q_move hE23_11) ?_
            refine Wl.q (v := kv) (q_move hE17_11) ?_
            refine Wl.q (v := Value.int .i64 (((keysR S.ts 1 sd j).2.length : Nat) : Int)) (q_len_sl (i := 0) Try.underlying41 rfl rfl) ?_
            by_cases hlq : ((q : Nat) : Int) < (((keysR S.ts 1 sd j).2.length : Nat) : Int)
            ·
              obtain ⟨x, hx⟩ : ∃ x, (keysR S.ts 1 sd j).2[q]? = some x := ⟨(keysR S.ts 1 sd j).2[q]'(by omega), List.getElem?_eq_getElem (by omega)⟩
              refine Wl.q (v := Value.bool true) (q_lss (r := true) rfl rfl (decide_eq_true hlq)) ?_
              refine Wl.done ?_
              refine Wx.go ?_
              refine Wc.yes rfl ?_
              refine Wc.skip ?_
              refine Wx.go ?_
              refine Wc.seq ?_
              refine Wc.block ?_
              refine Wc.seq ?_
              refine Wc.region ?_
              refine Wl.q (v := Value.bool false) (q_assign rfl) ?_
              refine Wl.done ?_
              refine Wx.go ?_
              refine Wc.seq ?_
              refine Wc.seq ?_
              refine Wc.region ?_
              refine Wl.q (v := Value.int .i64 0) (q_assign rfl) ?_
              refine Wl.done ?_
              refine Wx.go ?_
              refine Wc.block ?_
              refine Wc.loop (X := Nat × Bool) (fun (u, tb) E => E 25 = Value.int .i64 ((u : Nat) : Int) ∧ E 24 = Value.bool tb ∧ E 12 = gv ∧ E 17 = kv ∧ E 21 = Value.pointer (some ⟨k, 0, none⟩) ∧ E 23 = Value.int .i64 ((q : Nat) : Int) ∧ u ≤ g.length ∧ tb = decide (x ∈ g.take u)) (fun (u, tb) => (sl 3 1 kv ((keysR S.ts 1 sd j).2.length) ((keysR S.ts 1 sd j).2.map natV)) :: (sl 3 1 gv g.length (g.map natV)) :: (knowK k b2 (keysR S.ts 1 sd j).1 (KL (hasI S))) :: (storeW b2 ((keysR S.ts 1 sd j).1)) :: F) (fun (u, tb) => g.length - u) (0, false) ?_ ?_ ?_
              · exact ⟨rfl, rfl, hE12_11, hE17_11, hE21_11, hE23_11, (Nat.zero_le _), (by simp)⟩
              · exact fun w hs => hs
              · rintro ⟨u, tb⟩ E15 ⟨hE25_13, hE24_13, hE12_13, hE17_13, hE21_13, hE23_13, hu, htd⟩
                dsimp only at *
                refine Wc.seq ?_
                refine Wc.seq ?_
                refine Wc.region ?_
                refine Wl.q (v := Value.int .i64 ((u : Nat) : Int)) (q_move hE25_13) ?_
                refine Wl.q (v := gv) (q_move hE12_13) ?_
                refine Wl.q (v := Value.int .i64 ((g.length : Nat) : Int)) (q_len_sl (i := 1) Try.underlying41 rfl rfl) ?_
                by_cases hlu : ((u : Nat) : Int) < ((g.length : Nat) : Int)
                ·
                  obtain ⟨y, hy⟩ : ∃ y, g[u]? = some y := ⟨g[u]'(by omega), List.getElem?_eq_getElem (by omega)⟩
                  refine Wl.sl (i := 1) (m := g.length) rfl (by omega) (fun gb gc hgv hcg => ?_)
                  subst hgv
                  refine Wl.sl (i := 0) (m := (keysR S.ts 1 sd j).2.length) rfl (by omega) (fun kb kc hkv hck => ?_)
                  subst hkv
                  refine Wl.q (v := Value.bool true) (q_lss (r := true) rfl rfl (decide_eq_true hlu)) ?_
                  refine Wl.done ?_
                  refine Wx.go ?_
                  refine Wc.yes rfl ?_
                  refine Wc.skip ?_
                  refine Wx.go ?_
                  refine Wc.seq ?_
                  refine Wc.block ?_
                  refine Wc.drawsS [] ((slp 3 1 kb kc ((keysR S.ts 1 sd j).2.map natV)) :: (slp 3 1 gb gc (g.map natV)) :: (knowK k b2 (keysR S.ts 1 sd j).1 (KL (hasI S))) :: (storeW b2 ((keysR S.ts 1 sd j).1)) :: []) (by kernel_rfl) ?_
                  by_cases htb : tb = true
                  ·
                    subst htb
                    refine Wr.pure (v := Value.bool true) 0 rfl (by kernel_rfl) (.inr (fun _ h => st_take [0, 0, 0, 0] h)) (.inl ⟨rfl, fun _ => q_move hE24_13⟩) ?_
                    refine Wr.pure (v := Value.bool true) 1 rfl (by kernel_rfl) (.inr (fun _ h => st_take [0, 0, 0, 0] h)) (.inl ⟨rfl, fun _ => q_move rfl⟩) ?_
                    refine Wr.pure (v := undef) 2 rfl (by kernel_rfl) (.inr (fun _ h => st_take [0, 0, 0, 0] h)) (.inr ⟨rfl, rfl⟩) ?_
                    refine Wr.pure (v := undef) 3 rfl (by kernel_rfl) (.inr (fun _ h => st_take [0, 0, 0, 0] h)) (.inr ⟨rfl, rfl⟩) ?_
                    refine Wr.pure (v := undef) 4 rfl (by kernel_rfl) (.inr (fun _ h => st_take [0, 0, 0, 0] h)) (.inr ⟨rfl, rfl⟩) ?_
                    refine Wr.pure (v := undef) 5 rfl (by kernel_rfl) (.inr (fun _ h => st_take [0, 0, 0, 0] h)) (.inr ⟨rfl, rfl⟩) ?_
                    refine Wr.pure (v := undef) 6 rfl (by kernel_rfl) (.inr (fun _ h => st_take [0, 0, 0, 0] h)) (.inr ⟨rfl, rfl⟩) ?_
                    refine Wr.pure (v := undef) 7 rfl (by kernel_rfl) (.inr (fun _ h => st_take [0, 0, 0, 0] h)) (.inr ⟨rfl, rfl⟩) ?_
                    refine Wr.pure (v := undef) 8 rfl (by kernel_rfl) (.inr (fun _ h => st_take [0, 0, 0, 0] h)) (.inr ⟨rfl, rfl⟩) ?_
                    refine Wr.pure (v := undef) 9 rfl (by kernel_rfl) (.inr (fun _ h => st_take [0, 0, 0, 0] h)) (.inr ⟨rfl, rfl⟩) ?_
                    refine Wr.pure (v := undef) 10 rfl (by kernel_rfl) (.inr (fun _ h => st_take [0, 0, 0, 0] h)) (.inr ⟨rfl, rfl⟩) ?_
                    refine Wr.pure (v := Value.bool true) 11 rfl (by kernel_rfl) (.inr (fun _ h => st_take [0, 0, 0, 0] h)) (.inl ⟨rfl, fun _ => q_pick (t := true) rfl rfl⟩) ?_
                    refine Wr.pure (v := Value.bool true) 12 rfl (by kernel_rfl) (.inr (fun _ h => st_take [0, 0, 0, 0] h)) (.inl ⟨rfl, fun _ => q_assign rfl⟩) ?_
                    refine Wr.done (by kernel_rfl) ?_
                    refine Wx.blockEnd ?_
                    refine Wx.go ?_
                    refine Wc.region ?_
                    refine Wl.q (v := Value.int .i64 ((u : Nat) : Int)) (q_move hE25_13) ?_
                    refine Wl.q (v := Value.int .i64 ((u + 1 : Nat) : Int)) (q_add (c := ((u + 1 : Nat) : Int)) rfl rfl (by rw [wrap_i64] <;> omega)) ?_
                    refine Wl.q (v := Value.int .i64 ((u + 1 : Nat) : Int)) (q_assign rfl) ?_
                    refine Wl.done ?_
                    refine Wx.at (u + 1, true) ⟨(by simp only; omega), rfl, rfl, hE12_13, hE17_13, hE21_13, hE23_13, (by simp only; omega), ((decide_eq_true ((mem_take_succ hy).2 (.inl (of_decide_eq_true htd.symm)))).symm)⟩ (fun w hs => (fun hs => st_sl_mk (e := 3) (by simp) hck (st_swap (st_sl_mk (e := 3) (by simp) hcg hs))) (st_pull [1, 0, 0, 0] (hs)))
                  ·
                    obtain rfl : tb = false := Bool.eq_false_iff.2 htb
                    refine Wr.pure (v := Value.bool false) 0 rfl (by kernel_rfl) (.inr (fun _ h => st_take [0, 0, 0, 0] h)) (.inl ⟨rfl, fun _ => q_move hE24_13⟩) ?_
                    refine Wr.pure (v := Value.bool false) 1 rfl (by kernel_rfl) (.inr (fun _ h => st_take [0, 0, 0, 0] h)) (.inl ⟨rfl, fun _ => q_move rfl⟩) ?_
                    refine Wr.pure (v := Value.slice (some ⟨gb, 0, none⟩) g.length gc) 2 rfl (by kernel_rfl) (.inr (fun _ h => st_take [0, 0, 0, 0] h)) (.inl ⟨rfl, fun _ => q_move hE12_13⟩) ?_
                    refine Wr.pure (v := Value.int .i64 ((u : Nat) : Int)) 3 rfl (by kernel_rfl) (.inr (fun _ h => st_take [0, 0, 0, 0] h)) (.inl ⟨rfl, fun _ => q_move hE25_13⟩) ?_
                    refine Wr.pure (v := Value.pointer (some ⟨gb, u, none⟩)) 4 rfl (by kernel_rfl) (.inr (fun _ h => st_take [0, 0, 0, 0] h)) (.inl ⟨rfl, fun _ => q_idx (m := u) se_41 rfl rfl (by omega) (by omega) (by simp)⟩) ?_
                    refine Wr.take (v := Value.int .i64 ((y : Nat) : Int)) 5 rfl (by kernel_rfl) (fun _ h => st_take [0, 0, 0, 0] h) (.inl ⟨rfl, q_load sc_3 rfl (.row (i := 1) rfl (map_at hy))⟩) ?_
                    refine Wr.pure (v := Value.slice (some ⟨kb, 0, none⟩) ((keysR S.ts 1 sd j).2.length) kc) 6 rfl (by kernel_rfl) (.inr (fun _ h => st_take [0, 0, 0, 0] h)) (.inl ⟨rfl, fun _ => q_move hE17_13⟩) ?_
                    refine Wr.pure (v := Value.int .i64 ((q : Nat) : Int)) 7 rfl (by kernel_rfl) (.inr (fun _ h => st_take [0, 0, 0, 0] h)) (.inl ⟨rfl, fun _ => q_move hE23_13⟩) ?_
                    refine Wr.pure (v := Value.pointer (some ⟨kb, q, none⟩)) 8 rfl (by kernel_rfl) (.inr (fun _ h => st_take [0, 0, 0, 0] h)) (.inl ⟨rfl, fun _ => q_idx (m := q) se_41 rfl rfl (by omega) (by omega) (by simp)⟩) ?_
                    refine Wr.take (v := Value.int .i64 ((x : Nat) : Int)) 9 rfl (by kernel_rfl) (fun _ h => st_take [0, 0, 0, 0] h) (.inl ⟨rfl, q_load sc_3 rfl (.row (i := 0) rfl (map_at hx))⟩) ?_
                    by_cases hyx : ((y : Nat) : Int) = ((x : Nat) : Int)
                    ·
                      refine Wr.pure (v := Value.bool true) 10 rfl (by kernel_rfl) (.inr (fun _ h => st_take [0, 0, 0, 0] h)) (.inl ⟨rfl, fun _ => q_eql (r := true) rfl rfl (decide_eq_true hyx)⟩) ?_
                      refine Wr.pure (v := Value.bool true) 11 rfl (by kernel_rfl) (.inr (fun _ h => st_take [0, 0, 0, 0] h)) (.inl ⟨rfl, fun _ => q_pick (t := false) rfl rfl⟩) ?_
                      refine Wr.pure (v := Value.bool true) 12 rfl (by kernel_rfl) (.inr (fun _ h => st_take [0, 0, 0, 0] h)) (.inl ⟨rfl, fun _ => q_assign rfl⟩) ?_
                      refine Wr.done (by kernel_rfl) ?_
                      refine Wx.blockEnd ?_
                      refine Wx.go ?_
                      refine Wc.region ?_
                      refine Wl.q (v := Value.int .i64 ((u : Nat) : Int)) (q_move hE25_13) ?_
                      refine Wl.q (v := Value.int .i64 ((u + 1 : Nat) : Int)) (q_add (c := ((u + 1 : Nat) : Int)) rfl rfl (by rw [wrap_i64] <;> omega)) ?_
                      refine Wl.q (v := Value.int .i64 ((u + 1 : Nat) : Int)) (q_assign rfl) ?_
                      refine Wl.done ?_
                      refine Wx.at (u + 1, true) ⟨(by simp only; omega), rfl, rfl, hE12_13, hE17_13, hE21_13, hE23_13, (by simp only; omega), ((decide_eq_true ((mem_take_succ hy).2 (.inr (Int.ofNat.inj hyx).symm))).symm)⟩ (fun w hs => (fun hs => st_sl_mk (e := 3) (by simp) hck (st_swap (st_sl_mk (e := 3) (by simp) hcg hs))) (st_pull [1, 0, 0, 0] (hs)))
                    ·
                      refine Wr.pure (v := Value.bool false) 10 rfl (by kernel_rfl) (.inr (fun _ h => st_take [0, 0, 0, 0] h)) (.inl ⟨rfl, fun _ => q_eql (r := false) rfl rfl (decide_eq_false hyx)⟩) ?_
                      refine Wr.pure (v := Value.bool false) 11 rfl (by kernel_rfl) (.inr (fun _ h => st_take [0, 0, 0, 0] h)) (.inl ⟨rfl, fun _ => q_pick (t := false) rfl rfl⟩) ?_
                      refine Wr.pure (v := Value.bool false) 12 rfl (by kernel_rfl) (.inr (fun _ h => st_take [0, 0, 0, 0] h)) (.inl ⟨rfl, fun _ => q_assign rfl⟩) ?_
                      refine Wr.done (by kernel_rfl) ?_
                      refine Wx.blockEnd ?_
                      refine Wx.go ?_
                      refine Wc.region ?_
                      refine Wl.q (v := Value.int .i64 ((u : Nat) : Int)) (q_move hE25_13) ?_
                      refine Wl.q (v := Value.int .i64 ((u + 1 : Nat) : Int)) (q_add (c := ((u + 1 : Nat) : Int)) rfl rfl (by rw [wrap_i64] <;> omega)) ?_
                      refine Wl.q (v := Value.int .i64 ((u + 1 : Nat) : Int)) (q_assign rfl) ?_
                      refine Wl.done ?_
                      refine Wx.at (u + 1, false) ⟨(by simp only; omega), rfl, rfl, hE12_13, hE17_13, hE21_13, hE23_13, (by simp only; omega), ((decide_eq_false (fun h => ((mem_take_succ hy).1 h).elim (of_decide_eq_false htd.symm) (fun e => hyx (congrArg Int.ofNat e.symm)))).symm)⟩ (fun w hs => (fun hs => st_sl_mk (e := 3) (by simp) hck (st_swap (st_sl_mk (e := 3) (by simp) hcg hs))) (st_pull [1, 0, 0, 0] (hs)))
                ·
                  have hue : u = g.length := by omega
                  rw [hue, List.take_length] at htd
                  refine Wl.q (v := Value.bool false) (q_lss (r := false) rfl rfl (decide_eq_false hlu)) ?_
                  refine Wl.done ?_
                  refine Wx.go ?_
                  refine Wc.no rfl ?_
                  refine Wc.exit ?_
                  refine Wx.thenExit ?_
                  refine Wx.thenExit ?_
                  refine Wx.out ?_
                  refine Wx.go ?_
                  refine Wc.seq ?_
                  refine Wc.region ?_
                  by_cases htq : tb = true
                  ·
                    subst htq
                    refine Wl.q (v := Value.pointer (some ⟨k, 0, none⟩)) (q_move hE21_13) ?_
                    refine Wl.sl (i := 0) (m := (keysR S.ts 1 sd j).2.length) rfl (by omega) (fun kb kc hkv hck => ?_)
                    subst hkv
                    refine Wl.q (v := Value.slice (some ⟨kb, 0, none⟩) ((keysR S.ts 1 sd j).2.length) kc) (q_move hE17_13) ?_
                    refine Wl.q (v := Value.int .i64 ((q : Nat) : Int)) (q_move hE23_13) ?_
                    refine Wl.q (v := Value.pointer (some ⟨kb, q, none⟩)) (q_idx (m := q) se_41 rfl rfl (by omega) (by omega) (by simp)) ?_
                    refine Wl.q (v := Value.int .i64 ((x : Nat) : Int)) (q_load sc_3 rfl (.row (i := 0) rfl (map_at hx))) ?_
                    refine Wl.imp (L' := (storeW b2 ((keysR S.ts 1 sd j).1)) :: (knowK k b2 (keysR S.ts 1 sd j).1 (KL (hasI S))) :: (slp 3 1 kb kc ((keysR S.ts 1 sd j).2.map natV)) :: (sl 3 1 gv g.length (g.map natV)) :: F) (fun _ h => st_pull [3, 2] h) ?_
                    refine Wl.e (e_call (F := (slp 3 1 kb kc ((keysR S.ts 1 sd j).2.map natV)) :: (sl 3 1 gv g.length (g.map natV)) :: F) (args := [Value.pointer (some ⟨k, 0, none⟩), Value.int .i64 ((x : Nat) : Int)]) Try.call16 rfl (khas_w W0 k b2 (keysR S.ts 1 sd j).1 _ ((x : Nat) : Int) (fg_has KI.wf hKd KI.ext hI hGT (KI.key q x hx).1 (KI.key q x hx).2 (t := true) htd))) (fun _ _ => ?_)
                    refine Wl.imp (L' := (storeW b2 ((keysR S.ts 1 sd j).1)) :: (knowK k b2 (keysR S.ts 1 sd j).1 (KL (hasI S))) :: (slp 3 1 kb kc ((keysR S.ts 1 sd j).2.map natV)) :: (sl 3 1 gv g.length (g.map natV)) :: F) (fun _ h => h) ?_
                    refine Wl.q (v := Value.bool true) (q_move hE24_13) ?_
                    refine Wl.q (v := Value.bool false) (q_eql_bool (r := false) rfl rfl Try.underlying4 rfl) ?_
                    refine Wl.done ?_
                    refine Wx.go ?_
                    refine Wc.no rfl ?_
                    refine Wc.skip ?_
                    refine Wx.blockEnd ?_
                    refine Wx.go ?_
                    refine Wc.region ?_
                    refine Wl.q (v := Value.int .i64 ((q : Nat) : Int)) (q_move hE23_13) ?_
                    refine Wl.q (v := Value.int .i64 ((q + 1 : Nat) : Int)) (q_add (c := ((q + 1 : Nat) : Int)) rfl rfl (by rw [wrap_i64] <;> omega)) ?_
                    refine Wl.q (v := Value.int .i64 ((q + 1 : Nat) : Int)) (q_assign rfl) ?_
                    refine Wl.done ?_
                    refine Wx.at (q + 1) ⟨(by omega), rfl, hE12_13, hE17_13, hE21_13, (by omega)⟩ (fun w hs => (fun hs => (st_sl_mk (e := 3) (by simp) hck hs)) (st_pull [2, 2, 1, 0] (hs)))
                  ·
                    obtain rfl : tb = false := Bool.eq_false_iff.2 htq
                    refine Wl.q (v := Value.pointer (some ⟨k, 0, none⟩)) (q_move hE21_13) ?_
                    refine Wl.sl (i := 0) (m := (keysR S.ts 1 sd j).2.length) rfl (by omega) (fun kb kc hkv hck => ?_)
                    subst hkv
                    refine Wl.q (v := Value.slice (some ⟨kb, 0, none⟩) ((keysR S.ts 1 sd j).2.length) kc) (q_move hE17_13) ?_
                    refine Wl.q (v := Value.int .i64 ((q : Nat) : Int)) (q_move hE23_13) ?_
                    refine Wl.q (v := Value.pointer (some ⟨kb, q, none⟩)) (q_idx (m := q) se_41 rfl rfl (by omega) (by omega) (by simp)) ?_
                    refine Wl.q (v := Value.int .i64 ((x : Nat) : Int)) (q_load sc_3 rfl (.row (i := 0) rfl (map_at hx))) ?_
                    refine Wl.imp (L' := (storeW b2 ((keysR S.ts 1 sd j).1)) :: (knowK k b2 (keysR S.ts 1 sd j).1 (KL (hasI S))) :: (slp 3 1 kb kc ((keysR S.ts 1 sd j).2.map natV)) :: (sl 3 1 gv g.length (g.map natV)) :: F) (fun _ h => st_pull [3, 2] h) ?_
                    refine Wl.e (e_call (F := (slp 3 1 kb kc ((keysR S.ts 1 sd j).2.map natV)) :: (sl 3 1 gv g.length (g.map natV)) :: F) (args := [Value.pointer (some ⟨k, 0, none⟩), Value.int .i64 ((x : Nat) : Int)]) Try.call16 rfl (khas_w W0 k b2 (keysR S.ts 1 sd j).1 _ ((x : Nat) : Int) (fg_has KI.wf hKd KI.ext hI hGT (KI.key q x hx).1 (KI.key q x hx).2 (t := false) htd))) (fun _ _ => ?_)
                    refine Wl.imp (L' := (storeW b2 ((keysR S.ts 1 sd j).1)) :: (knowK k b2 (keysR S.ts 1 sd j).1 (KL (hasI S))) :: (slp 3 1 kb kc ((keysR S.ts 1 sd j).2.map natV)) :: (sl 3 1 gv g.length (g.map natV)) :: F) (fun _ h => h) ?_
                    refine Wl.q (v := Value.bool false) (q_move hE24_13) ?_
                    refine Wl.q (v := Value.bool false) (q_eql_bool (r := false) rfl rfl Try.underlying4 rfl) ?_
                    refine Wl.done ?_
                    refine Wx.go ?_
                    refine Wc.no rfl ?_
                    refine Wc.skip ?_
                    refine Wx.blockEnd ?_
                    refine Wx.go ?_
                    refine Wc.region ?_
                    refine Wl.q (v := Value.int .i64 ((q : Nat) : Int)) (q_move hE23_13) ?_
                    refine Wl.q (v := Value.int .i64 ((q + 1 : Nat) : Int)) (q_add (c := ((q + 1 : Nat) : Int)) rfl rfl (by rw [wrap_i64] <;> omega)) ?_
                    refine Wl.q (v := Value.int .i64 ((q + 1 : Nat) : Int)) (q_assign rfl) ?_
                    refine Wl.done ?_
                    refine Wx.at (q + 1) ⟨(by omega), rfl, hE12_13, hE17_13, hE21_13, (by omega)⟩ (fun w hs => (fun hs => (st_sl_mk (e := 3) (by simp) hck hs)) (st_pull [2, 2, 1, 0] (hs)))
            ·
              refine Wl.q (v := Value.bool false) (q_lss (r := false) rfl rfl (decide_eq_false hlq)) ?_
              refine Wl.done ?_
              refine Wx.go ?_
              refine Wc.no rfl ?_
              refine Wc.exit ?_
              refine Wx.thenExit ?_
              refine Wx.thenExit ?_
              refine Wx.out ?_
              refine Wx.go ?_
              refine Wc.seq ?_
              refine Wc.region ?_
              refine Wl.q (v := Value.pointer (some ⟨k, 0, none⟩)) (q_move hE21_11) ?_
              refine Wl.imp (L' := (storeW b2 ((keysR S.ts 1 sd j).1)) :: (knowK k b2 (keysR S.ts 1 sd j).1 (KL (hasI S))) :: (sl 3 1 kv ((keysR S.ts 1 sd j).2.length) ((keysR S.ts 1 sd j).2.map natV)) :: (sl 3 1 gv g.length (g.map natV)) :: F) (fun _ h => st_pull [3, 2] h) ?_
              refine Wl.e (e_call (F := (sl 3 1 kv ((keysR S.ts 1 sd j).2.length) ((keysR S.ts 1 sd j).2.map natV)) :: (sl 3 1 gv g.length (g.map natV)) :: F) (args := [Value.pointer (some ⟨k, 0, none⟩), Value.int .i64 1]) Try.call16 rfl (khas_w W0 k b2 (keysR S.ts 1 sd j).1 _ 1 (fg_root KI.wf hKd KI.ext hI))) (fun _ _ => ?_)
              refine Wl.imp (L' := (storeW b2 ((keysR S.ts 1 sd j).1)) :: (knowK k b2 (keysR S.ts 1 sd j).1 (KL (hasI S))) :: (sl 3 1 kv ((keysR S.ts 1 sd j).2.length) ((keysR S.ts 1 sd j).2.map natV)) :: (sl 3 1 gv g.length (g.map natV)) :: F) (fun _ h => h) ?_
              refine Wl.q (v := Value.bool true) (q_not rfl rfl) ?_
              refine Wl.q (v := Value.bool true) (q_move rfl) ?_
              refine Wl.e (e_call (F := (storeW b2 ((keysR S.ts 1 sd j).1)) :: (knowK k b2 (keysR S.ts 1 sd j).1 (KL (hasI S))) :: (sl 3 1 kv ((keysR S.ts 1 sd j).2.length) ((keysR S.ts 1 sd j).2.map natV)) :: (sl 3 1 gv g.length (g.map natV)) :: F) (args := []) Try.call8 rfl (lives_c W0)) (fun _ _ => ?_)
              refine Wl.imp (L' := (storeW b2 ((keysR S.ts 1 sd j).1)) :: (knowK k b2 (keysR S.ts 1 sd j).1 (KL (hasI S))) :: (sl 3 1 kv ((keysR S.ts 1 sd j).2.length) ((keysR S.ts 1 sd j).2.map natV)) :: (sl 3 1 gv g.length (g.map natV)) :: F) (fun _ h => h) ?_
              refine Wl.q (v := Value.bool true) (q_pick (t := true) rfl rfl) ?_
              refine Wl.q (v := Value.bool true) (q_assign rfl) ?_
              refine Wl.done ?_
              refine Wx.go ?_
              refine Wc.ret ?_
              refine Wx.fin1 rfl (.inl rfl) (fun w hs => ?_)
              exact ⟨(), trivial, rfl, (st_drop (st_drop (st_drop (st_drop (st_pull [0, 0, 0, 0] hs)))))⟩

theorem forgets_out (W0 : World) (n sd : Int) (vt : Value) (tk : List Int) (ht : Rd W0 vt tk.length (tk.flatMap int1)) (h : n < 0 ∨ 60 < tk.length) :
    Con Try.prog W0 5 #[Value.int .i64 n, Value.int .i64 sd, vt] [] (X := Unit) (fun _ => True) (fun _ => .bool true) (fun _ => []) := by
  refine Con.of (args := [Value.int .i64 n, Value.int .i64 sd, vt]) Try.func5 rfl Try.ntmps5 rfl (fun F => ?_)
  show Wc _ W0 _ _ _ _ _ (F)
  refine Wc.seq ?_
  refine Wc.region ?_
  refine Wl.q (v := Value.bool false) (q_assign rfl) ?_
  refine Wl.done ?_
  refine Wx.go ?_
  refine Wc.seq ?_
  refine Wc.seq ?_
  refine Wc.region ?_
  refine Wl.q (v := Value.int .i64 n) (q_move rfl) ?_
  by_cases g1 : n < 0
  ·
    refine Wl.q (v := Value.bool true) (q_lss (r := true) rfl rfl (decide_eq_true g1)) ?_
    refine Wl.q (v := Value.bool true) (q_move rfl) ?_
    refine Wl.no ?_
    refine Wl.no ?_
    refine Wl.no ?_
    refine Wl.q (v := Value.bool true) (q_pick (t := true) rfl rfl) ?_
    refine Wl.done ?_
    refine Wx.go ?_
    refine Wc.yes rfl ?_
    refine Wc.seq ?_
    refine Wc.region ?_
    refine Wl.q (v := Value.bool true) (q_assign rfl) ?_
    refine Wl.done ?_
    refine Wx.go ?_
    refine Wc.ret ?_
    refine Wx.thenRet ?_
    refine Wx.fin1 rfl (.inl rfl) (fun w hs => ?_)
    exact ⟨(), trivial, rfl, hs⟩
  ·
    refine Wl.q (v := Value.bool false) (q_lss (r := false) rfl rfl (decide_eq_false g1)) ?_
    refine Wl.q (v := Value.bool false) (q_move rfl) ?_
    refine Wl.q (v := vt) (q_move rfl) ?_
    refine Wl.q (v := Value.int .i64 ((tk.length : Nat) : Int)) (q_len_is Try.underlying41 rfl ht.shape) ?_
    by_cases g2 : ((tk.length : Nat) : Int) > 60
    ·
      refine Wl.q (v := Value.bool true) (q_gtr (r := true) rfl rfl (decide_eq_true g2)) ?_
      refine Wl.q (v := Value.bool true) (q_pick (t := false) rfl rfl) ?_
      refine Wl.done ?_
      refine Wx.go ?_
      refine Wc.yes rfl ?_
      refine Wc.seq ?_
      refine Wc.region ?_
      refine Wl.q (v := Value.bool true) (q_assign rfl) ?_
      refine Wl.done ?_
      refine Wx.go ?_
      refine Wc.ret ?_
      refine Wx.thenRet ?_
      refine Wx.fin1 rfl (.inl rfl) (fun w hs => ?_)
      exact ⟨(), trivial, rfl, hs⟩
    ·
      exfalso; omega

theorem forgets_law (W0 : World) (n sd : Int) (hn : i64R n) (hs0 : i64R sd) (vt : Value) (tk : List Int) (ht : Rd W0 vt tk.length (tk.flatMap int1)) (hto : ∀ x ∈ tk, i64R x) : Con Try.prog W0 5 #[.int .i64 n, .int .i64 sd, vt] [] (X := Unit) (fun _ => True) (fun _ => .bool true) (fun _ => []) := by
  by_cases h : n < 0 ∨ 60 < tk.length
  · exact forgets_out W0 n sd vt tk ht h
  · exact forgets_in W0 n sd ⟨by omega, hn.2⟩ hs0 vt tk ht (by omega) hto

end Go.Proofs.Ytjjghmkjdgogiaa
