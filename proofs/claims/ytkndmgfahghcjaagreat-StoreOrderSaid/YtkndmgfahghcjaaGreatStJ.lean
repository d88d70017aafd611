import Derived.Test.YtkndmgfahghcjaaGreatStH
import Derived.Test.YtkndmgfahghcjaaGreatSLA
/- Contracts of the calls. -/
namespace Go.Proofs.YtkndmgfahghcjaaGreat
open Go Go.SL Go.St Go.Wr Go.RowKit
open Go.Dk (DS WF)
open Go.Jn (JS Ok openD_up)
set_option linter.unusedVariables false
set_option maxRecDepth 8000

theorem stT_ok {T : AL} {l : List PairR} (h : stOk T l) : stT T l = (chgA T [] l).2 := if_pos h
theorem stT_no {T : AL} {l : List PairR} (h : ¬ stOk T l) : stT T l = T := if_neg h
theorem stT_bad {T : AL} {l : List PairR} (h : ¬ stE T l = 0) : stT T l = T := stT_no fun e => h (stE_iff.2 e)
theorem stQ_ok {T : AL} {l : List PairR} {q : Nat} (h : stOk T l) : stQ T l q = q + 1 := if_pos h
theorem stQ_le (T : AL) (l : List PairR) (q : Nat) : stQ T l q ≤ q + 1 := by unfold stQ; split <;> omega
theorem ask_ok {T : AL} {l : List PairR} (h : stOk T l) (m : ByteArray) : getA (stT T l) m = askL l T m := by rw [stT_ok h]; exact chgA_ask h.1.1 m
theorem ok_fit {T : AL} {l : List PairR} (h : stOk T l) : fitP [] l := fit_chgA h.1.1
theorem tell_get {T : AL} {l : List PairR} (h : stOk T l) {o : PairR} (ho : o ∈ l) : (getA (stT T l) o.n).getD ⟨#[]⟩ = o.t ∧ (getA (stT T l) o.n).isSome = !o.g := by
 have f := ok_fit h
 rw [ask_ok h, ask_mem f.2 ho]
 obtain ⟨n, t, g⟩ := o
 have h2 := (f.1 _ ho).2.1
 cases g with
 | true => have h3 : t = ⟨#[]⟩ := h2 rfl; rw [h3]; exact ⟨rfl, rfl⟩
 | false => exact ⟨rfl, rfl⟩
theorem tell_rest {T : AL} {l : List PairR} (hT : okA T) (hTl : T.length ≤ 256) (h : stOk T l) : (allA (stT T l)).filter (unn l) = (allA T).filter (unn l) :=
 rest_all (st_okT hT hTl).1.1 hT.1 fun n hn => by rw [ask_ok h, ask_not hn]
theorem ok_ext {T T' : AL} {l l' : List PairR} (hT : okA T) (hT' : okA T') (h : stOk T l) (h0 : (chgA T' [] l').1 = 0) (he : ∀ n, getA (chgA T [] l).2 n = getA (chgA T' [] l').2 n) : stOk T' l' ∧ allA (stT T l) = allA (stT T' l') := by
 have e := allA_ext (chgA_nodup hT.1) (chgA_nodup hT'.1) he
 have r : stOk T' l' := stOk_mk ⟨h0, by rw [← e]; exact h.1.2⟩ (by rw [← e]; exact h.2)
 exact ⟨r, by rw [stT_ok h, stT_ok r]; exact e⟩
theorem ok_perm {T : AL} {l l' : List PairR} (hT : okA T) (hp : l.Perm l') (h : stOk T l) : stOk T l' ∧ allA (stT T l) = allA (stT T l') := by
 have f := ok_fit h
 have h0 := chgA_fit (T := T) (fit_perm hp f)
 exact ok_ext hT hT h h0 fun n => by rw [chgA_ask h.1.1, chgA_ask h0, ask_perm hp f.2]
theorem no_perm {T : AL} {l l' : List PairR} (hT : okA T) (hp : l.Perm l') (h : ¬ stE T l = 0) : ¬ stE T l' = 0 := fun e => h (stE_iff.2 (ok_perm hT hp.symm (stE_iff.1 e)).1)
theorem ok_parts {l m : List PairR} (h1 : stOk [] l) (h2 : stOk (stT [] l) m) (hd : ∀ p ∈ m, namedB l p.n = false) : stOk [] (l ++ m) ∧ allA (stT (stT [] l) m) = allA (stT [] (l ++ m)) := by
 have f := fit_append (ok_fit h1) (ok_fit h2) hd
 have h0 := chgA_fit (T := []) f
 exact ok_ext (st_okT okA_nil (Nat.zero_le _)).1 okA_nil h2 h0 fun n => by rw [chgA_ask h2.1.1, chgA_ask h0, ask_append (T1 := stT [] l) (fun n => ask_ok h1 n) hd]

end Go.Proofs.YtkndmgfahghcjaaGreat

/- Contracts of the calls. -/
namespace Go.Proofs.YtkndmgfahghcjaaGreat
open Go Go.SL Go.St Go.Wr Go.RowKit
open Go.Dk (DS WF)
open Go.Jn (JS Ok openD_up)
set_option linter.unusedVariables false
set_option maxRecDepth 8000

open Go.Dk (beyondB beyond_le beyond_two)

theorem allA_few {T : AL} (h : T.length ≤ 256) : (allA T).length ≤ 1000000 := by rw [allA_len]; omega
theorem pairs_cells (l : List PairR) : (l.flatMap pairCells).all (·.oneCell') = true := by
 rw [List.all_eq_true]; intro x hx
 obtain ⟨p, hp, hq⟩ := List.mem_flatMap.1 hx
 unfold pairCells at hq
 simp only [List.mem_cons, List.not_mem_nil, or_false] at hq
 rcases hq with rfl | rfl | rfl <;> rfl
theorem few2_of {l : List PairR} {r : Int} {ns : List Int} (hb : beyondB ns = false) (hm : r ∈ ns) (h1 : 268435456 ≤ l.length → r = (l.length : Int)) (h2 : (∀ p ∈ l, ¬ longP p) → (l.length : Int) ≤ r) : few2 l := few_of (beyond_le hb r hm) h1 h2

theorem fresh_c (W0 : World)  :
  Con Tryz.prog W0 26 #[] [] (X := Nat) (fun _ => True) (fun sp => .pointer (some ⟨sp, 0, none⟩)) (fun sp => [isSt sp [] 0]) := by
 refine Con.of (args := []) Tryz.func26 rfl Tryz.ntmps26 rfl (fun F => ?_)
 show Wc _ W0 _ _ _ _ _ (F)
 refine Wc.seq (Wc.region (Wl.q (v := Value.pointer none) (q_assign rfl) (Wl.done (Wx.go (Wc.seq (Wc.region (Wl.e (e_call (F := F) (args := [Value.int .i64 200]) Tryz.call18 rfl (new_ok W0 200 (by omega) (by omega))) (fun pp _ => Wl.imp (L' := (isDisk pp (DS.new 200)) :: F) (fun _ h => h) (Wl.q (v := Value.tuple #[Value.pointer (some ⟨pp, 0, none⟩), Value.int .i64 0]) (q_move rfl) (Wl.q (v := Value.pointer (some ⟨pp, 0, none⟩)) (q_extract (i := 0) rfl rfl) (Wl.q (v := Value.int .i64 0) (q_extract (i := 1) rfl rfl) ?_)))))))))))
 refine Wl.q (v := Value.pointer (some ⟨pp, 0, none⟩)) (q_assign rfl) (Wl.q (v := Value.int .i64 0) (q_assign rfl) (Wl.done (Wx.go (Wc.seq (Wc.seq (Wc.region (Wl.q (v := Value.int .i64 0) (q_move rfl) (Wl.q (v := Value.bool false) (q_neq (r := true) rfl rfl (decide_eq_true (by decide))) (Wl.done (Wx.go (Wc.no rfl ?_)))))))))))
 refine Wc.skip (Wx.go (Wc.seq (Wc.region (Wl.q (v := Value.pointer (some ⟨pp, 0, none⟩)) (q_move rfl) (Wl.e (e_call (F := F) (args := [Value.pointer (some ⟨pp, 0, none⟩)]) Tryz.call19 rfl (open_st W0 pp)) (fun sp _ => Wl.imp (L' := (isSt sp [] 0) :: F) (fun _ h => h) (Wl.q (v := Value.tuple #[Value.pointer (some ⟨sp, 0, none⟩), Value.int .i64 0]) (q_move rfl) (Wl.q (v := Value.pointer (some ⟨sp, 0, none⟩)) (q_extract (i := 0) rfl rfl) (Wl.q (v := Value.int .i64 0) (q_extract (i := 1) rfl rfl) (Wl.q (v := Value.pointer (some ⟨sp, 0, none⟩)) (q_assign rfl) (Wl.q (v := Value.int .i64 0) (q_assign rfl) ?_)))))))))))
 refine Wl.done (Wx.go (Wc.seq (Wc.seq (Wc.region (Wl.q (v := Value.int .i64 0) (q_move rfl) (Wl.q (v := Value.bool false) (q_neq (r := true) rfl rfl (decide_eq_true (by decide))) (Wl.done (Wx.go (Wc.no rfl (Wc.skip (Wx.go ?_)))))))))))
 refine Wc.seq (Wc.region (Wl.q (v := Value.pointer (some ⟨sp, 0, none⟩)) (q_move rfl) (Wl.q (v := Value.pointer (some ⟨sp, 0, none⟩)) (q_assign rfl) (Wl.done (Wx.go (Wc.ret (Wx.fin1 rfl (.inl rfl) (fun w hs => ?_))))))))
 exact ⟨sp, trivial, rfl, hs⟩

end Go.Proofs.YtkndmgfahghcjaaGreat

