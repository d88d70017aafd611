/- Contracts of the calls. -/
import Derived.Test.YtnhejdnigblnoaaJnE
namespace Go.Proofs.Ytnhejdnigblnoaa
open Go Go.SL Go.Dk Go.Jn Go.RowKit
set_option linter.unusedVariables false
set_option maxRecDepth 8000
theorem zo_79 : zeroOf Try.prog 79 = some (Value.agg #[Value.pointer none, Value.string (⟨#[]⟩), Value.int .i64 0, Value.bool false]) := by kernel_rfl
theorem fo_79_3 : fieldOff Try.prog 79 3 = some 3 := by kernel_rfl
theorem fo_79_0 : fieldOff Try.prog 79 0 = some 0 := by kernel_rfl
theorem sc_52 : scalar Try.prog 52 = true := by kernel_rfl
theorem fo_79_1 : fieldOff Try.prog 79 1 = some 1 := by kernel_rfl
theorem rat_c (W0 : World) (q bd cd : Nat) (secs : List ByteArray) (since : List (Nat × ByteArray)) (count : Nat) (sv : Value) (lv bv : Int) (cut : Option (Nat × Int)) (n l : Int) (hw : WF (⟨secs, since, false, count, cut⟩ : DS)) (hn1 : 1 ≤ secs.length) (hm : secs.length ≤ 4096) (hsn : since.length < 1099511627776) (h4 : 4 ≤ secs.length) (hn0 : 0 ≤ n) (h0 : 0 ≤ l) (hl : l ≤ ((half secs * 64 : Nat) : Int)) :
    Con Try.prog W0 65 #[Value.pointer (some ⟨q, 0, none⟩), Value.int .i64 n, Value.int .i64 l] [pt q 63 [Value.slice (some ⟨bd, 0, none⟩) secs.length cd, sv, Value.bool false, Value.int .i64 lv, Value.int .i64 bv, Value.int .i64 ((count : Nat) : Int)], slp 9 1 bd cd (secs.map Value.string), sl 86 2 sv since.length (flat since)] (X := Unit) (fun _ => True) (fun _ => .string (textR (rd (⟨secs, since, false, count, cut⟩ : DS)) (first secs n) l)) (fun _ => [pt q 63 [Value.slice (some ⟨bd, 0, none⟩) secs.length cd, sv, Value.bool false, Value.int .i64 lv, Value.int .i64 bv, Value.int .i64 ((count : Nat) : Int)], slp 9 1 bd cd (secs.map Value.string), sl 86 2 sv since.length (flat since)]) := by
  refine Con.of (args := [Value.pointer (some ⟨q, 0, none⟩), Value.int .i64 n, Value.int .i64 l]) Try.func65 rfl Try.ntmps65 rfl (fun F => ?_)
  have hh : half secs ≤ 2047 := by unfold half; omega
  have hf2 : first secs n ≤ 4096 := by unfold first; split <;> omega
  show Wc _ W0 _ _ _ _ _ ((pt q 63 [Value.slice (some ⟨bd, 0, none⟩) secs.length cd, sv, Value.bool false, Value.int .i64 lv, Value.int .i64 bv, Value.int .i64 ((count : Nat) : Int)]) :: (slp 9 1 bd cd (secs.map Value.string)) :: (sl 86 2 sv since.length (flat since)) :: F)
  refine Wc.seq ?_
  refine Wc.region ?_
  refine Wl.q (v := Value.string (⟨#[]⟩)) (q_assign rfl) ?_
  refine Wl.done ?_
  refine Wx.go ?_
  refine Wc.seq ?_
  refine Wc.region ?_
  refine Wl.q (v := Value.int .i64 n) (q_move rfl) ?_
  refine Wl.q (v := Value.pointer (some ⟨q, 0, none⟩)) (q_move rfl) ?_
  refine Wl.q (v := Value.pointer (some ⟨q, 0, none⟩)) (q_nil_ptr rfl) ?_
  refine Wl.q (v := Value.pointer (some ⟨q, 0, none⟩)) (q_field (m := 0) fo_63_0 rfl rfl) ?_
  refine Wl.q (v := Value.slice (some ⟨bd, 0, none⟩) secs.length cd) (q_load sc_33 rfl (.cel (i := 0) rfl rfl)) ?_
  refine Wl.q (v := Value.int .i64 ((secs.length : Nat) : Int)) (q_len_slice Try.underlying33 rfl) ?_
  refine Wl.e (e_call (F := (pt q 63 [Value.slice (some ⟨bd, 0, none⟩) secs.length cd, sv, Value.bool false, Value.int .i64 lv, Value.int .i64 bv, Value.int .i64 ((count : Nat) : Int)]) :: (slp 9 1 bd cd (secs.map Value.string)) :: (sl 86 2 sv since.length (flat since)) :: F) (args := [Value.int .i64 ((secs.length : Nat) : Int)]) Try.call63 rfl (rroom_c W0 secs hn1 hm)) (fun _ _ => ?_)
  refine Wl.imp (L' := (pt q 63 [Value.slice (some ⟨bd, 0, none⟩) secs.length cd, sv, Value.bool false, Value.int .i64 lv, Value.int .i64 bv, Value.int .i64 ((count : Nat) : Int)]) :: (slp 9 1 bd cd (secs.map Value.string)) :: (sl 86 2 sv since.length (flat since)) :: F) (fun _ h => h) ?_
  refine Wl.e (e_call (F := (pt q 63 [Value.slice (some ⟨bd, 0, none⟩) secs.length cd, sv, Value.bool false, Value.int .i64 lv, Value.int .i64 bv, Value.int .i64 ((count : Nat) : Int)]) :: (slp 9 1 bd cd (secs.map Value.string)) :: (sl 86 2 sv since.length (flat since)) :: F) (args := [Value.int .i64 n, Value.int .i64 ((half secs : Nat) : Int)]) Try.call62 rfl (rhalf_c W0 n secs hn0 hm)) (fun _ _ => ?_)
  refine Wl.imp (L' := (pt q 63 [Value.slice (some ⟨bd, 0, none⟩) secs.length cd, sv, Value.bool false, Value.int .i64 lv, Value.int .i64 bv, Value.int .i64 ((count : Nat) : Int)]) :: (slp 9 1 bd cd (secs.map Value.string)) :: (sl 86 2 sv since.length (flat since)) :: F) (fun _ h => h) ?_
  refine Wl.q (v := Value.tuple #[Value.int .i64 ((n + 1) % 2), Value.int .i64 ((first secs n : Nat) : Int)]) (q_move rfl) ?_
  refine Wl.q (v := Value.int .i64 ((n + 1) % 2)) (q_extract (i := 0) rfl rfl) ?_
  refine Wl.q (v := Value.int .i64 ((first secs n : Nat) : Int)) (q_extract (i := 1) rfl rfl) ?_
  refine Wl.q (v := Value.int .i64 ((n + 1) % 2)) (q_assign rfl) ?_
  refine Wl.q (v := Value.int .i64 ((first secs n : Nat) : Int)) (q_assign rfl) ?_
  refine Wl.done ?_
  refine Wx.go ?_
  refine Wc.seq ?_
  refine Wc.region ?_
  refine Wl.q (v := Value.string (⟨#[]⟩)) (q_assign rfl) ?_
  refine Wl.done ?_
  refine Wx.go ?_
  refine Wc.seq ?_
  refine Wc.seq ?_
  refine Wc.region ?_
  refine Wl.q (v := Value.int .i64 0) (q_assign rfl) ?_
  refine Wl.done ?_
  refine Wx.go ?_
  refine Wc.block ?_
  refine Wc.loop (X := Nat) (fun i E => E 10 = Value.int .i64 ((i : Nat) : Int) ∧ E 9 = Value.string (catR (rd (⟨secs, since, false, count, cut⟩ : DS)) (first secs n) i) ∧ E 0 = Value.pointer (some ⟨q, 0, none⟩) ∧ E 2 = Value.int .i64 l ∧ E 8 = Value.int .i64 ((first secs n : Nat) : Int) ∧ i ≤ (l.toNat + 63) / 64) (fun i => (pt q 63 [Value.slice (some ⟨bd, 0, none⟩) secs.length cd, sv, Value.bool false, Value.int .i64 lv, Value.int .i64 bv, Value.int .i64 ((count : Nat) : Int)]) :: (slp 9 1 bd cd (secs.map Value.string)) :: (sl 86 2 sv since.length (flat since)) :: F) (fun i => (l.toNat + 63) / 64 - i) 0 ?_ ?_ ?_
  · exact ⟨rfl, rfl, rfl, rfl, rfl, (by omega)⟩
  · exact fun w hs => hs
  · rintro i E2 ⟨hE10_0, hE9_0, hE0_0, hE2_0, hE8_0, hi⟩
    have hcs : (catR (rd (⟨secs, since, false, count, cut⟩ : DS)) (first secs n) i).size = i * 64 := catR_size i (fun k hk => rd_size hw (first_le (d := (⟨secs, since, false, count, cut⟩ : DS)) h4 n (by show k < half secs; omega)))
    refine Wc.seq ?_
    refine Wc.seq ?_
    refine Wc.region ?_
    refine Wl.q (v := Value.int .i64 ((i : Nat) : Int)) (q_move hE10_0) ?_
    refine Wl.q (v := Value.int .i64 ((i * 64 : Nat) : Int)) (q_mul (c := ((i * 64 : Nat) : Int)) rfl rfl (by rw [wrap_i64] <;> omega)) ?_
    refine Wl.q (v := Value.int .i64 l) (q_move hE2_0) ?_
    by_cases hlt : ((i * 64 : Nat) : Int) < l
    ·
      refine Wl.q (v := Value.bool true) (q_lss (r := true) rfl rfl (decide_eq_true hlt)) ?_
      refine Wl.done ?_
      refine Wx.go ?_
      refine Wc.yes rfl ?_
      refine Wc.skip ?_
      refine Wx.go ?_
      refine Wc.seq ?_
      refine Wc.block ?_
      refine Wc.seq ?_
      refine Wc.region ?_
      refine Wl.q (v := Value.pointer (some ⟨q, 0, none⟩)) (q_move hE0_0) ?_
      refine Wl.q (v := Value.int .i64 ((first secs n : Nat) : Int)) (q_move hE8_0) ?_
      refine Wl.q (v := Value.int .i64 ((i : Nat) : Int)) (q_move hE10_0) ?_
      refine Wl.q (v := Value.int .i64 (((first secs n) + i : Nat) : Int)) (q_add (c := (((first secs n) + i : Nat) : Int)) rfl rfl (by rw [wrap_i64] <;> omega)) ?_
      refine Wl.e (e_call (F := F) (args := [Value.pointer (some ⟨q, 0, none⟩), Value.int .i64 (((first secs n) + i : Nat) : Int)]) Try.call28 rfl (Con.eqs (val' := fun _ => .tuple #[.string (rd (⟨secs, since, false, count, cut⟩ : DS) (first secs n + i)), .int .i64 0]) (post' := fun _ => [pt q 63 [Value.slice (some ⟨bd, 0, none⟩) secs.length cd, sv, Value.bool false, Value.int .i64 lv, Value.int .i64 bv, Value.int .i64 ((count : Nat) : Int)], slp 9 1 bd cd (secs.map Value.string), sl 86 2 sv since.length (flat since)]) (rread_o W0 q bd cd secs since count sv lv bv cut (((first secs n) + i : Nat) : Int) hsn) (fun _ => by rw [show DS.read (⟨secs, since, false, count, cut⟩ : DS) (((first secs n) + i : Nat) : Int) = (rd (⟨secs, since, false, count, cut⟩ : DS) (first secs n + i), 0) from rd_read (i := (first secs n + i)) rfl (first_le (d := (⟨secs, since, false, count, cut⟩ : DS)) h4 n (by show i < half secs; omega))]) (fun _ => rfl))) (fun _ _ => ?_)
      refine Wl.imp (L' := (pt q 63 [Value.slice (some ⟨bd, 0, none⟩) secs.length cd, sv, Value.bool false, Value.int .i64 lv, Value.int .i64 bv, Value.int .i64 ((count : Nat) : Int)]) :: (slp 9 1 bd cd (secs.map Value.string)) :: (sl 86 2 sv since.length (flat since)) :: F) (fun _ h => h) ?_
      refine Wl.q (v := Value.tuple #[Value.string (rd (⟨secs, since, false, count, cut⟩ : DS) (first secs n + i)), Value.int .i64 0]) (q_move rfl) ?_
      refine Wl.q (v := Value.string (rd (⟨secs, since, false, count, cut⟩ : DS) (first secs n + i))) (q_extract (i := 0) rfl rfl) ?_
      refine Wl.q (v := Value.int .i64 0) (q_extract (i := 1) rfl rfl) ?_
      refine Wl.q (v := Value.string (rd (⟨secs, since, false, count, cut⟩ : DS) (first secs n + i))) (q_assign rfl) ?_
      refine Wl.q (v := Value.int .i64 0) (q_assign rfl) ?_
      refine Wl.done ?_
      refine Wx.go ?_
      refine Wc.region ?_
      refine Wl.q (v := Value.string (catR (rd (⟨secs, since, false, count, cut⟩ : DS)) (first secs n) i)) (q_move hE9_0) ?_
      refine Wl.q (v := Value.string (rd (⟨secs, since, false, count, cut⟩ : DS) (first secs n + i))) (q_move rfl) ?_
      refine Wl.q (v := Value.string ((catR (rd (⟨secs, since, false, count, cut⟩ : DS)) (first secs n) i) ++ (rd (⟨secs, since, false, count, cut⟩ : DS) (first secs n + i)))) (q_cat rfl rfl (by rw [hcs, rd_size hw (first_le (d := (⟨secs, since, false, count, cut⟩ : DS)) h4 n (by show i < half secs; omega))]; omega) rfl) ?_
      refine Wl.q (v := Value.string ((catR (rd (⟨secs, since, false, count, cut⟩ : DS)) (first secs n) i) ++ (rd (⟨secs, since, false, count, cut⟩ : DS) (first secs n + i)))) (q_assign rfl) ?_
      refine Wl.done ?_
      refine Wx.blockEnd ?_
      refine Wx.go ?_
      refine Wc.region ?_
      refine Wl.q (v := Value.int .i64 ((i : Nat) : Int)) (q_move hE10_0) ?_
      refine Wl.q (v := Value.int .i64 ((i + 1 : Nat) : Int)) (q_add (c := ((i + 1 : Nat) : Int)) rfl rfl (by rw [wrap_i64] <;> omega)) ?_
      refine Wl.q (v := Value.int .i64 ((i + 1 : Nat) : Int)) (q_assign rfl) ?_
      refine Wl.done ?_
      refine Wx.at (i + 1) ⟨(by omega), rfl, rfl, hE0_0, hE2_0, hE8_0, (by omega)⟩ (fun w hs => hs)
    ·
      refine Wl.q (v := Value.bool false) (q_lss (r := false) rfl rfl (decide_eq_false hlt)) ?_
      refine Wl.done ?_
      refine Wx.go ?_
      refine Wc.no rfl ?_
      refine Wc.exit ?_
      refine Wx.thenExit ?_
      refine Wx.thenExit ?_
      refine Wx.out ?_
      refine Wx.go ?_
      refine Wc.seq ?_
      refine Wc.region ?_
      refine Wl.q (v := Value.string (catR (rd (⟨secs, since, false, count, cut⟩ : DS)) (first secs n) i)) (q_move hE9_0) ?_
      refine Wl.q (v := Value.int .i64 ((l.toNat : Nat) : Int)) (q_move (Eq.trans hE2_0 (congrArg (Value.int .i64) (Int.toNat_of_nonneg h0).symm))) ?_
      refine Wl.q (v := Value.string ((catR (rd (⟨secs, since, false, count, cut⟩ : DS)) (first secs n) i).extract 0 l.toNat)) (q_slice_str (l := 0) (h := l.toNat) Try.underlying9 rfl rfl ⟨_, rfl⟩ (by omega) (by omega) rfl) ?_
      refine Wl.q (v := Value.string ((catR (rd (⟨secs, since, false, count, cut⟩ : DS)) (first secs n) i).extract 0 l.toNat)) (q_assign rfl) ?_
      refine Wl.done ?_
      refine Wx.go ?_
      refine Wc.ret ?_
      refine Wx.fin1 rfl (.inl rfl) (fun w hs => ?_)
      have he : i = (l.toNat + 63) / 64 := by omega
      exact ⟨(), trivial, (by unfold textR; rw [← he]; rfl), hs⟩

def openRP (r : Int × Option (ByteArray × Int)) (j q : Nat) (d : DS) : List HP := match r.2 with
 | none => [isRef q d]
 | some p => [isRJ j q ⟨p.1, p.2, false⟩, isRef q d]

set_option maxHeartbeats 4000000 in
theorem ropen_up (W0 : World) (q bd cd : Nat) (secs : List ByteArray) (since : List (Nat × ByteArray)) (count : Nat) (sv : Value) (lv bv : Int) (cut : Option (Nat × Int)) (hr : refR lv bv cut) (hw : WF (⟨secs, since, false, count, cut⟩ : DS)) (hn1 : 1 ≤ secs.length) (hm : secs.length ≤ 4096) (hsn : since.length < 1099511627776) :
    Con Try.prog W0 43 #[Value.pointer (some ⟨q, 0, none⟩)] [pt q 63 [Value.slice (some ⟨bd, 0, none⟩) secs.length cd, sv, Value.bool false, Value.int .i64 lv, Value.int .i64 bv, Value.int .i64 ((count : Nat) : Int)], slp 9 1 bd cd (secs.map Value.string), sl 86 2 sv since.length (flat since)] (X := Nat) (fun _ => True) (openV (openD (⟨secs, since, false, count, cut⟩ : DS))) (fun j => openRP (openD (⟨secs, since, false, count, cut⟩ : DS)) j q (⟨secs, since, false, count, cut⟩ : DS)) := by
  refine Con.of (args := [Value.pointer (some ⟨q, 0, none⟩)]) Try.func43 rfl Try.ntmps43 rfl (fun F => ?_)
  have hh : half secs ≤ 2047 := by unfold half; omega
  show Wc _ W0 _ _ _ _ _ ((pt q 63 [Value.slice (some ⟨bd, 0, none⟩) secs.length cd, sv, Value.bool false, Value.int .i64 lv, Value.int .i64 bv, Value.int .i64 ((count : Nat) : Int)]) :: (slp 9 1 bd cd (secs.map Value.string)) :: (sl 86 2 sv since.length (flat since)) :: F)
  refine Wc.seq ?_
  refine Wc.region ?_
  refine Wl.q (v := Value.pointer none) (q_assign rfl) ?_
  refine Wl.q (v := Value.int .i64 0) (q_assign rfl) ?_
  refine Wl.done ?_
  refine Wx.go ?_
  refine Wc.seq ?_
  refine Wc.seq ?_
  refine Wc.region ?_
  refine Wl.q (v := Value.pointer (some ⟨q, 0, none⟩)) (q_move rfl) ?_
  refine Wl.q (v := Value.pointer (some ⟨q, 0, none⟩)) (q_nil_ptr rfl) ?_
  refine Wl.q (v := Value.pointer (some ⟨q, 2, none⟩)) (q_field (m := 2) fo_63_2 rfl rfl) ?_
  refine Wl.q (v := Value.bool false) (q_load sc_4 rfl (.cel (i := 0) rfl rfl)) ?_
  refine Wl.done ?_
  refine Wx.go ?_
  refine Wc.no rfl ?_
  refine Wc.skip ?_
  refine Wx.go ?_
  refine Wc.seq ?_
  refine Wc.seq ?_
  refine Wc.region ?_
  refine Wl.q (v := Value.pointer (some ⟨q, 0, none⟩)) (q_move rfl) ?_
  refine Wl.q (v := Value.pointer (some ⟨q, 0, none⟩)) (q_nil_ptr rfl) ?_
  refine Wl.q (v := Value.pointer (some ⟨q, 0, none⟩)) (q_field (m := 0) fo_63_0 rfl rfl) ?_
  refine Wl.q (v := Value.slice (some ⟨bd, 0, none⟩) secs.length cd) (q_load sc_33 rfl (.cel (i := 0) rfl rfl)) ?_
  refine Wl.q (v := Value.int .i64 ((secs.length : Nat) : Int)) (q_len_slice Try.underlying33 rfl) ?_
  by_cases hl4 : ((secs.length : Nat) : Int) < 4
  ·
    refine Wl.q (v := Value.bool true) (q_lss (r := true) rfl rfl (decide_eq_true hl4)) ?_
    refine Wl.done ?_
    refine Wx.go ?_
    refine Wc.yes rfl ?_
    refine Wc.seq ?_
    refine Wc.region ?_
    refine Wl.q (v := Value.pointer none) (q_assign rfl) ?_
    refine Wl.q (v := Value.int .i64 1) (q_assign rfl) ?_
    refine Wl.done ?_
    refine Wx.go ?_
    refine Wc.ret ?_
    refine Wx.thenRet ?_
    refine Wx.fin2 rfl (.inl rfl) (fun w hs => ?_)
    have e : openD (⟨secs, since, false, count, cut⟩ : DS) = (1, none) := by rw [openD, if_neg (by simp), openR, if_pos (by show secs.length < 4; omega)]
    exact ⟨0, trivial, by rw [e]; rfl, by rw [e]; exact isRef_mk (d := (⟨secs, since, false, count, cut⟩ : DS)) hr rfl hs⟩
  ·
    refine Wl.q (v := Value.bool false) (q_lss (r := false) rfl rfl (decide_eq_false hl4)) ?_
    refine Wl.done ?_
    refine Wx.go ?_
    refine Wc.no rfl ?_
    refine Wc.skip ?_
    refine Wx.go ?_
    refine Wc.seq ?_
    refine Wc.region ?_
    refine Wl.q (v := Value.pointer (some ⟨q, 0, none⟩)) (q_move rfl) ?_
    refine Wl.q (v := Value.pointer (some ⟨q, 0, none⟩)) (q_nil_ptr rfl) ?_
    refine Wl.q (v := Value.pointer (some ⟨q, 0, none⟩)) (q_field (m := 0) fo_63_0 rfl rfl) ?_
    refine Wl.q (v := Value.slice (some ⟨bd, 0, none⟩) secs.length cd) (q_load sc_33 rfl (.cel (i := 0) rfl rfl)) ?_
    refine Wl.q (v := Value.int .i64 ((secs.length : Nat) : Int)) (q_len_slice Try.underlying33 rfl) ?_
    refine Wl.e (e_call (F := (pt q 63 [Value.slice (some ⟨bd, 0, none⟩) secs.length cd, sv, Value.bool false, Value.int .i64 lv, Value.int .i64 bv, Value.int .i64 ((count : Nat) : Int)]) :: (slp 9 1 bd cd (secs.map Value.string)) :: (sl 86 2 sv since.length (flat since)) :: F) (args := [Value.int .i64 ((secs.length : Nat) : Int)]) Try.call63 rfl (rroom_c W0 secs hn1 hm)) (fun _ _ => ?_)
    refine Wl.imp (L' := (pt q 63 [Value.slice (some ⟨bd, 0, none⟩) secs.length cd, sv, Value.bool false, Value.int .i64 lv, Value.int .i64 bv, Value.int .i64 ((count : Nat) : Int)]) :: (slp 9 1 bd cd (secs.map Value.string)) :: (sl 86 2 sv since.length (flat since)) :: F) (fun _ h => h) ?_
    refine Wl.q (v := Value.int .i64 (((half secs) * 64 : Nat) : Int)) (q_mul (c := (((half secs) * 64 : Nat) : Int)) rfl rfl (by rw [wrap_i64] <;> omega)) ?_
    refine Wl.q (v := Value.int .i64 (((half secs) * 64 : Nat) : Int)) (q_assign rfl) ?_
    refine Wl.done ?_
    refine Wx.go ?_
    refine Wc.seq ?_
    refine Wc.region ?_
    refine Wl.q (v := Value.pointer (some ⟨q, 0, none⟩)) (q_move rfl) ?_
    refine Wl.e (e_call (F := F) (args := [Value.pointer (some ⟨q, 0, none⟩), Value.int .i64 0]) Try.call28 rfl (Con.eqs (val' := fun _ => .tuple #[.string (rd (⟨secs, since, false, count, cut⟩ : DS) 0), .int .i64 0]) (post' := fun _ => [pt q 63 [Value.slice (some ⟨bd, 0, none⟩) secs.length cd, sv, Value.bool false, Value.int .i64 lv, Value.int .i64 bv, Value.int .i64 ((count : Nat) : Int)], slp 9 1 bd cd (secs.map Value.string), sl 86 2 sv since.length (flat since)]) (rread_o W0 q bd cd secs since count sv lv bv cut 0 hsn) (fun _ => by rw [show DS.read (⟨secs, since, false, count, cut⟩ : DS) 0 = (rd (⟨secs, since, false, count, cut⟩ : DS) 0, 0) from rd_read (i := 0) rfl (by show _ < secs.length; omega)]) (fun _ => rfl))) (fun _ _ => ?_)
    refine Wl.imp (L' := (pt q 63 [Value.slice (some ⟨bd, 0, none⟩) secs.length cd, sv, Value.bool false, Value.int .i64 lv, Value.int .i64 bv, Value.int .i64 ((count : Nat) : Int)]) :: (slp 9 1 bd cd (secs.map Value.string)) :: (sl 86 2 sv since.length (flat since)) :: F) (fun _ h => h) ?_
    refine Wl.q (v := Value.tuple #[Value.string (rd (⟨secs, since, false, count, cut⟩ : DS) 0), Value.int .i64 0]) (q_move rfl) ?_
    refine Wl.q (v := Value.string (rd (⟨secs, since, false, count, cut⟩ : DS) 0)) (q_extract (i := 0) rfl rfl) ?_
    refine Wl.q (v := Value.int .i64 0) (q_extract (i := 1) rfl rfl) ?_
    refine Wl.q (v := Value.string (rd (⟨secs, since, false, count, cut⟩ : DS) 0)) (q_assign rfl) ?_
    refine Wl.q (v := Value.int .i64 0) (q_assign rfl) ?_
    refine Wl.done ?_
    refine Wx.go ?_
    refine Wc.seq ?_
    refine Wc.region ?_
    refine Wl.q (v := Value.pointer (some ⟨q, 0, none⟩)) (q_move rfl) ?_
    refine Wl.e (e_call (F := F) (args := [Value.pointer (some ⟨q, 0, none⟩), Value.int .i64 1]) Try.call28 rfl (Con.eqs (val' := fun _ => .tuple #[.string (rd (⟨secs, since, false, count, cut⟩ : DS) 1), .int .i64 0]) (post' := fun _ => [pt q 63 [Value.slice (some ⟨bd, 0, none⟩) secs.length cd, sv, Value.bool false, Value.int .i64 lv, Value.int .i64 bv, Value.int .i64 ((count : Nat) : Int)], slp 9 1 bd cd (secs.map Value.string), sl 86 2 sv since.length (flat since)]) (rread_o W0 q bd cd secs since count sv lv bv cut 1 hsn) (fun _ => by rw [show DS.read (⟨secs, since, false, count, cut⟩ : DS) 1 = (rd (⟨secs, since, false, count, cut⟩ : DS) 1, 0) from rd_read (i := 1) rfl (by show _ < secs.length; omega)]) (fun _ => rfl))) (fun _ _ => ?_)
    refine Wl.imp (L' := (pt q 63 [Value.slice (some ⟨bd, 0, none⟩) secs.length cd, sv, Value.bool false, Value.int .i64 lv, Value.int .i64 bv, Value.int .i64 ((count : Nat) : Int)]) :: (slp 9 1 bd cd (secs.map Value.string)) :: (sl 86 2 sv since.length (flat since)) :: F) (fun _ h => h) ?_
    refine Wl.q (v := Value.tuple #[Value.string (rd (⟨secs, since, false, count, cut⟩ : DS) 1), Value.int .i64 0]) (q_move rfl) ?_
    refine Wl.q (v := Value.string (rd (⟨secs, since, false, count, cut⟩ : DS) 1)) (q_extract (i := 0) rfl rfl) ?_
    refine Wl.q (v := Value.int .i64 0) (q_extract (i := 1) rfl rfl) ?_
    refine Wl.q (v := Value.string (rd (⟨secs, since, false, count, cut⟩ : DS) 1)) (q_assign rfl) ?_
    refine Wl.q (v := Value.int .i64 0) (q_assign rfl) ?_
    refine Wl.done ?_
    refine Wx.go ?_
    refine Wc.seq ?_
    refine Wc.region ?_
    refine Wl.q (v := Value.string (rd (⟨secs, since, false, count, cut⟩ : DS) 0)) (q_move rfl) ?_
    refine Wl.e (e_call (F := (pt q 63 [Value.slice (some ⟨bd, 0, none⟩) secs.length cd, sv, Value.bool false, Value.int .i64 lv, Value.int .i64 bv, Value.int .i64 ((count : Nat) : Int)]) :: (slp 9 1 bd cd (secs.map Value.string)) :: (sl 86 2 sv since.length (flat since)) :: F) (args := [Value.string (rd (⟨secs, since, false, count, cut⟩ : DS) 0)]) Try.call64 rfl (rread_h W0 (rd (⟨secs, since, false, count, cut⟩ : DS) 0) (rd_size hw (by show _ < secs.length; omega)))) (fun _ _ => ?_)
    refine Wl.imp (L' := (pt q 63 [Value.slice (some ⟨bd, 0, none⟩) secs.length cd, sv, Value.bool false, Value.int .i64 lv, Value.int .i64 bv, Value.int .i64 ((count : Nat) : Int)]) :: (slp 9 1 bd cd (secs.map Value.string)) :: (sl 86 2 sv since.length (flat since)) :: F) (fun _ h => h) ?_
    refine Wl.q (v := Value.tuple #[Value.int .i64 ((rT (rd (⟨secs, since, false, count, cut⟩ : DS) 0)).1), Value.int .i64 ((rT (rd (⟨secs, since, false, count, cut⟩ : DS) 0)).2)]) (q_move rfl) ?_
    refine Wl.q (v := Value.int .i64 ((rT (rd (⟨secs, since, false, count, cut⟩ : DS) 0)).1)) (q_extract (i := 0) rfl rfl) ?_
    refine Wl.q (v := Value.int .i64 ((rT (rd (⟨secs, since, false, count, cut⟩ : DS) 0)).2)) (q_extract (i := 1) rfl rfl) ?_
    refine Wl.q (v := Value.int .i64 ((rT (rd (⟨secs, since, false, count, cut⟩ : DS) 0)).1)) (q_assign rfl) ?_
    refine Wl.q (v := Value.int .i64 ((rT (rd (⟨secs, since, false, count, cut⟩ : DS) 0)).2)) (q_assign rfl) ?_
    refine Wl.done ?_
    refine Wx.go ?_
    refine Wc.seq ?_
    refine Wc.region ?_
    refine Wl.q (v := Value.string (rd (⟨secs, since, false, count, cut⟩ : DS) 1)) (q_move rfl) ?_
    refine Wl.e (e_call (F := (pt q 63 [Value.slice (some ⟨bd, 0, none⟩) secs.length cd, sv, Value.bool false, Value.int .i64 lv, Value.int .i64 bv, Value.int .i64 ((count : Nat) : Int)]) :: (slp 9 1 bd cd (secs.map Value.string)) :: (sl 86 2 sv since.length (flat since)) :: F) (args := [Value.string (rd (⟨secs, since, false, count, cut⟩ : DS) 1)]) Try.call64 rfl (rread_h W0 (rd (⟨secs, since, false, count, cut⟩ : DS) 1) (rd_size hw (by show _ < secs.length; omega)))) (fun _ _ => ?_)
    refine Wl.imp (L' := (pt q 63 [Value.slice (some ⟨bd, 0, none⟩) secs.length cd, sv, Value.bool false, Value.int .i64 lv, Value.int .i64 bv, Value.int .i64 ((count : Nat) : Int)]) :: (slp 9 1 bd cd (secs.map Value.string)) :: (sl 86 2 sv since.length (flat since)) :: F) (fun _ h => h) ?_
    refine Wl.q (v := Value.tuple #[Value.int .i64 ((rT (rd (⟨secs, since, false, count, cut⟩ : DS) 1)).1), Value.int .i64 ((rT (rd (⟨secs, since, false, count, cut⟩ : DS) 1)).2)]) (q_move rfl) ?_
    refine Wl.q (v := Value.int .i64 ((rT (rd (⟨secs, since, false, count, cut⟩ : DS) 1)).1)) (q_extract (i := 0) rfl rfl) ?_
    refine Wl.q (v := Value.int .i64 ((rT (rd (⟨secs, since, false, count, cut⟩ : DS) 1)).2)) (q_extract (i := 1) rfl rfl) ?_
    refine Wl.q (v := Value.int .i64 ((rT (rd (⟨secs, since, false, count, cut⟩ : DS) 1)).1)) (q_assign rfl) ?_
    refine Wl.q (v := Value.int .i64 ((rT (rd (⟨secs, since, false, count, cut⟩ : DS) 1)).2)) (q_assign rfl) ?_
    refine Wl.done ?_
    refine Wx.go ?_
    refine Wc.meet (X := Unit) (fun _ E => E 0 = Value.pointer (some ⟨q, 0, none⟩) ∧ E 9 = Value.int .i64 ((rT (rd (⟨secs, since, false, count, cut⟩ : DS) 0)).1) ∧ E 10 = Value.int .i64 ((rT (rd (⟨secs, since, false, count, cut⟩ : DS) 0)).2) ∧ E 11 = Value.int .i64 ((rT (rd (⟨secs, since, false, count, cut⟩ : DS) 1)).1) ∧ E 12 = Value.int .i64 ((rT (rd (⟨secs, since, false, count, cut⟩ : DS) 1)).2) ∧ 4 ≤ secs.length ∧ 0 ≤ (rT (rd (⟨secs, since, false, count, cut⟩ : DS) 0)).1 ∧ 0 ≤ (rT (rd (⟨secs, since, false, count, cut⟩ : DS) 1)).1 ∧ ¬ ((rT (rd (⟨secs, since, false, count, cut⟩ : DS) 0)).2 > ((half secs * 64 : Nat) : Int) ∨ (rT (rd (⟨secs, since, false, count, cut⟩ : DS) 1)).2 > ((half secs * 64 : Nat) : Int) ∨ (0 < (rT (rd (⟨secs, since, false, count, cut⟩ : DS) 0)).1 ∧ (rT (rd (⟨secs, since, false, count, cut⟩ : DS) 0)).1 % 2 = 0) ∨ (0 < (rT (rd (⟨secs, since, false, count, cut⟩ : DS) 1)).1 ∧ (rT (rd (⟨secs, since, false, count, cut⟩ : DS) 1)).1 % 2 = 1))) (fun _ => (pt q 63 [Value.slice (some ⟨bd, 0, none⟩) secs.length cd, sv, Value.bool false, Value.int .i64 lv, Value.int .i64 bv, Value.int .i64 ((count : Nat) : Int)]) :: (slp 9 1 bd cd (secs.map Value.string)) :: (sl 86 2 sv since.length (flat since)) :: F) ?_ ?_
    ·
      refine Wc.seq ?_
      refine Wc.region ?_
      have u0 := rT_low (rd (⟨secs, since, false, count, cut⟩ : DS) 0)
      have u1 := rT_low (rd (⟨secs, since, false, count, cut⟩ : DS) 1)
      refine Wl.q (v := Value.int .i64 ((rT (rd (⟨secs, since, false, count, cut⟩ : DS) 0)).1)) (q_move rfl) ?_
      by_cases g0 : (rT (rd (⟨secs, since, false, count, cut⟩ : DS) 0)).1 < 0
      ·
        refine Wl.q (v := Value.bool true) (q_lss (r := true) rfl rfl (decide_eq_true g0)) ?_
        refine Wl.q (v := Value.bool true) (q_move rfl) ?_
        refine Wl.no ?_
        refine Wl.no ?_
        refine Wl.q (v := Value.bool true) (q_pick (t := true) rfl rfl) ?_
        refine Wl.q (v := Value.bool true) (q_move rfl) ?_
        refine Wl.no ?_
        refine Wl.no ?_
        refine Wl.no ?_
        refine Wl.q (v := Value.bool true) (q_pick (t := true) rfl rfl) ?_
        refine Wl.q (v := Value.bool true) (q_move rfl) ?_
        refine Wl.no ?_
        refine Wl.no ?_
        refine Wl.no ?_
        refine Wl.q (v := Value.bool true) (q_pick (t := true) rfl rfl) ?_
        refine Wl.q (v := Value.bool true) (q_move rfl) ?_
        refine Wl.no ?_
        refine Wl.no ?_
        refine Wl.no ?_
        refine Wl.no ?_
        refine Wl.no ?_
        refine Wl.no ?_
        refine Wl.no ?_
        refine Wl.q (v := Value.bool true) (q_pick (t := true) rfl rfl) ?_
        refine Wl.q (v := Value.bool true) (q_move rfl) ?_
        refine Wl.no ?_
        refine Wl.no ?_
        refine Wl.no ?_
        refine Wl.no ?_
        refine Wl.no ?_
        refine Wl.no ?_
        refine Wl.no ?_
        refine Wl.q (v := Value.bool true) (q_pick (t := true) rfl rfl) ?_
        refine Wl.done ?_
        refine Wx.go ?_
        refine Wc.yes rfl ?_
        refine Wc.seq ?_
        refine Wc.region ?_
        refine Wl.q (v := Value.pointer none) (q_assign rfl) ?_
        refine Wl.q (v := Value.int .i64 14) (q_assign rfl) ?_
        refine Wl.done ?_
        refine Wx.go ?_
        refine Wc.ret ?_
        refine Wx.thenRet ?_
        refine Wx.fin2 rfl (.inl rfl) (fun w hs => ?_)
        have e : openD (⟨secs, since, false, count, cut⟩ : DS) = (14, none) := (openD_G parse_G rfl (by show 4 ≤ secs.length; omega)).trans (openT_bad1 (.inl (decide_eq_false (by omega))))
        exact ⟨0, trivial, by rw [e]; rfl, by rw [e]; exact isRef_mk (d := (⟨secs, since, false, count, cut⟩ : DS)) hr rfl hs⟩
      ·
        refine Wl.q (v := Value.bool false) (q_lss (r := false) rfl rfl (decide_eq_false g0)) ?_
        refine Wl.q (v := Value.bool false) (q_move rfl) ?_
        refine Wl.q (v := Value.int .i64 ((rT (rd (⟨secs, since, false, count, cut⟩ : DS) 1)).1)) (q_move rfl) ?_
        by_cases g1 : (rT (rd (⟨secs, since, false, count, cut⟩ : DS) 1)).1 < 0
        ·
          refine Wl.q (v := Value.bool true) (q_lss (r := true) rfl rfl (decide_eq_true g1)) ?_
          refine Wl.q (v := Value.bool true) (q_pick (t := false) rfl rfl) ?_
          refine Wl.q (v := Value.bool true) (q_move rfl) ?_
          refine Wl.no ?_
          refine Wl.no ?_
          refine Wl.no ?_
          refine Wl.q (v := Value.bool true) (q_pick (t := true) rfl rfl) ?_
          refine Wl.q (v := Value.bool true) (q_move rfl) ?_
          refine Wl.no ?_
          refine Wl.no ?_
          refine Wl.no ?_
          refine Wl.q (v := Value.bool true) (q_pick (t := true) rfl rfl) ?_
          refine Wl.q (v := Value.bool true) (q_move rfl) ?_
          refine Wl.no ?_
          refine Wl.no ?_
          refine Wl.no ?_
          refine Wl.no ?_
          refine Wl.no ?_
          refine Wl.no ?_
          refine Wl.no ?_
          refine Wl.q (v := Value.bool true) (q_pick (t := true) rfl rfl) ?_
          refine Wl.q (v := Value.bool true) (q_move rfl) ?_
          refine Wl.no ?_
          refine Wl.no ?_
          refine Wl.no ?_
          refine Wl.no ?_
          refine Wl.no ?_
          refine Wl.no ?_
          refine Wl.no ?_
          refine Wl.q (v := Value.bool true) (q_pick (t := true) rfl rfl) ?_
          refine Wl.done ?_
          refine Wx.go ?_
          refine Wc.yes rfl ?_
          refine Wc.seq ?_
          refine Wc.region ?_
          refine Wl.q (v := Value.pointer none) (q_assign rfl) ?_
          refine Wl.q (v := Value.int .i64 14) (q_assign rfl) ?_
          refine Wl.done ?_
          refine Wx.go ?_
          refine Wc.ret ?_
          refine Wx.thenRet ?_
          refine Wx.fin2 rfl (.inl rfl) (fun w hs => ?_)
          have e : openD (⟨secs, since, false, count, cut⟩ : DS) = (14, none) := (openD_G parse_G rfl (by show 4 ≤ secs.length; omega)).trans (openT_bad1 (.inr (decide_eq_false (by omega))))
          exact ⟨0, trivial, by rw [e]; rfl, by rw [e]; exact isRef_mk (d := (⟨secs, since, false, count, cut⟩ : DS)) hr rfl hs⟩
        ·
          refine Wl.q (v := Value.bool false) (q_lss (r := false) rfl rfl (decide_eq_false g1)) ?_
          refine Wl.q (v := Value.bool false) (q_pick (t := false) rfl rfl) ?_
          refine Wl.q (v := Value.bool false) (q_move rfl) ?_
          refine Wl.q (v := Value.int .i64 ((rT (rd (⟨secs, since, false, count, cut⟩ : DS) 0)).2)) (q_move rfl) ?_
          refine Wl.q (v := Value.int .i64 (((half secs) * 64 : Nat) : Int)) (q_move rfl) ?_
          by_cases h1 : (rT (rd (⟨secs, since, false, count, cut⟩ : DS) 0)).2 > (((half secs) * 64 : Nat) : Int)
          ·
            refine Wl.q (v := Value.bool true) (q_gtr (r := true) rfl rfl (decide_eq_true h1)) ?_
            refine Wl.q (v := Value.bool true) (q_pick (t := false) rfl rfl) ?_
            refine Wl.q (v := Value.bool true) (q_move rfl) ?_
            refine Wl.no ?_
            refine Wl.no ?_
            refine Wl.no ?_
            refine Wl.q (v := Value.bool true) (q_pick (t := true) rfl rfl) ?_
            refine Wl.q (v := Value.bool true) (q_move rfl) ?_
            refine Wl.no ?_
            refine Wl.no ?_
            refine Wl.no ?_
            refine Wl.no ?_
            refine Wl.no ?_
            refine Wl.no ?_
            refine Wl.no ?_
            refine Wl.q (v := Value.bool true) (q_pick (t := true) rfl rfl) ?_
            refine Wl.q (v := Value.bool true) (q_move rfl) ?_
            refine Wl.no ?_
            refine Wl.no ?_
            refine Wl.no ?_
            refine Wl.no ?_
            refine Wl.no ?_
            refine Wl.no ?_
            refine Wl.no ?_
            refine Wl.q (v := Value.bool true) (q_pick (t := true) rfl rfl) ?_
            refine Wl.done ?_
            refine Wx.go ?_
            refine Wc.yes rfl ?_
            refine Wc.seq ?_
            refine Wc.region ?_
            refine Wl.q (v := Value.pointer none) (q_assign rfl) ?_
            refine Wl.q (v := Value.int .i64 14) (q_assign rfl) ?_
            refine Wl.done ?_
            refine Wx.go ?_
            refine Wc.ret ?_
            refine Wx.thenRet ?_
            refine Wx.fin2 rfl (.inl rfl) (fun w hs => ?_)
            have e : openD (⟨secs, since, false, count, cut⟩ : DS) = (14, none) := (openD_G parse_G rfl (by show 4 ≤ secs.length; omega)).trans (openT_bad2 (by show ((rT (rd (⟨secs, since, false, count, cut⟩ : DS) 0)).2 > ((half secs * 64 : Nat) : Int) ∨ (rT (rd (⟨secs, since, false, count, cut⟩ : DS) 1)).2 > ((half secs * 64 : Nat) : Int) ∨ (0 < (rT (rd (⟨secs, since, false, count, cut⟩ : DS) 0)).1 ∧ (rT (rd (⟨secs, since, false, count, cut⟩ : DS) 0)).1 % 2 = 0) ∨ (0 < (rT (rd (⟨secs, since, false, count, cut⟩ : DS) 1)).1 ∧ (rT (rd (⟨secs, since, false, count, cut⟩ : DS) 1)).1 % 2 = 1)); omega))
            exact ⟨0, trivial, by rw [e]; rfl, by rw [e]; exact isRef_mk (d := (⟨secs, since, false, count, cut⟩ : DS)) hr rfl hs⟩
          ·
            refine Wl.q (v := Value.bool false) (q_gtr (r := false) rfl rfl (decide_eq_false h1)) ?_
            refine Wl.q (v := Value.bool false) (q_pick (t := false) rfl rfl) ?_
            refine Wl.q (v := Value.bool false) (q_move rfl) ?_
            refine Wl.q (v := Value.int .i64 ((rT (rd (⟨secs, since, false, count, cut⟩ : DS) 1)).2)) (q_move rfl) ?_
            refine Wl.q (v := Value.int .i64 (((half secs) * 64 : Nat) : Int)) (q_move rfl) ?_
            by_cases h2 : (rT (rd (⟨secs, since, false, count, cut⟩ : DS) 1)).2 > (((half secs) * 64 : Nat) : Int)
            ·
              refine Wl.q (v := Value.bool true) (q_gtr (r := true) rfl rfl (decide_eq_true h2)) ?_
              refine Wl.q (v := Value.bool true) (q_pick (t := false) rfl rfl) ?_
              refine Wl.q (v := Value.bool true) (q_move rfl) ?_
              refine Wl.no ?_
              refine Wl.no ?_
              refine Wl.no ?_
              refine Wl.no ?_
              refine Wl.no ?_
              refine Wl.no ?_
              refine Wl.no ?_
              refine Wl.q (v := Value.bool true) (q_pick (t := true) rfl rfl) ?_
              refine Wl.q (v := Value.bool true) (q_move rfl) ?_
              refine Wl.no ?_
              refine Wl.no ?_
              refine Wl.no ?_
              refine Wl.no ?_
              refine Wl.no ?_
              refine Wl.no ?_
              refine Wl.no ?_
              refine Wl.q (v := Value.bool true) (q_pick (t := true) rfl rfl) ?_
              refine Wl.done ?_
              refine Wx.go ?_
              refine Wc.yes rfl ?_
              refine Wc.seq ?_
              refine Wc.region ?_
              refine Wl.q (v := Value.pointer none) (q_assign rfl) ?_
              refine Wl.q (v := Value.int .i64 14) (q_assign rfl) ?_
              refine Wl.done ?_
              refine Wx.go ?_
              refine Wc.ret ?_
              refine Wx.thenRet ?_
              refine Wx.fin2 rfl (.inl rfl) (fun w hs => ?_)
              have e : openD (⟨secs, since, false, count, cut⟩ : DS) = (14, none) := (openD_G parse_G rfl (by show 4 ≤ secs.length; omega)).trans (openT_bad2 (by show ((rT (rd (⟨secs, since, false, count, cut⟩ : DS) 0)).2 > ((half secs * 64 : Nat) : Int) ∨ (rT (rd (⟨secs, since, false, count, cut⟩ : DS) 1)).2 > ((half secs * 64 : Nat) : Int) ∨ (0 < (rT (rd (⟨secs, since, false, count, cut⟩ : DS) 0)).1 ∧ (rT (rd (⟨secs, since, false, count, cut⟩ : DS) 0)).1 % 2 = 0) ∨ (0 < (rT (rd (⟨secs, since, false, count, cut⟩ : DS) 1)).1 ∧ (rT (rd (⟨secs, since, false, count, cut⟩ : DS) 1)).1 % 2 = 1)); omega))
              exact ⟨0, trivial, by rw [e]; rfl, by rw [e]; exact isRef_mk (d := (⟨secs, since, false, count, cut⟩ : DS)) hr rfl hs⟩
            ·
              refine Wl.q (v := Value.bool false) (q_gtr (r := false) rfl rfl (decide_eq_false h2)) ?_
              refine Wl.q (v := Value.bool false) (q_pick (t := false) rfl rfl) ?_
              refine Wl.q (v := Value.bool false) (q_move rfl) ?_
              refine Wl.q (v := Value.int .i64 ((rT (rd (⟨secs, since, false, count, cut⟩ : DS) 0)).1)) (q_move rfl) ?_
              by_cases h3 : (rT (rd (⟨secs, since, false, count, cut⟩ : DS) 0)).1 > 0
              ·
                refine Wl.q (v := Value.bool true) (q_gtr (r := true) rfl rfl (decide_eq_true h3)) ?_
                refine Wl.q (v := Value.bool true) (q_move rfl) ?_
                refine Wl.q (v := Value.int .i64 ((rT (rd (⟨secs, since, false, count, cut⟩ : DS) 0)).1)) (q_move rfl) ?_
                refine Wl.q (v := Value.int .i64 ((rT (rd (⟨secs, since, false, count, cut⟩ : DS) 0)).1 % 2)) (q_rem (c := ((rT (rd (⟨secs, since, false, count, cut⟩ : DS) 0)).1 % 2)) rfl rfl (by decide) (tmod2_eq (by omega))) ?_
                by_cases h4 : ((rT (rd (⟨secs, since, false, count, cut⟩ : DS) 0)).1 % 2) = 0
                ·
                  refine Wl.q (v := Value.bool true) (q_eql (r := true) rfl rfl (decide_eq_true h4)) ?_
                  refine Wl.q (v := Value.bool true) (q_pick (t := true) rfl rfl) ?_
                  refine Wl.q (v := Value.bool true) (q_pick (t := false) rfl rfl) ?_
                  refine Wl.q (v := Value.bool true) (q_move rfl) ?_
                  refine Wl.no ?_
                  refine Wl.no ?_
                  refine Wl.no ?_
                  refine Wl.no ?_
                  refine Wl.no ?_
                  refine Wl.no ?_
                  refine Wl.no ?_
                  refine Wl.q (v := Value.bool true) (q_pick (t := true) rfl rfl) ?_
                  refine Wl.done ?_
                  refine Wx.go ?_
                  refine Wc.yes rfl ?_
                  refine Wc.seq ?_
                  refine Wc.region ?_
                  refine Wl.q (v := Value.pointer none) (q_assign rfl) ?_
                  refine Wl.q (v := Value.int .i64 14) (q_assign rfl) ?_
                  refine Wl.done ?_
                  refine Wx.go ?_
                  refine Wc.ret ?_
                  refine Wx.thenRet ?_
                  refine Wx.fin2 rfl (.inl rfl) (fun w hs => ?_)
                  have e : openD (⟨secs, since, false, count, cut⟩ : DS) = (14, none) := (openD_G parse_G rfl (by show 4 ≤ secs.length; omega)).trans (openT_bad2 (by show ((rT (rd (⟨secs, since, false, count, cut⟩ : DS) 0)).2 > ((half secs * 64 : Nat) : Int) ∨ (rT (rd (⟨secs, since, false, count, cut⟩ : DS) 1)).2 > ((half secs * 64 : Nat) : Int) ∨ (0 < (rT (rd (⟨secs, since, false, count, cut⟩ : DS) 0)).1 ∧ (rT (rd (⟨secs, since, false, count, cut⟩ : DS) 0)).1 % 2 = 0) ∨ (0 < (rT (rd (⟨secs, since, false, count, cut⟩ : DS) 1)).1 ∧ (rT (rd (⟨secs, since, false, count, cut⟩ : DS) 1)).1 % 2 = 1)); omega))
                  exact ⟨0, trivial, by rw [e]; rfl, by rw [e]; exact isRef_mk (d := (⟨secs, since, false, count, cut⟩ : DS)) hr rfl hs⟩
                ·
                  refine Wl.q (v := Value.bool false) (q_eql (r := false) rfl rfl (decide_eq_false h4)) ?_
                  refine Wl.q (v := Value.bool false) (q_pick (t := true) rfl rfl) ?_
                  refine Wl.q (v := Value.bool false) (q_pick (t := false) rfl rfl) ?_
                  refine Wl.q (v := Value.bool false) (q_move rfl) ?_
                  refine Wl.q (v := Value.int .i64 ((rT (rd (⟨secs, since, false, count, cut⟩ : DS) 1)).1)) (q_move rfl) ?_
                  by_cases h5 : (rT (rd (⟨secs, since, false, count, cut⟩ : DS) 1)).1 > 0
                  ·
                    refine Wl.q (v := Value.bool true) (q_gtr (r := true) rfl rfl (decide_eq_true h5)) ?_
                    refine Wl.q (v := Value.bool true) (q_move rfl) ?_
                    refine Wl.q (v := Value.int .i64 ((rT (rd (⟨secs, since, false, count, cut⟩ : DS) 1)).1)) (q_move rfl) ?_
                    refine Wl.q (v := Value.int .i64 ((rT (rd (⟨secs, since, false, count, cut⟩ : DS) 1)).1 % 2)) (q_rem (c := ((rT (rd (⟨secs, since, false, count, cut⟩ : DS) 1)).1 % 2)) rfl rfl (by decide) (tmod2_eq (by omega))) ?_
                    by_cases h6 : ((rT (rd (⟨secs, since, false, count, cut⟩ : DS) 1)).1 % 2) = 1
                    ·
                      refine Wl.q (v := Value.bool true) (q_eql (r := true) rfl rfl (decide_eq_true h6)) ?_
                      refine Wl.q (v := Value.bool true) (q_pick (t := true) rfl rfl) ?_
                      refine Wl.q (v := Value.bool true) (q_pick (t := false) rfl rfl) ?_
                      refine Wl.done ?_
                      refine Wx.go ?_
                      refine Wc.yes rfl ?_
                      refine Wc.seq ?_
                      refine Wc.region ?_
                      refine Wl.q (v := Value.pointer none) (q_assign rfl) ?_
                      refine Wl.q (v := Value.int .i64 14) (q_assign rfl) ?_
                      refine Wl.done ?_
                      refine Wx.go ?_
                      refine Wc.ret ?_
                      refine Wx.thenRet ?_
                      refine Wx.fin2 rfl (.inl rfl) (fun w hs => ?_)
                      have e : openD (⟨secs, since, false, count, cut⟩ : DS) = (14, none) := (openD_G parse_G rfl (by show 4 ≤ secs.length; omega)).trans (openT_bad2 (by show ((rT (rd (⟨secs, since, false, count, cut⟩ : DS) 0)).2 > ((half secs * 64 : Nat) : Int) ∨ (rT (rd (⟨secs, since, false, count, cut⟩ : DS) 1)).2 > ((half secs * 64 : Nat) : Int) ∨ (0 < (rT (rd (⟨secs, since, false, count, cut⟩ : DS) 0)).1 ∧ (rT (rd (⟨secs, since, false, count, cut⟩ : DS) 0)).1 % 2 = 0) ∨ (0 < (rT (rd (⟨secs, since, false, count, cut⟩ : DS) 1)).1 ∧ (rT (rd (⟨secs, since, false, count, cut⟩ : DS) 1)).1 % 2 = 1)); omega))
                      exact ⟨0, trivial, by rw [e]; rfl, by rw [e]; exact isRef_mk (d := (⟨secs, since, false, count, cut⟩ : DS)) hr rfl hs⟩
                    ·
                      refine Wl.q (v := Value.bool false) (q_eql (r := false) rfl rfl (decide_eq_false h6)) ?_
                      refine Wl.q (v := Value.bool false) (q_pick (t := true) rfl rfl) ?_
                      refine Wl.q (v := Value.bool false) (q_pick (t := false) rfl rfl) ?_
                      refine Wl.done ?_
                      refine Wx.go ?_
                      refine Wc.no rfl ?_
                      refine Wc.skip ?_
                      refine Wx.at () ⟨rfl, rfl, rfl, rfl, rfl, (by omega), (by omega), (by omega), (by omega)⟩ (fun w hs => hs)
                  ·
                    refine Wl.q (v := Value.bool false) (q_gtr (r := false) rfl rfl (decide_eq_false h5)) ?_
                    refine Wl.q (v := Value.bool false) (q_move rfl) ?_
                    refine Wl.no ?_
                    refine Wl.no ?_
                    refine Wl.no ?_
                    refine Wl.q (v := Value.bool false) (q_pick (t := false) rfl rfl) ?_
                    refine Wl.q (v := Value.bool false) (q_pick (t := false) rfl rfl) ?_
                    refine Wl.done ?_
                    refine Wx.go ?_
                    refine Wc.no rfl ?_
                    refine Wc.skip ?_
                    refine Wx.at () ⟨rfl, rfl, rfl, rfl, rfl, (by omega), (by omega), (by omega), (by omega)⟩ (fun w hs => hs)
              ·
                refine Wl.q (v := Value.bool false) (q_gtr (r := false) rfl rfl (decide_eq_false h3)) ?_
                refine Wl.q (v := Value.bool false) (q_move rfl) ?_
                refine Wl.no ?_
                refine Wl.no ?_
                refine Wl.no ?_
                refine Wl.q (v := Value.bool false) (q_pick (t := false) rfl rfl) ?_
                refine Wl.q (v := Value.bool false) (q_pick (t := false) rfl rfl) ?_
                refine Wl.q (v := Value.bool false) (q_move rfl) ?_
                refine Wl.q (v := Value.int .i64 ((rT (rd (⟨secs, since, false, count, cut⟩ : DS) 1)).1)) (q_move rfl) ?_
                by_cases h7 : (rT (rd (⟨secs, since, false, count, cut⟩ : DS) 1)).1 > 0
                ·
                  refine Wl.q (v := Value.bool true) (q_gtr (r := true) rfl rfl (decide_eq_true h7)) ?_
                  refine Wl.q (v := Value.bool true) (q_move rfl) ?_
                  refine Wl.q (v := Value.int .i64 ((rT (rd (⟨secs, since, false, count, cut⟩ : DS) 1)).1)) (q_move rfl) ?_
                  refine Wl.q (v := Value.int .i64 ((rT (rd (⟨secs, since, false, count, cut⟩ : DS) 1)).1 % 2)) (q_rem (c := ((rT (rd (⟨secs, since, false, count, cut⟩ : DS) 1)).1 % 2)) rfl rfl (by decide) (tmod2_eq (by omega))) ?_
                  by_cases h8 : ((rT (rd (⟨secs, since, false, count, cut⟩ : DS) 1)).1 % 2) = 1
                  ·
                    refine Wl.q (v := Value.bool true) (q_eql (r := true) rfl rfl (decide_eq_true h8)) ?_
                    refine Wl.q (v := Value.bool true) (q_pick (t := true) rfl rfl) ?_
                    refine Wl.q (v := Value.bool true) (q_pick (t := false) rfl rfl) ?_
                    refine Wl.done ?_
                    refine Wx.go ?_
                    refine Wc.yes rfl ?_
                    refine Wc.seq ?_
                    refine Wc.region ?_
                    refine Wl.q (v := Value.pointer none) (q_assign rfl) ?_
                    refine Wl.q (v := Value.int .i64 14) (q_assign rfl) ?_
                    refine Wl.done ?_
                    refine Wx.go ?_
                    refine Wc.ret ?_
                    refine Wx.thenRet ?_
                    refine Wx.fin2 rfl (.inl rfl) (fun w hs => ?_)
                    have e : openD (⟨secs, since, false, count, cut⟩ : DS) = (14, none) := (openD_G parse_G rfl (by show 4 ≤ secs.length; omega)).trans (openT_bad2 (by show ((rT (rd (⟨secs, since, false, count, cut⟩ : DS) 0)).2 > ((half secs * 64 : Nat) : Int) ∨ (rT (rd (⟨secs, since, false, count, cut⟩ : DS) 1)).2 > ((half secs * 64 : Nat) : Int) ∨ (0 < (rT (rd (⟨secs, since, false, count, cut⟩ : DS) 0)).1 ∧ (rT (rd (⟨secs, since, false, count, cut⟩ : DS) 0)).1 % 2 = 0) ∨ (0 < (rT (rd (⟨secs, since, false, count, cut⟩ : DS) 1)).1 ∧ (rT (rd (⟨secs, since, false, count, cut⟩ : DS) 1)).1 % 2 = 1)); omega))
                    exact ⟨0, trivial, by rw [e]; rfl, by rw [e]; exact isRef_mk (d := (⟨secs, since, false, count, cut⟩ : DS)) hr rfl hs⟩
                  ·
                    refine Wl.q (v := Value.bool false) (q_eql (r := false) rfl rfl (decide_eq_false h8)) ?_
                    refine Wl.q (v := Value.bool false) (q_pick (t := true) rfl rfl) ?_
                    refine Wl.q (v := Value.bool false) (q_pick (t := false) rfl rfl) ?_
                    refine Wl.done ?_
                    refine Wx.go ?_
                    refine Wc.no rfl ?_
                    refine Wc.skip ?_
                    refine Wx.at () ⟨rfl, rfl, rfl, rfl, rfl, (by omega), (by omega), (by omega), (by omega)⟩ (fun w hs => hs)
                ·
                  refine Wl.q (v := Value.bool false) (q_gtr (r := false) rfl rfl (decide_eq_false h7)) ?_
                  refine Wl.q (v := Value.bool false) (q_move rfl) ?_
                  refine Wl.no ?_
                  refine Wl.no ?_
                  refine Wl.no ?_
                  refine Wl.q (v := Value.bool false) (q_pick (t := false) rfl rfl) ?_
                  refine Wl.q (v := Value.bool false) (q_pick (t := false) rfl rfl) ?_
                  refine Wl.done ?_
                  refine Wx.go ?_
                  refine Wc.no rfl ?_
                  refine Wc.skip ?_
                  refine Wx.at () ⟨rfl, rfl, rfl, rfl, rfl, (by omega), (by omega), (by omega), (by omega)⟩ (fun w hs => hs)
    · rintro _ E10 ⟨hE0_8, hE9_8, hE10_8, hE11_8, hE12_8, h4s, hge0, hge1, hnb⟩
      have u0 := rT_low (rd (⟨secs, since, false, count, cut⟩ : DS) 0)
      have u1 := rT_low (rd (⟨secs, since, false, count, cut⟩ : DS) 1)
      refine Wc.seq ?_
      refine Wc.block ?_
      refine Wc.seq ?_
      refine Wc.region ?_
      have w0 := wrap_succ (a := (rT (rd (⟨secs, since, false, count, cut⟩ : DS) 0)).1) (by omega) (by omega)
      have w1 := wrap_succ (a := (rT (rd (⟨secs, since, false, count, cut⟩ : DS) 1)).1) (by omega) (by omega)
      refine Wl.q (v := Value.int .i64 ((rT (rd (⟨secs, since, false, count, cut⟩ : DS) 0)).1)) (q_move hE9_8) ?_
      by_cases hz0 : (rT (rd (⟨secs, since, false, count, cut⟩ : DS) 0)).1 = 0
      ·
        refine Wl.q (v := Value.bool true) (q_eql (r := true) rfl rfl (decide_eq_true hz0)) ?_
        refine Wl.q (v := Value.bool true) (q_move rfl) ?_
        refine Wl.q (v := Value.int .i64 ((rT (rd (⟨secs, since, false, count, cut⟩ : DS) 1)).1)) (q_move hE11_8) ?_
        by_cases h11 : (rT (rd (⟨secs, since, false, count, cut⟩ : DS) 1)).1 = 0
        ·
          refine Wl.q (v := Value.bool true) (q_eql (r := true) rfl rfl (decide_eq_true h11)) ?_
          refine Wl.q (v := Value.bool true) (q_pick (t := true) rfl rfl) ?_
          refine Wl.q (v := Value.bool true) (q_assign rfl) ?_
          refine Wl.done ?_
          refine Wx.go ?_
          refine Wc.yes rfl ?_
          refine Wc.seq ?_
          refine Wc.region ?_
          refine Wl.q (v := Value.pointer (some ⟨q, 0, none⟩)) (q_move hE0_8) ?_
          refine Wl.q (v := Value.agg #[Value.pointer (some ⟨q, 0, none⟩), Value.string (⟨#[]⟩), Value.int .i64 0, Value.bool false]) (q_build (pl := [(0, 1), (1, 1), (2, 1), (3, 1)]) Try.underlying79 zo_79 (by kernel_rfl) (by kernel_rfl)) ?_
          refine Wl.e (e_box (x := .tmp 92) (vs := [Value.pointer (some ⟨q, 0, none⟩), Value.string (⟨#[]⟩), Value.int .i64 0, Value.bool false]) rfl) (fun jr _ => ?_)
          refine Wl.imp (L' := (pt jr 79 ([Value.pointer (some ⟨q, 0, none⟩), Value.string (⟨#[]⟩), Value.int .i64 0, Value.bool false])) :: (pt q 63 [Value.slice (some ⟨bd, 0, none⟩) secs.length cd, sv, Value.bool false, Value.int .i64 lv, Value.int .i64 bv, Value.int .i64 ((count : Nat) : Int)]) :: (slp 9 1 bd cd (secs.map Value.string)) :: (sl 86 2 sv since.length (flat since)) :: F) (fun _ h => h) ?_
          refine Wl.q (v := Value.pointer (some ⟨jr, 0, none⟩)) (q_assign rfl) ?_
          refine Wl.q (v := Value.int .i64 0) (q_assign rfl) ?_
          refine Wl.done ?_
          refine Wx.go ?_
          refine Wc.ret ?_
          refine Wx.blockRet ?_
          refine Wx.thenRet ?_
          refine Wx.fin2 rfl (.inl rfl) (fun w hs => ?_)
          have e : openD (⟨secs, since, false, count, cut⟩ : DS) = (0, some (ByteArray.empty, 0)) := (openD_G parse_G rfl (by show 4 ≤ secs.length; omega)).trans (openT_zero (decide_eq_true (by omega)) (decide_eq_true (by omega)) (by show ¬ ((rT (rd (⟨secs, since, false, count, cut⟩ : DS) 0)).2 > ((half secs * 64 : Nat) : Int) ∨ (rT (rd (⟨secs, since, false, count, cut⟩ : DS) 1)).2 > ((half secs * 64 : Nat) : Int) ∨ (0 < (rT (rd (⟨secs, since, false, count, cut⟩ : DS) 0)).1 ∧ (rT (rd (⟨secs, since, false, count, cut⟩ : DS) 0)).1 % 2 = 0) ∨ (0 < (rT (rd (⟨secs, since, false, count, cut⟩ : DS) 1)).1 ∧ (rT (rd (⟨secs, since, false, count, cut⟩ : DS) 1)).1 % 2 = 1)); omega) (by show ((rT (rd (⟨secs, since, false, count, cut⟩ : DS) 0)).1 = 0 ∧ (rT (rd (⟨secs, since, false, count, cut⟩ : DS) 1)).1 = 0); omega))
          exact ⟨jr, trivial, by rw [e]; rfl, by rw [e]; exact st_swap (isRef_mk (d := (⟨secs, since, false, count, cut⟩ : DS)) hr rfl (st_pull [1, 1, 1, 0] (hs)))⟩
        ·
          refine Wl.q (v := Value.bool false) (q_eql (r := false) rfl rfl (decide_eq_false h11)) ?_
          refine Wl.q (v := Value.bool false) (q_pick (t := true) rfl rfl) ?_
          refine Wl.q (v := Value.bool false) (q_assign rfl) ?_
          refine Wl.done ?_
          refine Wx.go ?_
          refine Wc.no rfl ?_
          refine Wc.seq ?_
          refine Wc.region ?_
          refine Wl.q (v := Value.int .i64 ((rT (rd (⟨secs, since, false, count, cut⟩ : DS) 0)).1)) (q_move hE9_8) ?_
          refine Wl.q (v := Value.int .i64 ((rT (rd (⟨secs, since, false, count, cut⟩ : DS) 1)).1)) (q_move hE11_8) ?_
          refine Wl.q (v := Value.int .i64 (IntKind.i64.wrap ((rT (rd (⟨secs, since, false, count, cut⟩ : DS) 1)).1 + 1))) (q_add (c := (IntKind.i64.wrap ((rT (rd (⟨secs, since, false, count, cut⟩ : DS) 1)).1 + 1))) rfl rfl rfl) ?_
          by_cases h12 : (rT (rd (⟨secs, since, false, count, cut⟩ : DS) 0)).1 = (IntKind.i64.wrap ((rT (rd (⟨secs, since, false, count, cut⟩ : DS) 1)).1 + 1))
          ·
            refine Wl.q (v := Value.bool true) (q_eql (r := true) rfl rfl (decide_eq_true h12)) ?_
            refine Wl.q (v := Value.bool true) (q_assign rfl) ?_
            refine Wl.done ?_
            refine Wx.go ?_
            refine Wc.yes rfl ?_
            refine Wc.seq ?_
            refine Wc.region ?_
            refine Wl.q (v := Value.pointer (some ⟨q, 0, none⟩)) (q_move hE0_8) ?_
            refine Wl.q (v := Value.int .i64 ((rT (rd (⟨secs, since, false, count, cut⟩ : DS) 0)).1)) (q_move hE9_8) ?_
            refine Wl.q (v := Value.pointer (some ⟨q, 0, none⟩)) (q_move hE0_8) ?_
            refine Wl.q (v := Value.int .i64 ((rT (rd (⟨secs, since, false, count, cut⟩ : DS) 0)).1)) (q_move hE9_8) ?_
            refine Wl.q (v := Value.int .i64 ((rT (rd (⟨secs, since, false, count, cut⟩ : DS) 0)).2)) (q_move hE10_8) ?_
            refine Wl.e (e_call (F := F) (args := [Value.pointer (some ⟨q, 0, none⟩), Value.int .i64 ((rT (rd (⟨secs, since, false, count, cut⟩ : DS) 0)).1), Value.int .i64 ((rT (rd (⟨secs, since, false, count, cut⟩ : DS) 0)).2)]) Try.call65 rfl (rat_c W0 q bd cd secs since count sv lv bv cut ((rT (rd (⟨secs, since, false, count, cut⟩ : DS) 0)).1) ((rT (rd (⟨secs, since, false, count, cut⟩ : DS) 0)).2) hw hn1 hm hsn (by omega) (by omega) (by omega) (by omega))) (fun _ _ => ?_)
            refine Wl.imp (L' := (pt q 63 [Value.slice (some ⟨bd, 0, none⟩) secs.length cd, sv, Value.bool false, Value.int .i64 lv, Value.int .i64 bv, Value.int .i64 ((count : Nat) : Int)]) :: (slp 9 1 bd cd (secs.map Value.string)) :: (sl 86 2 sv since.length (flat since)) :: F) (fun _ h => h) ?_
            refine Wl.q (v := Value.agg #[Value.pointer (some ⟨q, 0, none⟩), Value.string (textR (rd (⟨secs, since, false, count, cut⟩ : DS)) (first secs ((rT (rd (⟨secs, since, false, count, cut⟩ : DS) 0)).1)) ((rT (rd (⟨secs, since, false, count, cut⟩ : DS) 0)).2)), Value.int .i64 ((rT (rd (⟨secs, since, false, count, cut⟩ : DS) 0)).1), Value.bool false]) (q_build (pl := [(0, 1), (1, 1), (2, 1), (3, 1)]) Try.underlying79 zo_79 (by kernel_rfl) (by kernel_rfl)) ?_
            refine Wl.e (e_box (x := .tmp 105) (vs := [Value.pointer (some ⟨q, 0, none⟩), Value.string (textR (rd (⟨secs, since, false, count, cut⟩ : DS)) (first secs ((rT (rd (⟨secs, since, false, count, cut⟩ : DS) 0)).1)) ((rT (rd (⟨secs, since, false, count, cut⟩ : DS) 0)).2)), Value.int .i64 ((rT (rd (⟨secs, since, false, count, cut⟩ : DS) 0)).1), Value.bool false]) rfl) (fun jr _ => ?_)
            refine Wl.imp (L' := (pt jr 79 [Value.pointer (some ⟨q, 0, none⟩), Value.string (textR (rd (⟨secs, since, false, count, cut⟩ : DS)) (first secs ((rT (rd (⟨secs, since, false, count, cut⟩ : DS) 0)).1)) ((rT (rd (⟨secs, since, false, count, cut⟩ : DS) 0)).2)), Value.int .i64 ((rT (rd (⟨secs, since, false, count, cut⟩ : DS) 0)).1), Value.bool false]) :: (pt q 63 [Value.slice (some ⟨bd, 0, none⟩) secs.length cd, sv, Value.bool false, Value.int .i64 lv, Value.int .i64 bv, Value.int .i64 ((count : Nat) : Int)]) :: (slp 9 1 bd cd (secs.map Value.string)) :: (sl 86 2 sv since.length (flat since)) :: F) (fun _ h => h) ?_
            refine Wl.q (v := Value.pointer (some ⟨jr, 0, none⟩)) (q_assign rfl) ?_
            refine Wl.q (v := Value.int .i64 0) (q_assign rfl) ?_
            refine Wl.done ?_
            refine Wx.go ?_
            refine Wc.ret ?_
            refine Wx.blockRet ?_
            refine Wx.thenRet ?_
            refine Wx.fin2 rfl (.inl rfl) (fun w hs => ?_)
            have e : openD (⟨secs, since, false, count, cut⟩ : DS) = (0, some (textR (rd (⟨secs, since, false, count, cut⟩ : DS)) (first secs (rT (rd (⟨secs, since, false, count, cut⟩ : DS) 0)).1) (rT (rd (⟨secs, since, false, count, cut⟩ : DS) 0)).2, (rT (rd (⟨secs, since, false, count, cut⟩ : DS) 0)).1)) := (openD_G parse_G rfl (by show 4 ≤ secs.length; omega)).trans (openT_a (decide_eq_true (by omega)) (decide_eq_true (by omega)) (by show ¬ ((rT (rd (⟨secs, since, false, count, cut⟩ : DS) 0)).2 > ((half secs * 64 : Nat) : Int) ∨ (rT (rd (⟨secs, since, false, count, cut⟩ : DS) 1)).2 > ((half secs * 64 : Nat) : Int) ∨ (0 < (rT (rd (⟨secs, since, false, count, cut⟩ : DS) 0)).1 ∧ (rT (rd (⟨secs, since, false, count, cut⟩ : DS) 0)).1 % 2 = 0) ∨ (0 < (rT (rd (⟨secs, since, false, count, cut⟩ : DS) 1)).1 ∧ (rT (rd (⟨secs, since, false, count, cut⟩ : DS) 1)).1 % 2 = 1)); omega) (by show ¬ ((rT (rd (⟨secs, since, false, count, cut⟩ : DS) 0)).1 = 0 ∧ (rT (rd (⟨secs, since, false, count, cut⟩ : DS) 1)).1 = 0); omega) (by show (rT (rd (⟨secs, since, false, count, cut⟩ : DS) 0)).1 = (rT (rd (⟨secs, since, false, count, cut⟩ : DS) 1)).1 + 1; omega))
            exact ⟨jr, trivial, by rw [e]; rfl, by rw [e]; exact st_swap (isRef_mk (d := (⟨secs, since, false, count, cut⟩ : DS)) hr rfl (st_pull [1, 1, 1, 0] (hs)))⟩
          ·
            refine Wl.q (v := Value.bool false) (q_eql (r := false) rfl rfl (decide_eq_false h12)) ?_
            refine Wl.q (v := Value.bool false) (q_assign rfl) ?_
            refine Wl.done ?_
            refine Wx.go ?_
            refine Wc.no rfl ?_
            refine Wc.seq ?_
            refine Wc.region ?_
            refine Wl.q (v := Value.int .i64 ((rT (rd (⟨secs, since, false, count, cut⟩ : DS) 1)).1)) (q_move hE11_8) ?_
            refine Wl.q (v := Value.int .i64 ((rT (rd (⟨secs, since, false, count, cut⟩ : DS) 0)).1)) (q_move hE9_8) ?_
            refine Wl.q (v := Value.int .i64 (IntKind.i64.wrap ((rT (rd (⟨secs, since, false, count, cut⟩ : DS) 0)).1 + 1))) (q_add (c := (IntKind.i64.wrap ((rT (rd (⟨secs, since, false, count, cut⟩ : DS) 0)).1 + 1))) rfl rfl rfl) ?_
            by_cases h13 : (rT (rd (⟨secs, since, false, count, cut⟩ : DS) 1)).1 = (IntKind.i64.wrap ((rT (rd (⟨secs, since, false, count, cut⟩ : DS) 0)).1 + 1))
            ·
              refine Wl.q (v := Value.bool true) (q_eql (r := true) rfl rfl (decide_eq_true h13)) ?_
              refine Wl.q (v := Value.bool true) (q_move rfl) ?_
              refine Wl.q (v := Value.int .i64 ((rT (rd (⟨secs, since, false, count, cut⟩ : DS) 0)).1)) (q_move hE9_8) ?_
              by_cases h14 : (rT (rd (⟨secs, since, false, count, cut⟩ : DS) 0)).1 > 0
              ·
                refine Wl.q (v := Value.bool true) (q_gtr (r := true) rfl rfl (decide_eq_true h14)) ?_
                refine Wl.q (v := Value.bool true) (q_pick (t := true) rfl rfl) ?_
                refine Wl.q (v := Value.bool true) (q_assign rfl) ?_
                refine Wl.done ?_
                refine Wx.go ?_
                refine Wc.yes rfl ?_
                refine Wc.seq ?_
                refine Wc.region ?_
                refine Wl.q (v := Value.pointer (some ⟨q, 0, none⟩)) (q_move hE0_8) ?_
                refine Wl.q (v := Value.int .i64 ((rT (rd (⟨secs, since, false, count, cut⟩ : DS) 1)).1)) (q_move hE11_8) ?_
                refine Wl.q (v := Value.pointer (some ⟨q, 0, none⟩)) (q_move hE0_8) ?_
                refine Wl.q (v := Value.int .i64 ((rT (rd (⟨secs, since, false, count, cut⟩ : DS) 1)).1)) (q_move hE11_8) ?_
                refine Wl.q (v := Value.int .i64 ((rT (rd (⟨secs, since, false, count, cut⟩ : DS) 1)).2)) (q_move hE12_8) ?_
                refine Wl.e (e_call (F := F) (args := [Value.pointer (some ⟨q, 0, none⟩), Value.int .i64 ((rT (rd (⟨secs, since, false, count, cut⟩ : DS) 1)).1), Value.int .i64 ((rT (rd (⟨secs, since, false, count, cut⟩ : DS) 1)).2)]) Try.call65 rfl (rat_c W0 q bd cd secs since count sv lv bv cut ((rT (rd (⟨secs, since, false, count, cut⟩ : DS) 1)).1) ((rT (rd (⟨secs, since, false, count, cut⟩ : DS) 1)).2) hw hn1 hm hsn (by omega) (by omega) (by omega) (by omega))) (fun _ _ => ?_)
                refine Wl.imp (L' := (pt q 63 [Value.slice (some ⟨bd, 0, none⟩) secs.length cd, sv, Value.bool false, Value.int .i64 lv, Value.int .i64 bv, Value.int .i64 ((count : Nat) : Int)]) :: (slp 9 1 bd cd (secs.map Value.string)) :: (sl 86 2 sv since.length (flat since)) :: F) (fun _ h => h) ?_
                refine Wl.q (v := Value.agg #[Value.pointer (some ⟨q, 0, none⟩), Value.string (textR (rd (⟨secs, since, false, count, cut⟩ : DS)) (first secs ((rT (rd (⟨secs, since, false, count, cut⟩ : DS) 1)).1)) ((rT (rd (⟨secs, since, false, count, cut⟩ : DS) 1)).2)), Value.int .i64 ((rT (rd (⟨secs, since, false, count, cut⟩ : DS) 1)).1), Value.bool false]) (q_build (pl := [(0, 1), (1, 1), (2, 1), (3, 1)]) Try.underlying79 zo_79 (by kernel_rfl) (by kernel_rfl)) ?_
                refine Wl.e (e_box (x := .tmp 122) (vs := [Value.pointer (some ⟨q, 0, none⟩), Value.string (textR (rd (⟨secs, since, false, count, cut⟩ : DS)) (first secs ((rT (rd (⟨secs, since, false, count, cut⟩ : DS) 1)).1)) ((rT (rd (⟨secs, since, false, count, cut⟩ : DS) 1)).2)), Value.int .i64 ((rT (rd (⟨secs, since, false, count, cut⟩ : DS) 1)).1), Value.bool false]) rfl) (fun jr _ => ?_)
                refine Wl.imp (L' := (pt jr 79 [Value.pointer (some ⟨q, 0, none⟩), Value.string (textR (rd (⟨secs, since, false, count, cut⟩ : DS)) (first secs ((rT (rd (⟨secs, since, false, count, cut⟩ : DS) 1)).1)) ((rT (rd (⟨secs, since, false, count, cut⟩ : DS) 1)).2)), Value.int .i64 ((rT (rd (⟨secs, since, false, count, cut⟩ : DS) 1)).1), Value.bool false]) :: (pt q 63 [Value.slice (some ⟨bd, 0, none⟩) secs.length cd, sv, Value.bool false, Value.int .i64 lv, Value.int .i64 bv, Value.int .i64 ((count : Nat) : Int)]) :: (slp 9 1 bd cd (secs.map Value.string)) :: (sl 86 2 sv since.length (flat since)) :: F) (fun _ h => h) ?_
                refine Wl.q (v := Value.pointer (some ⟨jr, 0, none⟩)) (q_assign rfl) ?_
                refine Wl.q (v := Value.int .i64 0) (q_assign rfl) ?_
                refine Wl.done ?_
                refine Wx.go ?_
                refine Wc.ret ?_
                refine Wx.blockRet ?_
                refine Wx.thenRet ?_
                refine Wx.fin2 rfl (.inl rfl) (fun w hs => ?_)
                have e : openD (⟨secs, since, false, count, cut⟩ : DS) = (0, some (textR (rd (⟨secs, since, false, count, cut⟩ : DS)) (first secs (rT (rd (⟨secs, since, false, count, cut⟩ : DS) 1)).1) (rT (rd (⟨secs, since, false, count, cut⟩ : DS) 1)).2, (rT (rd (⟨secs, since, false, count, cut⟩ : DS) 1)).1)) := (openD_G parse_G rfl (by show 4 ≤ secs.length; omega)).trans (openT_b (decide_eq_true (by omega)) (decide_eq_true (by omega)) (by show ¬ ((rT (rd (⟨secs, since, false, count, cut⟩ : DS) 0)).2 > ((half secs * 64 : Nat) : Int) ∨ (rT (rd (⟨secs, since, false, count, cut⟩ : DS) 1)).2 > ((half secs * 64 : Nat) : Int) ∨ (0 < (rT (rd (⟨secs, since, false, count, cut⟩ : DS) 0)).1 ∧ (rT (rd (⟨secs, since, false, count, cut⟩ : DS) 0)).1 % 2 = 0) ∨ (0 < (rT (rd (⟨secs, since, false, count, cut⟩ : DS) 1)).1 ∧ (rT (rd (⟨secs, since, false, count, cut⟩ : DS) 1)).1 % 2 = 1)); omega) (by show ¬ ((rT (rd (⟨secs, since, false, count, cut⟩ : DS) 0)).1 = 0 ∧ (rT (rd (⟨secs, since, false, count, cut⟩ : DS) 1)).1 = 0); omega) (by show ¬ (rT (rd (⟨secs, since, false, count, cut⟩ : DS) 0)).1 = (rT (rd (⟨secs, since, false, count, cut⟩ : DS) 1)).1 + 1; omega) (by show (0 < (rT (rd (⟨secs, since, false, count, cut⟩ : DS) 0)).1 ∧ (rT (rd (⟨secs, since, false, count, cut⟩ : DS) 1)).1 = (rT (rd (⟨secs, since, false, count, cut⟩ : DS) 0)).1 + 1); omega))
                exact ⟨jr, trivial, by rw [e]; rfl, by rw [e]; exact st_swap (isRef_mk (d := (⟨secs, since, false, count, cut⟩ : DS)) hr rfl (st_pull [1, 1, 1, 0] (hs)))⟩
              ·
                refine Wl.q (v := Value.bool false) (q_gtr (r := false) rfl rfl (decide_eq_false h14)) ?_
                refine Wl.q (v := Value.bool false) (q_pick (t := true) rfl rfl) ?_
                refine Wl.q (v := Value.bool false) (q_assign rfl) ?_
                refine Wl.done ?_
                refine Wx.go ?_
                refine Wc.no rfl ?_
                refine Wc.skip ?_
                refine Wx.blockEnd ?_
                refine Wx.go ?_
                refine Wc.seq ?_
                refine Wc.region ?_
                refine Wl.q (v := Value.pointer none) (q_assign rfl) ?_
                refine Wl.q (v := Value.int .i64 14) (q_assign rfl) ?_
                refine Wl.done ?_
                refine Wx.go ?_
                refine Wc.ret ?_
                refine Wx.fin2 rfl (.inl rfl) (fun w hs => ?_)
                have e : openD (⟨secs, since, false, count, cut⟩ : DS) = (14, none) := (openD_G parse_G rfl (by show 4 ≤ secs.length; omega)).trans (openT_bad3 (by show ¬ ((rT (rd (⟨secs, since, false, count, cut⟩ : DS) 0)).1 = 0 ∧ (rT (rd (⟨secs, since, false, count, cut⟩ : DS) 1)).1 = 0); omega) (by show ¬ (rT (rd (⟨secs, since, false, count, cut⟩ : DS) 0)).1 = (rT (rd (⟨secs, since, false, count, cut⟩ : DS) 1)).1 + 1; omega) (by show ¬ (0 < (rT (rd (⟨secs, since, false, count, cut⟩ : DS) 0)).1 ∧ (rT (rd (⟨secs, since, false, count, cut⟩ : DS) 1)).1 = (rT (rd (⟨secs, since, false, count, cut⟩ : DS) 0)).1 + 1); omega))
                exact ⟨0, trivial, by rw [e]; rfl, by rw [e]; exact isRef_mk (d := (⟨secs, since, false, count, cut⟩ : DS)) hr rfl hs⟩
            ·
              refine Wl.q (v := Value.bool false) (q_eql (r := false) rfl rfl (decide_eq_false h13)) ?_
              refine Wl.q (v := Value.bool false) (q_move rfl) ?_
              refine Wl.no ?_
              refine Wl.no ?_
              refine Wl.q (v := Value.bool false) (q_pick (t := false) rfl rfl) ?_
              refine Wl.q (v := Value.bool false) (q_assign rfl) ?_
              refine Wl.done ?_
              refine Wx.go ?_
              refine Wc.no rfl ?_
              refine Wc.skip ?_
              refine Wx.blockEnd ?_
              refine Wx.go ?_
              refine Wc.seq ?_
              refine Wc.region ?_
              refine Wl.q (v := Value.pointer none) (q_assign rfl) ?_
              refine Wl.q (v := Value.int .i64 14) (q_assign rfl) ?_
              refine Wl.done ?_
              refine Wx.go ?_
              refine Wc.ret ?_
              refine Wx.fin2 rfl (.inl rfl) (fun w hs => ?_)
              have e : openD (⟨secs, since, false, count, cut⟩ : DS) = (14, none) := (openD_G parse_G rfl (by show 4 ≤ secs.length; omega)).trans (openT_bad3 (by show ¬ ((rT (rd (⟨secs, since, false, count, cut⟩ : DS) 0)).1 = 0 ∧ (rT (rd (⟨secs, since, false, count, cut⟩ : DS) 1)).1 = 0); omega) (by show ¬ (rT (rd (⟨secs, since, false, count, cut⟩ : DS) 0)).1 = (rT (rd (⟨secs, since, false, count, cut⟩ : DS) 1)).1 + 1; omega) (by show ¬ (0 < (rT (rd (⟨secs, since, false, count, cut⟩ : DS) 0)).1 ∧ (rT (rd (⟨secs, since, false, count, cut⟩ : DS) 1)).1 = (rT (rd (⟨secs, since, false, count, cut⟩ : DS) 0)).1 + 1); omega))
              exact ⟨0, trivial, by rw [e]; rfl, by rw [e]; exact isRef_mk (d := (⟨secs, since, false, count, cut⟩ : DS)) hr rfl hs⟩
      ·
        refine Wl.q (v := Value.bool false) (q_eql (r := false) rfl rfl (decide_eq_false hz0)) ?_
        refine Wl.q (v := Value.bool false) (q_move rfl) ?_
        refine Wl.no ?_
        refine Wl.no ?_
        refine Wl.q (v := Value.bool false) (q_pick (t := false) rfl rfl) ?_
        refine Wl.q (v := Value.bool false) (q_assign rfl) ?_
        refine Wl.done ?_
        refine Wx.go ?_
        refine Wc.no rfl ?_
        refine Wc.seq ?_
        refine Wc.region ?_
        refine Wl.q (v := Value.int .i64 ((rT (rd (⟨secs, since, false, count, cut⟩ : DS) 0)).1)) (q_move hE9_8) ?_
        refine Wl.q (v := Value.int .i64 ((rT (rd (⟨secs, since, false, count, cut⟩ : DS) 1)).1)) (q_move hE11_8) ?_
        refine Wl.q (v := Value.int .i64 (IntKind.i64.wrap ((rT (rd (⟨secs, since, false, count, cut⟩ : DS) 1)).1 + 1))) (q_add (c := (IntKind.i64.wrap ((rT (rd (⟨secs, since, false, count, cut⟩ : DS) 1)).1 + 1))) rfl rfl rfl) ?_
        by_cases h15 : (rT (rd (⟨secs, since, false, count, cut⟩ : DS) 0)).1 = (IntKind.i64.wrap ((rT (rd (⟨secs, since, false, count, cut⟩ : DS) 1)).1 + 1))
        ·
          refine Wl.q (v := Value.bool true) (q_eql (r := true) rfl rfl (decide_eq_true h15)) ?_
          refine Wl.q (v := Value.bool true) (q_assign rfl) ?_
          refine Wl.done ?_
          refine Wx.go ?_
          refine Wc.yes rfl ?_
          refine Wc.seq ?_
          refine Wc.region ?_
          refine Wl.q (v := Value.pointer (some ⟨q, 0, none⟩)) (q_move hE0_8) ?_
          refine Wl.q (v := Value.int .i64 ((rT (rd (⟨secs, since, false, count, cut⟩ : DS) 0)).1)) (q_move hE9_8) ?_
          refine Wl.q (v := Value.pointer (some ⟨q, 0, none⟩)) (q_move hE0_8) ?_
          refine Wl.q (v := Value.int .i64 ((rT (rd (⟨secs, since, false, count, cut⟩ : DS) 0)).1)) (q_move hE9_8) ?_
          refine Wl.q (v := Value.int .i64 ((rT (rd (⟨secs, since, false, count, cut⟩ : DS) 0)).2)) (q_move hE10_8) ?_
          refine Wl.e (e_call (F := F) (args := [Value.pointer (some ⟨q, 0, none⟩), Value.int .i64 ((rT (rd (⟨secs, since, false, count, cut⟩ : DS) 0)).1), Value.int .i64 ((rT (rd (⟨secs, since, false, count, cut⟩ : DS) 0)).2)]) Try.call65 rfl (rat_c W0 q bd cd secs since count sv lv bv cut ((rT (rd (⟨secs, since, false, count, cut⟩ : DS) 0)).1) ((rT (rd (⟨secs, since, false, count, cut⟩ : DS) 0)).2) hw hn1 hm hsn (by omega) (by omega) (by omega) (by omega))) (fun _ _ => ?_)
          refine Wl.imp (L' := (pt q 63 [Value.slice (some ⟨bd, 0, none⟩) secs.length cd, sv, Value.bool false, Value.int .i64 lv, Value.int .i64 bv, Value.int .i64 ((count : Nat) : Int)]) :: (slp 9 1 bd cd (secs.map Value.string)) :: (sl 86 2 sv since.length (flat since)) :: F) (fun _ h => h) ?_
          refine Wl.q (v := Value.agg #[Value.pointer (some ⟨q, 0, none⟩), Value.string (textR (rd (⟨secs, since, false, count, cut⟩ : DS)) (first secs ((rT (rd (⟨secs, since, false, count, cut⟩ : DS) 0)).1)) ((rT (rd (⟨secs, since, false, count, cut⟩ : DS) 0)).2)), Value.int .i64 ((rT (rd (⟨secs, since, false, count, cut⟩ : DS) 0)).1), Value.bool false]) (q_build (pl := [(0, 1), (1, 1), (2, 1), (3, 1)]) Try.underlying79 zo_79 (by kernel_rfl) (by kernel_rfl)) ?_
          refine Wl.e (e_box (x := .tmp 105) (vs := [Value.pointer (some ⟨q, 0, none⟩), Value.string (textR (rd (⟨secs, since, false, count, cut⟩ : DS)) (first secs ((rT (rd (⟨secs, since, false, count, cut⟩ : DS) 0)).1)) ((rT (rd (⟨secs, since, false, count, cut⟩ : DS) 0)).2)), Value.int .i64 ((rT (rd (⟨secs, since, false, count, cut⟩ : DS) 0)).1), Value.bool false]) rfl) (fun jr _ => ?_)
          refine Wl.imp (L' := (pt jr 79 [Value.pointer (some ⟨q, 0, none⟩), Value.string (textR (rd (⟨secs, since, false, count, cut⟩ : DS)) (first secs ((rT (rd (⟨secs, since, false, count, cut⟩ : DS) 0)).1)) ((rT (rd (⟨secs, since, false, count, cut⟩ : DS) 0)).2)), Value.int .i64 ((rT (rd (⟨secs, since, false, count, cut⟩ : DS) 0)).1), Value.bool false]) :: (pt q 63 [Value.slice (some ⟨bd, 0, none⟩) secs.length cd, sv, Value.bool false, Value.int .i64 lv, Value.int .i64 bv, Value.int .i64 ((count : Nat) : Int)]) :: (slp 9 1 bd cd (secs.map Value.string)) :: (sl 86 2 sv since.length (flat since)) :: F) (fun _ h => h) ?_
          refine Wl.q (v := Value.pointer (some ⟨jr, 0, none⟩)) (q_assign rfl) ?_
          refine Wl.q (v := Value.int .i64 0) (q_assign rfl) ?_
          refine Wl.done ?_
          refine Wx.go ?_
          refine Wc.ret ?_
          refine Wx.blockRet ?_
          refine Wx.thenRet ?_
          refine Wx.fin2 rfl (.inl rfl) (fun w hs => ?_)
          have e : openD (⟨secs, since, false, count, cut⟩ : DS) = (0, some (textR (rd (⟨secs, since, false, count, cut⟩ : DS)) (first secs (rT (rd (⟨secs, since, false, count, cut⟩ : DS) 0)).1) (rT (rd (⟨secs, since, false, count, cut⟩ : DS) 0)).2, (rT (rd (⟨secs, since, false, count, cut⟩ : DS) 0)).1)) := (openD_G parse_G rfl (by show 4 ≤ secs.length; omega)).trans (openT_a (decide_eq_true (by omega)) (decide_eq_true (by omega)) (by show ¬ ((rT (rd (⟨secs, since, false, count, cut⟩ : DS) 0)).2 > ((half secs * 64 : Nat) : Int) ∨ (rT (rd (⟨secs, since, false, count, cut⟩ : DS) 1)).2 > ((half secs * 64 : Nat) : Int) ∨ (0 < (rT (rd (⟨secs, since, false, count, cut⟩ : DS) 0)).1 ∧ (rT (rd (⟨secs, since, false, count, cut⟩ : DS) 0)).1 % 2 = 0) ∨ (0 < (rT (rd (⟨secs, since, false, count, cut⟩ : DS) 1)).1 ∧ (rT (rd (⟨secs, since, false, count, cut⟩ : DS) 1)).1 % 2 = 1)); omega) (by show ¬ ((rT (rd (⟨secs, since, false, count, cut⟩ : DS) 0)).1 = 0 ∧ (rT (rd (⟨secs, since, false, count, cut⟩ : DS) 1)).1 = 0); omega) (by show (rT (rd (⟨secs, since, false, count, cut⟩ : DS) 0)).1 = (rT (rd (⟨secs, since, false, count, cut⟩ : DS) 1)).1 + 1; omega))
          exact ⟨jr, trivial, by rw [e]; rfl, by rw [e]; exact st_swap (isRef_mk (d := (⟨secs, since, false, count, cut⟩ : DS)) hr rfl (st_pull [1, 1, 1, 0] (hs)))⟩
        ·
          refine Wl.q (v := Value.bool false) (q_eql (r := false) rfl rfl (decide_eq_false h15)) ?_
          refine Wl.q (v := Value.bool false) (q_assign rfl) ?_
          refine Wl.done ?_
          refine Wx.go ?_
          refine Wc.no rfl ?_
          refine Wc.seq ?_
          refine Wc.region ?_
          refine Wl.q (v := Value.int .i64 ((rT (rd (⟨secs, since, false, count, cut⟩ : DS) 1)).1)) (q_move hE11_8) ?_
          refine Wl.q (v := Value.int .i64 ((rT (rd (⟨secs, since, false, count, cut⟩ : DS) 0)).1)) (q_move hE9_8) ?_
          refine Wl.q (v := Value.int .i64 (IntKind.i64.wrap ((rT (rd (⟨secs, since, false, count, cut⟩ : DS) 0)).1 + 1))) (q_add (c := (IntKind.i64.wrap ((rT (rd (⟨secs, since, false, count, cut⟩ : DS) 0)).1 + 1))) rfl rfl rfl) ?_
          by_cases h16 : (rT (rd (⟨secs, since, false, count, cut⟩ : DS) 1)).1 = (IntKind.i64.wrap ((rT (rd (⟨secs, since, false, count, cut⟩ : DS) 0)).1 + 1))
          ·
            refine Wl.q (v := Value.bool true) (q_eql (r := true) rfl rfl (decide_eq_true h16)) ?_
            refine Wl.q (v := Value.bool true) (q_move rfl) ?_
            refine Wl.q (v := Value.int .i64 ((rT (rd (⟨secs, since, false, count, cut⟩ : DS) 0)).1)) (q_move hE9_8) ?_
            by_cases h17 : (rT (rd (⟨secs, since, false, count, cut⟩ : DS) 0)).1 > 0
            ·
              refine Wl.q (v := Value.bool true) (q_gtr (r := true) rfl rfl (decide_eq_true h17)) ?_
              refine Wl.q (v := Value.bool true) (q_pick (t := true) rfl rfl) ?_
              refine Wl.q (v := Value.bool true) (q_assign rfl) ?_
              refine Wl.done ?_
              refine Wx.go ?_
              refine Wc.yes rfl ?_
              refine Wc.seq ?_
              refine Wc.region ?_
              refine Wl.q (v := Value.pointer (some ⟨q, 0, none⟩)) (q_move hE0_8) ?_
              refine Wl.q (v := Value.int .i64 ((rT (rd (⟨secs, since, false, count, cut⟩ : DS) 1)).1)) (q_move hE11_8) ?_
              refine Wl.q (v := Value.pointer (some ⟨q, 0, none⟩)) (q_move hE0_8) ?_
              refine Wl.q (v := Value.int .i64 ((rT (rd (⟨secs, since, false, count, cut⟩ : DS) 1)).1)) (q_move hE11_8) ?_
              refine Wl.q (v := Value.int .i64 ((rT (rd (⟨secs, since, false, count, cut⟩ : DS) 1)).2)) (q_move hE12_8) ?_
              refine Wl.e (e_call (F := F) (args := [Value.pointer (some ⟨q, 0, none⟩), Value.int .i64 ((rT (rd (⟨secs, since, false, count, cut⟩ : DS) 1)).1), Value.int .i64 ((rT (rd (⟨secs, since, false, count, cut⟩ : DS) 1)).2)]) Try.call65 rfl (rat_c W0 q bd cd secs since count sv lv bv cut ((rT (rd (⟨secs, since, false, count, cut⟩ : DS) 1)).1) ((rT (rd (⟨secs, since, false, count, cut⟩ : DS) 1)).2) hw hn1 hm hsn (by omega) (by omega) (by omega) (by omega))) (fun _ _ => ?_)
              refine Wl.imp (L' := (pt q 63 [Value.slice (some ⟨bd, 0, none⟩) secs.length cd, sv, Value.bool false, Value.int .i64 lv, Value.int .i64 bv, Value.int .i64 ((count : Nat) : Int)]) :: (slp 9 1 bd cd (secs.map Value.string)) :: (sl 86 2 sv since.length (flat since)) :: F) (fun _ h => h) ?_
              refine Wl.q (v := Value.agg #[Value.pointer (some ⟨q, 0, none⟩), Value.string (textR (rd (⟨secs, since, false, count, cut⟩ : DS)) (first secs ((rT (rd (⟨secs, since, false, count, cut⟩ : DS) 1)).1)) ((rT (rd (⟨secs, since, false, count, cut⟩ : DS) 1)).2)), Value.int .i64 ((rT (rd (⟨secs, since, false, count, cut⟩ : DS) 1)).1), Value.bool false]) (q_build (pl := [(0, 1), (1, 1), (2, 1), (3, 1)]) Try.underlying79 zo_79 (by kernel_rfl) (by kernel_rfl)) ?_
              refine Wl.e (e_box (x := .tmp 122) (vs := [Value.pointer (some ⟨q, 0, none⟩), Value.string (textR (rd (⟨secs, since, false, count, cut⟩ : DS)) (first secs ((rT (rd (⟨secs, since, false, count, cut⟩ : DS) 1)).1)) ((rT (rd (⟨secs, since, false, count, cut⟩ : DS) 1)).2)), Value.int .i64 ((rT (rd (⟨secs, since, false, count, cut⟩ : DS) 1)).1), Value.bool false]) rfl) (fun jr _ => ?_)
              refine Wl.imp (L' := (pt jr 79 [Value.pointer (some ⟨q, 0, none⟩), Value.string (textR (rd (⟨secs, since, false, count, cut⟩ : DS)) (first secs ((rT (rd (⟨secs, since, false, count, cut⟩ : DS) 1)).1)) ((rT (rd (⟨secs, since, false, count, cut⟩ : DS) 1)).2)), Value.int .i64 ((rT (rd (⟨secs, since, false, count, cut⟩ : DS) 1)).1), Value.bool false]) :: (pt q 63 [Value.slice (some ⟨bd, 0, none⟩) secs.length cd, sv, Value.bool false, Value.int .i64 lv, Value.int .i64 bv, Value.int .i64 ((count : Nat) : Int)]) :: (slp 9 1 bd cd (secs.map Value.string)) :: (sl 86 2 sv since.length (flat since)) :: F) (fun _ h => h) ?_
              refine Wl.q (v := Value.pointer (some ⟨jr, 0, none⟩)) (q_assign rfl) ?_
              refine Wl.q (v := Value.int .i64 0) (q_assign rfl) ?_
              refine Wl.done ?_
              refine Wx.go ?_
              refine Wc.ret ?_
              refine Wx.blockRet ?_
              refine Wx.thenRet ?_
              refine Wx.fin2 rfl (.inl rfl) (fun w hs => ?_)
              have e : openD (⟨secs, since, false, count, cut⟩ : DS) = (0, some (textR (rd (⟨secs, since, false, count, cut⟩ : DS)) (first secs (rT (rd (⟨secs, since, false, count, cut⟩ : DS) 1)).1) (rT (rd (⟨secs, since, false, count, cut⟩ : DS) 1)).2, (rT (rd (⟨secs, since, false, count, cut⟩ : DS) 1)).1)) := (openD_G parse_G rfl (by show 4 ≤ secs.length; omega)).trans (openT_b (decide_eq_true (by omega)) (decide_eq_true (by omega)) (by show ¬ ((rT (rd (⟨secs, since, false, count, cut⟩ : DS) 0)).2 > ((half secs * 64 : Nat) : Int) ∨ (rT (rd (⟨secs, since, false, count, cut⟩ : DS) 1)).2 > ((half secs * 64 : Nat) : Int) ∨ (0 < (rT (rd (⟨secs, since, false, count, cut⟩ : DS) 0)).1 ∧ (rT (rd (⟨secs, since, false, count, cut⟩ : DS) 0)).1 % 2 = 0) ∨ (0 < (rT (rd (⟨secs, since, false, count, cut⟩ : DS) 1)).1 ∧ (rT (rd (⟨secs, since, false, count, cut⟩ : DS) 1)).1 % 2 = 1)); omega) (by show ¬ ((rT (rd (⟨secs, since, false, count, cut⟩ : DS) 0)).1 = 0 ∧ (rT (rd (⟨secs, since, false, count, cut⟩ : DS) 1)).1 = 0); omega) (by show ¬ (rT (rd (⟨secs, since, false, count, cut⟩ : DS) 0)).1 = (rT (rd (⟨secs, since, false, count, cut⟩ : DS) 1)).1 + 1; omega) (by show (0 < (rT (rd (⟨secs, since, false, count, cut⟩ : DS) 0)).1 ∧ (rT (rd (⟨secs, since, false, count, cut⟩ : DS) 1)).1 = (rT (rd (⟨secs, since, false, count, cut⟩ : DS) 0)).1 + 1); omega))
              exact ⟨jr, trivial, by rw [e]; rfl, by rw [e]; exact st_swap (isRef_mk (d := (⟨secs, since, false, count, cut⟩ : DS)) hr rfl (st_pull [1, 1, 1, 0] (hs)))⟩
            ·
              refine Wl.q (v := Value.bool false) (q_gtr (r := false) rfl rfl (decide_eq_false h17)) ?_
              refine Wl.q (v := Value.bool false) (q_pick (t := true) rfl rfl) ?_
              refine Wl.q (v := Value.bool false) (q_assign rfl) ?_
              refine Wl.done ?_
              refine Wx.go ?_
              refine Wc.no rfl ?_
              refine Wc.skip ?_
              refine Wx.blockEnd ?_
              refine Wx.go ?_
              refine Wc.seq ?_
              refine Wc.region ?_
              refine Wl.q (v := Value.pointer none) (q_assign rfl) ?_
              refine Wl.q (v := Value.int .i64 14) (q_assign rfl) ?_
              refine Wl.done ?_
              refine Wx.go ?_
              refine Wc.ret ?_
              refine Wx.fin2 rfl (.inl rfl) (fun w hs => ?_)
              have e : openD (⟨secs, since, false, count, cut⟩ : DS) = (14, none) := (openD_G parse_G rfl (by show 4 ≤ secs.length; omega)).trans (openT_bad3 (by show ¬ ((rT (rd (⟨secs, since, false, count, cut⟩ : DS) 0)).1 = 0 ∧ (rT (rd (⟨secs, since, false, count, cut⟩ : DS) 1)).1 = 0); omega) (by show ¬ (rT (rd (⟨secs, since, false, count, cut⟩ : DS) 0)).1 = (rT (rd (⟨secs, since, false, count, cut⟩ : DS) 1)).1 + 1; omega) (by show ¬ (0 < (rT (rd (⟨secs, since, false, count, cut⟩ : DS) 0)).1 ∧ (rT (rd (⟨secs, since, false, count, cut⟩ : DS) 1)).1 = (rT (rd (⟨secs, since, false, count, cut⟩ : DS) 0)).1 + 1); omega))
              exact ⟨0, trivial, by rw [e]; rfl, by rw [e]; exact isRef_mk (d := (⟨secs, since, false, count, cut⟩ : DS)) hr rfl hs⟩
          ·
            refine Wl.q (v := Value.bool false) (q_eql (r := false) rfl rfl (decide_eq_false h16)) ?_
            refine Wl.q (v := Value.bool false) (q_move rfl) ?_
            refine Wl.no ?_
            refine Wl.no ?_
            refine Wl.q (v := Value.bool false) (q_pick (t := false) rfl rfl) ?_
            refine Wl.q (v := Value.bool false) (q_assign rfl) ?_
            refine Wl.done ?_
            refine Wx.go ?_
            refine Wc.no rfl ?_
            refine Wc.skip ?_
            refine Wx.blockEnd ?_
            refine Wx.go ?_
            refine Wc.seq ?_
            refine Wc.region ?_
            refine Wl.q (v := Value.pointer none) (q_assign rfl) ?_
            refine Wl.q (v := Value.int .i64 14) (q_assign rfl) ?_
            refine Wl.done ?_
            refine Wx.go ?_
            refine Wc.ret ?_
            refine Wx.fin2 rfl (.inl rfl) (fun w hs => ?_)
            have e : openD (⟨secs, since, false, count, cut⟩ : DS) = (14, none) := (openD_G parse_G rfl (by show 4 ≤ secs.length; omega)).trans (openT_bad3 (by show ¬ ((rT (rd (⟨secs, since, false, count, cut⟩ : DS) 0)).1 = 0 ∧ (rT (rd (⟨secs, since, false, count, cut⟩ : DS) 1)).1 = 0); omega) (by show ¬ (rT (rd (⟨secs, since, false, count, cut⟩ : DS) 0)).1 = (rT (rd (⟨secs, since, false, count, cut⟩ : DS) 1)).1 + 1; omega) (by show ¬ (0 < (rT (rd (⟨secs, since, false, count, cut⟩ : DS) 0)).1 ∧ (rT (rd (⟨secs, since, false, count, cut⟩ : DS) 1)).1 = (rT (rd (⟨secs, since, false, count, cut⟩ : DS) 0)).1 + 1); omega))
            exact ⟨0, trivial, by rw [e]; rfl, by rw [e]; exact isRef_mk (d := (⟨secs, since, false, count, cut⟩ : DS)) hr rfl hs⟩

theorem ropen_down (W0 : World) (q bd cd : Nat) (secs : List ByteArray) (since : List (Nat × ByteArray)) (count : Nat) (sv : Value) (lv bv : Int) (cut : Option (Nat × Int)) (hr : refR lv bv cut)  :
  Con Try.prog W0 43 #[Value.pointer (some ⟨q, 0, none⟩)] [pt q 63 [Value.slice (some ⟨bd, 0, none⟩) secs.length cd, sv, Value.bool true, Value.int .i64 lv, Value.int .i64 bv, Value.int .i64 ((count : Nat) : Int)], slp 9 1 bd cd (secs.map Value.string), sl 86 2 sv since.length (flat since)] (X := Nat) (fun _ => True) (openV (openD (⟨secs, since, true, count, cut⟩ : DS))) (fun j => openRP (openD (⟨secs, since, true, count, cut⟩ : DS)) j q (⟨secs, since, true, count, cut⟩ : DS)) := by
 refine Con.of (args := [Value.pointer (some ⟨q, 0, none⟩)]) Try.func43 rfl Try.ntmps43 rfl (fun F => ?_)
 show Wc _ W0 _ _ _ _ _ ((pt q 63 [Value.slice (some ⟨bd, 0, none⟩) secs.length cd, sv, Value.bool true, Value.int .i64 lv, Value.int .i64 bv, Value.int .i64 ((count : Nat) : Int)]) :: (slp 9 1 bd cd (secs.map Value.string)) :: (sl 86 2 sv since.length (flat since)) :: F)
 refine Wc.seq ?_
 refine Wc.region ?_
 refine Wl.q (v := Value.pointer none) (q_assign rfl) ?_
 refine Wl.q (v := Value.int .i64 0) (q_assign rfl) ?_
 refine Wl.done ?_
 refine Wx.go ?_
 refine Wc.seq ?_
 refine Wc.seq ?_
 refine Wc.region ?_
 refine Wl.q (v := Value.pointer (some ⟨q, 0, none⟩)) (q_move rfl) ?_
 refine Wl.q (v := Value.pointer (some ⟨q, 0, none⟩)) (q_nil_ptr rfl) ?_
 refine Wl.q (v := Value.pointer (some ⟨q, 2, none⟩)) (q_field (m := 2) fo_63_2 rfl rfl) ?_
 refine Wl.q (v := Value.bool true) (q_load sc_4 rfl (.cel (i := 0) rfl rfl)) ?_
 refine Wl.done ?_
 refine Wx.go ?_
 refine Wc.yes rfl ?_
 refine Wc.seq ?_
 refine Wc.region ?_
 refine Wl.q (v := Value.pointer none) (q_assign rfl) ?_
 refine Wl.q (v := Value.int .i64 6) (q_assign rfl) ?_
 refine Wl.done ?_
 refine Wx.go ?_
 refine Wc.ret ?_
 refine Wx.thenRet ?_
 refine Wx.fin2 rfl (.inl rfl) (fun w hs => ?_)
 have e : openD (⟨secs, since, true, count, cut⟩ : DS) = (6, none) := if_pos rfl
 exact ⟨0, trivial, by rw [e]; rfl, by rw [e]; exact isRef_mk hr rfl hs⟩

theorem ropen_c (W0 : World) (q : Nat) (d : DS) (hw : WF d) (hn1 : 1 ≤ d.secs.length) (hsn : d.since.length < 1099511627776) : Con Try.prog W0 43 #[.pointer (some ⟨q, 0, none⟩)] [isRef q d] (X := Nat) (fun _ => True) (openV (openD d)) (fun j => openRP (openD d) j q d) := by
 have hm := hw.l.len
 obtain ⟨secs, since, down, count, cut⟩ := d
 refine Con.ref (fun bd cd sv lv bv hr => ?_)
 cases down
 · exact ropen_up W0 q bd cd secs since count sv lv bv cut hr hw hn1 hm hsn
 · exact ropen_down W0 q bd cd secs since count sv lv bv cut hr

theorem rget_dead (W0 : World) (jr : Nat) (t : ByteArray) (n : Int) (q bd cd : Nat) (secs : List ByteArray) (since : List (Nat × ByteArray)) (count : Nat) (sv : Value) (lv bv : Int) (cut : Option (Nat × Int)) (down : Bool) (hr : refR lv bv cut) :
  Con Try.prog W0 44 #[Value.pointer (some ⟨jr, 0, none⟩)] [pt jr 79 [Value.pointer (some ⟨q, 0, none⟩), Value.string t, Value.int .i64 n, Value.bool true], pt q 63 [Value.slice (some ⟨bd, 0, none⟩) secs.length cd, sv, Value.bool down, Value.int .i64 lv, Value.int .i64 bv, Value.int .i64 ((count : Nat) : Int)], slp 9 1 bd cd (secs.map Value.string), sl 86 2 sv since.length (flat since)] (X := Unit) (fun _ => True) (fun _ => .tuple #[.string ⟨#[]⟩, .int .i64 6]) (fun _ => [isRJ jr q ⟨t, n, true⟩, isRef q ⟨secs, since, down, count, cut⟩]) := by
 refine Con.of (args := [Value.pointer (some ⟨jr, 0, none⟩)]) Try.func44 rfl Try.ntmps44 rfl (fun F => ?_)
 show Wc _ W0 _ _ _ _ _ ((pt jr 79 [Value.pointer (some ⟨q, 0, none⟩), Value.string t, Value.int .i64 n, Value.bool true]) :: (pt q 63 [Value.slice (some ⟨bd, 0, none⟩) secs.length cd, sv, Value.bool down, Value.int .i64 lv, Value.int .i64 bv, Value.int .i64 ((count : Nat) : Int)]) :: (slp 9 1 bd cd (secs.map Value.string)) :: (sl 86 2 sv since.length (flat since)) :: F)
 refine Wc.seq ?_
 refine Wc.region ?_
 refine Wl.q (v := Value.string (⟨#[]⟩)) (q_assign rfl) ?_
 refine Wl.q (v := Value.int .i64 0) (q_assign rfl) ?_
 refine Wl.done ?_
 refine Wx.go ?_
 refine Wc.seq ?_
 refine Wc.seq ?_
 refine Wc.region ?_
 refine Wl.q (v := Value.pointer (some ⟨jr, 0, none⟩)) (q_move rfl) ?_
 refine Wl.q (v := Value.pointer (some ⟨jr, 0, none⟩)) (q_nil_ptr rfl) ?_
 refine Wl.q (v := Value.pointer (some ⟨jr, 3, none⟩)) (q_field (m := 3) fo_79_3 rfl rfl) ?_
 refine Wl.q (v := Value.bool true) (q_load sc_4 rfl (.cel (i := 0) rfl rfl)) ?_
 refine Wl.q (v := Value.bool true) (q_move rfl) ?_
 refine Wl.no ?_
 refine Wl.no ?_
 refine Wl.no ?_
 refine Wl.no ?_
 refine Wl.no ?_
 refine Wl.no ?_
 refine Wl.no ?_
 refine Wl.q (v := Value.bool true) (q_pick (t := true) rfl rfl) ?_
 refine Wl.done ?_
 refine Wx.go ?_
 refine Wc.yes rfl ?_
 refine Wc.seq ?_
 refine Wc.region ?_
 refine Wl.q (v := Value.string (⟨#[]⟩)) (q_assign rfl) ?_
 refine Wl.q (v := Value.int .i64 6) (q_assign rfl) ?_
 refine Wl.done ?_
 refine Wx.go ?_
 refine Wc.ret ?_
 refine Wx.thenRet ?_
 refine Wx.fin2 rfl (.inl rfl) (fun w hs => ?_)
 exact ⟨(), trivial, rfl, st_swap (isRef_mk hr rfl (st_pull [1, 1, 1, 0] (hs)))⟩

theorem rget_down (W0 : World) (jr : Nat) (t : ByteArray) (n : Int) (q bd cd : Nat) (secs : List ByteArray) (since : List (Nat × ByteArray)) (count : Nat) (sv : Value) (lv bv : Int) (cut : Option (Nat × Int)) (hr : refR lv bv cut)  :
  Con Try.prog W0 44 #[Value.pointer (some ⟨jr, 0, none⟩)] [pt jr 79 [Value.pointer (some ⟨q, 0, none⟩), Value.string t, Value.int .i64 n, Value.bool false], pt q 63 [Value.slice (some ⟨bd, 0, none⟩) secs.length cd, sv, Value.bool true, Value.int .i64 lv, Value.int .i64 bv, Value.int .i64 ((count : Nat) : Int)], slp 9 1 bd cd (secs.map Value.string), sl 86 2 sv since.length (flat since)] (X := Unit) (fun _ => True) (fun _ => .tuple #[.string ⟨#[]⟩, .int .i64 6]) (fun _ => [isRJ jr q ⟨t, n, false⟩, isRef q (⟨secs, since, true, count, cut⟩ : DS)]) := by
 refine Con.of (args := [Value.pointer (some ⟨jr, 0, none⟩)]) Try.func44 rfl Try.ntmps44 rfl (fun F => ?_)
 show Wc _ W0 _ _ _ _ _ ((pt jr 79 [Value.pointer (some ⟨q, 0, none⟩), Value.string t, Value.int .i64 n, Value.bool false]) :: (pt q 63 [Value.slice (some ⟨bd, 0, none⟩) secs.length cd, sv, Value.bool true, Value.int .i64 lv, Value.int .i64 bv, Value.int .i64 ((count : Nat) : Int)]) :: (slp 9 1 bd cd (secs.map Value.string)) :: (sl 86 2 sv since.length (flat since)) :: F)
 refine Wc.seq ?_
 refine Wc.region ?_
 refine Wl.q (v := Value.string (⟨#[]⟩)) (q_assign rfl) ?_
 refine Wl.q (v := Value.int .i64 0) (q_assign rfl) ?_
 refine Wl.done ?_
 refine Wx.go ?_
 refine Wc.seq ?_
 refine Wc.seq ?_
 refine Wc.region ?_
 refine Wl.q (v := Value.pointer (some ⟨jr, 0, none⟩)) (q_move rfl) ?_
 refine Wl.q (v := Value.pointer (some ⟨jr, 0, none⟩)) (q_nil_ptr rfl) ?_
 refine Wl.q (v := Value.pointer (some ⟨jr, 3, none⟩)) (q_field (m := 3) fo_79_3 rfl rfl) ?_
 refine Wl.q (v := Value.bool false) (q_load sc_4 rfl (.cel (i := 0) rfl rfl)) ?_
 refine Wl.q (v := Value.bool false) (q_move rfl) ?_
 refine Wl.q (v := Value.pointer (some ⟨jr, 0, none⟩)) (q_move rfl) ?_
 refine Wl.q (v := Value.pointer (some ⟨jr, 0, none⟩)) (q_nil_ptr rfl) ?_
 refine Wl.q (v := Value.pointer (some ⟨jr, 0, none⟩)) (q_field (m := 0) fo_79_0 rfl rfl) ?_
 refine Wl.q (v := Value.pointer (some ⟨q, 0, none⟩)) (q_load sc_52 rfl (.cel (i := 0) rfl rfl)) ?_
 refine Wl.q (v := Value.pointer (some ⟨q, 0, none⟩)) (q_nil_ptr rfl) ?_
 refine Wl.q (v := Value.pointer (some ⟨q, 2, none⟩)) (q_field (m := 2) fo_63_2 rfl rfl) ?_
 refine Wl.q (v := Value.bool true) (q_load sc_4 rfl (.cel (i := 1) rfl rfl)) ?_
 refine Wl.q (v := Value.bool true) (q_pick (t := false) rfl rfl) ?_
 refine Wl.done ?_
 refine Wx.go ?_
 refine Wc.yes rfl ?_
 refine Wc.seq ?_
 refine Wc.region ?_
 refine Wl.q (v := Value.string (⟨#[]⟩)) (q_assign rfl) ?_
 refine Wl.q (v := Value.int .i64 6) (q_assign rfl) ?_
 refine Wl.done ?_
 refine Wx.go ?_
 refine Wc.ret ?_
 refine Wx.thenRet ?_
 refine Wx.fin2 rfl (.inl rfl) (fun w hs => ?_)
 exact ⟨(), trivial, rfl, st_swap (isRef_mk hr rfl (st_pull [1, 1, 1, 0] (hs)))⟩

theorem rget_on (W0 : World) (jr : Nat) (t : ByteArray) (n : Int) (q bd cd : Nat) (secs : List ByteArray) (since : List (Nat × ByteArray)) (count : Nat) (sv : Value) (lv bv : Int) (cut : Option (Nat × Int)) (hr : refR lv bv cut)  :
  Con Try.prog W0 44 #[Value.pointer (some ⟨jr, 0, none⟩)] [pt jr 79 [Value.pointer (some ⟨q, 0, none⟩), Value.string t, Value.int .i64 n, Value.bool false], pt q 63 [Value.slice (some ⟨bd, 0, none⟩) secs.length cd, sv, Value.bool false, Value.int .i64 lv, Value.int .i64 bv, Value.int .i64 ((count : Nat) : Int)], slp 9 1 bd cd (secs.map Value.string), sl 86 2 sv since.length (flat since)] (X := Unit) (fun _ => True) (fun _ => .tuple #[.string t, .int .i64 0]) (fun _ => [isRJ jr q ⟨t, n, false⟩, isRef q (⟨secs, since, false, count, cut⟩ : DS)]) := by
 refine Con.of (args := [Value.pointer (some ⟨jr, 0, none⟩)]) Try.func44 rfl Try.ntmps44 rfl (fun F => ?_)
 show Wc _ W0 _ _ _ _ _ ((pt jr 79 [Value.pointer (some ⟨q, 0, none⟩), Value.string t, Value.int .i64 n, Value.bool false]) :: (pt q 63 [Value.slice (some ⟨bd, 0, none⟩) secs.length cd, sv, Value.bool false, Value.int .i64 lv, Value.int .i64 bv, Value.int .i64 ((count : Nat) : Int)]) :: (slp 9 1 bd cd (secs.map Value.string)) :: (sl 86 2 sv since.length (flat since)) :: F)
 refine Wc.seq ?_
 refine Wc.region ?_
 refine Wl.q (v := Value.string (⟨#[]⟩)) (q_assign rfl) ?_
 refine Wl.q (v := Value.int .i64 0) (q_assign rfl) ?_
 refine Wl.done ?_
 refine Wx.go ?_
 refine Wc.seq ?_
 refine Wc.seq ?_
 refine Wc.region ?_
 refine Wl.q (v := Value.pointer (some ⟨jr, 0, none⟩)) (q_move rfl) ?_
 refine Wl.q (v := Value.pointer (some ⟨jr, 0, none⟩)) (q_nil_ptr rfl) ?_
 refine Wl.q (v := Value.pointer (some ⟨jr, 3, none⟩)) (q_field (m := 3) fo_79_3 rfl rfl) ?_
 refine Wl.q (v := Value.bool false) (q_load sc_4 rfl (.cel (i := 0) rfl rfl)) ?_
 refine Wl.q (v := Value.bool false) (q_move rfl) ?_
 refine Wl.q (v := Value.pointer (some ⟨jr, 0, none⟩)) (q_move rfl) ?_
 refine Wl.q (v := Value.pointer (some ⟨jr, 0, none⟩)) (q_nil_ptr rfl) ?_
 refine Wl.q (v := Value.pointer (some ⟨jr, 0, none⟩)) (q_field (m := 0) fo_79_0 rfl rfl) ?_
 refine Wl.q (v := Value.pointer (some ⟨q, 0, none⟩)) (q_load sc_52 rfl (.cel (i := 0) rfl rfl)) ?_
 refine Wl.q (v := Value.pointer (some ⟨q, 0, none⟩)) (q_nil_ptr rfl) ?_
 refine Wl.q (v := Value.pointer (some ⟨q, 2, none⟩)) (q_field (m := 2) fo_63_2 rfl rfl) ?_
 refine Wl.q (v := Value.bool false) (q_load sc_4 rfl (.cel (i := 1) rfl rfl)) ?_
 refine Wl.q (v := Value.bool false) (q_pick (t := false) rfl rfl) ?_
 refine Wl.done ?_
 refine Wx.go ?_
 refine Wc.no rfl ?_
 refine Wc.skip ?_
 refine Wx.go ?_
 refine Wc.seq ?_
 refine Wc.region ?_
 refine Wl.q (v := Value.pointer (some ⟨jr, 0, none⟩)) (q_move rfl) ?_
 refine Wl.q (v := Value.pointer (some ⟨jr, 0, none⟩)) (q_nil_ptr rfl) ?_
 refine Wl.q (v := Value.pointer (some ⟨jr, 1, none⟩)) (q_field (m := 1) fo_79_1 rfl rfl) ?_
 refine Wl.q (v := Value.string t) (q_load sc_9 rfl (.cel (i := 0) rfl rfl)) ?_
 refine Wl.q (v := Value.string t) (q_assign rfl) ?_
 refine Wl.q (v := Value.int .i64 0) (q_assign rfl) ?_
 refine Wl.done ?_
 refine Wx.go ?_
 refine Wc.ret ?_
 refine Wx.fin2 rfl (.inl rfl) (fun w hs => ?_)
 exact ⟨(), trivial, rfl, st_swap (isRef_mk hr rfl (st_pull [1, 1, 1, 0] (hs)))⟩

theorem Con.ref2 {W0 : World} {f : FuncId} {args : Array Value} {q : Nat} {d : DS} {a : HP} {X : Type} {φ : X → Prop} {val : X → Value} {post : X → List HP}
  (h : ∀ bd cd sv lv bv, refR lv bv d.cut → Con Try.prog W0 f args [a, pt q 63 [.slice (some ⟨bd, 0, none⟩) d.secs.length cd, sv, .bool d.down, .int .i64 lv, .int .i64 bv, .int .i64 (d.count : Int)], slp 9 1 bd cd (d.secs.map Value.string), sl 86 2 sv d.since.length (flat d.since)] φ val post) :
  Con Try.prog W0 f args [a, isRef q d] φ val post := fun w F hs => by
 have hs := st_swap hs
 obtain ⟨bd, hs⟩ := st_ex.1 hs
 obtain ⟨cd, hs⟩ := st_ex.1 hs
 obtain ⟨sv, hs⟩ := st_ex.1 hs
 obtain ⟨lv, hs⟩ := st_ex.1 hs
 obtain ⟨bv, hs⟩ := st_ex.1 hs
 obtain ⟨hr, hs⟩ := st_pr.1 (st_grp.1 hs)
 exact h bd cd sv lv bv hr w F (st_pull [3] hs)
theorem rget_c (W0 : World) (jr q : Nat) (s : JS) (d : DS) : Con Try.prog W0 44 #[.pointer (some ⟨jr, 0, none⟩)] [isRJ jr q s, isRef q d] (X := Unit) (fun _ => True) (fun _ => .tuple #[.string (s.get d).1, .int .i64 (s.get d).2]) (fun _ => [isRJ jr q s, isRef q d]) := by
  obtain ⟨t, n, dead⟩ := s
  obtain ⟨secs, since, down, count, cut⟩ := d
  refine Con.ref2 (fun bd cd sv lv bv hr => ?_)
  cases dead
  · cases down
    · exact rget_on W0 jr t n q bd cd secs since count sv lv bv cut hr
    · exact rget_down W0 jr t n q bd cd secs since count sv lv bv cut hr
  · have e : ((⟨t, n, true⟩ : JS).get ⟨secs, since, down, count, cut⟩) = (ByteArray.empty, 6) := if_pos (.inl rfl)
    rw [e]
    exact rget_dead W0 jr t n q bd cd secs since count sv lv bv cut down hr

theorem rjroom_o (W0 : World) (jr : Nat) (t : ByteArray) (n : Int) (q bd cd : Nat) (secs : List ByteArray) (since : List (Nat × ByteArray)) (count : Nat) (sv : Value) (lv bv : Int) (cut : Option (Nat × Int)) (down dead : Bool) (hr : refR lv bv cut) (hn1 : 1 ≤ secs.length) (hm : secs.length ≤ 4096) :
  Con Try.prog W0 45 #[Value.pointer (some ⟨jr, 0, none⟩)] [pt jr 79 [Value.pointer (some ⟨q, 0, none⟩), Value.string t, Value.int .i64 n, Value.bool dead], pt q 63 [Value.slice (some ⟨bd, 0, none⟩) secs.length cd, sv, Value.bool down, Value.int .i64 lv, Value.int .i64 bv, Value.int .i64 ((count : Nat) : Int)], slp 9 1 bd cd (secs.map Value.string), sl 86 2 sv since.length (flat since)] (X := Unit) (fun _ => True) (fun _ => .int .i64 ((half secs * 64 : Nat) : Int)) (fun _ => [pt jr 79 [Value.pointer (some ⟨q, 0, none⟩), Value.string t, Value.int .i64 n, Value.bool dead], pt q 63 [Value.slice (some ⟨bd, 0, none⟩) secs.length cd, sv, Value.bool down, Value.int .i64 lv, Value.int .i64 bv, Value.int .i64 ((count : Nat) : Int)], slp 9 1 bd cd (secs.map Value.string), sl 86 2 sv since.length (flat since)]) := by
 refine Con.of (args := [Value.pointer (some ⟨jr, 0, none⟩)]) Try.func45 rfl Try.ntmps45 rfl (fun F => ?_)
 have hh : half secs ≤ 2047 := by unfold half; omega
 show Wc _ W0 _ _ _ _ _ ((pt jr 79 [Value.pointer (some ⟨q, 0, none⟩), Value.string t, Value.int .i64 n, Value.bool dead]) :: (pt q 63 [Value.slice (some ⟨bd, 0, none⟩) secs.length cd, sv, Value.bool down, Value.int .i64 lv, Value.int .i64 bv, Value.int .i64 ((count : Nat) : Int)]) :: (slp 9 1 bd cd (secs.map Value.string)) :: (sl 86 2 sv since.length (flat since)) :: F)
 refine Wc.seq ?_
 refine Wc.region ?_
 refine Wl.q (v := Value.int .i64 0) (q_assign rfl) ?_
 refine Wl.done ?_
 refine Wx.go ?_
 refine Wc.seq ?_
 refine Wc.region ?_
 refine Wl.q (v := Value.pointer (some ⟨jr, 0, none⟩)) (q_move rfl) ?_
 refine Wl.q (v := Value.pointer (some ⟨jr, 0, none⟩)) (q_nil_ptr rfl) ?_
 refine Wl.q (v := Value.pointer (some ⟨jr, 0, none⟩)) (q_field (m := 0) fo_79_0 rfl rfl) ?_
 refine Wl.q (v := Value.pointer (some ⟨q, 0, none⟩)) (q_load sc_52 rfl (.cel (i := 0) rfl rfl)) ?_
 refine Wl.q (v := Value.pointer (some ⟨q, 0, none⟩)) (q_nil_ptr rfl) ?_
 refine Wl.q (v := Value.pointer (some ⟨q, 0, none⟩)) (q_field (m := 0) fo_63_0 rfl rfl) ?_
 refine Wl.q (v := Value.slice (some ⟨bd, 0, none⟩) secs.length cd) (q_load sc_33 rfl (.cel (i := 1) rfl rfl)) ?_
 refine Wl.q (v := Value.int .i64 ((secs.length : Nat) : Int)) (q_len_slice Try.underlying33 rfl) ?_
 refine Wl.e (e_call (F := (pt jr 79 [Value.pointer (some ⟨q, 0, none⟩), Value.string t, Value.int .i64 n, Value.bool dead]) :: (pt q 63 [Value.slice (some ⟨bd, 0, none⟩) secs.length cd, sv, Value.bool down, Value.int .i64 lv, Value.int .i64 bv, Value.int .i64 ((count : Nat) : Int)]) :: (slp 9 1 bd cd (secs.map Value.string)) :: (sl 86 2 sv since.length (flat since)) :: F) (args := [Value.int .i64 ((secs.length : Nat) : Int)]) Try.call63 rfl (rroom_c W0 secs hn1 hm)) (fun _ _ => ?_)
 refine Wl.imp (L' := (pt jr 79 [Value.pointer (some ⟨q, 0, none⟩), Value.string t, Value.int .i64 n, Value.bool dead]) :: (pt q 63 [Value.slice (some ⟨bd, 0, none⟩) secs.length cd, sv, Value.bool down, Value.int .i64 lv, Value.int .i64 bv, Value.int .i64 ((count : Nat) : Int)]) :: (slp 9 1 bd cd (secs.map Value.string)) :: (sl 86 2 sv since.length (flat since)) :: F) (fun _ h => h) ?_
 refine Wl.q (v := Value.int .i64 (((half secs) * 64 : Nat) : Int)) (q_mul (c := (((half secs) * 64 : Nat) : Int)) rfl rfl (by rw [wrap_i64] <;> omega)) ?_
 refine Wl.q (v := Value.int .i64 (((half secs) * 64 : Nat) : Int)) (q_assign rfl) ?_
 refine Wl.done ?_
 refine Wx.go ?_
 refine Wc.ret ?_
 refine Wx.fin1 rfl (.inl rfl) (fun w hs => ?_)
 exact ⟨(), trivial, rfl, hs⟩

theorem rjroom_c (W0 : World) (jr q : Nat) (s : JS) (d : DS) (hn1 : 1 ≤ d.secs.length) (hm : d.secs.length ≤ 4096) : Con Try.prog W0 45 #[.pointer (some ⟨jr, 0, none⟩)] [isRJ jr q s, isRef q d] (X := Unit) (fun _ => True) (fun _ => .int .i64 ((half d.secs * 64 : Nat) : Int)) (fun _ => [isRJ jr q s, isRef q d]) := by
 obtain ⟨t, n, dead⟩ := s
 obtain ⟨secs, since, down, count, cut⟩ := d
 refine Con.ref2 (fun bd cd sv lv bv hr => ?_)
 exact Con.post (rjroom_o W0 jr t n q bd cd secs since count sv lv bv cut down dead hr hn1 hm) (fun _ w F h => st_swap (isRef_mk hr rfl (st_pull [1, 1, 1] h)))

end Go.Proofs.Ytnhejdnigblnoaa
