/- The wire: what is taken is what was written, in plain data. -/
import Derived.Test.YtlbanhhdoiidnaaWrR
namespace Go.Wr
open Go Go.SL

theorem get_list (s : ByteArray) (i : Nat) : s[i]? = s.data.toList[i]? := by
  by_cases h : i < s.size
  · rw [getElem?_pos s i h, List.getElem?_eq_getElem (by simpa using h)]; rfl
  · rw [getElem?_neg s i h, List.getElem?_eq_none (by simp only [Array.length_toList]; exact Nat.le_of_not_lt h)]
theorem size_list (s : ByteArray) : s.data.toList.length = s.size := by rw [Array.length_toList]; rfl
theorem drop_take {α : Type} {l : List α} {i n : Nat} {c : α} (h : l[i]? = some c) : (l.drop i).take (n + 1) = c :: (l.drop (i + 1)).take n := by
  obtain ⟨hl, he⟩ := List.getElem?_eq_some_iff.1 h
  rw [List.drop_eq_getElem_cons hl, List.take_succ_cons, he]
theorem pow_nx {z c i : Nat} (hz : z < 128 ^ i) : z + c % 128 * 128 ^ i < 128 ^ (i + 1) := by
  have : c % 128 * 128 ^ i ≤ 127 * 128 ^ i := Nat.mul_le_mul_right _ (by omega)
  rw [Nat.pow_succ]; omega
theorem mul_nx (z m y P : Nat) : z + m * P + y * (P * 128) = z + (m + 128 * y) * P := by
  rw [Nat.add_mul, Nat.mul_comm P 128, ← Nat.mul_assoc, Nat.mul_comm y 128]; omega
theorem dec_inv {s : ByteArray} {a : Nat} : ∀ (f i z : Nat) {p : Nat × Nat}, dec s a f i z = some p → i + f = 10 → z < 128 ^ i →
    ∃ y, p.1 = z + y * 128 ^ i ∧ (s.data.toList.drop (a + i)).take (p.2 - (a + i)) = enc y ∧ (0 < i → 0 < y) ∧ a + i < p.2 ∧ p.1 < 18446744073709551616
  | 0, _, _, _, h, _, _ => by cases h
  | f + 1, i, z, p, h, hf, hz => by
    rw [dec] at h
    split at h
    · cases h
    rename_i c hc
    rw [get_list] at hc
    split at h
    · cases h
    rename_i hb
    have hc8 : c.toNat < 256 := c.toNat_lt
    split at h
    · rename_i hlt
      cases h
      refine ⟨c.toNat, rfl, ?_, fun h => by omega, by simp only; omega, (or7 hz (by omega) (fun h => by omega) hlt).1⟩
      rw [enc_lt hlt, show (a + i + 1) - (a + i) = 0 + 1 by omega, drop_take hc, UInt8.ofNat_toNat]
      rfl
    · rename_i hge
      obtain ⟨y, h1, h2, h3, h4, h5⟩ := dec_inv f (i + 1) _ h (by omega) (pow_nx hz)
      have hy := h3 (by omega)
      refine ⟨c.toNat % 128 + 128 * y, ?_, ?_, fun _ => by omega, by omega, h5⟩
      · rw [h1, Nat.pow_succ, mul_nx]
      · rw [enc_ge (by omega), show (c.toNat % 128 + 128 * y) % 128 + 128 = c.toNat by omega, show (c.toNat % 128 + 128 * y) / 128 = y by omega, UInt8.ofNat_toNat, ← h2, show p.2 - (a + i) = (p.2 - (a + (i + 1))) + 1 by omega, drop_take hc]
        rfl
theorem un_range {Z : Nat} (h : Z < 18446744073709551616) : -9223372036854775808 ≤ un Z ∧ un Z ≤ 9223372036854775807 := by
  unfold un; split <;> omega
theorem takeNum_enc {s : ByteArray} {a : Nat} {p : Int × Nat} (h : takeNum s a = some p) : (s.data.toList.drop a).take (p.2 - a) = enc (zz p.1) ∧ -9223372036854775808 ≤ p.1 ∧ p.1 ≤ 9223372036854775807 := by
  unfold takeNum at h
  cases hd : dec s a 10 0 0 with
  | none => rw [hd] at h; cases h
  | some q =>
    rw [hd] at h; cases h
    obtain ⟨y, h1, h2, _, _, h5⟩ := dec_inv 10 0 0 hd rfl (by decide)
    simp only [Nat.pow_zero, Nat.mul_one, Nat.zero_add] at h1
    refine ⟨?_, un_range h5⟩
    simp only
    rw [zz_un, h1]; exact h2
theorem dec_put {s : ByteArray} {a : Nat} : ∀ (f i z y : Nat) (rest : List UInt8), i + f = 10 → (0 < i → 0 < y) → y * 128 ^ i < 18446744073709551616 → s.data.toList.drop (a + i) = enc y ++ rest →
    dec s a f i z = some (z + y * 128 ^ i, a + i + (enc y).length)
  | 0, i, z, y, rest, hf, hy, hb, _ => by
    obtain rfl : i = 10 := by omega
    have : 1 * 128 ^ 10 ≤ y * 128 ^ 10 := Nat.mul_le_mul_right _ (hy (by decide))
    have e : (128 : Nat) ^ 10 = 1180591620717411303424 := by decide
    omega
  | f + 1, i, z, y, rest, hf, hy, hb, hl => by
    have hget : ∀ c r, s.data.toList.drop (a + i) = c :: r → s[a + i]? = some c := fun c r h => by
      rw [get_list]
      have := congrArg (fun l : List UInt8 => l[0]?) h
      simpa using this
    have h9 : i = 9 → y ≤ 1 := fun h => by
      subst h
      have e : (128 : Nat) ^ 9 = 9223372036854775808 := by decide
      omega
    by_cases hlt : y < 128
    · rw [enc_lt hlt] at hl ⊢
      have ht : (UInt8.ofNat y).toNat = y := UInt8.toNat_ofNat_of_lt' (by simp only [UInt8.size]; omega)
      rw [dec, hget _ _ hl]
      simp only [ht]
      rw [if_neg (by omega), if_pos hlt]; rfl
    · rw [enc_ge hlt] at hl ⊢
      have ht : (UInt8.ofNat (y % 128 + 128)).toNat = y % 128 + 128 := UInt8.toNat_ofNat_of_lt' (by simp only [UInt8.size]; omega)
      rw [dec, hget _ _ hl]
      simp only [ht]
      rw [if_neg (by omega), if_neg (by omega), show (y % 128 + 128) % 128 = y % 128 by omega]
      have hm : y % 128 * 128 ^ i + y / 128 * (128 ^ i * 128) = y * 128 ^ i := by
        have := mul_nx 0 (y % 128) (y / 128) (128 ^ i)
        rw [show y % 128 + 128 * (y / 128) = y by omega] at this
        simpa using this
      have hd : s.data.toList.drop (a + (i + 1)) = enc (y / 128) ++ rest := by
        have := congrArg (List.drop 1) hl
        rw [List.drop_drop] at this
        simpa [Nat.add_assoc] using this
      rw [dec_put f (i + 1) _ (y / 128) rest (by omega) (fun _ => by omega) (by rw [Nat.pow_succ]; omega) hd, Nat.pow_succ]
      simp only [List.length_cons, Option.some.injEq, Prod.mk.injEq]
      omega
theorem takeNum_put {s : ByteArray} {a : Nat} {n : Int} {rest : List UInt8} (h1 : -9223372036854775808 ≤ n) (h2 : n ≤ 9223372036854775807) (h : s.data.toList.drop a = enc (zz n) ++ rest) : takeNum s a = some (n, a + (enc (zz n)).length) := by
  rw [takeNum, dec_put 10 0 0 (zz n) rest rfl (fun h => by omega) (by have := zz_lt h1 h2; simpa using this) h]
  simp [un_zz]

/-! ### What is taken is written so -/
theorem ge_ok {α : Type} {o : Option (α × Nat)} (h : ge o = 0) : ∃ p, o = some p := by
  cases o with
  | none => cases h
  | some p => exact ⟨p, rfl⟩
theorem gn_bad {α : Type} {o : Option (α × Nat)} {a : Nat} (h : ¬ ge o = 0) : gn a o = a := by
  cases o with
  | none => rfl
  | some p => exact absurd rfl h
theorem ext_list (s : ByteArray) (b : Nat) : (s.extract 0 b).data.toList = s.data.toList.take b := by
  rw [Lib.extract_data]; simp
theorem ba_list (s : ByteArray) : ba s.data.toList = s := by simp [ba]
/-- What a thing's bytes say, where it was taken. -/
def OnceI (s : ByteArray) (x : ItemR) (b : Nat) : Prop := (itemW x = (0, s.data.toList.take b) ∧ b ≤ s.size) ∧ -9223372036854775808 ≤ x.n ∧ x.n ≤ 9223372036854775807
theorem byteW_ok {c : UInt8} : byteW ((c.toNat : Nat) : Int) = (0, [c]) := by
  have := c.toNat_lt
  rw [byteW, if_neg (by omega)]
  simp
theorem take_one {s : ByteArray} {c : UInt8} (h : s[0]? = some c) : s.data.toList.take 1 = [c] := by
  rw [get_list] at h
  have := drop_take (n := 0) h
  simpa using this
theorem once_byte {s : ByteArray} {k : Int} (hk : k = 0) (h : ge (takeByte s 0) = 0) : OnceI s ⟨k, ((gv 0 (takeByte s 0) : Nat) : Int), ⟨#[]⟩⟩ (gn 0 (takeByte s 0)) := by
  subst hk
  unfold takeByte at h ⊢
  rcases hc : s[0]? with _ | c
  · rw [hc] at h; cases h
  · have h8 := c.toNat_lt
    refine ⟨⟨?_, get_lt hc⟩, by simp only [gv]; omega, by simp only [gv]; omega⟩
    simp only [gv, gn, itemW, if_true, byteW_ok, take_one hc, Nat.zero_add]
theorem once_flag {s : ByteArray} {k : Int} {b : Bool} (hk0 : ¬ k = 0) (hk1 : ¬ k = 1) (hk : k = 2) (h : ge (takeFlag s 0) = 0) (hb : gv false (takeFlag s 0) = b) : OnceI s ⟨k, if b then 1 else 0, ⟨#[]⟩⟩ (gn 0 (takeFlag s 0)) := by
  rcases hc : s[0]? with _ | c
  · have e : takeFlag s 0 = none := by rw [takeFlag, hc]
    rw [e] at h; cases h
  by_cases h2 : c.toNat < 2
  · have e : takeFlag s 0 = some (decide (c.toNat = 1), 1) := by rw [takeFlag, hc]; exact if_pos h2
    rw [e] at hb ⊢
    simp only [gv, gn] at hb ⊢
    subst hb
    have hx : byteW (if (if decide (c.toNat = 1) = true then (1 : Int) else 0) > 0 then 1 else 0) = (0, [c]) := by
      rw [← byteW_ok (c := c)]
      by_cases h1 : c.toNat = 1
      · simp [h1]
      · have : c.toNat = 0 := by omega
        simp [this]
    refine ⟨⟨?_, get_lt hc⟩, by simp only; split <;> omega, by simp only; split <;> omega⟩
    unfold itemW
    rw [if_neg hk0, if_neg hk1, if_pos hk, take_one hc]
    exact hx
  · have e : takeFlag s 0 = none := by rw [takeFlag, hc]; exact if_neg h2
    rw [e] at h; cases h
theorem once_num {s : ByteArray} {k : Int} (hk0 : ¬ k = 0) (hk : k = 1) (h : ge (takeNum s 0) = 0) : OnceI s ⟨k, gv 0 (takeNum s 0), ⟨#[]⟩⟩ (gn 0 (takeNum s 0)) := by
  obtain ⟨p, hp⟩ := ge_ok h
  have h1 := takeNum_enc hp
  rw [hp]
  refine ⟨⟨?_, (takeNum_le hp).1⟩, h1.2⟩
  unfold itemW
  rw [if_neg hk0, if_pos hk]
  have := h1.1
  rw [List.drop_zero, Nat.sub_zero] at this
  simp only [gv, gn, ← this]
theorem takeList_enc {s : ByteArray} {a : Nat} {p : Nat × Nat} (h : takeList s a = some p) : (s.data.toList.drop a).take (p.2 - a) = enc (zz (p.1 : Int)) := (takeNum_enc (takeList_of h)).1
theorem once_list {s : ByteArray} {k : Int} (hk0 : ¬ k = 0) (hk1 : ¬ k = 1) (hk2 : ¬ k = 2) (hk3 : ¬ k = 3) (h : ge (takeList s 0) = 0) : OnceI s ⟨k, ((gv 0 (takeList s 0) : Nat) : Int), ⟨#[]⟩⟩ (gn 0 (takeList s 0)) := by
  obtain ⟨p, hp⟩ := ge_ok h
  have h1 := takeList_enc hp
  have h2 := takeList_le hp
  rw [hp]
  simp only [gv, gn]
  refine ⟨⟨?_, h2.1⟩, by simp only; omega, by simp only; omega⟩
  unfold itemW
  rw [if_neg hk0, if_neg hk1, if_neg hk2, if_neg hk3, listW, if_neg (by simp only; omega), if_neg (by simp only; omega)]
  rw [List.drop_zero, Nat.sub_zero] at h1
  rw [← h1]
theorem once_text {s : ByteArray} {k : Int} (hk0 : ¬ k = 0) (hk1 : ¬ k = 1) (hk2 : ¬ k = 2) (hk : k = 3) (h : ge (takeText s 0) = 0) : OnceI s ⟨k, 0, gv ⟨#[]⟩ (takeText s 0)⟩ (gn 0 (takeText s 0)) := by
  unfold takeText at h ⊢
  rcases hp : takeList s 0 with _ | p
  · rw [hp] at h; cases h
  rw [hp] at h
  simp only at h ⊢
  split at h
  · rename_i hn
    rw [if_pos hn]
    have h1 := takeList_enc hp
    have h2 := takeList_le hp
    simp only [gv, gn]
    have hsz : (s.extract p.2 (p.2 + p.1)).size = p.1 := by rw [ByteArray.size_extract]; omega
    refine ⟨⟨?_, hn⟩, by simp only; omega, by simp only; omega⟩
    unfold itemW
    rw [if_neg hk0, if_neg hk1, if_neg hk2, if_pos hk, textW]
    simp only
    rw [if_neg (by omega), hsz, ← h1, Lib.extract_data, List.drop_zero, Nat.sub_zero, show p.2 + p.1 - p.2 = p.1 by omega, List.take_add]
  · cases h
theorem once_eq {s : ByteArray} {x : ItemR} {b : Nat} (h : OnceI s x b) : (⟨([] ++ (itemW x).2).toArray⟩ : ByteArray) = s.extract 0 b := by
  rw [h.1.1, List.nil_append, ← ext_list]

/-! ### What was written is taken so -/
def okI (x : ItemR) : Bool := decide ((itemW x).1 = 0)
theorem bytesW_filter (l : List ItemR) : bytesW (l.filter okI) = bytesW l := by
  induction l with
  | nil => rfl
  | cons x l ih =>
    by_cases h : (itemW x).1 = 0
    · rw [List.filter_cons_of_pos (by simpa [okI] using h)]
      simp only [bytesW, List.flatMap_cons] at ih ⊢; rw [ih]
    · rw [List.filter_cons_of_neg (by simpa [okI] using h)]
      simp only [bytesW, List.flatMap_cons] at ih ⊢; rw [ih, itemW_bad h, List.nil_append]
theorem filt_snoc {l : List ItemR} {k : Nat} {o : ItemR} (hg : l[k]? = some o) (h : (itemW o).1 = 0) : (l.take (k + 1)).filter okI = (l.take k).filter okI ++ [o] := by
  rw [take_snoc'' hg, List.filter_append, List.filter_cons_of_pos (by simpa [okI] using h)]; rfl
theorem filt_same {l : List ItemR} {k : Nat} {o : ItemR} (hg : l[k]? = some o) (h : ¬ (itemW o).1 = 0) : (l.take (k + 1)).filter okI = (l.take k).filter okI := by
  rw [take_snoc'' hg, List.filter_append, List.filter_cons_of_neg (by simpa [okI] using h)]; simp
theorem filt_len {l : List ItemR} {k : Nat} : ((l.take k).filter okI).length ≤ k := Nat.le_trans (List.length_filter_le _ _) (by rw [List.length_take]; omega)
theorem bytes_at {T : List ItemR} {k : Nat} {o : ItemR} (hg : T[k]? = some o) : ∃ rest, (ba (bytesW T)).data.toList.drop (bytesW (T.take k)).length = (itemW o).2 ++ rest := by
  refine ⟨bytesW (T.drop (k + 1)), ?_⟩
  obtain ⟨hl, he⟩ := List.getElem?_eq_some_iff.1 hg
  have e : T = T.take k ++ o :: T.drop (k + 1) := by rw [← he, ← List.drop_eq_getElem_cons hl, List.take_append_drop]
  have e2 : bytesW T = bytesW (T.take k) ++ ((itemW o).2 ++ bytesW (T.drop (k + 1))) := (congrArg bytesW e).trans (by simp [bytesW])
  show (bytesW T).toArray.toList.drop _ = _
  rw [show (bytesW T).toArray.toList = bytesW T from rfl, e2, List.drop_left]
theorem flat_len3 {T : List ItemR} : (T.flatMap itemCells).length = T.length * 3 := by
  induction T with
  | nil => rfl
  | cons x T ih => rw [List.flatMap_cons, List.length_append, ih]; simp only [itemCells, List.length_cons, List.length_nil]; omega
theorem bytesW_le (T : List ItemR) (k : Nat) : (bytesW (T.take k)).length ≤ (bytesW T).length := by
  have : bytesW T = bytesW (T.take k) ++ bytesW (T.drop k) := by rw [bytesW, bytesW, bytesW, ← List.flatMap_append, List.take_append_drop]
  rw [this, List.length_append]; omega
theorem bytes_next {T : List ItemR} {k : Nat} {o : ItemR} (hg : T[k]? = some o) : (bytesW (T.take (k + 1))).length = (bytesW (T.take k)).length + (itemW o).2.length := by
  rw [bytesW_snoc hg, List.length_append]
def BackI {α : Type} (x : ItemR) (a : Nat) (o : Option (α × Nat)) (v : α → Prop) (d : α) : Prop := ge o = 0 ∧ v (gv d o) ∧ gn a o = a + (itemW x).2.length
theorem get_drop {s : ByteArray} {a : Nat} {c : UInt8} {r : List UInt8} (h : s.data.toList.drop a = c :: r) : s[a]? = some c := by
  rw [get_list]
  have := congrArg (fun l : List UInt8 => l[0]?) h
  simpa using this
theorem byteW_of {n : Int} (h : (byteW n).1 = 0) : ∃ c : UInt8, (byteW n).2 = [c] ∧ ((c.toNat : Nat) : Int) = n := by
  unfold byteW at h ⊢
  split at h
  · cases h
  · rename_i h'
    rw [if_neg h']
    refine ⟨_, rfl, ?_⟩
    rw [UInt8.toNat_ofNat_of_lt' (by simp only [UInt8.size]; omega)]; omega
theorem back_byte {s : ByteArray} {x : ItemR} {a : Nat} (hk : x.kind = 0) (hok : (itemW x).1 = 0) (hp : ∃ rest, s.data.toList.drop a = (itemW x).2 ++ rest) : BackI x a (takeByte s a) (fun v => ((v : Nat) : Int) = x.n) 0 := by
  obtain ⟨rest, hp⟩ := hp
  have e : itemW x = byteW x.n := if_pos hk
  unfold BackI
  rw [e] at hok hp ⊢
  obtain ⟨c, h1, h2⟩ := byteW_of hok
  rw [h1] at hp ⊢
  rw [takeByte, get_drop hp]
  exact ⟨rfl, h2, rfl⟩
theorem back_num {s : ByteArray} {x : ItemR} {a : Nat} (hk0 : ¬ x.kind = 0) (hk : x.kind = 1) (hr : -9223372036854775808 ≤ x.n ∧ x.n ≤ 9223372036854775807) (hp : ∃ rest, s.data.toList.drop a = (itemW x).2 ++ rest) : BackI x a (takeNum s a) (fun v => v = x.n) 0 := by
  obtain ⟨rest, hp⟩ := hp
  have e : itemW x = (0, enc (zz x.n)) := by rw [itemW, if_neg hk0, if_pos hk]
  unfold BackI
  rw [e] at hp ⊢
  rw [takeNum_put hr.1 hr.2 hp]
  exact ⟨rfl, rfl, rfl⟩
theorem back_flag {s : ByteArray} {x : ItemR} {a : Nat} (hk0 : ¬ x.kind = 0) (hk1 : ¬ x.kind = 1) (hk : x.kind = 2) (hp : ∃ rest, s.data.toList.drop a = (itemW x).2 ++ rest) : BackI x a (takeFlag s a) (fun v => v = decide (x.n > 0)) false := by
  obtain ⟨rest, hp⟩ := hp
  have e : itemW x = byteW (if x.n > 0 then 1 else 0) := by rw [itemW, if_neg hk0, if_neg hk1, if_pos hk]
  unfold BackI
  rw [e] at hp ⊢
  have hok : (byteW (if x.n > 0 then 1 else 0)).1 = 0 := by split <;> rfl
  obtain ⟨c, h1, h2⟩ := byteW_of hok
  rw [h1] at hp ⊢
  have h3 : c.toNat < 2 := by split at h2 <;> omega
  rw [takeFlag, get_drop hp]
  simp only
  rw [if_pos h3]
  refine ⟨rfl, ?_, rfl⟩
  simp only [gv]
  split at h2
  · rw [decide_eq_true (by omega), decide_eq_true (by assumption)]
  · rw [decide_eq_false (by omega), decide_eq_false (by assumption)]
theorem back_text {s : ByteArray} {x : ItemR} {a : Nat} (hk0 : ¬ x.kind = 0) (hk1 : ¬ x.kind = 1) (hk2 : ¬ x.kind = 2) (hk : x.kind = 3) (hok : (itemW x).1 = 0) (hp : ∃ rest, s.data.toList.drop a = (itemW x).2 ++ rest) : BackI x a (takeText s a) (fun v => v = x.s) ⟨#[]⟩ := by
  obtain ⟨rest, hp⟩ := hp
  have e : itemW x = textW x.s := by rw [itemW, if_neg hk0, if_neg hk1, if_neg hk2, if_pos hk]
  unfold BackI
  rw [e] at hok hp ⊢
  unfold textW at hok hp ⊢
  split at hok
  · cases hok
  rename_i hs
  rw [if_neg hs] at hp ⊢
  simp only at hp ⊢
  rw [List.append_assoc] at hp
  have hl := takeList_ok (takeNum_put (by omega) (by omega) hp) (by omega)
  have hlen := congrArg List.length hp
  simp only [List.length_drop, size_list, List.length_append] at hlen
  rw [takeText, hl]
  simp only
  have hne := enc_ne (zz (x.s.size : Int))
  rw [if_pos (by omega)]
  refine ⟨rfl, ?_, by simp only [gn, List.length_append, size_list]; omega⟩
  simp only [gv]
  rw [← ba_list (s.extract _ _), Lib.extract_data]
  rw [← List.drop_drop, hp, List.drop_left, show a + (enc (zz (x.s.size : Int))).length + x.s.size - (a + (enc (zz (x.s.size : Int))).length) = x.s.data.toList.length by rw [size_list]; omega, List.take_left]
  exact ba_list _
theorem back_list {s : ByteArray} {x : ItemR} {a : Nat} (hk0 : ¬ x.kind = 0) (hk1 : ¬ x.kind = 1) (hk2 : ¬ x.kind = 2) (hk3 : ¬ x.kind = 3) (hok : (itemW x).1 = 0) (hp : ∃ rest, s.data.toList.drop a = (itemW x).2 ++ rest) : BackI x a (takeList s a) (fun v => ((v : Nat) : Int) = x.n) 0 := by
  obtain ⟨rest, hp⟩ := hp
  have e : itemW x = listW x.n := by rw [itemW, if_neg hk0, if_neg hk1, if_neg hk2, if_neg hk3]
  unfold BackI
  rw [e] at hok hp ⊢
  unfold listW at hok hp ⊢
  split at hok
  · cases hok
  rename_i h0
  rw [if_neg h0] at hp ⊢
  split at hok
  · cases hok
  rename_i h1
  rw [if_neg h1] at hp ⊢
  simp only at hp ⊢
  obtain ⟨m, hm⟩ := Int.eq_ofNat_of_zero_le (show 0 ≤ x.n by omega)
  rw [hm] at hp ⊢
  rw [takeList_ok (takeNum_put (by omega) (by omega) hp) (by omega)]
  exact ⟨rfl, rfl, rfl⟩
end Go.Wr
