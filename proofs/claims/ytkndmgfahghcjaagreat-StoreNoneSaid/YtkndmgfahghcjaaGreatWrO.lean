import Derived.Test.YtkndmgfahghcjaaGreatWrR
/- The wire: what is taken is what was written, in plain data. -/
namespace Go.Wr
open Go Go.SL

theorem size_list (s : ByteArray) : s.data.toList.length = s.size := by rw [Array.length_toList]; rfl
/-! ### What is taken is written so -/
theorem ba_list (s : ByteArray) : ba s.data.toList = s := by simp [ba]
/-! ### What was written is taken so -/
theorem bytes_at {T : List ItemR} {k : Nat} {o : ItemR} (hg : T[k]? = some o) : ∃ rest, (ba (bytesW T)).data.toList.drop (bytesW (T.take k)).length = (itemW o).2 ++ rest := by
 refine ⟨bytesW (T.drop (k + 1)), ?_⟩
 obtain ⟨hl, he⟩ := List.getElem?_eq_some_iff.1 hg
 have e : T = T.take k ++ o :: T.drop (k + 1) := by rw [← he, ← List.drop_eq_getElem_cons hl, List.take_append_drop]
 have e2 : bytesW T = bytesW (T.take k) ++ ((itemW o).2 ++ bytesW (T.drop (k + 1))) := (congrArg bytesW e).trans (by simp [bytesW])
 show (bytesW T).toArray.toList.drop _ = _
 rw [show (bytesW T).toArray.toList = bytesW T from rfl, e2, List.drop_left]
end Go.Wr

