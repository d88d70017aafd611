/- What follows: contracts of the calls. -/
import Derived.Test.YtjjghmkjdgogiaaDdRf
namespace Go.Proofs.Ytjjghmkjdgogiaa
open Go Go.SL Go.Dd Go.RowKit
set_option linter.unusedVariables false
set_option maxRecDepth 8000

theorem keys_ok (W0 : World) (vl : Value) (l : List TermR) (hl : Rd W0 vl l.length (l.flatMap termCells)) (hlo : ∀ x ∈ l, okT x) (app sd : Int) (n : Nat) (hl2 : l.length ≤ 2000) (hs : i64R sd) (ha : 1 ≤ app ∧ app ≤ ((build [] l).length : Int)) (hn : n ≤ 300) :
    Con Try.prog W0 4 #[vl, Value.int .i64 app, Value.int .i64 sd, Value.int .i64 ((n : Nat) : Int)] [] (X := Unit) (fun _ => True) (fun _ => .bool true) (fun _ => []) := by
  refine Con.of (args := [vl, Value.int .i64 app, Value.int .i64 sd, Value.int .i64 ((n : Nat) : Int)]) Try.func4 rfl Try.ntmps4 rfl (fun F => ?_)
  have hw := build_all hlo
  have hT := build_all_le l
  have hJ := key_j (app := app) (s := sd) hw ha hs n (by omega)
  have hJl := hJ.st.len
  have hJp := hJ.st.pos
  show Wc _ W0 _ _ _ _ _ (F)
  refine Wc.seq ?_
  refine Wc.region ?_
  refine Wl.q (v := Value.bool false) (q_assign rfl) ?_
  refine Wl.done ?_
  refine Wx.go ?_
  refine Wc.seq ?_
  refine Wc.seq ?_
  refine Wc.region ?_
  refine Wl.q (v := vl) (q_move rfl) ?_
  refine Wl.q (v := Value.int .i64 ((l.length : Nat) : Int)) (q_len_is Try.underlying29 rfl hl.shape) ?_
  refine Wl.q (v := Value.bool false) (q_gtr (r := false) rfl rfl (decide_eq_false (by omega))) ?_
  refine Wl.q (v := Value.bool false) (q_move rfl) ?_
  refine Wl.q (v := Value.int .i64 ((n : Nat) : Int)) (q_move rfl) ?_
  refine Wl.q (v := Value.bool false) (q_gtr (r := false) rfl rfl (decide_eq_false (by omega))) ?_
  refine Wl.q (v := Value.bool false) (q_move rfl) ?_
  refine Wl.no ?_
  refine Wl.no ?_
  refine Wl.q (v := Value.bool false) (q_pick (t := false) rfl rfl) ?_
  refine Wl.q (v := Value.bool false) (q_pick (t := false) rfl rfl) ?_
  refine Wl.done ?_
  refine Wx.go ?_
  refine Wc.no rfl ?_
  refine Wc.skip ?_
  refine Wx.go ?_
  refine Wc.seq ?_
  refine Wc.region ?_
  refine Wl.q (v := vl) (q_move rfl) ?_
  refine Wl.e (e_call (F := F) (args := [vl]) Try.call6 rfl (build_w W0 vl l hl (by omega) hlo)) (fun ⟨s, r⟩ _ => ?_)
  refine Wl.imp (L' := (storeW s (build [] l)) :: (refW r (build [] l)) :: F) (fun _ h => h) ?_
  refine Wl.q (v := Value.tuple #[Value.pointer (some ⟨s, 0, none⟩), Value.pointer (some ⟨r, 0, none⟩), Value.bool true]) (q_move rfl) ?_
  refine Wl.q (v := Value.pointer (some ⟨s, 0, none⟩)) (q_extract (i := 0) rfl rfl) ?_
  refine Wl.q (v := Value.pointer (some ⟨r, 0, none⟩)) (q_extract (i := 1) rfl rfl) ?_
  refine Wl.q (v := Value.bool true) (q_extract (i := 2) rfl rfl) ?_
  refine Wl.q (v := Value.pointer (some ⟨s, 0, none⟩)) (q_assign rfl) ?_
  refine Wl.q (v := Value.pointer (some ⟨r, 0, none⟩)) (q_assign rfl) ?_
  refine Wl.q (v := Value.bool true) (q_assign rfl) ?_
  refine Wl.done ?_
  refine Wx.go ?_
  refine Wc.seq ?_
  refine Wc.seq ?_
  refine Wc.region ?_
  refine Wl.q (v := Value.bool true) (q_move rfl) ?_
  refine Wl.q (v := Value.bool false) (q_not rfl rfl) ?_
  refine Wl.done ?_
  refine Wx.go ?_
  refine Wc.no rfl ?_
  refine Wc.skip ?_
  refine Wx.go ?_
  refine Wc.seq ?_
  refine Wc.region ?_
  refine Wl.q (v := Value.pointer (some ⟨s, 0, none⟩)) (q_move rfl) ?_
  refine Wl.q (v := Value.int .i64 app) (q_move rfl) ?_
  refine Wl.q (v := Value.int .i64 sd) (q_move rfl) ?_
  refine Wl.q (v := Value.int .i64 ((n : Nat) : Int)) (q_move rfl) ?_
  refine Wl.e (e_call (F := (refW r (build [] l)) :: F) (args := [Value.pointer (some ⟨s, 0, none⟩), Value.int .i64 app, Value.int .i64 sd, Value.int .i64 ((n : Nat) : Int)]) Try.call7 rfl (key_w W0 s (build [] l) app sd n hw ha hs (by omega) (by omega))) (fun _ _ => ?_)
  refine Wl.imp (L' := (storeW s ((keyF (chainR (build [] l) app sd n)).1)) :: (refW r (build [] l)) :: F) (fun _ h => h) ?_
  refine Wl.q (v := Value.tuple #[Value.int .i64 (((keyF (chainR (build [] l) app sd n)).2 : Nat) : Int), Value.int .i64 0]) (q_move rfl) ?_
  refine Wl.q (v := Value.int .i64 (((keyF (chainR (build [] l) app sd n)).2 : Nat) : Int)) (q_extract (i := 0) rfl rfl) ?_
  refine Wl.q (v := Value.int .i64 0) (q_extract (i := 1) rfl rfl) ?_
  refine Wl.q (v := Value.int .i64 (((keyF (chainR (build [] l) app sd n)).2 : Nat) : Int)) (q_assign rfl) ?_
  refine Wl.q (v := Value.int .i64 0) (q_assign rfl) ?_
  refine Wl.done ?_
  refine Wx.go ?_
  refine Wc.seq ?_
  refine Wc.region ?_
  refine Wl.q (v := Value.pointer (some ⟨r, 0, none⟩)) (q_move rfl) ?_
  refine Wl.q (v := Value.int .i64 app) (q_move rfl) ?_
  refine Wl.q (v := Value.int .i64 sd) (q_move rfl) ?_
  refine Wl.q (v := Value.int .i64 ((n : Nat) : Int)) (q_move rfl) ?_
  refine Wl.imp (L' := (refW r (build [] l)) :: (storeW s ((keyF (chainR (build [] l) app sd n)).1)) :: F) (fun _ h => st_pull [1] h) ?_
  refine Wl.e (e_call (F := (storeW s ((keyF (chainR (build [] l) app sd n)).1)) :: F) (args := [Value.pointer (some ⟨r, 0, none⟩), Value.int .i64 app, Value.int .i64 sd, Value.int .i64 ((n : Nat) : Int)]) Try.call9 rfl (rkey_w W0 r (build [] l) app sd n hw ha hs (by omega) (by omega))) (fun _ _ => ?_)
  refine Wl.imp (L' := (refW r ((keyF (chainR (build [] l) app sd n)).1)) :: (storeW s ((keyF (chainR (build [] l) app sd n)).1)) :: F) (fun _ h => h) ?_
  refine Wl.q (v := Value.tuple #[Value.int .i64 (((keyF (chainR (build [] l) app sd n)).2 : Nat) : Int), Value.int .i64 0]) (q_move rfl) ?_
  refine Wl.q (v := Value.int .i64 (((keyF (chainR (build [] l) app sd n)).2 : Nat) : Int)) (q_extract (i := 0) rfl rfl) ?_
  refine Wl.q (v := Value.int .i64 0) (q_extract (i := 1) rfl rfl) ?_
  refine Wl.q (v := Value.int .i64 (((keyF (chainR (build [] l) app sd n)).2 : Nat) : Int)) (q_assign rfl) ?_
  refine Wl.q (v := Value.int .i64 0) (q_assign rfl) ?_
  refine Wl.done ?_
  refine Wx.go ?_
  refine Wc.seq ?_
  refine Wc.region ?_
  refine Wl.q (v := Value.pointer (some ⟨s, 0, none⟩)) (q_move rfl) ?_
  refine Wl.q (v := Value.pointer (some ⟨r, 0, none⟩)) (q_move rfl) ?_
  refine Wl.imp (L' := (storeW s ((keyF (chainR (build [] l) app sd n)).1)) :: (refW r ((keyF (chainR (build [] l) app sd n)).1)) :: F) (fun _ h => st_pull [1, 0] h) ?_
  refine Wl.e (e_call (F := F) (args := [Value.pointer (some ⟨s, 0, none⟩), Value.pointer (some ⟨r, 0, none⟩)]) Try.call10 rfl (across_w W0 s r ((keyF (chainR (build [] l) app sd n)).1) hJ.st.wf (by omega))) (fun ⟨m, mv⟩ _ => ?_)
  refine Wl.imp (L' := (pt m 63 [mv]) :: (sl 3 1 mv (((keyF (chainR (build [] l) app sd n)).1).length + 1) ((List.range (((keyF (chainR (build [] l) app sd n)).1).length + 1)).map natV)) :: (storeW s ((keyF (chainR (build [] l) app sd n)).1)) :: (refW r ((keyF (chainR (build [] l) app sd n)).1)) :: F) (fun _ h => h) ?_
  refine Wl.q (v := Value.tuple #[Value.pointer (some ⟨m, 0, none⟩), Value.bool true]) (q_move rfl) ?_
  refine Wl.q (v := Value.pointer (some ⟨m, 0, none⟩)) (q_extract (i := 0) rfl rfl) ?_
  refine Wl.q (v := Value.bool true) (q_extract (i := 1) rfl rfl) ?_
  refine Wl.q (v := Value.pointer (some ⟨m, 0, none⟩)) (q_assign rfl) ?_
  refine Wl.q (v := Value.bool true) (q_assign rfl) ?_
  refine Wl.done ?_
  refine Wx.go ?_
  refine Wc.seq ?_
  refine Wc.region ?_
  refine Wl.q (v := Value.int .i64 app) (q_move rfl) ?_
  refine Wl.q (v := Value.int .i64 sd) (q_move rfl) ?_
  refine Wl.q (v := Value.int .i64 ((n : Nat) : Int)) (q_move rfl) ?_
  refine Wl.e (e_call (F := (pt m 63 [mv]) :: (sl 3 1 mv (((keyF (chainR (build [] l) app sd n)).1).length + 1) ((List.range (((keyF (chainR (build [] l) app sd n)).1).length + 1)).map natV)) :: (storeW s ((keyF (chainR (build [] l) app sd n)).1)) :: (refW r ((keyF (chainR (build [] l) app sd n)).1)) :: F) (args := [Value.pointer none, Value.int .i64 app, Value.int .i64 sd, Value.int .i64 ((n : Nat) : Int)]) Try.call7 rfl (key_nil W0 app sd ((n : Nat) : Int))) (fun _ _ => ?_)
  refine Wl.imp (L' := (pt m 63 [mv]) :: (sl 3 1 mv (((keyF (chainR (build [] l) app sd n)).1).length + 1) ((List.range (((keyF (chainR (build [] l) app sd n)).1).length + 1)).map natV)) :: (storeW s ((keyF (chainR (build [] l) app sd n)).1)) :: (refW r ((keyF (chainR (build [] l) app sd n)).1)) :: F) (fun _ h => h) ?_
  refine Wl.q (v := Value.tuple #[Value.int .i64 0, Value.int .i64 2]) (q_move rfl) ?_
  refine Wl.q (v := Value.int .i64 0) (q_extract (i := 0) rfl rfl) ?_
  refine Wl.q (v := Value.int .i64 2) (q_extract (i := 1) rfl rfl) ?_
  refine Wl.q (v := Value.int .i64 0) (q_assign rfl) ?_
  refine Wl.q (v := Value.int .i64 2) (q_assign rfl) ?_
  refine Wl.done ?_
  refine Wx.go ?_
  refine Wc.seq ?_
  refine Wc.region ?_
  refine Wl.q (v := Value.bool true) (q_move rfl) ?_
  refine Wl.q (v := Value.bool true) (q_move rfl) ?_
  refine Wl.q (v := Value.int .i64 0) (q_move rfl) ?_
  refine Wl.q (v := Value.int .i64 0) (q_move rfl) ?_
  refine Wl.q (v := Value.bool true) (q_eql (r := true) rfl rfl (decide_eq_true (by decide))) ?_
  refine Wl.q (v := Value.bool true) (q_pick (t := true) rfl rfl) ?_
  refine Wl.q (v := Value.bool true) (q_move rfl) ?_
  refine Wl.q (v := Value.pointer (some ⟨m, 0, none⟩)) (q_move rfl) ?_
  refine Wl.q (v := Value.int .i64 (((keyF (chainR (build [] l) app sd n)).2 : Nat) : Int)) (q_move rfl) ?_
  refine Wl.q (v := Value.int .i64 (((keyF (chainR (build [] l) app sd n)).2 : Nat) : Int)) (q_move rfl) ?_
  refine Wl.e (e_call (F := (storeW s ((keyF (chainR (build [] l) app sd n)).1)) :: (refW r ((keyF (chainR (build [] l) app sd n)).1)) :: F) (args := [Value.pointer (some ⟨m, 0, none⟩), Value.int .i64 (((keyF (chainR (build [] l) app sd n)).2 : Nat) : Int), Value.int .i64 (((keyF (chainR (build [] l) app sd n)).2 : Nat) : Int)]) Try.call11 rfl (same_w W0 m mv (((keyF (chainR (build [] l) app sd n)).1).length + 1) ((keyF (chainR (build [] l) app sd n)).2) (by omega))) (fun _ _ => ?_)
  refine Wl.imp (L' := (pt m 63 [mv]) :: (sl 3 1 mv (((keyF (chainR (build [] l) app sd n)).1).length + 1) ((List.range (((keyF (chainR (build [] l) app sd n)).1).length + 1)).map natV)) :: (storeW s ((keyF (chainR (build [] l) app sd n)).1)) :: (refW r ((keyF (chainR (build [] l) app sd n)).1)) :: F) (fun _ h => h) ?_
  refine Wl.q (v := Value.bool true) (q_pick (t := true) rfl rfl) ?_
  refine Wl.q (v := Value.bool true) (q_move rfl) ?_
  refine Wl.q (v := Value.int .i64 2) (q_move rfl) ?_
  refine Wl.q (v := Value.bool true) (q_eql (r := true) rfl rfl (decide_eq_true (by decide))) ?_
  refine Wl.q (v := Value.bool true) (q_pick (t := true) rfl rfl) ?_
  refine Wl.q (v := Value.bool true) (q_move rfl) ?_
  refine Wl.e (e_call (F := (pt m 63 [mv]) :: (sl 3 1 mv (((keyF (chainR (build [] l) app sd n)).1).length + 1) ((List.range (((keyF (chainR (build [] l) app sd n)).1).length + 1)).map natV)) :: (storeW s ((keyF (chainR (build [] l) app sd n)).1)) :: (refW r ((keyF (chainR (build [] l) app sd n)).1)) :: F) (args := []) Try.call8 rfl (lives_c W0)) (fun _ _ => ?_)
  refine Wl.imp (L' := (pt m 63 [mv]) :: (sl 3 1 mv (((keyF (chainR (build [] l) app sd n)).1).length + 1) ((List.range (((keyF (chainR (build [] l) app sd n)).1).length + 1)).map natV)) :: (storeW s ((keyF (chainR (build [] l) app sd n)).1)) :: (refW r ((keyF (chainR (build [] l) app sd n)).1)) :: F) (fun _ h => h) ?_
  refine Wl.q (v := Value.bool true) (q_pick (t := true) rfl rfl) ?_
  refine Wl.q (v := Value.bool true) (q_assign rfl) ?_
  refine Wl.done ?_
  refine Wx.go ?_
  refine Wc.ret ?_
  refine Wx.fin1 rfl (.inl rfl) (fun w hs => ?_)
  exact ⟨(), trivial, rfl, (st_drop (st_drop (st_drop (st_drop (st_pull [0, 0, 0, 0] hs)))))⟩

theorem keys_noapp (W0 : World) (vl : Value) (l : List TermR) (hl : Rd W0 vl l.length (l.flatMap termCells)) (hlo : ∀ x ∈ l, okT x) (app sd : Int) (n : Int) (hl2 : l.length ≤ 2000) (hn2 : ¬ (300 < n ∧ n ≤ 65536)) (h : ¬ (1 ≤ app ∧ app ≤ ((build [] l).length : Int))) :
    Con Try.prog W0 4 #[vl, Value.int .i64 app, Value.int .i64 sd, Value.int .i64 n] [] (X := Unit) (fun _ => True) (fun _ => .bool true) (fun _ => []) := by
  refine Con.of (args := [vl, Value.int .i64 app, Value.int .i64 sd, Value.int .i64 n]) Try.func4 rfl Try.ntmps4 rfl (fun F => ?_)
  have hw := build_all hlo
  have hT := build_all_le l
  show Wc _ W0 _ _ _ _ _ (F)
  refine Wc.seq ?_
  refine Wc.region ?_
  refine Wl.q (v := Value.bool false) (q_assign rfl) ?_
  refine Wl.done ?_
  refine Wx.go ?_
  refine Wc.seq ?_
  refine Wc.seq ?_
  refine Wc.region ?_
  refine Wl.q (v := vl) (q_move rfl) ?_
  refine Wl.q (v := Value.int .i64 ((l.length : Nat) : Int)) (q_len_is Try.underlying29 rfl hl.shape) ?_
  refine Wl.q (v := Value.bool false) (q_gtr (r := false) rfl rfl (decide_eq_false (by omega))) ?_
  refine Wl.q (v := Value.bool false) (q_move rfl) ?_
  refine Wl.q (v := Value.int .i64 n) (q_move rfl) ?_
  by_cases h5 : n > 300
  ·
    refine Wl.q (v := Value.bool true) (q_gtr (r := true) rfl rfl (decide_eq_true h5)) ?_
    refine Wl.q (v := Value.bool true) (q_move rfl) ?_
    refine Wl.q (v := Value.int .i64 n) (q_move rfl) ?_
    by_cases h8 : n ≤ 65536
    ·
      exfalso; omega
    ·
      refine Wl.q (v := Value.bool false) (q_leq (r := false) rfl rfl (decide_eq_false h8)) ?_
      refine Wl.q (v := Value.bool false) (q_pick (t := true) rfl rfl) ?_
      refine Wl.q (v := Value.bool false) (q_pick (t := false) rfl rfl) ?_
      refine Wl.done ?_
      refine Wx.go ?_
      refine Wc.no rfl ?_
      refine Wc.skip ?_
      refine Wx.go ?_
      refine Wc.seq ?_
      refine Wc.region ?_
      refine Wl.q (v := vl) (q_move rfl) ?_
      refine Wl.e (e_call (F := F) (args := [vl]) Try.call6 rfl (build_w W0 vl l hl (by omega) hlo)) (fun ⟨s, r⟩ _ => ?_)
      refine Wl.imp (L' := (storeW s (build [] l)) :: (refW r (build [] l)) :: F) (fun _ h => h) ?_
      refine Wl.q (v := Value.tuple #[Value.pointer (some ⟨s, 0, none⟩), Value.pointer (some ⟨r, 0, none⟩), Value.bool true]) (q_move rfl) ?_
      refine Wl.q (v := Value.pointer (some ⟨s, 0, none⟩)) (q_extract (i := 0) rfl rfl) ?_
      refine Wl.q (v := Value.pointer (some ⟨r, 0, none⟩)) (q_extract (i := 1) rfl rfl) ?_
      refine Wl.q (v := Value.bool true) (q_extract (i := 2) rfl rfl) ?_
      refine Wl.q (v := Value.pointer (some ⟨s, 0, none⟩)) (q_assign rfl) ?_
      refine Wl.q (v := Value.pointer (some ⟨r, 0, none⟩)) (q_assign rfl) ?_
      refine Wl.q (v := Value.bool true) (q_assign rfl) ?_
      refine Wl.done ?_
      refine Wx.go ?_
      refine Wc.seq ?_
      refine Wc.seq ?_
      refine Wc.region ?_
      refine Wl.q (v := Value.bool true) (q_move rfl) ?_
      refine Wl.q (v := Value.bool false) (q_not rfl rfl) ?_
      refine Wl.done ?_
      refine Wx.go ?_
      refine Wc.no rfl ?_
      refine Wc.skip ?_
      refine Wx.go ?_
      refine Wc.seq ?_
      refine Wc.region ?_
      refine Wl.q (v := Value.pointer (some ⟨s, 0, none⟩)) (q_move rfl) ?_
      refine Wl.q (v := Value.int .i64 app) (q_move rfl) ?_
      refine Wl.q (v := Value.int .i64 sd) (q_move rfl) ?_
      refine Wl.q (v := Value.int .i64 n) (q_move rfl) ?_
      refine Wl.e (e_call (F := (refW r (build [] l)) :: F) (args := [Value.pointer (some ⟨s, 0, none⟩), Value.int .i64 app, Value.int .i64 sd, Value.int .i64 n]) Try.call7 rfl (key_noapp W0 s (build [] l) app sd n h)) (fun _ _ => ?_)
      refine Wl.imp (L' := (storeW s (build [] l)) :: (refW r (build [] l)) :: F) (fun _ h => h) ?_
      refine Wl.q (v := Value.tuple #[Value.int .i64 0, Value.int .i64 1]) (q_move rfl) ?_
      refine Wl.q (v := Value.int .i64 0) (q_extract (i := 0) rfl rfl) ?_
      refine Wl.q (v := Value.int .i64 1) (q_extract (i := 1) rfl rfl) ?_
      refine Wl.q (v := Value.int .i64 0) (q_assign rfl) ?_
      refine Wl.q (v := Value.int .i64 1) (q_assign rfl) ?_
      refine Wl.done ?_
      refine Wx.go ?_
      refine Wc.seq ?_
      refine Wc.region ?_
      refine Wl.q (v := Value.pointer (some ⟨r, 0, none⟩)) (q_move rfl) ?_
      refine Wl.q (v := Value.int .i64 app) (q_move rfl) ?_
      refine Wl.q (v := Value.int .i64 sd) (q_move rfl) ?_
      refine Wl.q (v := Value.int .i64 n) (q_move rfl) ?_
      refine Wl.imp (L' := (refW r (build [] l)) :: (storeW s (build [] l)) :: F) (fun _ h => st_pull [1] h) ?_
      refine Wl.e (e_call (F := (storeW s (build [] l)) :: F) (args := [Value.pointer (some ⟨r, 0, none⟩), Value.int .i64 app, Value.int .i64 sd, Value.int .i64 n]) Try.call9 rfl (rkey_noapp W0 r (build [] l) app sd n h)) (fun _ _ => ?_)
      refine Wl.imp (L' := (refW r (build [] l)) :: (storeW s (build [] l)) :: F) (fun _ h => h) ?_
      refine Wl.q (v := Value.tuple #[Value.int .i64 0, Value.int .i64 1]) (q_move rfl) ?_
      refine Wl.q (v := Value.int .i64 0) (q_extract (i := 0) rfl rfl) ?_
      refine Wl.q (v := Value.int .i64 1) (q_extract (i := 1) rfl rfl) ?_
      refine Wl.q (v := Value.int .i64 0) (q_assign rfl) ?_
      refine Wl.q (v := Value.int .i64 1) (q_assign rfl) ?_
      refine Wl.done ?_
      refine Wx.go ?_
      refine Wc.seq ?_
      refine Wc.region ?_
      refine Wl.q (v := Value.pointer (some ⟨s, 0, none⟩)) (q_move rfl) ?_
      refine Wl.q (v := Value.pointer (some ⟨r, 0, none⟩)) (q_move rfl) ?_
      refine Wl.imp (L' := (storeW s (build [] l)) :: (refW r (build [] l)) :: F) (fun _ h => st_pull [1, 0] h) ?_
      refine Wl.e (e_call (F := F) (args := [Value.pointer (some ⟨s, 0, none⟩), Value.pointer (some ⟨r, 0, none⟩)]) Try.call10 rfl (across_w W0 s r (build [] l) hw (by omega))) (fun ⟨m, mv⟩ _ => ?_)
      refine Wl.imp (L' := (pt m 63 [mv]) :: (sl 3 1 mv ((build [] l).length + 1) ((List.range ((build [] l).length + 1)).map natV)) :: (storeW s (build [] l)) :: (refW r (build [] l)) :: F) (fun _ h => h) ?_
      refine Wl.q (v := Value.tuple #[Value.pointer (some ⟨m, 0, none⟩), Value.bool true]) (q_move rfl) ?_
      refine Wl.q (v := Value.pointer (some ⟨m, 0, none⟩)) (q_extract (i := 0) rfl rfl) ?_
      refine Wl.q (v := Value.bool true) (q_extract (i := 1) rfl rfl) ?_
      refine Wl.q (v := Value.pointer (some ⟨m, 0, none⟩)) (q_assign rfl) ?_
      refine Wl.q (v := Value.bool true) (q_assign rfl) ?_
      refine Wl.done ?_
      refine Wx.go ?_
      refine Wc.seq ?_
      refine Wc.region ?_
      refine Wl.q (v := Value.int .i64 app) (q_move rfl) ?_
      refine Wl.q (v := Value.int .i64 sd) (q_move rfl) ?_
      refine Wl.q (v := Value.int .i64 n) (q_move rfl) ?_
      refine Wl.e (e_call (F := (pt m 63 [mv]) :: (sl 3 1 mv ((build [] l).length + 1) ((List.range ((build [] l).length + 1)).map natV)) :: (storeW s (build [] l)) :: (refW r (build [] l)) :: F) (args := [Value.pointer none, Value.int .i64 app, Value.int .i64 sd, Value.int .i64 n]) Try.call7 rfl (key_nil W0 app sd n)) (fun _ _ => ?_)
      refine Wl.imp (L' := (pt m 63 [mv]) :: (sl 3 1 mv ((build [] l).length + 1) ((List.range ((build [] l).length + 1)).map natV)) :: (storeW s (build [] l)) :: (refW r (build [] l)) :: F) (fun _ h => h) ?_
      refine Wl.q (v := Value.tuple #[Value.int .i64 0, Value.int .i64 2]) (q_move rfl) ?_
      refine Wl.q (v := Value.int .i64 0) (q_extract (i := 0) rfl rfl) ?_
      refine Wl.q (v := Value.int .i64 2) (q_extract (i := 1) rfl rfl) ?_
      refine Wl.q (v := Value.int .i64 0) (q_assign rfl) ?_
      refine Wl.q (v := Value.int .i64 2) (q_assign rfl) ?_
      refine Wl.done ?_
      refine Wx.go ?_
      refine Wc.seq ?_
      refine Wc.region ?_
      refine Wl.q (v := Value.bool true) (q_move rfl) ?_
      refine Wl.q (v := Value.bool true) (q_move rfl) ?_
      refine Wl.q (v := Value.int .i64 1) (q_move rfl) ?_
      refine Wl.q (v := Value.int .i64 1) (q_move rfl) ?_
      refine Wl.q (v := Value.bool true) (q_eql (r := true) rfl rfl (decide_eq_true (by decide))) ?_
      refine Wl.q (v := Value.bool true) (q_pick (t := true) rfl rfl) ?_
      refine Wl.q (v := Value.bool true) (q_move rfl) ?_
      refine Wl.q (v := Value.pointer (some ⟨m, 0, none⟩)) (q_move rfl) ?_
      refine Wl.q (v := Value.int .i64 0) (q_move rfl) ?_
      refine Wl.q (v := Value.int .i64 0) (q_move rfl) ?_
      refine Wl.e (e_call (F := (storeW s (build [] l)) :: (refW r (build [] l)) :: F) (args := [Value.pointer (some ⟨m, 0, none⟩), Value.int .i64 0, Value.int .i64 0]) Try.call11 rfl (same_w W0 m mv ((build [] l).length + 1) 0 (by omega))) (fun _ _ => ?_)
      refine Wl.imp (L' := (pt m 63 [mv]) :: (sl 3 1 mv ((build [] l).length + 1) ((List.range ((build [] l).length + 1)).map natV)) :: (storeW s (build [] l)) :: (refW r (build [] l)) :: F) (fun _ h => h) ?_
      refine Wl.q (v := Value.bool true) (q_pick (t := true) rfl rfl) ?_
      refine Wl.q (v := Value.bool true) (q_move rfl) ?_
      refine Wl.q (v := Value.int .i64 2) (q_move rfl) ?_
      refine Wl.q (v := Value.bool true) (q_eql (r := true) rfl rfl (decide_eq_true (by decide))) ?_
      refine Wl.q (v := Value.bool true) (q_pick (t := true) rfl rfl) ?_
      refine Wl.q (v := Value.bool true) (q_move rfl) ?_
      refine Wl.e (e_call (F := (pt m 63 [mv]) :: (sl 3 1 mv ((build [] l).length + 1) ((List.range ((build [] l).length + 1)).map natV)) :: (storeW s (build [] l)) :: (refW r (build [] l)) :: F) (args := []) Try.call8 rfl (lives_c W0)) (fun _ _ => ?_)
      refine Wl.imp (L' := (pt m 63 [mv]) :: (sl 3 1 mv ((build [] l).length + 1) ((List.range ((build [] l).length + 1)).map natV)) :: (storeW s (build [] l)) :: (refW r (build [] l)) :: F) (fun _ h => h) ?_
      refine Wl.q (v := Value.bool true) (q_pick (t := true) rfl rfl) ?_
      refine Wl.q (v := Value.bool true) (q_assign rfl) ?_
      refine Wl.done ?_
      refine Wx.go ?_
      refine Wc.ret ?_
      refine Wx.fin1 rfl (.inl rfl) (fun w hs => ?_)
      exact ⟨(), trivial, rfl, (st_drop (st_drop (st_drop (st_drop (st_pull [0, 0, 0, 0] hs)))))⟩
  ·
    refine Wl.q (v := Value.bool false) (q_gtr (r := false) rfl rfl (decide_eq_false h5)) ?_
    refine Wl.q (v := Value.bool false) (q_move rfl) ?_
    refine Wl.no ?_
    refine Wl.no ?_
    refine Wl.q (v := Value.bool false) (q_pick (t := false) rfl rfl) ?_
    refine Wl.q (v := Value.bool false) (q_pick (t := false) rfl rfl) ?_
    refine Wl.done ?_
    refine Wx.go ?_
    refine Wc.no rfl ?_
    refine Wc.skip ?_
    refine Wx.go ?_
    refine Wc.seq ?_
    refine Wc.region ?_
    refine Wl.q (v := vl) (q_move rfl) ?_
    refine Wl.e (e_call (F := F) (args := [vl]) Try.call6 rfl (build_w W0 vl l hl (by omega) hlo)) (fun ⟨s, r⟩ _ => ?_)
    refine Wl.imp (L' := (storeW s (build [] l)) :: (refW r (build [] l)) :: F) (fun _ h => h) ?_
    refine Wl.q (v := Value.tuple #[Value.pointer (some ⟨s, 0, none⟩), Value.pointer (some ⟨r, 0, none⟩), Value.bool true]) (q_move rfl) ?_
    refine Wl.q (v := Value.pointer (some ⟨s, 0, none⟩)) (q_extract (i := 0) rfl rfl) ?_
    refine Wl.q (v := Value.pointer (some ⟨r, 0, none⟩)) (q_extract (i := 1) rfl rfl) ?_
    refine Wl.q (v := Value.bool true) (q_extract (i := 2) rfl rfl) ?_
    refine Wl.q (v := Value.pointer (some ⟨s, 0, none⟩)) (q_assign rfl) ?_
    refine Wl.q (v := Value.pointer (some ⟨r, 0, none⟩)) (q_assign rfl) ?_
    refine Wl.q (v := Value.bool true) (q_assign rfl) ?_
    refine Wl.done ?_
    refine Wx.go ?_
    refine Wc.seq ?_
    refine Wc.seq ?_
    refine Wc.region ?_
    refine Wl.q (v := Value.bool true) (q_move rfl) ?_
    refine Wl.q (v := Value.bool false) (q_not rfl rfl) ?_
    refine Wl.done ?_
    refine Wx.go ?_
    refine Wc.no rfl ?_
    refine Wc.skip ?_
    refine Wx.go ?_
    refine Wc.seq ?_
    refine Wc.region ?_
    refine Wl.q (v := Value.pointer (some ⟨s, 0, none⟩)) (q_move rfl) ?_
    refine Wl.q (v := Value.int .i64 app) (q_move rfl) ?_
    refine Wl.q (v := Value.int .i64 sd) (q_move rfl) ?_
    refine Wl.q (v := Value.int .i64 n) (q_move rfl) ?_
    refine Wl.e (e_call (F := (refW r (build [] l)) :: F) (args := [Value.pointer (some ⟨s, 0, none⟩), Value.int .i64 app, Value.int .i64 sd, Value.int .i64 n]) Try.call7 rfl (key_noapp W0 s (build [] l) app sd n h)) (fun _ _ => ?_)
    refine Wl.imp (L' := (storeW s (build [] l)) :: (refW r (build [] l)) :: F) (fun _ h => h) ?_
    refine Wl.q (v := Value.tuple #[Value.int .i64 0, Value.int .i64 1]) (q_move rfl) ?_
    refine Wl.q (v := Value.int .i64 0) (q_extract (i := 0) rfl rfl) ?_
    refine Wl.q (v := Value.int .i64 1) (q_extract (i := 1) rfl rfl) ?_
    refine Wl.q (v := Value.int .i64 0) (q_assign rfl) ?_
    refine Wl.q (v := Value.int .i64 1) (q_assign rfl) ?_
    refine Wl.done ?_
    refine Wx.go ?_
    refine Wc.seq ?_
    refine Wc.region ?_
    refine Wl.q (v := Value.pointer (some ⟨r, 0, none⟩)) (q_move rfl) ?_
    refine Wl.q (v := Value.int .i64 app) (q_move rfl) ?_
    refine Wl.q (v := Value.int .i64 sd) (q_move rfl) ?_
    refine Wl.q (v := Value.int .i64 n) (q_move rfl) ?_
    refine Wl.imp (L' := (refW r (build [] l)) :: (storeW s (build [] l)) :: F) (fun _ h => st_pull [1] h) ?_
    refine Wl.e (e_call (F := (storeW s (build [] l)) :: F) (args := [Value.pointer (some ⟨r, 0, none⟩), Value.int .i64 app, Value.int .i64 sd, Value.int .i64 n]) Try.call9 rfl (rkey_noapp W0 r (build [] l) app sd n h)) (fun _ _ => ?_)
    refine Wl.imp (L' := (refW r (build [] l)) :: (storeW s (build [] l)) :: F) (fun _ h => h) ?_
    refine Wl.q (v := Value.tuple #[Value.int .i64 0, Value.int .i64 1]) (q_move rfl) ?_
    refine Wl.q (v := Value.int .i64 0) (q_extract (i := 0) rfl rfl) ?_
    refine Wl.q (v := Value.int .i64 1) (q_extract (i := 1) rfl rfl) ?_
    refine Wl.q (v := Value.int .i64 0) (q_assign rfl) ?_
    refine Wl.q (v := Value.int .i64 1) (q_assign rfl) ?_
    refine Wl.done ?_
    refine Wx.go ?_
    refine Wc.seq ?_
    refine Wc.region ?_
    refine Wl.q (v := Value.pointer (some ⟨s, 0, none⟩)) (q_move rfl) ?_
    refine Wl.q (v := Value.pointer (some ⟨r, 0, none⟩)) (q_move rfl) ?_
    refine Wl.imp (L' := (storeW s (build [] l)) :: (refW r (build [] l)) :: F) (fun _ h => st_pull [1, 0] h) ?_
    refine Wl.e (e_call (F := F) (args := [Value.pointer (some ⟨s, 0, none⟩), Value.pointer (some ⟨r, 0, none⟩)]) Try.call10 rfl (across_w W0 s r (build [] l) hw (by omega))) (fun ⟨m, mv⟩ _ => ?_)
    refine Wl.imp (L' := (pt m 63 [mv]) :: (sl 3 1 mv ((build [] l).length + 1) ((List.range ((build [] l).length + 1)).map natV)) :: (storeW s (build [] l)) :: (refW r (build [] l)) :: F) (fun _ h => h) ?_
    refine Wl.q (v := Value.tuple #[Value.pointer (some ⟨m, 0, none⟩), Value.bool true]) (q_move rfl) ?_
    refine Wl.q (v := Value.pointer (some ⟨m, 0, none⟩)) (q_extract (i := 0) rfl rfl) ?_
    refine Wl.q (v := Value.bool true) (q_extract (i := 1) rfl rfl) ?_
    refine Wl.q (v := Value.pointer (some ⟨m, 0, none⟩)) (q_assign rfl) ?_
    refine Wl.q (v := Value.bool true) (q_assign rfl) ?_
    refine Wl.done ?_
    refine Wx.go ?_
    refine Wc.seq ?_
    refine Wc.region ?_
    refine Wl.q (v := Value.int .i64 app) (q_move rfl) ?_
    refine Wl.q (v := Value.int .i64 sd) (q_move rfl) ?_
    refine Wl.q (v := Value.int .i64 n) (q_move rfl) ?_
    refine Wl.e (e_call (F := (pt m 63 [mv]) :: (sl 3 1 mv ((build [] l).length + 1) ((List.range ((build [] l).length + 1)).map natV)) :: (storeW s (build [] l)) :: (refW r (build [] l)) :: F) (args := [Value.pointer none, Value.int .i64 app, Value.int .i64 sd, Value.int .i64 n]) Try.call7 rfl (key_nil W0 app sd n)) (fun _ _ => ?_)
    refine Wl.imp (L' := (pt m 63 [mv]) :: (sl 3 1 mv ((build [] l).length + 1) ((List.range ((build [] l).length + 1)).map natV)) :: (storeW s (build [] l)) :: (refW r (build [] l)) :: F) (fun _ h => h) ?_
    refine Wl.q (v := Value.tuple #[Value.int .i64 0, Value.int .i64 2]) (q_move rfl) ?_
    refine Wl.q (v := Value.int .i64 0) (q_extract (i := 0) rfl rfl) ?_
    refine Wl.q (v := Value.int .i64 2) (q_extract (i := 1) rfl rfl) ?_
    refine Wl.q (v := Value.int .i64 0) (q_assign rfl) ?_
    refine Wl.q (v := Value.int .i64 2) (q_assign rfl) ?_
    refine Wl.done ?_
    refine Wx.go ?_
    refine Wc.seq ?_
    refine Wc.region ?_
    refine Wl.q (v := Value.bool true) (q_move rfl) ?_
    refine Wl.q (v := Value.bool true) (q_move rfl) ?_
    refine Wl.q (v := Value.int .i64 1) (q_move rfl) ?_
    refine Wl.q (v := Value.int .i64 1) (q_move rfl) ?_
    refine Wl.q (v := Value.bool true) (q_eql (r := true) rfl rfl (decide_eq_true (by decide))) ?_
    refine Wl.q (v := Value.bool true) (q_pick (t := true) rfl rfl) ?_
    refine Wl.q (v := Value.bool true) (q_move rfl) ?_
    refine Wl.q (v := Value.pointer (some ⟨m, 0, none⟩)) (q_move rfl) ?_
    refine Wl.q (v := Value.int .i64 0) (q_move rfl) ?_
    refine Wl.q (v := Value.int .i64 0) (q_move rfl) ?_
    refine Wl.e (e_call (F := (storeW s (build [] l)) :: (refW r (build [] l)) :: F) (args := [Value.pointer (some ⟨m, 0, none⟩), Value.int .i64 0, Value.int .i64 0]) Try.call11 rfl (same_w W0 m mv ((build [] l).length + 1) 0 (by omega))) (fun _ _ => ?_)
    refine Wl.imp (L' := (pt m 63 [mv]) :: (sl 3 1 mv ((build [] l).length + 1) ((List.range ((build [] l).length + 1)).map natV)) :: (storeW s (build [] l)) :: (refW r (build [] l)) :: F) (fun _ h => h) ?_
    refine Wl.q (v := Value.bool true) (q_pick (t := true) rfl rfl) ?_
    refine Wl.q (v := Value.bool true) (q_move rfl) ?_
    refine Wl.q (v := Value.int .i64 2) (q_move rfl) ?_
    refine Wl.q (v := Value.bool true) (q_eql (r := true) rfl rfl (decide_eq_true (by decide))) ?_
    refine Wl.q (v := Value.bool true) (q_pick (t := true) rfl rfl) ?_
    refine Wl.q (v := Value.bool true) (q_move rfl) ?_
    refine Wl.e (e_call (F := (pt m 63 [mv]) :: (sl 3 1 mv ((build [] l).length + 1) ((List.range ((build [] l).length + 1)).map natV)) :: (storeW s (build [] l)) :: (refW r (build [] l)) :: F) (args := []) Try.call8 rfl (lives_c W0)) (fun _ _ => ?_)
    refine Wl.imp (L' := (pt m 63 [mv]) :: (sl 3 1 mv ((build [] l).length + 1) ((List.range ((build [] l).length + 1)).map natV)) :: (storeW s (build [] l)) :: (refW r (build [] l)) :: F) (fun _ h => h) ?_
    refine Wl.q (v := Value.bool true) (q_pick (t := true) rfl rfl) ?_
    refine Wl.q (v := Value.bool true) (q_assign rfl) ?_
    refine Wl.done ?_
    refine Wx.go ?_
    refine Wc.ret ?_
    refine Wx.fin1 rfl (.inl rfl) (fun w hs => ?_)
    exact ⟨(), trivial, rfl, (st_drop (st_drop (st_drop (st_drop (st_pull [0, 0, 0, 0] hs)))))⟩

theorem keys_neg (W0 : World) (vl : Value) (l : List TermR) (hl : Rd W0 vl l.length (l.flatMap termCells)) (hlo : ∀ x ∈ l, okT x) (app sd : Int) (n : Int) (hl2 : l.length ≤ 2000) (hn2 : ¬ (300 < n ∧ n ≤ 65536)) (ha : 1 ≤ app ∧ app ≤ ((build [] l).length : Int)) (hn : n < 0) :
    Con Try.prog W0 4 #[vl, Value.int .i64 app, Value.int .i64 sd, Value.int .i64 n] [] (X := Unit) (fun _ => True) (fun _ => .bool true) (fun _ => []) := by
  refine Con.of (args := [vl, Value.int .i64 app, Value.int .i64 sd, Value.int .i64 n]) Try.func4 rfl Try.ntmps4 rfl (fun F => ?_)
  have hw := build_all hlo
  have hT := build_all_le l
  show Wc _ W0 _ _ _ _ _ (F)
  refine Wc.seq ?_
  refine Wc.region ?_
  refine Wl.q (v := Value.bool false) (q_assign rfl) ?_
  refine Wl.done ?_
  refine Wx.go ?_
  refine Wc.seq ?_
  refine Wc.seq ?_
  refine Wc.region ?_
  refine Wl.q (v := vl) (q_move rfl) ?_
  refine Wl.q (v := Value.int .i64 ((l.length : Nat) : Int)) (q_len_is Try.underlying29 rfl hl.shape) ?_
  refine Wl.q (v := Value.bool false) (q_gtr (r := false) rfl rfl (decide_eq_false (by omega))) ?_
  refine Wl.q (v := Value.bool false) (q_move rfl) ?_
  refine Wl.q (v := Value.int .i64 n) (q_move rfl) ?_
  by_cases h5 : n > 300
  ·
    refine Wl.q (v := Value.bool true) (q_gtr (r := true) rfl rfl (decide_eq_true h5)) ?_
    refine Wl.q (v := Value.bool true) (q_move rfl) ?_
    refine Wl.q (v := Value.int .i64 n) (q_move rfl) ?_
    by_cases h8 : n ≤ 65536
    ·
      exfalso; omega
    ·
      refine Wl.q (v := Value.bool false) (q_leq (r := false) rfl rfl (decide_eq_false h8)) ?_
      refine Wl.q (v := Value.bool false) (q_pick (t := true) rfl rfl) ?_
      refine Wl.q (v := Value.bool false) (q_pick (t := false) rfl rfl) ?_
      refine Wl.done ?_
      refine Wx.go ?_
      refine Wc.no rfl ?_
      refine Wc.skip ?_
      refine Wx.go ?_
      refine Wc.seq ?_
      refine Wc.region ?_
      refine Wl.q (v := vl) (q_move rfl) ?_
      refine Wl.e (e_call (F := F) (args := [vl]) Try.call6 rfl (build_w W0 vl l hl (by omega) hlo)) (fun ⟨s, r⟩ _ => ?_)
      refine Wl.imp (L' := (storeW s (build [] l)) :: (refW r (build [] l)) :: F) (fun _ h => h) ?_
      refine Wl.q (v := Value.tuple #[Value.pointer (some ⟨s, 0, none⟩), Value.pointer (some ⟨r, 0, none⟩), Value.bool true]) (q_move rfl) ?_
      refine Wl.q (v := Value.pointer (some ⟨s, 0, none⟩)) (q_extract (i := 0) rfl rfl) ?_
      refine Wl.q (v := Value.pointer (some ⟨r, 0, none⟩)) (q_extract (i := 1) rfl rfl) ?_
      refine Wl.q (v := Value.bool true) (q_extract (i := 2) rfl rfl) ?_
      refine Wl.q (v := Value.pointer (some ⟨s, 0, none⟩)) (q_assign rfl) ?_
      refine Wl.q (v := Value.pointer (some ⟨r, 0, none⟩)) (q_assign rfl) ?_
      refine Wl.q (v := Value.bool true) (q_assign rfl) ?_
      refine Wl.done ?_
      refine Wx.go ?_
      refine Wc.seq ?_
      refine Wc.seq ?_
      refine Wc.region ?_
      refine Wl.q (v := Value.bool true) (q_move rfl) ?_
      refine Wl.q (v := Value.bool false) (q_not rfl rfl) ?_
      refine Wl.done ?_
      refine Wx.go ?_
      refine Wc.no rfl ?_
      refine Wc.skip ?_
      refine Wx.go ?_
      refine Wc.seq ?_
      refine Wc.region ?_
      refine Wl.q (v := Value.pointer (some ⟨s, 0, none⟩)) (q_move rfl) ?_
      refine Wl.q (v := Value.int .i64 app) (q_move rfl) ?_
      refine Wl.q (v := Value.int .i64 sd) (q_move rfl) ?_
      refine Wl.q (v := Value.int .i64 n) (q_move rfl) ?_
      refine Wl.e (e_call (F := (refW r (build [] l)) :: F) (args := [Value.pointer (some ⟨s, 0, none⟩), Value.int .i64 app, Value.int .i64 sd, Value.int .i64 n]) Try.call7 rfl (key_neg W0 s (build [] l) app sd n ha hn)) (fun _ _ => ?_)
      refine Wl.imp (L' := (storeW s (build [] l)) :: (refW r (build [] l)) :: F) (fun _ h => h) ?_
      refine Wl.q (v := Value.tuple #[Value.int .i64 0, Value.int .i64 1]) (q_move rfl) ?_
      refine Wl.q (v := Value.int .i64 0) (q_extract (i := 0) rfl rfl) ?_
      refine Wl.q (v := Value.int .i64 1) (q_extract (i := 1) rfl rfl) ?_
      refine Wl.q (v := Value.int .i64 0) (q_assign rfl) ?_
      refine Wl.q (v := Value.int .i64 1) (q_assign rfl) ?_
      refine Wl.done ?_
      refine Wx.go ?_
      refine Wc.seq ?_
      refine Wc.region ?_
      refine Wl.q (v := Value.pointer (some ⟨r, 0, none⟩)) (q_move rfl) ?_
      refine Wl.q (v := Value.int .i64 app) (q_move rfl) ?_
      refine Wl.q (v := Value.int .i64 sd) (q_move rfl) ?_
      refine Wl.q (v := Value.int .i64 n) (q_move rfl) ?_
      refine Wl.imp (L' := (refW r (build [] l)) :: (storeW s (build [] l)) :: F) (fun _ h => st_pull [1] h) ?_
      refine Wl.e (e_call (F := (storeW s (build [] l)) :: F) (args := [Value.pointer (some ⟨r, 0, none⟩), Value.int .i64 app, Value.int .i64 sd, Value.int .i64 n]) Try.call9 rfl (rkey_neg W0 r (build [] l) app sd n ha hn)) (fun _ _ => ?_)
      refine Wl.imp (L' := (refW r (build [] l)) :: (storeW s (build [] l)) :: F) (fun _ h => h) ?_
      refine Wl.q (v := Value.tuple #[Value.int .i64 0, Value.int .i64 1]) (q_move rfl) ?_
      refine Wl.q (v := Value.int .i64 0) (q_extract (i := 0) rfl rfl) ?_
      refine Wl.q (v := Value.int .i64 1) (q_extract (i := 1) rfl rfl) ?_
      refine Wl.q (v := Value.int .i64 0) (q_assign rfl) ?_
      refine Wl.q (v := Value.int .i64 1) (q_assign rfl) ?_
      refine Wl.done ?_
      refine Wx.go ?_
      refine Wc.seq ?_
      refine Wc.region ?_
      refine Wl.q (v := Value.pointer (some ⟨s, 0, none⟩)) (q_move rfl) ?_
      refine Wl.q (v := Value.pointer (some ⟨r, 0, none⟩)) (q_move rfl) ?_
      refine Wl.imp (L' := (storeW s (build [] l)) :: (refW r (build [] l)) :: F) (fun _ h => st_pull [1, 0] h) ?_
      refine Wl.e (e_call (F := F) (args := [Value.pointer (some ⟨s, 0, none⟩), Value.pointer (some ⟨r, 0, none⟩)]) Try.call10 rfl (across_w W0 s r (build [] l) hw (by omega))) (fun ⟨m, mv⟩ _ => ?_)
      refine Wl.imp (L' := (pt m 63 [mv]) :: (sl 3 1 mv ((build [] l).length + 1) ((List.range ((build [] l).length + 1)).map natV)) :: (storeW s (build [] l)) :: (refW r (build [] l)) :: F) (fun _ h => h) ?_
      refine Wl.q (v := Value.tuple #[Value.pointer (some ⟨m, 0, none⟩), Value.bool true]) (q_move rfl) ?_
      refine Wl.q (v := Value.pointer (some ⟨m, 0, none⟩)) (q_extract (i := 0) rfl rfl) ?_
      refine Wl.q (v := Value.bool true) (q_extract (i := 1) rfl rfl) ?_
      refine Wl.q (v := Value.pointer (some ⟨m, 0, none⟩)) (q_assign rfl) ?_
      refine Wl.q (v := Value.bool true) (q_assign rfl) ?_
      refine Wl.done ?_
      refine Wx.go ?_
      refine Wc.seq ?_
      refine Wc.region ?_
      refine Wl.q (v := Value.int .i64 app) (q_move rfl) ?_
      refine Wl.q (v := Value.int .i64 sd) (q_move rfl) ?_
      refine Wl.q (v := Value.int .i64 n) (q_move rfl) ?_
      refine Wl.e (e_call (F := (pt m 63 [mv]) :: (sl 3 1 mv ((build [] l).length + 1) ((List.range ((build [] l).length + 1)).map natV)) :: (storeW s (build [] l)) :: (refW r (build [] l)) :: F) (args := [Value.pointer none, Value.int .i64 app, Value.int .i64 sd, Value.int .i64 n]) Try.call7 rfl (key_nil W0 app sd n)) (fun _ _ => ?_)
      refine Wl.imp (L' := (pt m 63 [mv]) :: (sl 3 1 mv ((build [] l).length + 1) ((List.range ((build [] l).length + 1)).map natV)) :: (storeW s (build [] l)) :: (refW r (build [] l)) :: F) (fun _ h => h) ?_
      refine Wl.q (v := Value.tuple #[Value.int .i64 0, Value.int .i64 2]) (q_move rfl) ?_
      refine Wl.q (v := Value.int .i64 0) (q_extract (i := 0) rfl rfl) ?_
      refine Wl.q (v := Value.int .i64 2) (q_extract (i := 1) rfl rfl) ?_
      refine Wl.q (v := Value.int .i64 0) (q_assign rfl) ?_
      refine Wl.q (v := Value.int .i64 2) (q_assign rfl) ?_
      refine Wl.done ?_
      refine Wx.go ?_
      refine Wc.seq ?_
      refine Wc.region ?_
      refine Wl.q (v := Value.bool true) (q_move rfl) ?_
      refine Wl.q (v := Value.bool true) (q_move rfl) ?_
      refine Wl.q (v := Value.int .i64 1) (q_move rfl) ?_
      refine Wl.q (v := Value.int .i64 1) (q_move rfl) ?_
      refine Wl.q (v := Value.bool true) (q_eql (r := true) rfl rfl (decide_eq_true (by decide))) ?_
      refine Wl.q (v := Value.bool true) (q_pick (t := true) rfl rfl) ?_
      refine Wl.q (v := Value.bool true) (q_move rfl) ?_
      refine Wl.q (v := Value.pointer (some ⟨m, 0, none⟩)) (q_move rfl) ?_
      refine Wl.q (v := Value.int .i64 0) (q_move rfl) ?_
      refine Wl.q (v := Value.int .i64 0) (q_move rfl) ?_
      refine Wl.e (e_call (F := (storeW s (build [] l)) :: (refW r (build [] l)) :: F) (args := [Value.pointer (some ⟨m, 0, none⟩), Value.int .i64 0, Value.int .i64 0]) Try.call11 rfl (same_w W0 m mv ((build [] l).length + 1) 0 (by omega))) (fun _ _ => ?_)
      refine Wl.imp (L' := (pt m 63 [mv]) :: (sl 3 1 mv ((build [] l).length + 1) ((List.range ((build [] l).length + 1)).map natV)) :: (storeW s (build [] l)) :: (refW r (build [] l)) :: F) (fun _ h => h) ?_
      refine Wl.q (v := Value.bool true) (q_pick (t := true) rfl rfl) ?_
      refine Wl.q (v := Value.bool true) (q_move rfl) ?_
      refine Wl.q (v := Value.int .i64 2) (q_move rfl) ?_
      refine Wl.q (v := Value.bool true) (q_eql (r := true) rfl rfl (decide_eq_true (by decide))) ?_
      refine Wl.q (v := Value.bool true) (q_pick (t := true) rfl rfl) ?_
      refine Wl.q (v := Value.bool true) (q_move rfl) ?_
      refine Wl.e (e_call (F := (pt m 63 [mv]) :: (sl 3 1 mv ((build [] l).length + 1) ((List.range ((build [] l).length + 1)).map natV)) :: (storeW s (build [] l)) :: (refW r (build [] l)) :: F) (args := []) Try.call8 rfl (lives_c W0)) (fun _ _ => ?_)
      refine Wl.imp (L' := (pt m 63 [mv]) :: (sl 3 1 mv ((build [] l).length + 1) ((List.range ((build [] l).length + 1)).map natV)) :: (storeW s (build [] l)) :: (refW r (build [] l)) :: F) (fun _ h => h) ?_
      refine Wl.q (v := Value.bool true) (q_pick (t := true) rfl rfl) ?_
      refine Wl.q (v := Value.bool true) (q_assign rfl) ?_
      refine Wl.done ?_
      refine Wx.go ?_
      refine Wc.ret ?_
      refine Wx.fin1 rfl (.inl rfl) (fun w hs => ?_)
      exact ⟨(), trivial, rfl, (st_drop (st_drop (st_drop (st_drop (st_pull [0, 0, 0, 0] hs)))))⟩
  ·
    refine Wl.q (v := Value.bool false) (q_gtr (r := false) rfl rfl (decide_eq_false h5)) ?_
    refine Wl.q (v := Value.bool false) (q_move rfl) ?_
    refine Wl.no ?_
    refine Wl.no ?_
    refine Wl.q (v := Value.bool false) (q_pick (t := false) rfl rfl) ?_
    refine Wl.q (v := Value.bool false) (q_pick (t := false) rfl rfl) ?_
    refine Wl.done ?_
    refine Wx.go ?_
    refine Wc.no rfl ?_
    refine Wc.skip ?_
    refine Wx.go ?_
    refine Wc.seq ?_
    refine Wc.region ?_
    refine Wl.q (v := vl) (q_move rfl) ?_
    refine Wl.e (e_call (F := F) (args := [vl]) Try.call6 rfl (build_w W0 vl l hl (by omega) hlo)) (fun ⟨s, r⟩ _ => ?_)
    refine Wl.imp (L' := (storeW s (build [] l)) :: (refW r (build [] l)) :: F) (fun _ h => h) ?_
    refine Wl.q (v := Value.tuple #[Value.pointer (some ⟨s, 0, none⟩), Value.pointer (some ⟨r, 0, none⟩), Value.bool true]) (q_move rfl) ?_
    refine Wl.q (v := Value.pointer (some ⟨s, 0, none⟩)) (q_extract (i := 0) rfl rfl) ?_
    refine Wl.q (v := Value.pointer (some ⟨r, 0, none⟩)) (q_extract (i := 1) rfl rfl) ?_
    refine Wl.q (v := Value.bool true) (q_extract (i := 2) rfl rfl) ?_
    refine Wl.q (v := Value.pointer (some ⟨s, 0, none⟩)) (q_assign rfl) ?_
    refine Wl.q (v := Value.pointer (some ⟨r, 0, none⟩)) (q_assign rfl) ?_
    refine Wl.q (v := Value.bool true) (q_assign rfl) ?_
    refine Wl.done ?_
    refine Wx.go ?_
    refine Wc.seq ?_
    refine Wc.seq ?_
    refine Wc.region ?_
    refine Wl.q (v := Value.bool true) (q_move rfl) ?_
    refine Wl.q (v := Value.bool false) (q_not rfl rfl) ?_
    refine Wl.done ?_
    refine Wx.go ?_
    refine Wc.no rfl ?_
    refine Wc.skip ?_
    refine Wx.go ?_
    refine Wc.seq ?_
    refine Wc.region ?_
    refine Wl.q (v := Value.pointer (some ⟨s, 0, none⟩)) (q_move rfl) ?_
    refine Wl.q (v := Value.int .i64 app) (q_move rfl) ?_
    refine Wl.q (v := Value.int .i64 sd) (q_move rfl) ?_
    refine Wl.q (v := Value.int .i64 n) (q_move rfl) ?_
    refine Wl.e (e_call (F := (refW r (build [] l)) :: F) (args := [Value.pointer (some ⟨s, 0, none⟩), Value.int .i64 app, Value.int .i64 sd, Value.int .i64 n]) Try.call7 rfl (key_neg W0 s (build [] l) app sd n ha hn)) (fun _ _ => ?_)
    refine Wl.imp (L' := (storeW s (build [] l)) :: (refW r (build [] l)) :: F) (fun _ h => h) ?_
    refine Wl.q (v := Value.tuple #[Value.int .i64 0, Value.int .i64 1]) (q_move rfl) ?_
    refine Wl.q (v := Value.int .i64 0) (q_extract (i := 0) rfl rfl) ?_
    refine Wl.q (v := Value.int .i64 1) (q_extract (i := 1) rfl rfl) ?_
    refine Wl.q (v := Value.int .i64 0) (q_assign rfl) ?_
    refine Wl.q (v := Value.int .i64 1) (q_assign rfl) ?_
    refine Wl.done ?_
    refine Wx.go ?_
    refine Wc.seq ?_
    refine Wc.region ?_
    refine Wl.q (v := Value.pointer (some ⟨r, 0, none⟩)) (q_move rfl) ?_
    refine Wl.q (v := Value.int .i64 app) (q_move rfl) ?_
    refine Wl.q (v := Value.int .i64 sd) (q_move rfl) ?_
    refine Wl.q (v := Value.int .i64 n) (q_move rfl) ?_
    refine Wl.imp (L' := (refW r (build [] l)) :: (storeW s (build [] l)) :: F) (fun _ h => st_pull [1] h) ?_
    refine Wl.e (e_call (F := (storeW s (build [] l)) :: F) (args := [Value.pointer (some ⟨r, 0, none⟩), Value.int .i64 app, Value.int .i64 sd, Value.int .i64 n]) Try.call9 rfl (rkey_neg W0 r (build [] l) app sd n ha hn)) (fun _ _ => ?_)
    refine Wl.imp (L' := (refW r (build [] l)) :: (storeW s (build [] l)) :: F) (fun _ h => h) ?_
    refine Wl.q (v := Value.tuple #[Value.int .i64 0, Value.int .i64 1]) (q_move rfl) ?_
    refine Wl.q (v := Value.int .i64 0) (q_extract (i := 0) rfl rfl) ?_
    refine Wl.q (v := Value.int .i64 1) (q_extract (i := 1) rfl rfl) ?_
    refine Wl.q (v := Value.int .i64 0) (q_assign rfl) ?_
    refine Wl.q (v := Value.int .i64 1) (q_assign rfl) ?_
    refine Wl.done ?_
    refine Wx.go ?_
    refine Wc.seq ?_
    refine Wc.region ?_
    refine Wl.q (v := Value.pointer (some ⟨s, 0, none⟩)) (q_move rfl) ?_
    refine Wl.q (v := Value.pointer (some ⟨r, 0, none⟩)) (q_move rfl) ?_
    refine Wl.imp (L' := (storeW s (build [] l)) :: (refW r (build [] l)) :: F) (fun _ h => st_pull [1, 0] h) ?_
    refine Wl.e (e_call (F := F) (args := [Value.pointer (some ⟨s, 0, none⟩), Value.pointer (some ⟨r, 0, none⟩)]) Try.call10 rfl (across_w W0 s r (build [] l) hw (by omega))) (fun ⟨m, mv⟩ _ => ?_)
    refine Wl.imp (L' := (pt m 63 [mv]) :: (sl 3 1 mv ((build [] l).length + 1) ((List.range ((build [] l).length + 1)).map natV)) :: (storeW s (build [] l)) :: (refW r (build [] l)) :: F) (fun _ h => h) ?_
    refine Wl.q (v := Value.tuple #[Value.pointer (some ⟨m, 0, none⟩), Value.bool true]) (q_move rfl) ?_
    refine Wl.q (v := Value.pointer (some ⟨m, 0, none⟩)) (q_extract (i := 0) rfl rfl) ?_
    refine Wl.q (v := Value.bool true) (q_extract (i := 1) rfl rfl) ?_
    refine Wl.q (v := Value.pointer (some ⟨m, 0, none⟩)) (q_assign rfl) ?_
    refine Wl.q (v := Value.bool true) (q_assign rfl) ?_
    refine Wl.done ?_
    refine Wx.go ?_
    refine Wc.seq ?_
    refine Wc.region ?_
    refine Wl.q (v := Value.int .i64 app) (q_move rfl) ?_
    refine Wl.q (v := Value.int .i64 sd) (q_move rfl) ?_
    refine Wl.q (v := Value.int .i64 n) (q_move rfl) ?_
    refine Wl.e (e_call (F := (pt m 63 [mv]) :: (sl 3 1 mv ((build [] l).length + 1) ((List.range ((build [] l).length + 1)).map natV)) :: (storeW s (build [] l)) :: (refW r (build [] l)) :: F) (args := [Value.pointer none, Value.int .i64 app, Value.int .i64 sd, Value.int .i64 n]) Try.call7 rfl (key_nil W0 app sd n)) (fun _ _ => ?_)
    refine Wl.imp (L' := (pt m 63 [mv]) :: (sl 3 1 mv ((build [] l).length + 1) ((List.range ((build [] l).length + 1)).map natV)) :: (storeW s (build [] l)) :: (refW r (build [] l)) :: F) (fun _ h => h) ?_
    refine Wl.q (v := Value.tuple #[Value.int .i64 0, Value.int .i64 2]) (q_move rfl) ?_
    refine Wl.q (v := Value.int .i64 0) (q_extract (i := 0) rfl rfl) ?_
    refine Wl.q (v := Value.int .i64 2) (q_extract (i := 1) rfl rfl) ?_
    refine Wl.q (v := Value.int .i64 0) (q_assign rfl) ?_
    refine Wl.q (v := Value.int .i64 2) (q_assign rfl) ?_
    refine Wl.done ?_
    refine Wx.go ?_
    refine Wc.seq ?_
    refine Wc.region ?_
    refine Wl.q (v := Value.bool true) (q_move rfl) ?_
    refine Wl.q (v := Value.bool true) (q_move rfl) ?_
    refine Wl.q (v := Value.int .i64 1) (q_move rfl) ?_
    refine Wl.q (v := Value.int .i64 1) (q_move rfl) ?_
    refine Wl.q (v := Value.bool true) (q_eql (r := true) rfl rfl (decide_eq_true (by decide))) ?_
    refine Wl.q (v := Value.bool true) (q_pick (t := true) rfl rfl) ?_
    refine Wl.q (v := Value.bool true) (q_move rfl) ?_
    refine Wl.q (v := Value.pointer (some ⟨m, 0, none⟩)) (q_move rfl) ?_
    refine Wl.q (v := Value.int .i64 0) (q_move rfl) ?_
    refine Wl.q (v := Value.int .i64 0) (q_move rfl) ?_
    refine Wl.e (e_call (F := (storeW s (build [] l)) :: (refW r (build [] l)) :: F) (args := [Value.pointer (some ⟨m, 0, none⟩), Value.int .i64 0, Value.int .i64 0]) Try.call11 rfl (same_w W0 m mv ((build [] l).length + 1) 0 (by omega))) (fun _ _ => ?_)
    refine Wl.imp (L' := (pt m 63 [mv]) :: (sl 3 1 mv ((build [] l).length + 1) ((List.range ((build [] l).length + 1)).map natV)) :: (storeW s (build [] l)) :: (refW r (build [] l)) :: F) (fun _ h => h) ?_
    refine Wl.q (v := Value.bool true) (q_pick (t := true) rfl rfl) ?_
    refine Wl.q (v := Value.bool true) (q_move rfl) ?_
    refine Wl.q (v := Value.int .i64 2) (q_move rfl) ?_
    refine Wl.q (v := Value.bool true) (q_eql (r := true) rfl rfl (decide_eq_true (by decide))) ?_
    refine Wl.q (v := Value.bool true) (q_pick (t := true) rfl rfl) ?_
    refine Wl.q (v := Value.bool true) (q_move rfl) ?_
    refine Wl.e (e_call (F := (pt m 63 [mv]) :: (sl 3 1 mv ((build [] l).length + 1) ((List.range ((build [] l).length + 1)).map natV)) :: (storeW s (build [] l)) :: (refW r (build [] l)) :: F) (args := []) Try.call8 rfl (lives_c W0)) (fun _ _ => ?_)
    refine Wl.imp (L' := (pt m 63 [mv]) :: (sl 3 1 mv ((build [] l).length + 1) ((List.range ((build [] l).length + 1)).map natV)) :: (storeW s (build [] l)) :: (refW r (build [] l)) :: F) (fun _ h => h) ?_
    refine Wl.q (v := Value.bool true) (q_pick (t := true) rfl rfl) ?_
    refine Wl.q (v := Value.bool true) (q_assign rfl) ?_
    refine Wl.done ?_
    refine Wx.go ?_
    refine Wc.ret ?_
    refine Wx.fin1 rfl (.inl rfl) (fun w hs => ?_)
    exact ⟨(), trivial, rfl, (st_drop (st_drop (st_drop (st_drop (st_pull [0, 0, 0, 0] hs)))))⟩

theorem keys_limit (W0 : World) (vl : Value) (l : List TermR) (hl : Rd W0 vl l.length (l.flatMap termCells)) (hlo : ∀ x ∈ l, okT x) (app sd : Int) (n : Int) (hl2 : l.length ≤ 2000) (hn2 : ¬ (300 < n ∧ n ≤ 65536)) (ha : 1 ≤ app ∧ app ≤ ((build [] l).length : Int)) (hn : 65536 < n) :
    Con Try.prog W0 4 #[vl, Value.int .i64 app, Value.int .i64 sd, Value.int .i64 n] [] (X := Unit) (fun _ => True) (fun _ => .bool true) (fun _ => []) := by
  refine Con.of (args := [vl, Value.int .i64 app, Value.int .i64 sd, Value.int .i64 n]) Try.func4 rfl Try.ntmps4 rfl (fun F => ?_)
  have hw := build_all hlo
  have hT := build_all_le l
  show Wc _ W0 _ _ _ _ _ (F)
  refine Wc.seq ?_
  refine Wc.region ?_
  refine Wl.q (v := Value.bool false) (q_assign rfl) ?_
  refine Wl.done ?_
  refine Wx.go ?_
  refine Wc.seq ?_
  refine Wc.seq ?_
  refine Wc.region ?_
  refine Wl.q (v := vl) (q_move rfl) ?_
  refine Wl.q (v := Value.int .i64 ((l.length : Nat) : Int)) (q_len_is Try.underlying29 rfl hl.shape) ?_
  refine Wl.q (v := Value.bool false) (q_gtr (r := false) rfl rfl (decide_eq_false (by omega))) ?_
  refine Wl.q (v := Value.bool false) (q_move rfl) ?_
  refine Wl.q (v := Value.int .i64 n) (q_move rfl) ?_
  by_cases h5 : n > 300
  ·
    refine Wl.q (v := Value.bool true) (q_gtr (r := true) rfl rfl (decide_eq_true h5)) ?_
    refine Wl.q (v := Value.bool true) (q_move rfl) ?_
    refine Wl.q (v := Value.int .i64 n) (q_move rfl) ?_
    by_cases h8 : n ≤ 65536
    ·
      exfalso; omega
    ·
      refine Wl.q (v := Value.bool false) (q_leq (r := false) rfl rfl (decide_eq_false h8)) ?_
      refine Wl.q (v := Value.bool false) (q_pick (t := true) rfl rfl) ?_
      refine Wl.q (v := Value.bool false) (q_pick (t := false) rfl rfl) ?_
      refine Wl.done ?_
      refine Wx.go ?_
      refine Wc.no rfl ?_
      refine Wc.skip ?_
      refine Wx.go ?_
      refine Wc.seq ?_
      refine Wc.region ?_
      refine Wl.q (v := vl) (q_move rfl) ?_
      refine Wl.e (e_call (F := F) (args := [vl]) Try.call6 rfl (build_w W0 vl l hl (by omega) hlo)) (fun ⟨s, r⟩ _ => ?_)
      refine Wl.imp (L' := (storeW s (build [] l)) :: (refW r (build [] l)) :: F) (fun _ h => h) ?_
      refine Wl.q (v := Value.tuple #[Value.pointer (some ⟨s, 0, none⟩), Value.pointer (some ⟨r, 0, none⟩), Value.bool true]) (q_move rfl) ?_
      refine Wl.q (v := Value.pointer (some ⟨s, 0, none⟩)) (q_extract (i := 0) rfl rfl) ?_
      refine Wl.q (v := Value.pointer (some ⟨r, 0, none⟩)) (q_extract (i := 1) rfl rfl) ?_
      refine Wl.q (v := Value.bool true) (q_extract (i := 2) rfl rfl) ?_
      refine Wl.q (v := Value.pointer (some ⟨s, 0, none⟩)) (q_assign rfl) ?_
      refine Wl.q (v := Value.pointer (some ⟨r, 0, none⟩)) (q_assign rfl) ?_
      refine Wl.q (v := Value.bool true) (q_assign rfl) ?_
      refine Wl.done ?_
      refine Wx.go ?_
      refine Wc.seq ?_
      refine Wc.seq ?_
      refine Wc.region ?_
      refine Wl.q (v := Value.bool true) (q_move rfl) ?_
      refine Wl.q (v := Value.bool false) (q_not rfl rfl) ?_
      refine Wl.done ?_
      refine Wx.go ?_
      refine Wc.no rfl ?_
      refine Wc.skip ?_
      refine Wx.go ?_
      refine Wc.seq ?_
      refine Wc.region ?_
      refine Wl.q (v := Value.pointer (some ⟨s, 0, none⟩)) (q_move rfl) ?_
      refine Wl.q (v := Value.int .i64 app) (q_move rfl) ?_
      refine Wl.q (v := Value.int .i64 sd) (q_move rfl) ?_
      refine Wl.q (v := Value.int .i64 n) (q_move rfl) ?_
      refine Wl.e (e_call (F := (refW r (build [] l)) :: F) (args := [Value.pointer (some ⟨s, 0, none⟩), Value.int .i64 app, Value.int .i64 sd, Value.int .i64 n]) Try.call7 rfl (key_limit W0 s (build [] l) app sd n ha hn)) (fun _ _ => ?_)
      refine Wl.imp (L' := (storeW s (build [] l)) :: (refW r (build [] l)) :: F) (fun _ h => h) ?_
      refine Wl.q (v := Value.tuple #[Value.int .i64 0, Value.int .i64 3]) (q_move rfl) ?_
      refine Wl.q (v := Value.int .i64 0) (q_extract (i := 0) rfl rfl) ?_
      refine Wl.q (v := Value.int .i64 3) (q_extract (i := 1) rfl rfl) ?_
      refine Wl.q (v := Value.int .i64 0) (q_assign rfl) ?_
      refine Wl.q (v := Value.int .i64 3) (q_assign rfl) ?_
      refine Wl.done ?_
      refine Wx.go ?_
      refine Wc.seq ?_
      refine Wc.region ?_
      refine Wl.q (v := Value.pointer (some ⟨r, 0, none⟩)) (q_move rfl) ?_
      refine Wl.q (v := Value.int .i64 app) (q_move rfl) ?_
      refine Wl.q (v := Value.int .i64 sd) (q_move rfl) ?_
      refine Wl.q (v := Value.int .i64 n) (q_move rfl) ?_
      refine Wl.imp (L' := (refW r (build [] l)) :: (storeW s (build [] l)) :: F) (fun _ h => st_pull [1] h) ?_
      refine Wl.e (e_call (F := (storeW s (build [] l)) :: F) (args := [Value.pointer (some ⟨r, 0, none⟩), Value.int .i64 app, Value.int .i64 sd, Value.int .i64 n]) Try.call9 rfl (rkey_limit W0 r (build [] l) app sd n ha hn)) (fun _ _ => ?_)
      refine Wl.imp (L' := (refW r (build [] l)) :: (storeW s (build [] l)) :: F) (fun _ h => h) ?_
      refine Wl.q (v := Value.tuple #[Value.int .i64 0, Value.int .i64 3]) (q_move rfl) ?_
      refine Wl.q (v := Value.int .i64 0) (q_extract (i := 0) rfl rfl) ?_
      refine Wl.q (v := Value.int .i64 3) (q_extract (i := 1) rfl rfl) ?_
      refine Wl.q (v := Value.int .i64 0) (q_assign rfl) ?_
      refine Wl.q (v := Value.int .i64 3) (q_assign rfl) ?_
      refine Wl.done ?_
      refine Wx.go ?_
      refine Wc.seq ?_
      refine Wc.region ?_
      refine Wl.q (v := Value.pointer (some ⟨s, 0, none⟩)) (q_move rfl) ?_
      refine Wl.q (v := Value.pointer (some ⟨r, 0, none⟩)) (q_move rfl) ?_
      refine Wl.imp (L' := (storeW s (build [] l)) :: (refW r (build [] l)) :: F) (fun _ h => st_pull [1, 0] h) ?_
      refine Wl.e (e_call (F := F) (args := [Value.pointer (some ⟨s, 0, none⟩), Value.pointer (some ⟨r, 0, none⟩)]) Try.call10 rfl (across_w W0 s r (build [] l) hw (by omega))) (fun ⟨m, mv⟩ _ => ?_)
      refine Wl.imp (L' := (pt m 63 [mv]) :: (sl 3 1 mv ((build [] l).length + 1) ((List.range ((build [] l).length + 1)).map natV)) :: (storeW s (build [] l)) :: (refW r (build [] l)) :: F) (fun _ h => h) ?_
      refine Wl.q (v := Value.tuple #[Value.pointer (some ⟨m, 0, none⟩), Value.bool true]) (q_move rfl) ?_
      refine Wl.q (v := Value.pointer (some ⟨m, 0, none⟩)) (q_extract (i := 0) rfl rfl) ?_
      refine Wl.q (v := Value.bool true) (q_extract (i := 1) rfl rfl) ?_
      refine Wl.q (v := Value.pointer (some ⟨m, 0, none⟩)) (q_assign rfl) ?_
      refine Wl.q (v := Value.bool true) (q_assign rfl) ?_
      refine Wl.done ?_
      refine Wx.go ?_
      refine Wc.seq ?_
      refine Wc.region ?_
      refine Wl.q (v := Value.int .i64 app) (q_move rfl) ?_
      refine Wl.q (v := Value.int .i64 sd) (q_move rfl) ?_
      refine Wl.q (v := Value.int .i64 n) (q_move rfl) ?_
      refine Wl.e (e_call (F := (pt m 63 [mv]) :: (sl 3 1 mv ((build [] l).length + 1) ((List.range ((build [] l).length + 1)).map natV)) :: (storeW s (build [] l)) :: (refW r (build [] l)) :: F) (args := [Value.pointer none, Value.int .i64 app, Value.int .i64 sd, Value.int .i64 n]) Try.call7 rfl (key_nil W0 app sd n)) (fun _ _ => ?_)
      refine Wl.imp (L' := (pt m 63 [mv]) :: (sl 3 1 mv ((build [] l).length + 1) ((List.range ((build [] l).length + 1)).map natV)) :: (storeW s (build [] l)) :: (refW r (build [] l)) :: F) (fun _ h => h) ?_
      refine Wl.q (v := Value.tuple #[Value.int .i64 0, Value.int .i64 2]) (q_move rfl) ?_
      refine Wl.q (v := Value.int .i64 0) (q_extract (i := 0) rfl rfl) ?_
      refine Wl.q (v := Value.int .i64 2) (q_extract (i := 1) rfl rfl) ?_
      refine Wl.q (v := Value.int .i64 0) (q_assign rfl) ?_
      refine Wl.q (v := Value.int .i64 2) (q_assign rfl) ?_
      refine Wl.done ?_
      refine Wx.go ?_
      refine Wc.seq ?_
      refine Wc.region ?_
      refine Wl.q (v := Value.bool true) (q_move rfl) ?_
      refine Wl.q (v := Value.bool true) (q_move rfl) ?_
      refine Wl.q (v := Value.int .i64 3) (q_move rfl) ?_
      refine Wl.q (v := Value.int .i64 3) (q_move rfl) ?_
      refine Wl.q (v := Value.bool true) (q_eql (r := true) rfl rfl (decide_eq_true (by decide))) ?_
      refine Wl.q (v := Value.bool true) (q_pick (t := true) rfl rfl) ?_
      refine Wl.q (v := Value.bool true) (q_move rfl) ?_
      refine Wl.q (v := Value.pointer (some ⟨m, 0, none⟩)) (q_move rfl) ?_
      refine Wl.q (v := Value.int .i64 0) (q_move rfl) ?_
      refine Wl.q (v := Value.int .i64 0) (q_move rfl) ?_
      refine Wl.e (e_call (F := (storeW s (build [] l)) :: (refW r (build [] l)) :: F) (args := [Value.pointer (some ⟨m, 0, none⟩), Value.int .i64 0, Value.int .i64 0]) Try.call11 rfl (same_w W0 m mv ((build [] l).length + 1) 0 (by omega))) (fun _ _ => ?_)
      refine Wl.imp (L' := (pt m 63 [mv]) :: (sl 3 1 mv ((build [] l).length + 1) ((List.range ((build [] l).length + 1)).map natV)) :: (storeW s (build [] l)) :: (refW r (build [] l)) :: F) (fun _ h => h) ?_
      refine Wl.q (v := Value.bool true) (q_pick (t := true) rfl rfl) ?_
      refine Wl.q (v := Value.bool true) (q_move rfl) ?_
      refine Wl.q (v := Value.int .i64 2) (q_move rfl) ?_
      refine Wl.q (v := Value.bool true) (q_eql (r := true) rfl rfl (decide_eq_true (by decide))) ?_
      refine Wl.q (v := Value.bool true) (q_pick (t := true) rfl rfl) ?_
      refine Wl.q (v := Value.bool true) (q_move rfl) ?_
      refine Wl.e (e_call (F := (pt m 63 [mv]) :: (sl 3 1 mv ((build [] l).length + 1) ((List.range ((build [] l).length + 1)).map natV)) :: (storeW s (build [] l)) :: (refW r (build [] l)) :: F) (args := []) Try.call8 rfl (lives_c W0)) (fun _ _ => ?_)
      refine Wl.imp (L' := (pt m 63 [mv]) :: (sl 3 1 mv ((build [] l).length + 1) ((List.range ((build [] l).length + 1)).map natV)) :: (storeW s (build [] l)) :: (refW r (build [] l)) :: F) (fun _ h => h) ?_
      refine Wl.q (v := Value.bool true) (q_pick (t := true) rfl rfl) ?_
      refine Wl.q (v := Value.bool true) (q_assign rfl) ?_
      refine Wl.done ?_
      refine Wx.go ?_
      refine Wc.ret ?_
      refine Wx.fin1 rfl (.inl rfl) (fun w hs => ?_)
      exact ⟨(), trivial, rfl, (st_drop (st_drop (st_drop (st_drop (st_pull [0, 0, 0, 0] hs)))))⟩
  ·
    refine Wl.q (v := Value.bool false) (q_gtr (r := false) rfl rfl (decide_eq_false h5)) ?_
    refine Wl.q (v := Value.bool false) (q_move rfl) ?_
    refine Wl.no ?_
    refine Wl.no ?_
    refine Wl.q (v := Value.bool false) (q_pick (t := false) rfl rfl) ?_
    refine Wl.q (v := Value.bool false) (q_pick (t := false) rfl rfl) ?_
    refine Wl.done ?_
    refine Wx.go ?_
    refine Wc.no rfl ?_
    refine Wc.skip ?_
    refine Wx.go ?_
    refine Wc.seq ?_
    refine Wc.region ?_
    refine Wl.q (v := vl) (q_move rfl) ?_
    refine Wl.e (e_call (F := F) (args := [vl]) Try.call6 rfl (build_w W0 vl l hl (by omega) hlo)) (fun ⟨s, r⟩ _ => ?_)
    refine Wl.imp (L' := (storeW s (build [] l)) :: (refW r (build [] l)) :: F) (fun _ h => h) ?_
    refine Wl.q (v := Value.tuple #[Value.pointer (some ⟨s, 0, none⟩), Value.pointer (some ⟨r, 0, none⟩), Value.bool true]) (q_move rfl) ?_
    refine Wl.q (v := Value.pointer (some ⟨s, 0, none⟩)) (q_extract (i := 0) rfl rfl) ?_
    refine Wl.q (v := Value.pointer (some ⟨r, 0, none⟩)) (q_extract (i := 1) rfl rfl) ?_
    refine Wl.q (v := Value.bool true) (q_extract (i := 2) rfl rfl) ?_
    refine Wl.q (v := Value.pointer (some ⟨s, 0, none⟩)) (q_assign rfl) ?_
    refine Wl.q (v := Value.pointer (some ⟨r, 0, none⟩)) (q_assign rfl) ?_
    refine Wl.q (v := Value.bool true) (q_assign rfl) ?_
    refine Wl.done ?_
    refine Wx.go ?_
    refine Wc.seq ?_
    refine Wc.seq ?_
    refine Wc.region ?_
    refine Wl.q (v := Value.bool true) (q_move rfl) ?_
    refine Wl.q (v := Value.bool false) (q_not rfl rfl) ?_
    refine Wl.done ?_
    refine Wx.go ?_
    refine Wc.no rfl ?_
    refine Wc.skip ?_
    refine Wx.go ?_
    refine Wc.seq ?_
    refine Wc.region ?_
    refine Wl.q (v := Value.pointer (some ⟨s, 0, none⟩)) (q_move rfl) ?_
    refine Wl.q (v := Value.int .i64 app) (q_move rfl) ?_
    refine Wl.q (v := Value.int .i64 sd) (q_move rfl) ?_
    refine Wl.q (v := Value.int .i64 n) (q_move rfl) ?_
    refine Wl.e (e_call (F := (refW r (build [] l)) :: F) (args := [Value.pointer (some ⟨s, 0, none⟩), Value.int .i64 app, Value.int .i64 sd, Value.int .i64 n]) Try.call7 rfl (key_limit W0 s (build [] l) app sd n ha hn)) (fun _ _ => ?_)
    refine Wl.imp (L' := (storeW s (build [] l)) :: (refW r (build [] l)) :: F) (fun _ h => h) ?_
    refine Wl.q (v := Value.tuple #[Value.int .i64 0, Value.int .i64 3]) (q_move rfl) ?_
    refine Wl.q (v := Value.int .i64 0) (q_extract (i := 0) rfl rfl) ?_
    refine Wl.q (v := Value.int .i64 3) (q_extract (i := 1) rfl rfl) ?_
    refine Wl.q (v := Value.int .i64 0) (q_assign rfl) ?_
    refine Wl.q (v := Value.int .i64 3) (q_assign rfl) ?_
    refine Wl.done ?_
    refine Wx.go ?_
    refine Wc.seq ?_
    refine Wc.region ?_
    refine Wl.q (v := Value.pointer (some ⟨r, 0, none⟩)) (q_move rfl) ?_
    refine Wl.q (v := Value.int .i64 app) (q_move rfl) ?_
    refine Wl.q (v := Value.int .i64 sd) (q_move rfl) ?_
    refine Wl.q (v := Value.int .i64 n) (q_move rfl) ?_
    refine Wl.imp (L' := (refW r (build [] l)) :: (storeW s (build [] l)) :: F) (fun _ h => st_pull [1] h) ?_
    refine Wl.e (e_call (F := (storeW s (build [] l)) :: F) (args := [Value.pointer (some ⟨r, 0, none⟩), Value.int .i64 app, Value.int .i64 sd, Value.int .i64 n]) Try.call9 rfl (rkey_limit W0 r (build [] l) app sd n ha hn)) (fun _ _ => ?_)
    refine Wl.imp (L' := (refW r (build [] l)) :: (storeW s (build [] l)) :: F) (fun _ h => h) ?_
    refine Wl.q (v := Value.tuple #[Value.int .i64 0, Value.int .i64 3]) (q_move rfl) ?_
    refine Wl.q (v := Value.int .i64 0) (q_extract (i := 0) rfl rfl) ?_
    refine Wl.q (v := Value.int .i64 3) (q_extract (i := 1) rfl rfl) ?_
    refine Wl.q (v := Value.int .i64 0) (q_assign rfl) ?_
    refine Wl.q (v := Value.int .i64 3) (q_assign rfl) ?_
    refine Wl.done ?_
    refine Wx.go ?_
    refine Wc.seq ?_
    refine Wc.region ?_
    refine Wl.q (v := Value.pointer (some ⟨s, 0, none⟩)) (q_move rfl) ?_
    refine Wl.q (v := Value.pointer (some ⟨r, 0, none⟩)) (q_move rfl) ?_
    refine Wl.imp (L' := (storeW s (build [] l)) :: (refW r (build [] l)) :: F) (fun _ h => st_pull [1, 0] h) ?_
    refine Wl.e (e_call (F := F) (args := [Value.pointer (some ⟨s, 0, none⟩), Value.pointer (some ⟨r, 0, none⟩)]) Try.call10 rfl (across_w W0 s r (build [] l) hw (by omega))) (fun ⟨m, mv⟩ _ => ?_)
    refine Wl.imp (L' := (pt m 63 [mv]) :: (sl 3 1 mv ((build [] l).length + 1) ((List.range ((build [] l).length + 1)).map natV)) :: (storeW s (build [] l)) :: (refW r (build [] l)) :: F) (fun _ h => h) ?_
    refine Wl.q (v := Value.tuple #[Value.pointer (some ⟨m, 0, none⟩), Value.bool true]) (q_move rfl) ?_
    refine Wl.q (v := Value.pointer (some ⟨m, 0, none⟩)) (q_extract (i := 0) rfl rfl) ?_
    refine Wl.q (v := Value.bool true) (q_extract (i := 1) rfl rfl) ?_
    refine Wl.q (v := Value.pointer (some ⟨m, 0, none⟩)) (q_assign rfl) ?_
    refine Wl.q (v := Value.bool true) (q_assign rfl) ?_
    refine Wl.done ?_
    refine Wx.go ?_
    refine Wc.seq ?_
    refine Wc.region ?_
    refine Wl.q (v := Value.int .i64 app) (q_move rfl) ?_
    refine Wl.q (v := Value.int .i64 sd) (q_move rfl) ?_
    refine Wl.q (v := Value.int .i64 n) (q_move rfl) ?_
    refine Wl.e (e_call (F := (pt m 63 [mv]) :: (sl 3 1 mv ((build [] l).length + 1) ((List.range ((build [] l).length + 1)).map natV)) :: (storeW s (build [] l)) :: (refW r (build [] l)) :: F) (args := [Value.pointer none, Value.int .i64 app, Value.int .i64 sd, Value.int .i64 n]) Try.call7 rfl (key_nil W0 app sd n)) (fun _ _ => ?_)
    refine Wl.imp (L' := (pt m 63 [mv]) :: (sl 3 1 mv ((build [] l).length + 1) ((List.range ((build [] l).length + 1)).map natV)) :: (storeW s (build [] l)) :: (refW r (build [] l)) :: F) (fun _ h => h) ?_
    refine Wl.q (v := Value.tuple #[Value.int .i64 0, Value.int .i64 2]) (q_move rfl) ?_
    refine Wl.q (v := Value.int .i64 0) (q_extract (i := 0) rfl rfl) ?_
    refine Wl.q (v := Value.int .i64 2) (q_extract (i := 1) rfl rfl) ?_
    refine Wl.q (v := Value.int .i64 0) (q_assign rfl) ?_
    refine Wl.q (v := Value.int .i64 2) (q_assign rfl) ?_
    refine Wl.done ?_
    refine Wx.go ?_
    refine Wc.seq ?_
    refine Wc.region ?_
    refine Wl.q (v := Value.bool true) (q_move rfl) ?_
    refine Wl.q (v := Value.bool true) (q_move rfl) ?_
    refine Wl.q (v := Value.int .i64 3) (q_move rfl) ?_
    refine Wl.q (v := Value.int .i64 3) (q_move rfl) ?_
    refine Wl.q (v := Value.bool true) (q_eql (r := true) rfl rfl (decide_eq_true (by decide))) ?_
    refine Wl.q (v := Value.bool true) (q_pick (t := true) rfl rfl) ?_
    refine Wl.q (v := Value.bool true) (q_move rfl) ?_
    refine Wl.q (v := Value.pointer (some ⟨m, 0, none⟩)) (q_move rfl) ?_
    refine Wl.q (v := Value.int .i64 0) (q_move rfl) ?_
    refine Wl.q (v := Value.int .i64 0) (q_move rfl) ?_
    refine Wl.e (e_call (F := (storeW s (build [] l)) :: (refW r (build [] l)) :: F) (args := [Value.pointer (some ⟨m, 0, none⟩), Value.int .i64 0, Value.int .i64 0]) Try.call11 rfl (same_w W0 m mv ((build [] l).length + 1) 0 (by omega))) (fun _ _ => ?_)
    refine Wl.imp (L' := (pt m 63 [mv]) :: (sl 3 1 mv ((build [] l).length + 1) ((List.range ((build [] l).length + 1)).map natV)) :: (storeW s (build [] l)) :: (refW r (build [] l)) :: F) (fun _ h => h) ?_
    refine Wl.q (v := Value.bool true) (q_pick (t := true) rfl rfl) ?_
    refine Wl.q (v := Value.bool true) (q_move rfl) ?_
    refine Wl.q (v := Value.int .i64 2) (q_move rfl) ?_
    refine Wl.q (v := Value.bool true) (q_eql (r := true) rfl rfl (decide_eq_true (by decide))) ?_
    refine Wl.q (v := Value.bool true) (q_pick (t := true) rfl rfl) ?_
    refine Wl.q (v := Value.bool true) (q_move rfl) ?_
    refine Wl.e (e_call (F := (pt m 63 [mv]) :: (sl 3 1 mv ((build [] l).length + 1) ((List.range ((build [] l).length + 1)).map natV)) :: (storeW s (build [] l)) :: (refW r (build [] l)) :: F) (args := []) Try.call8 rfl (lives_c W0)) (fun _ _ => ?_)
    refine Wl.imp (L' := (pt m 63 [mv]) :: (sl 3 1 mv ((build [] l).length + 1) ((List.range ((build [] l).length + 1)).map natV)) :: (storeW s (build [] l)) :: (refW r (build [] l)) :: F) (fun _ h => h) ?_
    refine Wl.q (v := Value.bool true) (q_pick (t := true) rfl rfl) ?_
    refine Wl.q (v := Value.bool true) (q_assign rfl) ?_
    refine Wl.done ?_
    refine Wx.go ?_
    refine Wc.ret ?_
    refine Wx.fin1 rfl (.inl rfl) (fun w hs => ?_)
    exact ⟨(), trivial, rfl, (st_drop (st_drop (st_drop (st_drop (st_pull [0, 0, 0, 0] hs)))))⟩

theorem keys_out (W0 : World) (vl : Value) (l : List TermR) (hl : Rd W0 vl l.length (l.flatMap termCells)) (app sd : Int) (n : Int) (h : 2000 < l.length ∨ (300 < n ∧ n ≤ 65536)) :
    Con Try.prog W0 4 #[vl, Value.int .i64 app, Value.int .i64 sd, Value.int .i64 n] [] (X := Unit) (fun _ => True) (fun _ => .bool true) (fun _ => []) := by
  refine Con.of (args := [vl, Value.int .i64 app, Value.int .i64 sd, Value.int .i64 n]) Try.func4 rfl Try.ntmps4 rfl (fun F => ?_)
  show Wc _ W0 _ _ _ _ _ (F)
  refine Wc.seq ?_
  refine Wc.region ?_
  refine Wl.q (v := Value.bool false) (q_assign rfl) ?_
  refine Wl.done ?_
  refine Wx.go ?_
  refine Wc.seq ?_
  refine Wc.seq ?_
  refine Wc.region ?_
  refine Wl.q (v := vl) (q_move rfl) ?_
  refine Wl.q (v := Value.int .i64 ((l.length : Nat) : Int)) (q_len_is Try.underlying29 rfl hl.shape) ?_
  by_cases h2 : ((l.length : Nat) : Int) > 2000
  ·
    refine Wl.q (v := Value.bool true) (q_gtr (r := true) rfl rfl (decide_eq_true h2)) ?_
    refine Wl.q (v := Value.bool true) (q_move rfl) ?_
    refine Wl.no ?_
    refine Wl.no ?_
    refine Wl.no ?_
    refine Wl.no ?_
    refine Wl.no ?_
    refine Wl.no ?_
    refine Wl.q (v := Value.bool true) (q_pick (t := true) rfl rfl) ?_
    refine Wl.done ?_
    refine Wx.go ?_
    refine Wc.yes rfl ?_
    refine Wc.seq ?_
    refine Wc.region ?_
    refine Wl.q (v := Value.bool true) (q_assign rfl) ?_
    refine Wl.done ?_
    refine Wx.go ?_
    refine Wc.ret ?_
    refine Wx.thenRet ?_
    refine Wx.fin1 rfl (.inl rfl) (fun w hs => ?_)
    exact ⟨(), trivial, rfl, hs⟩
  ·
    refine Wl.q (v := Value.bool false) (q_gtr (r := false) rfl rfl (decide_eq_false h2)) ?_
    refine Wl.q (v := Value.bool false) (q_move rfl) ?_
    refine Wl.q (v := Value.int .i64 n) (q_move rfl) ?_
    by_cases h5 : n > 300
    ·
      refine Wl.q (v := Value.bool true) (q_gtr (r := true) rfl rfl (decide_eq_true h5)) ?_
      refine Wl.q (v := Value.bool true) (q_move rfl) ?_
      refine Wl.q (v := Value.int .i64 n) (q_move rfl) ?_
      by_cases h8 : n ≤ 65536
      ·
        refine Wl.q (v := Value.bool true) (q_leq (r := true) rfl rfl (decide_eq_true h8)) ?_
        refine Wl.q (v := Value.bool true) (q_pick (t := true) rfl rfl) ?_
        refine Wl.q (v := Value.bool true) (q_pick (t := false) rfl rfl) ?_
        refine Wl.done ?_
        refine Wx.go ?_
        refine Wc.yes rfl ?_
        refine Wc.seq ?_
        refine Wc.region ?_
        refine Wl.q (v := Value.bool true) (q_assign rfl) ?_
        refine Wl.done ?_
        refine Wx.go ?_
        refine Wc.ret ?_
        refine Wx.thenRet ?_
        refine Wx.fin1 rfl (.inl rfl) (fun w hs => ?_)
        exact ⟨(), trivial, rfl, hs⟩
      ·
        exfalso; omega
    ·
      exfalso; omega

theorem keys_law (W0 : World) (vl : Value) (l : List TermR) (hl : Rd W0 vl l.length (l.flatMap termCells)) (hlo : ∀ x ∈ l, okT x) (app sd : Int) (n : Int) (hs : i64R sd) : Con Try.prog W0 4 #[vl, .int .i64 app, .int .i64 sd, .int .i64 n] [] (X := Unit) (fun _ => True) (fun _ => .bool true) (fun _ => []) := by
  by_cases h : 2000 < l.length ∨ (300 < n ∧ n ≤ 65536)
  · exact keys_out W0 vl l hl app sd n h
  by_cases ha : 1 ≤ app ∧ app ≤ ((build [] l).length : Int)
  · by_cases h0 : n < 0
    · exact keys_neg W0 vl l hl hlo app sd n (by omega) (by omega) ha h0
    by_cases h3 : 65536 < n
    · exact keys_limit W0 vl l hl hlo app sd n (by omega) (by omega) ha h3
    obtain ⟨n, rfl⟩ : ∃ k : Nat, n = (k : Int) := ⟨n.toNat, by omega⟩
    exact keys_ok W0 vl l hl hlo app sd n (by omega) hs ha (by omega)
  · exact keys_noapp W0 vl l hl hlo app sd n (by omega) (by omega) ha

end Go.Proofs.Ytjjghmkjdgogiaa
