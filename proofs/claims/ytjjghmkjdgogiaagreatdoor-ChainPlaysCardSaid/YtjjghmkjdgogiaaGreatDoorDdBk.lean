/- What follows: contracts of the calls. -/
import Derived.Test.YtjjghmkjdgogiaaGreatDoorDdD
import Derived.Test.YtjjghmkjdgogiaaGreatDoorSLK
import Derived.Test.YtjjghmkjdgogiaaGreatDoorSLA
namespace Go.Proofs.YtjjghmkjdgogiaaGreatDoor
open Go Go.SL Go.Dd Go.RowKit
set_option linter.unusedVariables false
set_option maxRecDepth 8000
theorem fo_81_8 : fieldOff Tryz.prog 81 8 = some 8 := by kernel_rfl
theorem sc_53 : scalar Tryz.prog 53 = true := by kernel_rfl
theorem fo_81_14 : fieldOff Tryz.prog 81 14 = some 14 := by kernel_rfl
theorem sc_59 : scalar Tryz.prog 59 = true := by kernel_rfl
theorem fo_81_29 : fieldOff Tryz.prog 81 29 = some 29 := by kernel_rfl
theorem sc_74 : scalar Tryz.prog 74 = true := by kernel_rfl
theorem fo_81_11 : fieldOff Tryz.prog 81 11 = some 11 := by kernel_rfl
theorem sc_56 : scalar Tryz.prog 56 = true := by kernel_rfl
theorem fo_81_21 : fieldOff Tryz.prog 81 21 = some 21 := by kernel_rfl
theorem sc_66 : scalar Tryz.prog 66 = true := by kernel_rfl
theorem fo_81_30 : fieldOff Tryz.prog 81 30 = some 30 := by kernel_rfl
theorem sc_75 : scalar Tryz.prog 75 = true := by kernel_rfl
theorem fo_81_23 : fieldOff Tryz.prog 81 23 = some 23 := by kernel_rfl
theorem sc_68 : scalar Tryz.prog 68 = true := by kernel_rfl
theorem fo_81_27 : fieldOff Tryz.prog 81 27 = some 27 := by kernel_rfl
theorem sc_72 : scalar Tryz.prog 72 = true := by kernel_rfl
theorem fo_81_16 : fieldOff Tryz.prog 81 16 = some 16 := by kernel_rfl
theorem sc_61 : scalar Tryz.prog 61 = true := by kernel_rfl
theorem fo_81_12 : fieldOff Tryz.prog 81 12 = some 12 := by kernel_rfl
theorem sc_57 : scalar Tryz.prog 57 = true := by kernel_rfl
theorem fo_81_9 : fieldOff Tryz.prog 81 9 = some 9 := by kernel_rfl
theorem sc_54 : scalar Tryz.prog 54 = true := by kernel_rfl
theorem fo_81_7 : fieldOff Tryz.prog 81 7 = some 7 := by kernel_rfl
theorem sc_52 : scalar Tryz.prog 52 = true := by kernel_rfl
theorem fo_81_31 : fieldOff Tryz.prog 81 31 = some 31 := by kernel_rfl
theorem sc_76 : scalar Tryz.prog 76 = true := by kernel_rfl
theorem fo_81_28 : fieldOff Tryz.prog 81 28 = some 28 := by kernel_rfl
theorem sc_73 : scalar Tryz.prog 73 = true := by kernel_rfl
theorem fo_81_25 : fieldOff Tryz.prog 81 25 = some 25 := by kernel_rfl
theorem sc_70 : scalar Tryz.prog 70 = true := by kernel_rfl
theorem fo_81_19 : fieldOff Tryz.prog 81 19 = some 19 := by kernel_rfl
theorem sc_64 : scalar Tryz.prog 64 = true := by kernel_rfl
theorem fo_81_13 : fieldOff Tryz.prog 81 13 = some 13 := by kernel_rfl
theorem sc_58 : scalar Tryz.prog 58 = true := by kernel_rfl
theorem fo_81_34 : fieldOff Tryz.prog 81 34 = some 34 := by kernel_rfl
theorem sc_79 : scalar Tryz.prog 79 = true := by kernel_rfl
theorem fo_81_15 : fieldOff Tryz.prog 81 15 = some 15 := by kernel_rfl
theorem sc_60 : scalar Tryz.prog 60 = true := by kernel_rfl
theorem fo_81_32 : fieldOff Tryz.prog 81 32 = some 32 := by kernel_rfl
theorem sc_77 : scalar Tryz.prog 77 = true := by kernel_rfl
theorem fo_81_10 : fieldOff Tryz.prog 81 10 = some 10 := by kernel_rfl
theorem sc_55 : scalar Tryz.prog 55 = true := by kernel_rfl
theorem fo_81_26 : fieldOff Tryz.prog 81 26 = some 26 := by kernel_rfl
theorem sc_71 : scalar Tryz.prog 71 = true := by kernel_rfl
theorem fo_81_24 : fieldOff Tryz.prog 81 24 = some 24 := by kernel_rfl
theorem sc_69 : scalar Tryz.prog 69 = true := by kernel_rfl
theorem fo_81_6 : fieldOff Tryz.prog 81 6 = some 6 := by kernel_rfl
theorem sc_51 : scalar Tryz.prog 51 = true := by kernel_rfl
theorem fo_81_22 : fieldOff Tryz.prog 81 22 = some 22 := by kernel_rfl
theorem sc_67 : scalar Tryz.prog 67 = true := by kernel_rfl
theorem fo_81_17 : fieldOff Tryz.prog 81 17 = some 17 := by kernel_rfl
theorem sc_62 : scalar Tryz.prog 62 = true := by kernel_rfl
theorem fo_81_5 : fieldOff Tryz.prog 81 5 = some 5 := by kernel_rfl
theorem sc_50 : scalar Tryz.prog 50 = true := by kernel_rfl
theorem fo_81_33 : fieldOff Tryz.prog 81 33 = some 33 := by kernel_rfl
theorem sc_78 : scalar Tryz.prog 78 = true := by kernel_rfl
theorem fo_81_4 : fieldOff Tryz.prog 81 4 = some 4 := by kernel_rfl
theorem sc_49 : scalar Tryz.prog 49 = true := by kernel_rfl
theorem fo_81_20 : fieldOff Tryz.prog 81 20 = some 20 := by kernel_rfl
theorem sc_65 : scalar Tryz.prog 65 = true := by kernel_rfl
theorem fo_81_3 : fieldOff Tryz.prog 81 3 = some 3 := by kernel_rfl
theorem sc_48 : scalar Tryz.prog 48 = true := by kernel_rfl
theorem fo_81_18 : fieldOff Tryz.prog 81 18 = some 18 := by kernel_rfl
theorem sc_63 : scalar Tryz.prog 63 = true := by kernel_rfl
theorem fo_81_1 : fieldOff Tryz.prog 81 1 = some 1 := by kernel_rfl
theorem sc_46 : scalar Tryz.prog 46 = true := by kernel_rfl
def bkC (n : Nat) (v : Value) : List Value := [.int .i64 ((n : Nat) : Int), .slice none 0 0, v, Value.slice none 0 0, Value.slice none 0 0, Value.slice none 0 0, Value.slice none 0 0, Value.slice none 0 0, Value.slice none 0 0, Value.slice none 0 0, Value.slice none 0 0, Value.slice none 0 0, Value.slice none 0 0, Value.slice none 0 0, Value.slice none 0 0, Value.slice none 0 0, Value.slice none 0 0, Value.slice none 0 0, Value.slice none 0 0, Value.slice none 0 0, Value.slice none 0 0, Value.slice none 0 0, Value.slice none 0 0, Value.slice none 0 0, Value.slice none 0 0, Value.slice none 0 0, Value.slice none 0 0, Value.slice none 0 0, Value.slice none 0 0, Value.slice none 0 0, Value.slice none 0 0, Value.slice none 0 0, Value.slice none 0 0, Value.slice none 0 0, Value.slice none 0 0]

theorem bk_fillAdd (W0 : World) (b n : Nat) (v : Value) :
  Con Tryz.prog W0 38 #[Value.pointer (some ⟨b, 0, none⟩)] [pt b 81 (bkC n v)] (X := Unit) (fun _ => True) (fun _ => .tuple #[]) (fun _ => [pt b 81 (bkC n v)]) := by
 refine Con.of (args := [Value.pointer (some ⟨b, 0, none⟩)]) Tryz.func38 rfl Tryz.ntmps38 rfl (fun F => ?_)
 show Wc _ W0 _ _ _ _ _ ((pt b 81 (bkC n v)) :: F)
 refine Wc.seq ?_
 refine Wc.region ?_
 refine Wl.q (v := Value.pointer (some ⟨b, 0, none⟩)) (q_move rfl) ?_
 refine Wl.q (v := Value.pointer (some ⟨b, 0, none⟩)) (q_nil_ptr rfl) ?_
 refine Wl.q (v := Value.pointer (some ⟨b, 8, none⟩)) (q_field (m := 8) fo_81_8 rfl rfl) ?_
 refine Wl.q (v := Value.slice none 0 0) (q_load sc_53 rfl (.cel (i := 0) rfl rfl)) ?_
 refine Wl.q (v := Value.int .i64 0) (q_len_slice Tryz.underlying53 rfl) ?_
 refine Wl.q (v := Value.int .i64 0) (q_move rfl) ?_
 refine Wl.done ?_
 refine Wx.go ?_
 refine Wc.block ?_
 refine Wc.rounds 1 ?_
 refine Wn.round ?_
 refine Wc.seq ?_
 refine Wc.region ?_
 refine Wl.q (v := Value.bool false) (q_lss (r := false) rfl rfl (decide_eq_false (by decide))) ?_
 refine Wl.done ?_
 refine Wx.go ?_
 refine Wc.seq ?_
 refine Wc.no rfl ?_
 refine Wc.exit ?_
 refine Wx.thenExit ?_
 refine Wx.thenExit ?_
 refine Wx.out ?_
 refine Wx.fin0 rfl (.inr rfl) (fun w hs => ?_)
 exact ⟨(), trivial, rfl, hs⟩

theorem bk_growAdd (W0 : World) (b n : Nat) (v : Value) :
  Con Tryz.prog W0 71 #[Value.pointer (some ⟨b, 0, none⟩)] [pt b 81 (bkC n v)] (X := Unit) (fun _ => True) (fun _ => .tuple #[]) (fun _ => [pt b 81 (bkC n v)]) := by
 refine Con.of (args := [Value.pointer (some ⟨b, 0, none⟩)]) Tryz.func71 rfl Tryz.ntmps71 rfl (fun F => ?_)
 show Wc _ W0 _ _ _ _ _ ((pt b 81 (bkC n v)) :: F)
 refine Wc.seq ?_
 refine Wc.region ?_
 refine Wl.q (v := Value.pointer (some ⟨b, 0, none⟩)) (q_move rfl) ?_
 refine Wl.q (v := Value.pointer (some ⟨b, 0, none⟩)) (q_nil_ptr rfl) ?_
 refine Wl.q (v := Value.pointer (some ⟨b, 8, none⟩)) (q_field (m := 8) fo_81_8 rfl rfl) ?_
 refine Wl.q (v := Value.slice none 0 0) (q_load sc_53 rfl (.cel (i := 0) rfl rfl)) ?_
 refine Wl.q (v := Value.int .i64 0) (q_len_slice Tryz.underlying53 rfl) ?_
 refine Wl.q (v := Value.int .i64 0) (q_move rfl) ?_
 refine Wl.done ?_
 refine Wx.go ?_
 refine Wc.block ?_
 refine Wc.rounds 1 ?_
 refine Wn.round ?_
 refine Wc.seq ?_
 refine Wc.region ?_
 refine Wl.q (v := Value.bool false) (q_lss (r := false) rfl rfl (decide_eq_false (by decide))) ?_
 refine Wl.done ?_
 refine Wx.go ?_
 refine Wc.seq ?_
 refine Wc.no rfl ?_
 refine Wc.exit ?_
 refine Wx.thenExit ?_
 refine Wx.thenExit ?_
 refine Wx.out ?_
 refine Wx.fin0 rfl (.inr rfl) (fun w hs => ?_)
 exact ⟨(), trivial, rfl, hs⟩

theorem bk_lookAdd (W0 : World) (b n : Nat) (v : Value) :
  Con Tryz.prog W0 105 #[Value.pointer (some ⟨b, 0, none⟩)] [pt b 81 (bkC n v)] (X := Unit) (fun _ => True) (fun _ => .bool true) (fun _ => [pt b 81 (bkC n v)]) := by
 refine Con.of (args := [Value.pointer (some ⟨b, 0, none⟩)]) Tryz.func105 rfl Tryz.ntmps105 rfl (fun F => ?_)
 show Wc _ W0 _ _ _ _ _ ((pt b 81 (bkC n v)) :: F)
 refine Wc.seq ?_
 refine Wc.region ?_
 refine Wl.q (v := Value.bool false) (q_assign rfl) ?_
 refine Wl.done ?_
 refine Wx.go ?_
 refine Wc.seq ?_
 refine Wc.seq ?_
 refine Wc.region ?_
 refine Wl.q (v := Value.pointer (some ⟨b, 0, none⟩)) (q_move rfl) ?_
 refine Wl.q (v := Value.pointer (some ⟨b, 0, none⟩)) (q_nil_ptr rfl) ?_
 refine Wl.q (v := Value.pointer (some ⟨b, 8, none⟩)) (q_field (m := 8) fo_81_8 rfl rfl) ?_
 refine Wl.q (v := Value.slice none 0 0) (q_load sc_53 rfl (.cel (i := 0) rfl rfl)) ?_
 refine Wl.q (v := Value.int .i64 0) (q_len_slice Tryz.underlying53 rfl) ?_
 refine Wl.q (v := Value.int .i64 0) (q_move rfl) ?_
 refine Wl.done ?_
 refine Wx.go ?_
 refine Wc.block ?_
 refine Wc.rounds 1 ?_
 refine Wn.round ?_
 refine Wc.seq ?_
 refine Wc.region ?_
 refine Wl.q (v := Value.bool false) (q_lss (r := false) rfl rfl (decide_eq_false (by decide))) ?_
 refine Wl.done ?_
 refine Wx.go ?_
 refine Wc.seq ?_
 refine Wc.no rfl ?_
 refine Wc.exit ?_
 refine Wx.thenExit ?_
 refine Wx.thenExit ?_
 refine Wx.out ?_
 refine Wx.go ?_
 refine Wc.seq ?_
 refine Wc.region ?_
 refine Wl.q (v := Value.bool true) (q_assign rfl) ?_
 refine Wl.done ?_
 refine Wx.go ?_
 refine Wc.ret ?_
 refine Wx.fin1 rfl (.inl rfl) (fun w hs => ?_)
 exact ⟨(), trivial, rfl, hs⟩

theorem bk_fillAnswer (W0 : World) (b n : Nat) (v : Value) :
  Con Tryz.prog W0 44 #[Value.pointer (some ⟨b, 0, none⟩)] [pt b 81 (bkC n v)] (X := Unit) (fun _ => True) (fun _ => .tuple #[]) (fun _ => [pt b 81 (bkC n v)]) := by
 refine Con.of (args := [Value.pointer (some ⟨b, 0, none⟩)]) Tryz.func44 rfl Tryz.ntmps44 rfl (fun F => ?_)
 show Wc _ W0 _ _ _ _ _ ((pt b 81 (bkC n v)) :: F)
 refine Wc.seq ?_
 refine Wc.region ?_
 refine Wl.q (v := Value.pointer (some ⟨b, 0, none⟩)) (q_move rfl) ?_
 refine Wl.q (v := Value.pointer (some ⟨b, 0, none⟩)) (q_nil_ptr rfl) ?_
 refine Wl.q (v := Value.pointer (some ⟨b, 14, none⟩)) (q_field (m := 14) fo_81_14 rfl rfl) ?_
 refine Wl.q (v := Value.slice none 0 0) (q_load sc_59 rfl (.cel (i := 0) rfl rfl)) ?_
 refine Wl.q (v := Value.int .i64 0) (q_len_slice Tryz.underlying59 rfl) ?_
 refine Wl.q (v := Value.int .i64 0) (q_move rfl) ?_
 refine Wl.done ?_
 refine Wx.go ?_
 refine Wc.block ?_
 refine Wc.rounds 1 ?_
 refine Wn.round ?_
 refine Wc.seq ?_
 refine Wc.region ?_
 refine Wl.q (v := Value.bool false) (q_lss (r := false) rfl rfl (decide_eq_false (by decide))) ?_
 refine Wl.done ?_
 refine Wx.go ?_
 refine Wc.seq ?_
 refine Wc.no rfl ?_
 refine Wc.exit ?_
 refine Wx.thenExit ?_
 refine Wx.thenExit ?_
 refine Wx.out ?_
 refine Wx.fin0 rfl (.inr rfl) (fun w hs => ?_)
 exact ⟨(), trivial, rfl, hs⟩

theorem bk_growAnswer (W0 : World) (b n : Nat) (v : Value) :
  Con Tryz.prog W0 77 #[Value.pointer (some ⟨b, 0, none⟩)] [pt b 81 (bkC n v)] (X := Unit) (fun _ => True) (fun _ => .tuple #[]) (fun _ => [pt b 81 (bkC n v)]) := by
 refine Con.of (args := [Value.pointer (some ⟨b, 0, none⟩)]) Tryz.func77 rfl Tryz.ntmps77 rfl (fun F => ?_)
 show Wc _ W0 _ _ _ _ _ ((pt b 81 (bkC n v)) :: F)
 refine Wc.seq ?_
 refine Wc.region ?_
 refine Wl.q (v := Value.pointer (some ⟨b, 0, none⟩)) (q_move rfl) ?_
 refine Wl.q (v := Value.pointer (some ⟨b, 0, none⟩)) (q_nil_ptr rfl) ?_
 refine Wl.q (v := Value.pointer (some ⟨b, 14, none⟩)) (q_field (m := 14) fo_81_14 rfl rfl) ?_
 refine Wl.q (v := Value.slice none 0 0) (q_load sc_59 rfl (.cel (i := 0) rfl rfl)) ?_
 refine Wl.q (v := Value.int .i64 0) (q_len_slice Tryz.underlying59 rfl) ?_
 refine Wl.q (v := Value.int .i64 0) (q_move rfl) ?_
 refine Wl.done ?_
 refine Wx.go ?_
 refine Wc.block ?_
 refine Wc.rounds 1 ?_
 refine Wn.round ?_
 refine Wc.seq ?_
 refine Wc.region ?_
 refine Wl.q (v := Value.bool false) (q_lss (r := false) rfl rfl (decide_eq_false (by decide))) ?_
 refine Wl.done ?_
 refine Wx.go ?_
 refine Wc.seq ?_
 refine Wc.no rfl ?_
 refine Wc.exit ?_
 refine Wx.thenExit ?_
 refine Wx.thenExit ?_
 refine Wx.out ?_
 refine Wx.fin0 rfl (.inr rfl) (fun w hs => ?_)
 exact ⟨(), trivial, rfl, hs⟩

theorem bk_lookAnswer (W0 : World) (b n : Nat) (v : Value) :
  Con Tryz.prog W0 111 #[Value.pointer (some ⟨b, 0, none⟩)] [pt b 81 (bkC n v)] (X := Unit) (fun _ => True) (fun _ => .bool true) (fun _ => [pt b 81 (bkC n v)]) := by
 refine Con.of (args := [Value.pointer (some ⟨b, 0, none⟩)]) Tryz.func111 rfl Tryz.ntmps111 rfl (fun F => ?_)
 show Wc _ W0 _ _ _ _ _ ((pt b 81 (bkC n v)) :: F)
 refine Wc.seq ?_
 refine Wc.region ?_
 refine Wl.q (v := Value.bool false) (q_assign rfl) ?_
 refine Wl.done ?_
 refine Wx.go ?_
 refine Wc.seq ?_
 refine Wc.seq ?_
 refine Wc.region ?_
 refine Wl.q (v := Value.pointer (some ⟨b, 0, none⟩)) (q_move rfl) ?_
 refine Wl.q (v := Value.pointer (some ⟨b, 0, none⟩)) (q_nil_ptr rfl) ?_
 refine Wl.q (v := Value.pointer (some ⟨b, 14, none⟩)) (q_field (m := 14) fo_81_14 rfl rfl) ?_
 refine Wl.q (v := Value.slice none 0 0) (q_load sc_59 rfl (.cel (i := 0) rfl rfl)) ?_
 refine Wl.q (v := Value.int .i64 0) (q_len_slice Tryz.underlying59 rfl) ?_
 refine Wl.q (v := Value.int .i64 0) (q_move rfl) ?_
 refine Wl.done ?_
 refine Wx.go ?_
 refine Wc.block ?_
 refine Wc.rounds 1 ?_
 refine Wn.round ?_
 refine Wc.seq ?_
 refine Wc.region ?_
 refine Wl.q (v := Value.bool false) (q_lss (r := false) rfl rfl (decide_eq_false (by decide))) ?_
 refine Wl.done ?_
 refine Wx.go ?_
 refine Wc.seq ?_
 refine Wc.no rfl ?_
 refine Wc.exit ?_
 refine Wx.thenExit ?_
 refine Wx.thenExit ?_
 refine Wx.out ?_
 refine Wx.go ?_
 refine Wc.seq ?_
 refine Wc.region ?_
 refine Wl.q (v := Value.bool true) (q_assign rfl) ?_
 refine Wl.done ?_
 refine Wx.go ?_
 refine Wc.ret ?_
 refine Wx.fin1 rfl (.inl rfl) (fun w hs => ?_)
 exact ⟨(), trivial, rfl, hs⟩

theorem bk_fillBox (W0 : World) (b n : Nat) (v : Value) :
  Con Tryz.prog W0 59 #[Value.pointer (some ⟨b, 0, none⟩)] [pt b 81 (bkC n v)] (X := Unit) (fun _ => True) (fun _ => .tuple #[]) (fun _ => [pt b 81 (bkC n v)]) := by
 refine Con.of (args := [Value.pointer (some ⟨b, 0, none⟩)]) Tryz.func59 rfl Tryz.ntmps59 rfl (fun F => ?_)
 show Wc _ W0 _ _ _ _ _ ((pt b 81 (bkC n v)) :: F)
 refine Wc.seq ?_
 refine Wc.region ?_
 refine Wl.q (v := Value.pointer (some ⟨b, 0, none⟩)) (q_move rfl) ?_
 refine Wl.q (v := Value.pointer (some ⟨b, 0, none⟩)) (q_nil_ptr rfl) ?_
 refine Wl.q (v := Value.pointer (some ⟨b, 29, none⟩)) (q_field (m := 29) fo_81_29 rfl rfl) ?_
 refine Wl.q (v := Value.slice none 0 0) (q_load sc_74 rfl (.cel (i := 0) rfl rfl)) ?_
 refine Wl.q (v := Value.int .i64 0) (q_len_slice Tryz.underlying74 rfl) ?_
 refine Wl.q (v := Value.int .i64 0) (q_move rfl) ?_
 refine Wl.done ?_
 refine Wx.go ?_
 refine Wc.block ?_
 refine Wc.rounds 1 ?_
 refine Wn.round ?_
 refine Wc.seq ?_
 refine Wc.region ?_
 refine Wl.q (v := Value.bool false) (q_lss (r := false) rfl rfl (decide_eq_false (by decide))) ?_
 refine Wl.done ?_
 refine Wx.go ?_
 refine Wc.seq ?_
 refine Wc.no rfl ?_
 refine Wc.exit ?_
 refine Wx.thenExit ?_
 refine Wx.thenExit ?_
 refine Wx.out ?_
 refine Wx.fin0 rfl (.inr rfl) (fun w hs => ?_)
 exact ⟨(), trivial, rfl, hs⟩

theorem bk_growBox (W0 : World) (b n : Nat) (v : Value) :
  Con Tryz.prog W0 92 #[Value.pointer (some ⟨b, 0, none⟩)] [pt b 81 (bkC n v)] (X := Unit) (fun _ => True) (fun _ => .tuple #[]) (fun _ => [pt b 81 (bkC n v)]) := by
 refine Con.of (args := [Value.pointer (some ⟨b, 0, none⟩)]) Tryz.func92 rfl Tryz.ntmps92 rfl (fun F => ?_)
 show Wc _ W0 _ _ _ _ _ ((pt b 81 (bkC n v)) :: F)
 refine Wc.seq ?_
 refine Wc.region ?_
 refine Wl.q (v := Value.pointer (some ⟨b, 0, none⟩)) (q_move rfl) ?_
 refine Wl.q (v := Value.pointer (some ⟨b, 0, none⟩)) (q_nil_ptr rfl) ?_
 refine Wl.q (v := Value.pointer (some ⟨b, 29, none⟩)) (q_field (m := 29) fo_81_29 rfl rfl) ?_
 refine Wl.q (v := Value.slice none 0 0) (q_load sc_74 rfl (.cel (i := 0) rfl rfl)) ?_
 refine Wl.q (v := Value.int .i64 0) (q_len_slice Tryz.underlying74 rfl) ?_
 refine Wl.q (v := Value.int .i64 0) (q_move rfl) ?_
 refine Wl.done ?_
 refine Wx.go ?_
 refine Wc.block ?_
 refine Wc.rounds 1 ?_
 refine Wn.round ?_
 refine Wc.seq ?_
 refine Wc.region ?_
 refine Wl.q (v := Value.bool false) (q_lss (r := false) rfl rfl (decide_eq_false (by decide))) ?_
 refine Wl.done ?_
 refine Wx.go ?_
 refine Wc.seq ?_
 refine Wc.no rfl ?_
 refine Wc.exit ?_
 refine Wx.thenExit ?_
 refine Wx.thenExit ?_
 refine Wx.out ?_
 refine Wx.fin0 rfl (.inr rfl) (fun w hs => ?_)
 exact ⟨(), trivial, rfl, hs⟩

theorem bk_lookBox (W0 : World) (b n : Nat) (v : Value) :
  Con Tryz.prog W0 126 #[Value.pointer (some ⟨b, 0, none⟩)] [pt b 81 (bkC n v)] (X := Unit) (fun _ => True) (fun _ => .bool true) (fun _ => [pt b 81 (bkC n v)]) := by
 refine Con.of (args := [Value.pointer (some ⟨b, 0, none⟩)]) Tryz.func126 rfl Tryz.ntmps126 rfl (fun F => ?_)
 show Wc _ W0 _ _ _ _ _ ((pt b 81 (bkC n v)) :: F)
 refine Wc.seq ?_
 refine Wc.region ?_
 refine Wl.q (v := Value.bool false) (q_assign rfl) ?_
 refine Wl.done ?_
 refine Wx.go ?_
 refine Wc.seq ?_
 refine Wc.seq ?_
 refine Wc.region ?_
 refine Wl.q (v := Value.pointer (some ⟨b, 0, none⟩)) (q_move rfl) ?_
 refine Wl.q (v := Value.pointer (some ⟨b, 0, none⟩)) (q_nil_ptr rfl) ?_
 refine Wl.q (v := Value.pointer (some ⟨b, 29, none⟩)) (q_field (m := 29) fo_81_29 rfl rfl) ?_
 refine Wl.q (v := Value.slice none 0 0) (q_load sc_74 rfl (.cel (i := 0) rfl rfl)) ?_
 refine Wl.q (v := Value.int .i64 0) (q_len_slice Tryz.underlying74 rfl) ?_
 refine Wl.q (v := Value.int .i64 0) (q_move rfl) ?_
 refine Wl.done ?_
 refine Wx.go ?_
 refine Wc.block ?_
 refine Wc.rounds 1 ?_
 refine Wn.round ?_
 refine Wc.seq ?_
 refine Wc.region ?_
 refine Wl.q (v := Value.bool false) (q_lss (r := false) rfl rfl (decide_eq_false (by decide))) ?_
 refine Wl.done ?_
 refine Wx.go ?_
 refine Wc.seq ?_
 refine Wc.no rfl ?_
 refine Wc.exit ?_
 refine Wx.thenExit ?_
 refine Wx.thenExit ?_
 refine Wx.out ?_
 refine Wx.go ?_
 refine Wc.seq ?_
 refine Wc.region ?_
 refine Wl.q (v := Value.bool true) (q_assign rfl) ?_
 refine Wl.done ?_
 refine Wx.go ?_
 refine Wc.ret ?_
 refine Wx.fin1 rfl (.inl rfl) (fun w hs => ?_)
 exact ⟨(), trivial, rfl, hs⟩

theorem bk_fillCard (W0 : World) (b n : Nat) (v : Value) :
  Con Tryz.prog W0 41 #[Value.pointer (some ⟨b, 0, none⟩)] [pt b 81 (bkC n v)] (X := Unit) (fun _ => True) (fun _ => .tuple #[]) (fun _ => [pt b 81 (bkC n v)]) := by
 refine Con.of (args := [Value.pointer (some ⟨b, 0, none⟩)]) Tryz.func41 rfl Tryz.ntmps41 rfl (fun F => ?_)
 show Wc _ W0 _ _ _ _ _ ((pt b 81 (bkC n v)) :: F)
 refine Wc.seq ?_
 refine Wc.region ?_
 refine Wl.q (v := Value.pointer (some ⟨b, 0, none⟩)) (q_move rfl) ?_
 refine Wl.q (v := Value.pointer (some ⟨b, 0, none⟩)) (q_nil_ptr rfl) ?_
 refine Wl.q (v := Value.pointer (some ⟨b, 11, none⟩)) (q_field (m := 11) fo_81_11 rfl rfl) ?_
 refine Wl.q (v := Value.slice none 0 0) (q_load sc_56 rfl (.cel (i := 0) rfl rfl)) ?_
 refine Wl.q (v := Value.int .i64 0) (q_len_slice Tryz.underlying56 rfl) ?_
 refine Wl.q (v := Value.int .i64 0) (q_move rfl) ?_
 refine Wl.done ?_
 refine Wx.go ?_
 refine Wc.block ?_
 refine Wc.rounds 1 ?_
 refine Wn.round ?_
 refine Wc.seq ?_
 refine Wc.region ?_
 refine Wl.q (v := Value.bool false) (q_lss (r := false) rfl rfl (decide_eq_false (by decide))) ?_
 refine Wl.done ?_
 refine Wx.go ?_
 refine Wc.seq ?_
 refine Wc.no rfl ?_
 refine Wc.exit ?_
 refine Wx.thenExit ?_
 refine Wx.thenExit ?_
 refine Wx.out ?_
 refine Wx.fin0 rfl (.inr rfl) (fun w hs => ?_)
 exact ⟨(), trivial, rfl, hs⟩

theorem bk_growCard (W0 : World) (b n : Nat) (v : Value) :
  Con Tryz.prog W0 74 #[Value.pointer (some ⟨b, 0, none⟩)] [pt b 81 (bkC n v)] (X := Unit) (fun _ => True) (fun _ => .tuple #[]) (fun _ => [pt b 81 (bkC n v)]) := by
 refine Con.of (args := [Value.pointer (some ⟨b, 0, none⟩)]) Tryz.func74 rfl Tryz.ntmps74 rfl (fun F => ?_)
 show Wc _ W0 _ _ _ _ _ ((pt b 81 (bkC n v)) :: F)
 refine Wc.seq ?_
 refine Wc.region ?_
 refine Wl.q (v := Value.pointer (some ⟨b, 0, none⟩)) (q_move rfl) ?_
 refine Wl.q (v := Value.pointer (some ⟨b, 0, none⟩)) (q_nil_ptr rfl) ?_
 refine Wl.q (v := Value.pointer (some ⟨b, 11, none⟩)) (q_field (m := 11) fo_81_11 rfl rfl) ?_
 refine Wl.q (v := Value.slice none 0 0) (q_load sc_56 rfl (.cel (i := 0) rfl rfl)) ?_
 refine Wl.q (v := Value.int .i64 0) (q_len_slice Tryz.underlying56 rfl) ?_
 refine Wl.q (v := Value.int .i64 0) (q_move rfl) ?_
 refine Wl.done ?_
 refine Wx.go ?_
 refine Wc.block ?_
 refine Wc.rounds 1 ?_
 refine Wn.round ?_
 refine Wc.seq ?_
 refine Wc.region ?_
 refine Wl.q (v := Value.bool false) (q_lss (r := false) rfl rfl (decide_eq_false (by decide))) ?_
 refine Wl.done ?_
 refine Wx.go ?_
 refine Wc.seq ?_
 refine Wc.no rfl ?_
 refine Wc.exit ?_
 refine Wx.thenExit ?_
 refine Wx.thenExit ?_
 refine Wx.out ?_
 refine Wx.fin0 rfl (.inr rfl) (fun w hs => ?_)
 exact ⟨(), trivial, rfl, hs⟩

theorem bk_lookCard (W0 : World) (b n : Nat) (v : Value) :
  Con Tryz.prog W0 108 #[Value.pointer (some ⟨b, 0, none⟩)] [pt b 81 (bkC n v)] (X := Unit) (fun _ => True) (fun _ => .bool true) (fun _ => [pt b 81 (bkC n v)]) := by
 refine Con.of (args := [Value.pointer (some ⟨b, 0, none⟩)]) Tryz.func108 rfl Tryz.ntmps108 rfl (fun F => ?_)
 show Wc _ W0 _ _ _ _ _ ((pt b 81 (bkC n v)) :: F)
 refine Wc.seq ?_
 refine Wc.region ?_
 refine Wl.q (v := Value.bool false) (q_assign rfl) ?_
 refine Wl.done ?_
 refine Wx.go ?_
 refine Wc.seq ?_
 refine Wc.seq ?_
 refine Wc.region ?_
 refine Wl.q (v := Value.pointer (some ⟨b, 0, none⟩)) (q_move rfl) ?_
 refine Wl.q (v := Value.pointer (some ⟨b, 0, none⟩)) (q_nil_ptr rfl) ?_
 refine Wl.q (v := Value.pointer (some ⟨b, 11, none⟩)) (q_field (m := 11) fo_81_11 rfl rfl) ?_
 refine Wl.q (v := Value.slice none 0 0) (q_load sc_56 rfl (.cel (i := 0) rfl rfl)) ?_
 refine Wl.q (v := Value.int .i64 0) (q_len_slice Tryz.underlying56 rfl) ?_
 refine Wl.q (v := Value.int .i64 0) (q_move rfl) ?_
 refine Wl.done ?_
 refine Wx.go ?_
 refine Wc.block ?_
 refine Wc.rounds 1 ?_
 refine Wn.round ?_
 refine Wc.seq ?_
 refine Wc.region ?_
 refine Wl.q (v := Value.bool false) (q_lss (r := false) rfl rfl (decide_eq_false (by decide))) ?_
 refine Wl.done ?_
 refine Wx.go ?_
 refine Wc.seq ?_
 refine Wc.no rfl ?_
 refine Wc.exit ?_
 refine Wx.thenExit ?_
 refine Wx.thenExit ?_
 refine Wx.out ?_
 refine Wx.go ?_
 refine Wc.seq ?_
 refine Wc.region ?_
 refine Wl.q (v := Value.bool true) (q_assign rfl) ?_
 refine Wl.done ?_
 refine Wx.go ?_
 refine Wc.ret ?_
 refine Wx.fin1 rfl (.inl rfl) (fun w hs => ?_)
 exact ⟨(), trivial, rfl, hs⟩

theorem bk_fillCommit (W0 : World) (b n : Nat) (v : Value) :
  Con Tryz.prog W0 51 #[Value.pointer (some ⟨b, 0, none⟩)] [pt b 81 (bkC n v)] (X := Unit) (fun _ => True) (fun _ => .tuple #[]) (fun _ => [pt b 81 (bkC n v)]) := by
 refine Con.of (args := [Value.pointer (some ⟨b, 0, none⟩)]) Tryz.func51 rfl Tryz.ntmps51 rfl (fun F => ?_)
 show Wc _ W0 _ _ _ _ _ ((pt b 81 (bkC n v)) :: F)
 refine Wc.seq ?_
 refine Wc.region ?_
 refine Wl.q (v := Value.pointer (some ⟨b, 0, none⟩)) (q_move rfl) ?_
 refine Wl.q (v := Value.pointer (some ⟨b, 0, none⟩)) (q_nil_ptr rfl) ?_
 refine Wl.q (v := Value.pointer (some ⟨b, 21, none⟩)) (q_field (m := 21) fo_81_21 rfl rfl) ?_
 refine Wl.q (v := Value.slice none 0 0) (q_load sc_66 rfl (.cel (i := 0) rfl rfl)) ?_
 refine Wl.q (v := Value.int .i64 0) (q_len_slice Tryz.underlying66 rfl) ?_
 refine Wl.q (v := Value.int .i64 0) (q_move rfl) ?_
 refine Wl.done ?_
 refine Wx.go ?_
 refine Wc.block ?_
 refine Wc.rounds 1 ?_
 refine Wn.round ?_
 refine Wc.seq ?_
 refine Wc.region ?_
 refine Wl.q (v := Value.bool false) (q_lss (r := false) rfl rfl (decide_eq_false (by decide))) ?_
 refine Wl.done ?_
 refine Wx.go ?_
 refine Wc.seq ?_
 refine Wc.no rfl ?_
 refine Wc.exit ?_
 refine Wx.thenExit ?_
 refine Wx.thenExit ?_
 refine Wx.out ?_
 refine Wx.fin0 rfl (.inr rfl) (fun w hs => ?_)
 exact ⟨(), trivial, rfl, hs⟩

theorem bk_growCommit (W0 : World) (b n : Nat) (v : Value) :
  Con Tryz.prog W0 84 #[Value.pointer (some ⟨b, 0, none⟩)] [pt b 81 (bkC n v)] (X := Unit) (fun _ => True) (fun _ => .tuple #[]) (fun _ => [pt b 81 (bkC n v)]) := by
 refine Con.of (args := [Value.pointer (some ⟨b, 0, none⟩)]) Tryz.func84 rfl Tryz.ntmps84 rfl (fun F => ?_)
 show Wc _ W0 _ _ _ _ _ ((pt b 81 (bkC n v)) :: F)
 refine Wc.seq ?_
 refine Wc.region ?_
 refine Wl.q (v := Value.pointer (some ⟨b, 0, none⟩)) (q_move rfl) ?_
 refine Wl.q (v := Value.pointer (some ⟨b, 0, none⟩)) (q_nil_ptr rfl) ?_
 refine Wl.q (v := Value.pointer (some ⟨b, 21, none⟩)) (q_field (m := 21) fo_81_21 rfl rfl) ?_
 refine Wl.q (v := Value.slice none 0 0) (q_load sc_66 rfl (.cel (i := 0) rfl rfl)) ?_
 refine Wl.q (v := Value.int .i64 0) (q_len_slice Tryz.underlying66 rfl) ?_
 refine Wl.q (v := Value.int .i64 0) (q_move rfl) ?_
 refine Wl.done ?_
 refine Wx.go ?_
 refine Wc.block ?_
 refine Wc.rounds 1 ?_
 refine Wn.round ?_
 refine Wc.seq ?_
 refine Wc.region ?_
 refine Wl.q (v := Value.bool false) (q_lss (r := false) rfl rfl (decide_eq_false (by decide))) ?_
 refine Wl.done ?_
 refine Wx.go ?_
 refine Wc.seq ?_
 refine Wc.no rfl ?_
 refine Wc.exit ?_
 refine Wx.thenExit ?_
 refine Wx.thenExit ?_
 refine Wx.out ?_
 refine Wx.fin0 rfl (.inr rfl) (fun w hs => ?_)
 exact ⟨(), trivial, rfl, hs⟩

theorem bk_lookCommit (W0 : World) (b n : Nat) (v : Value) :
  Con Tryz.prog W0 118 #[Value.pointer (some ⟨b, 0, none⟩)] [pt b 81 (bkC n v)] (X := Unit) (fun _ => True) (fun _ => .bool true) (fun _ => [pt b 81 (bkC n v)]) := by
 refine Con.of (args := [Value.pointer (some ⟨b, 0, none⟩)]) Tryz.func118 rfl Tryz.ntmps118 rfl (fun F => ?_)
 show Wc _ W0 _ _ _ _ _ ((pt b 81 (bkC n v)) :: F)
 refine Wc.seq ?_
 refine Wc.region ?_
 refine Wl.q (v := Value.bool false) (q_assign rfl) ?_
 refine Wl.done ?_
 refine Wx.go ?_
 refine Wc.seq ?_
 refine Wc.seq ?_
 refine Wc.region ?_
 refine Wl.q (v := Value.pointer (some ⟨b, 0, none⟩)) (q_move rfl) ?_
 refine Wl.q (v := Value.pointer (some ⟨b, 0, none⟩)) (q_nil_ptr rfl) ?_
 refine Wl.q (v := Value.pointer (some ⟨b, 21, none⟩)) (q_field (m := 21) fo_81_21 rfl rfl) ?_
 refine Wl.q (v := Value.slice none 0 0) (q_load sc_66 rfl (.cel (i := 0) rfl rfl)) ?_
 refine Wl.q (v := Value.int .i64 0) (q_len_slice Tryz.underlying66 rfl) ?_
 refine Wl.q (v := Value.int .i64 0) (q_move rfl) ?_
 refine Wl.done ?_
 refine Wx.go ?_
 refine Wc.block ?_
 refine Wc.rounds 1 ?_
 refine Wn.round ?_
 refine Wc.seq ?_
 refine Wc.region ?_
 refine Wl.q (v := Value.bool false) (q_lss (r := false) rfl rfl (decide_eq_false (by decide))) ?_
 refine Wl.done ?_
 refine Wx.go ?_
 refine Wc.seq ?_
 refine Wc.no rfl ?_
 refine Wc.exit ?_
 refine Wx.thenExit ?_
 refine Wx.thenExit ?_
 refine Wx.out ?_
 refine Wx.go ?_
 refine Wc.seq ?_
 refine Wc.region ?_
 refine Wl.q (v := Value.bool true) (q_assign rfl) ?_
 refine Wl.done ?_
 refine Wx.go ?_
 refine Wc.ret ?_
 refine Wx.fin1 rfl (.inl rfl) (fun w hs => ?_)
 exact ⟨(), trivial, rfl, hs⟩

theorem bk_fillEarly (W0 : World) (b n : Nat) (v : Value) :
  Con Tryz.prog W0 60 #[Value.pointer (some ⟨b, 0, none⟩)] [pt b 81 (bkC n v)] (X := Unit) (fun _ => True) (fun _ => .tuple #[]) (fun _ => [pt b 81 (bkC n v)]) := by
 refine Con.of (args := [Value.pointer (some ⟨b, 0, none⟩)]) Tryz.func60 rfl Tryz.ntmps60 rfl (fun F => ?_)
 show Wc _ W0 _ _ _ _ _ ((pt b 81 (bkC n v)) :: F)
 refine Wc.seq ?_
 refine Wc.region ?_
 refine Wl.q (v := Value.pointer (some ⟨b, 0, none⟩)) (q_move rfl) ?_
 refine Wl.q (v := Value.pointer (some ⟨b, 0, none⟩)) (q_nil_ptr rfl) ?_
 refine Wl.q (v := Value.pointer (some ⟨b, 30, none⟩)) (q_field (m := 30) fo_81_30 rfl rfl) ?_
 refine Wl.q (v := Value.slice none 0 0) (q_load sc_75 rfl (.cel (i := 0) rfl rfl)) ?_
 refine Wl.q (v := Value.int .i64 0) (q_len_slice Tryz.underlying75 rfl) ?_
 refine Wl.q (v := Value.int .i64 0) (q_move rfl) ?_
 refine Wl.done ?_
 refine Wx.go ?_
 refine Wc.block ?_
 refine Wc.rounds 1 ?_
 refine Wn.round ?_
 refine Wc.seq ?_
 refine Wc.region ?_
 refine Wl.q (v := Value.bool false) (q_lss (r := false) rfl rfl (decide_eq_false (by decide))) ?_
 refine Wl.done ?_
 refine Wx.go ?_
 refine Wc.seq ?_
 refine Wc.no rfl ?_
 refine Wc.exit ?_
 refine Wx.thenExit ?_
 refine Wx.thenExit ?_
 refine Wx.out ?_
 refine Wx.fin0 rfl (.inr rfl) (fun w hs => ?_)
 exact ⟨(), trivial, rfl, hs⟩

theorem bk_growEarly (W0 : World) (b n : Nat) (v : Value) :
  Con Tryz.prog W0 93 #[Value.pointer (some ⟨b, 0, none⟩)] [pt b 81 (bkC n v)] (X := Unit) (fun _ => True) (fun _ => .tuple #[]) (fun _ => [pt b 81 (bkC n v)]) := by
 refine Con.of (args := [Value.pointer (some ⟨b, 0, none⟩)]) Tryz.func93 rfl Tryz.ntmps93 rfl (fun F => ?_)
 show Wc _ W0 _ _ _ _ _ ((pt b 81 (bkC n v)) :: F)
 refine Wc.seq ?_
 refine Wc.region ?_
 refine Wl.q (v := Value.pointer (some ⟨b, 0, none⟩)) (q_move rfl) ?_
 refine Wl.q (v := Value.pointer (some ⟨b, 0, none⟩)) (q_nil_ptr rfl) ?_
 refine Wl.q (v := Value.pointer (some ⟨b, 30, none⟩)) (q_field (m := 30) fo_81_30 rfl rfl) ?_
 refine Wl.q (v := Value.slice none 0 0) (q_load sc_75 rfl (.cel (i := 0) rfl rfl)) ?_
 refine Wl.q (v := Value.int .i64 0) (q_len_slice Tryz.underlying75 rfl) ?_
 refine Wl.q (v := Value.int .i64 0) (q_move rfl) ?_
 refine Wl.done ?_
 refine Wx.go ?_
 refine Wc.block ?_
 refine Wc.rounds 1 ?_
 refine Wn.round ?_
 refine Wc.seq ?_
 refine Wc.region ?_
 refine Wl.q (v := Value.bool false) (q_lss (r := false) rfl rfl (decide_eq_false (by decide))) ?_
 refine Wl.done ?_
 refine Wx.go ?_
 refine Wc.seq ?_
 refine Wc.no rfl ?_
 refine Wc.exit ?_
 refine Wx.thenExit ?_
 refine Wx.thenExit ?_
 refine Wx.out ?_
 refine Wx.fin0 rfl (.inr rfl) (fun w hs => ?_)
 exact ⟨(), trivial, rfl, hs⟩

theorem bk_lookEarly (W0 : World) (b n : Nat) (v : Value) :
  Con Tryz.prog W0 127 #[Value.pointer (some ⟨b, 0, none⟩)] [pt b 81 (bkC n v)] (X := Unit) (fun _ => True) (fun _ => .bool true) (fun _ => [pt b 81 (bkC n v)]) := by
 refine Con.of (args := [Value.pointer (some ⟨b, 0, none⟩)]) Tryz.func127 rfl Tryz.ntmps127 rfl (fun F => ?_)
 show Wc _ W0 _ _ _ _ _ ((pt b 81 (bkC n v)) :: F)
 refine Wc.seq ?_
 refine Wc.region ?_
 refine Wl.q (v := Value.bool false) (q_assign rfl) ?_
 refine Wl.done ?_
 refine Wx.go ?_
 refine Wc.seq ?_
 refine Wc.seq ?_
 refine Wc.region ?_
 refine Wl.q (v := Value.pointer (some ⟨b, 0, none⟩)) (q_move rfl) ?_
 refine Wl.q (v := Value.pointer (some ⟨b, 0, none⟩)) (q_nil_ptr rfl) ?_
 refine Wl.q (v := Value.pointer (some ⟨b, 30, none⟩)) (q_field (m := 30) fo_81_30 rfl rfl) ?_
 refine Wl.q (v := Value.slice none 0 0) (q_load sc_75 rfl (.cel (i := 0) rfl rfl)) ?_
 refine Wl.q (v := Value.int .i64 0) (q_len_slice Tryz.underlying75 rfl) ?_
 refine Wl.q (v := Value.int .i64 0) (q_move rfl) ?_
 refine Wl.done ?_
 refine Wx.go ?_
 refine Wc.block ?_
 refine Wc.rounds 1 ?_
 refine Wn.round ?_
 refine Wc.seq ?_
 refine Wc.region ?_
 refine Wl.q (v := Value.bool false) (q_lss (r := false) rfl rfl (decide_eq_false (by decide))) ?_
 refine Wl.done ?_
 refine Wx.go ?_
 refine Wc.seq ?_
 refine Wc.no rfl ?_
 refine Wc.exit ?_
 refine Wx.thenExit ?_
 refine Wx.thenExit ?_
 refine Wx.out ?_
 refine Wx.go ?_
 refine Wc.seq ?_
 refine Wc.region ?_
 refine Wl.q (v := Value.bool true) (q_assign rfl) ?_
 refine Wl.done ?_
 refine Wx.go ?_
 refine Wc.ret ?_
 refine Wx.fin1 rfl (.inl rfl) (fun w hs => ?_)
 exact ⟨(), trivial, rfl, hs⟩

theorem bk_fillFace (W0 : World) (b n : Nat) (v : Value) :
  Con Tryz.prog W0 53 #[Value.pointer (some ⟨b, 0, none⟩)] [pt b 81 (bkC n v)] (X := Unit) (fun _ => True) (fun _ => .tuple #[]) (fun _ => [pt b 81 (bkC n v)]) := by
 refine Con.of (args := [Value.pointer (some ⟨b, 0, none⟩)]) Tryz.func53 rfl Tryz.ntmps53 rfl (fun F => ?_)
 show Wc _ W0 _ _ _ _ _ ((pt b 81 (bkC n v)) :: F)
 refine Wc.seq ?_
 refine Wc.region ?_
 refine Wl.q (v := Value.pointer (some ⟨b, 0, none⟩)) (q_move rfl) ?_
 refine Wl.q (v := Value.pointer (some ⟨b, 0, none⟩)) (q_nil_ptr rfl) ?_
 refine Wl.q (v := Value.pointer (some ⟨b, 23, none⟩)) (q_field (m := 23) fo_81_23 rfl rfl) ?_
 refine Wl.q (v := Value.slice none 0 0) (q_load sc_68 rfl (.cel (i := 0) rfl rfl)) ?_
 refine Wl.q (v := Value.int .i64 0) (q_len_slice Tryz.underlying68 rfl) ?_
 refine Wl.q (v := Value.int .i64 0) (q_move rfl) ?_
 refine Wl.done ?_
 refine Wx.go ?_
 refine Wc.block ?_
 refine Wc.rounds 1 ?_
 refine Wn.round ?_
 refine Wc.seq ?_
 refine Wc.region ?_
 refine Wl.q (v := Value.bool false) (q_lss (r := false) rfl rfl (decide_eq_false (by decide))) ?_
 refine Wl.done ?_
 refine Wx.go ?_
 refine Wc.seq ?_
 refine Wc.no rfl ?_
 refine Wc.exit ?_
 refine Wx.thenExit ?_
 refine Wx.thenExit ?_
 refine Wx.out ?_
 refine Wx.fin0 rfl (.inr rfl) (fun w hs => ?_)
 exact ⟨(), trivial, rfl, hs⟩

theorem bk_growFace (W0 : World) (b n : Nat) (v : Value) :
  Con Tryz.prog W0 86 #[Value.pointer (some ⟨b, 0, none⟩)] [pt b 81 (bkC n v)] (X := Unit) (fun _ => True) (fun _ => .tuple #[]) (fun _ => [pt b 81 (bkC n v)]) := by
 refine Con.of (args := [Value.pointer (some ⟨b, 0, none⟩)]) Tryz.func86 rfl Tryz.ntmps86 rfl (fun F => ?_)
 show Wc _ W0 _ _ _ _ _ ((pt b 81 (bkC n v)) :: F)
 refine Wc.seq ?_
 refine Wc.region ?_
 refine Wl.q (v := Value.pointer (some ⟨b, 0, none⟩)) (q_move rfl) ?_
 refine Wl.q (v := Value.pointer (some ⟨b, 0, none⟩)) (q_nil_ptr rfl) ?_
 refine Wl.q (v := Value.pointer (some ⟨b, 23, none⟩)) (q_field (m := 23) fo_81_23 rfl rfl) ?_
 refine Wl.q (v := Value.slice none 0 0) (q_load sc_68 rfl (.cel (i := 0) rfl rfl)) ?_
 refine Wl.q (v := Value.int .i64 0) (q_len_slice Tryz.underlying68 rfl) ?_
 refine Wl.q (v := Value.int .i64 0) (q_move rfl) ?_
 refine Wl.done ?_
 refine Wx.go ?_
 refine Wc.block ?_
 refine Wc.rounds 1 ?_
 refine Wn.round ?_
 refine Wc.seq ?_
 refine Wc.region ?_
 refine Wl.q (v := Value.bool false) (q_lss (r := false) rfl rfl (decide_eq_false (by decide))) ?_
 refine Wl.done ?_
 refine Wx.go ?_
 refine Wc.seq ?_
 refine Wc.no rfl ?_
 refine Wc.exit ?_
 refine Wx.thenExit ?_
 refine Wx.thenExit ?_
 refine Wx.out ?_
 refine Wx.fin0 rfl (.inr rfl) (fun w hs => ?_)
 exact ⟨(), trivial, rfl, hs⟩

theorem bk_lookFace (W0 : World) (b n : Nat) (v : Value) :
  Con Tryz.prog W0 120 #[Value.pointer (some ⟨b, 0, none⟩)] [pt b 81 (bkC n v)] (X := Unit) (fun _ => True) (fun _ => .bool true) (fun _ => [pt b 81 (bkC n v)]) := by
 refine Con.of (args := [Value.pointer (some ⟨b, 0, none⟩)]) Tryz.func120 rfl Tryz.ntmps120 rfl (fun F => ?_)
 show Wc _ W0 _ _ _ _ _ ((pt b 81 (bkC n v)) :: F)
 refine Wc.seq ?_
 refine Wc.region ?_
 refine Wl.q (v := Value.bool false) (q_assign rfl) ?_
 refine Wl.done ?_
 refine Wx.go ?_
 refine Wc.seq ?_
 refine Wc.seq ?_
 refine Wc.region ?_
 refine Wl.q (v := Value.pointer (some ⟨b, 0, none⟩)) (q_move rfl) ?_
 refine Wl.q (v := Value.pointer (some ⟨b, 0, none⟩)) (q_nil_ptr rfl) ?_
 refine Wl.q (v := Value.pointer (some ⟨b, 23, none⟩)) (q_field (m := 23) fo_81_23 rfl rfl) ?_
 refine Wl.q (v := Value.slice none 0 0) (q_load sc_68 rfl (.cel (i := 0) rfl rfl)) ?_
 refine Wl.q (v := Value.int .i64 0) (q_len_slice Tryz.underlying68 rfl) ?_
 refine Wl.q (v := Value.int .i64 0) (q_move rfl) ?_
 refine Wl.done ?_
 refine Wx.go ?_
 refine Wc.block ?_
 refine Wc.rounds 1 ?_
 refine Wn.round ?_
 refine Wc.seq ?_
 refine Wc.region ?_
 refine Wl.q (v := Value.bool false) (q_lss (r := false) rfl rfl (decide_eq_false (by decide))) ?_
 refine Wl.done ?_
 refine Wx.go ?_
 refine Wc.seq ?_
 refine Wc.no rfl ?_
 refine Wc.exit ?_
 refine Wx.thenExit ?_
 refine Wx.thenExit ?_
 refine Wx.out ?_
 refine Wx.go ?_
 refine Wc.seq ?_
 refine Wc.region ?_
 refine Wl.q (v := Value.bool true) (q_assign rfl) ?_
 refine Wl.done ?_
 refine Wx.go ?_
 refine Wc.ret ?_
 refine Wx.fin1 rfl (.inl rfl) (fun w hs => ?_)
 exact ⟨(), trivial, rfl, hs⟩

theorem bk_fillFeed (W0 : World) (b n : Nat) (v : Value) :
  Con Tryz.prog W0 57 #[Value.pointer (some ⟨b, 0, none⟩)] [pt b 81 (bkC n v)] (X := Unit) (fun _ => True) (fun _ => .tuple #[]) (fun _ => [pt b 81 (bkC n v)]) := by
 refine Con.of (args := [Value.pointer (some ⟨b, 0, none⟩)]) Tryz.func57 rfl Tryz.ntmps57 rfl (fun F => ?_)
 show Wc _ W0 _ _ _ _ _ ((pt b 81 (bkC n v)) :: F)
 refine Wc.seq ?_
 refine Wc.region ?_
 refine Wl.q (v := Value.pointer (some ⟨b, 0, none⟩)) (q_move rfl) ?_
 refine Wl.q (v := Value.pointer (some ⟨b, 0, none⟩)) (q_nil_ptr rfl) ?_
 refine Wl.q (v := Value.pointer (some ⟨b, 27, none⟩)) (q_field (m := 27) fo_81_27 rfl rfl) ?_
 refine Wl.q (v := Value.slice none 0 0) (q_load sc_72 rfl (.cel (i := 0) rfl rfl)) ?_
 refine Wl.q (v := Value.int .i64 0) (q_len_slice Tryz.underlying72 rfl) ?_
 refine Wl.q (v := Value.int .i64 0) (q_move rfl) ?_
 refine Wl.done ?_
 refine Wx.go ?_
 refine Wc.block ?_
 refine Wc.rounds 1 ?_
 refine Wn.round ?_
 refine Wc.seq ?_
 refine Wc.region ?_
 refine Wl.q (v := Value.bool false) (q_lss (r := false) rfl rfl (decide_eq_false (by decide))) ?_
 refine Wl.done ?_
 refine Wx.go ?_
 refine Wc.seq ?_
 refine Wc.no rfl ?_
 refine Wc.exit ?_
 refine Wx.thenExit ?_
 refine Wx.thenExit ?_
 refine Wx.out ?_
 refine Wx.fin0 rfl (.inr rfl) (fun w hs => ?_)
 exact ⟨(), trivial, rfl, hs⟩

theorem bk_growFeed (W0 : World) (b n : Nat) (v : Value) :
  Con Tryz.prog W0 90 #[Value.pointer (some ⟨b, 0, none⟩)] [pt b 81 (bkC n v)] (X := Unit) (fun _ => True) (fun _ => .tuple #[]) (fun _ => [pt b 81 (bkC n v)]) := by
 refine Con.of (args := [Value.pointer (some ⟨b, 0, none⟩)]) Tryz.func90 rfl Tryz.ntmps90 rfl (fun F => ?_)
 show Wc _ W0 _ _ _ _ _ ((pt b 81 (bkC n v)) :: F)
 refine Wc.seq ?_
 refine Wc.region ?_
 refine Wl.q (v := Value.pointer (some ⟨b, 0, none⟩)) (q_move rfl) ?_
 refine Wl.q (v := Value.pointer (some ⟨b, 0, none⟩)) (q_nil_ptr rfl) ?_
 refine Wl.q (v := Value.pointer (some ⟨b, 27, none⟩)) (q_field (m := 27) fo_81_27 rfl rfl) ?_
 refine Wl.q (v := Value.slice none 0 0) (q_load sc_72 rfl (.cel (i := 0) rfl rfl)) ?_
 refine Wl.q (v := Value.int .i64 0) (q_len_slice Tryz.underlying72 rfl) ?_
 refine Wl.q (v := Value.int .i64 0) (q_move rfl) ?_
 refine Wl.done ?_
 refine Wx.go ?_
 refine Wc.block ?_
 refine Wc.rounds 1 ?_
 refine Wn.round ?_
 refine Wc.seq ?_
 refine Wc.region ?_
 refine Wl.q (v := Value.bool false) (q_lss (r := false) rfl rfl (decide_eq_false (by decide))) ?_
 refine Wl.done ?_
 refine Wx.go ?_
 refine Wc.seq ?_
 refine Wc.no rfl ?_
 refine Wc.exit ?_
 refine Wx.thenExit ?_
 refine Wx.thenExit ?_
 refine Wx.out ?_
 refine Wx.fin0 rfl (.inr rfl) (fun w hs => ?_)
 exact ⟨(), trivial, rfl, hs⟩

theorem bk_lookFeed (W0 : World) (b n : Nat) (v : Value) :
  Con Tryz.prog W0 124 #[Value.pointer (some ⟨b, 0, none⟩)] [pt b 81 (bkC n v)] (X := Unit) (fun _ => True) (fun _ => .bool true) (fun _ => [pt b 81 (bkC n v)]) := by
 refine Con.of (args := [Value.pointer (some ⟨b, 0, none⟩)]) Tryz.func124 rfl Tryz.ntmps124 rfl (fun F => ?_)
 show Wc _ W0 _ _ _ _ _ ((pt b 81 (bkC n v)) :: F)
 refine Wc.seq ?_
 refine Wc.region ?_
 refine Wl.q (v := Value.bool false) (q_assign rfl) ?_
 refine Wl.done ?_
 refine Wx.go ?_
 refine Wc.seq ?_
 refine Wc.seq ?_
 refine Wc.region ?_
 refine Wl.q (v := Value.pointer (some ⟨b, 0, none⟩)) (q_move rfl) ?_
 refine Wl.q (v := Value.pointer (some ⟨b, 0, none⟩)) (q_nil_ptr rfl) ?_
 refine Wl.q (v := Value.pointer (some ⟨b, 27, none⟩)) (q_field (m := 27) fo_81_27 rfl rfl) ?_
 refine Wl.q (v := Value.slice none 0 0) (q_load sc_72 rfl (.cel (i := 0) rfl rfl)) ?_
 refine Wl.q (v := Value.int .i64 0) (q_len_slice Tryz.underlying72 rfl) ?_
 refine Wl.q (v := Value.int .i64 0) (q_move rfl) ?_
 refine Wl.done ?_
 refine Wx.go ?_
 refine Wc.block ?_
 refine Wc.rounds 1 ?_
 refine Wn.round ?_
 refine Wc.seq ?_
 refine Wc.region ?_
 refine Wl.q (v := Value.bool false) (q_lss (r := false) rfl rfl (decide_eq_false (by decide))) ?_
 refine Wl.done ?_
 refine Wx.go ?_
 refine Wc.seq ?_
 refine Wc.no rfl ?_
 refine Wc.exit ?_
 refine Wx.thenExit ?_
 refine Wx.thenExit ?_
 refine Wx.out ?_
 refine Wx.go ?_
 refine Wc.seq ?_
 refine Wc.region ?_
 refine Wl.q (v := Value.bool true) (q_assign rfl) ?_
 refine Wl.done ?_
 refine Wx.go ?_
 refine Wc.ret ?_
 refine Wx.fin1 rfl (.inl rfl) (fun w hs => ?_)
 exact ⟨(), trivial, rfl, hs⟩

theorem bk_fillFinding (W0 : World) (b n : Nat) (v : Value) :
  Con Tryz.prog W0 46 #[Value.pointer (some ⟨b, 0, none⟩)] [pt b 81 (bkC n v)] (X := Unit) (fun _ => True) (fun _ => .tuple #[]) (fun _ => [pt b 81 (bkC n v)]) := by
 refine Con.of (args := [Value.pointer (some ⟨b, 0, none⟩)]) Tryz.func46 rfl Tryz.ntmps46 rfl (fun F => ?_)
 show Wc _ W0 _ _ _ _ _ ((pt b 81 (bkC n v)) :: F)
 refine Wc.seq ?_
 refine Wc.region ?_
 refine Wl.q (v := Value.pointer (some ⟨b, 0, none⟩)) (q_move rfl) ?_
 refine Wl.q (v := Value.pointer (some ⟨b, 0, none⟩)) (q_nil_ptr rfl) ?_
 refine Wl.q (v := Value.pointer (some ⟨b, 16, none⟩)) (q_field (m := 16) fo_81_16 rfl rfl) ?_
 refine Wl.q (v := Value.slice none 0 0) (q_load sc_61 rfl (.cel (i := 0) rfl rfl)) ?_
 refine Wl.q (v := Value.int .i64 0) (q_len_slice Tryz.underlying61 rfl) ?_
 refine Wl.q (v := Value.int .i64 0) (q_move rfl) ?_
 refine Wl.done ?_
 refine Wx.go ?_
 refine Wc.block ?_
 refine Wc.rounds 1 ?_
 refine Wn.round ?_
 refine Wc.seq ?_
 refine Wc.region ?_
 refine Wl.q (v := Value.bool false) (q_lss (r := false) rfl rfl (decide_eq_false (by decide))) ?_
 refine Wl.done ?_
 refine Wx.go ?_
 refine Wc.seq ?_
 refine Wc.no rfl ?_
 refine Wc.exit ?_
 refine Wx.thenExit ?_
 refine Wx.thenExit ?_
 refine Wx.out ?_
 refine Wx.fin0 rfl (.inr rfl) (fun w hs => ?_)
 exact ⟨(), trivial, rfl, hs⟩

theorem bk_growFinding (W0 : World) (b n : Nat) (v : Value) :
  Con Tryz.prog W0 79 #[Value.pointer (some ⟨b, 0, none⟩)] [pt b 81 (bkC n v)] (X := Unit) (fun _ => True) (fun _ => .tuple #[]) (fun _ => [pt b 81 (bkC n v)]) := by
 refine Con.of (args := [Value.pointer (some ⟨b, 0, none⟩)]) Tryz.func79 rfl Tryz.ntmps79 rfl (fun F => ?_)
 show Wc _ W0 _ _ _ _ _ ((pt b 81 (bkC n v)) :: F)
 refine Wc.seq ?_
 refine Wc.region ?_
 refine Wl.q (v := Value.pointer (some ⟨b, 0, none⟩)) (q_move rfl) ?_
 refine Wl.q (v := Value.pointer (some ⟨b, 0, none⟩)) (q_nil_ptr rfl) ?_
 refine Wl.q (v := Value.pointer (some ⟨b, 16, none⟩)) (q_field (m := 16) fo_81_16 rfl rfl) ?_
 refine Wl.q (v := Value.slice none 0 0) (q_load sc_61 rfl (.cel (i := 0) rfl rfl)) ?_
 refine Wl.q (v := Value.int .i64 0) (q_len_slice Tryz.underlying61 rfl) ?_
 refine Wl.q (v := Value.int .i64 0) (q_move rfl) ?_
 refine Wl.done ?_
 refine Wx.go ?_
 refine Wc.block ?_
 refine Wc.rounds 1 ?_
 refine Wn.round ?_
 refine Wc.seq ?_
 refine Wc.region ?_
 refine Wl.q (v := Value.bool false) (q_lss (r := false) rfl rfl (decide_eq_false (by decide))) ?_
 refine Wl.done ?_
 refine Wx.go ?_
 refine Wc.seq ?_
 refine Wc.no rfl ?_
 refine Wc.exit ?_
 refine Wx.thenExit ?_
 refine Wx.thenExit ?_
 refine Wx.out ?_
 refine Wx.fin0 rfl (.inr rfl) (fun w hs => ?_)
 exact ⟨(), trivial, rfl, hs⟩

theorem bk_lookFinding (W0 : World) (b n : Nat) (v : Value) :
  Con Tryz.prog W0 113 #[Value.pointer (some ⟨b, 0, none⟩)] [pt b 81 (bkC n v)] (X := Unit) (fun _ => True) (fun _ => .bool true) (fun _ => [pt b 81 (bkC n v)]) := by
 refine Con.of (args := [Value.pointer (some ⟨b, 0, none⟩)]) Tryz.func113 rfl Tryz.ntmps113 rfl (fun F => ?_)
 show Wc _ W0 _ _ _ _ _ ((pt b 81 (bkC n v)) :: F)
 refine Wc.seq ?_
 refine Wc.region ?_
 refine Wl.q (v := Value.bool false) (q_assign rfl) ?_
 refine Wl.done ?_
 refine Wx.go ?_
 refine Wc.seq ?_
 refine Wc.seq ?_
 refine Wc.region ?_
 refine Wl.q (v := Value.pointer (some ⟨b, 0, none⟩)) (q_move rfl) ?_
 refine Wl.q (v := Value.pointer (some ⟨b, 0, none⟩)) (q_nil_ptr rfl) ?_
 refine Wl.q (v := Value.pointer (some ⟨b, 16, none⟩)) (q_field (m := 16) fo_81_16 rfl rfl) ?_
 refine Wl.q (v := Value.slice none 0 0) (q_load sc_61 rfl (.cel (i := 0) rfl rfl)) ?_
 refine Wl.q (v := Value.int .i64 0) (q_len_slice Tryz.underlying61 rfl) ?_
 refine Wl.q (v := Value.int .i64 0) (q_move rfl) ?_
 refine Wl.done ?_
 refine Wx.go ?_
 refine Wc.block ?_
 refine Wc.rounds 1 ?_
 refine Wn.round ?_
 refine Wc.seq ?_
 refine Wc.region ?_
 refine Wl.q (v := Value.bool false) (q_lss (r := false) rfl rfl (decide_eq_false (by decide))) ?_
 refine Wl.done ?_
 refine Wx.go ?_
 refine Wc.seq ?_
 refine Wc.no rfl ?_
 refine Wc.exit ?_
 refine Wx.thenExit ?_
 refine Wx.thenExit ?_
 refine Wx.out ?_
 refine Wx.go ?_
 refine Wc.seq ?_
 refine Wc.region ?_
 refine Wl.q (v := Value.bool true) (q_assign rfl) ?_
 refine Wl.done ?_
 refine Wx.go ?_
 refine Wc.ret ?_
 refine Wx.fin1 rfl (.inl rfl) (fun w hs => ?_)
 exact ⟨(), trivial, rfl, hs⟩

theorem bk_fillGot (W0 : World) (b n : Nat) (v : Value) :
  Con Tryz.prog W0 42 #[Value.pointer (some ⟨b, 0, none⟩)] [pt b 81 (bkC n v)] (X := Unit) (fun _ => True) (fun _ => .tuple #[]) (fun _ => [pt b 81 (bkC n v)]) := by
 refine Con.of (args := [Value.pointer (some ⟨b, 0, none⟩)]) Tryz.func42 rfl Tryz.ntmps42 rfl (fun F => ?_)
 show Wc _ W0 _ _ _ _ _ ((pt b 81 (bkC n v)) :: F)
 refine Wc.seq ?_
 refine Wc.region ?_
 refine Wl.q (v := Value.pointer (some ⟨b, 0, none⟩)) (q_move rfl) ?_
 refine Wl.q (v := Value.pointer (some ⟨b, 0, none⟩)) (q_nil_ptr rfl) ?_
 refine Wl.q (v := Value.pointer (some ⟨b, 12, none⟩)) (q_field (m := 12) fo_81_12 rfl rfl) ?_
 refine Wl.q (v := Value.slice none 0 0) (q_load sc_57 rfl (.cel (i := 0) rfl rfl)) ?_
 refine Wl.q (v := Value.int .i64 0) (q_len_slice Tryz.underlying57 rfl) ?_
 refine Wl.q (v := Value.int .i64 0) (q_move rfl) ?_
 refine Wl.done ?_
 refine Wx.go ?_
 refine Wc.block ?_
 refine Wc.rounds 1 ?_
 refine Wn.round ?_
 refine Wc.seq ?_
 refine Wc.region ?_
 refine Wl.q (v := Value.bool false) (q_lss (r := false) rfl rfl (decide_eq_false (by decide))) ?_
 refine Wl.done ?_
 refine Wx.go ?_
 refine Wc.seq ?_
 refine Wc.no rfl ?_
 refine Wc.exit ?_
 refine Wx.thenExit ?_
 refine Wx.thenExit ?_
 refine Wx.out ?_
 refine Wx.fin0 rfl (.inr rfl) (fun w hs => ?_)
 exact ⟨(), trivial, rfl, hs⟩

theorem bk_growGot (W0 : World) (b n : Nat) (v : Value) :
  Con Tryz.prog W0 75 #[Value.pointer (some ⟨b, 0, none⟩)] [pt b 81 (bkC n v)] (X := Unit) (fun _ => True) (fun _ => .tuple #[]) (fun _ => [pt b 81 (bkC n v)]) := by
 refine Con.of (args := [Value.pointer (some ⟨b, 0, none⟩)]) Tryz.func75 rfl Tryz.ntmps75 rfl (fun F => ?_)
 show Wc _ W0 _ _ _ _ _ ((pt b 81 (bkC n v)) :: F)
 refine Wc.seq ?_
 refine Wc.region ?_
 refine Wl.q (v := Value.pointer (some ⟨b, 0, none⟩)) (q_move rfl) ?_
 refine Wl.q (v := Value.pointer (some ⟨b, 0, none⟩)) (q_nil_ptr rfl) ?_
 refine Wl.q (v := Value.pointer (some ⟨b, 12, none⟩)) (q_field (m := 12) fo_81_12 rfl rfl) ?_
 refine Wl.q (v := Value.slice none 0 0) (q_load sc_57 rfl (.cel (i := 0) rfl rfl)) ?_
 refine Wl.q (v := Value.int .i64 0) (q_len_slice Tryz.underlying57 rfl) ?_
 refine Wl.q (v := Value.int .i64 0) (q_move rfl) ?_
 refine Wl.done ?_
 refine Wx.go ?_
 refine Wc.block ?_
 refine Wc.rounds 1 ?_
 refine Wn.round ?_
 refine Wc.seq ?_
 refine Wc.region ?_
 refine Wl.q (v := Value.bool false) (q_lss (r := false) rfl rfl (decide_eq_false (by decide))) ?_
 refine Wl.done ?_
 refine Wx.go ?_
 refine Wc.seq ?_
 refine Wc.no rfl ?_
 refine Wc.exit ?_
 refine Wx.thenExit ?_
 refine Wx.thenExit ?_
 refine Wx.out ?_
 refine Wx.fin0 rfl (.inr rfl) (fun w hs => ?_)
 exact ⟨(), trivial, rfl, hs⟩

theorem bk_lookGot (W0 : World) (b n : Nat) (v : Value) :
  Con Tryz.prog W0 109 #[Value.pointer (some ⟨b, 0, none⟩)] [pt b 81 (bkC n v)] (X := Unit) (fun _ => True) (fun _ => .bool true) (fun _ => [pt b 81 (bkC n v)]) := by
 refine Con.of (args := [Value.pointer (some ⟨b, 0, none⟩)]) Tryz.func109 rfl Tryz.ntmps109 rfl (fun F => ?_)
 show Wc _ W0 _ _ _ _ _ ((pt b 81 (bkC n v)) :: F)
 refine Wc.seq ?_
 refine Wc.region ?_
 refine Wl.q (v := Value.bool false) (q_assign rfl) ?_
 refine Wl.done ?_
 refine Wx.go ?_
 refine Wc.seq ?_
 refine Wc.seq ?_
 refine Wc.region ?_
 refine Wl.q (v := Value.pointer (some ⟨b, 0, none⟩)) (q_move rfl) ?_
 refine Wl.q (v := Value.pointer (some ⟨b, 0, none⟩)) (q_nil_ptr rfl) ?_
 refine Wl.q (v := Value.pointer (some ⟨b, 12, none⟩)) (q_field (m := 12) fo_81_12 rfl rfl) ?_
 refine Wl.q (v := Value.slice none 0 0) (q_load sc_57 rfl (.cel (i := 0) rfl rfl)) ?_
 refine Wl.q (v := Value.int .i64 0) (q_len_slice Tryz.underlying57 rfl) ?_
 refine Wl.q (v := Value.int .i64 0) (q_move rfl) ?_
 refine Wl.done ?_
 refine Wx.go ?_
 refine Wc.block ?_
 refine Wc.rounds 1 ?_
 refine Wn.round ?_
 refine Wc.seq ?_
 refine Wc.region ?_
 refine Wl.q (v := Value.bool false) (q_lss (r := false) rfl rfl (decide_eq_false (by decide))) ?_
 refine Wl.done ?_
 refine Wx.go ?_
 refine Wc.seq ?_
 refine Wc.no rfl ?_
 refine Wc.exit ?_
 refine Wx.thenExit ?_
 refine Wx.thenExit ?_
 refine Wx.out ?_
 refine Wx.go ?_
 refine Wc.seq ?_
 refine Wc.region ?_
 refine Wl.q (v := Value.bool true) (q_assign rfl) ?_
 refine Wl.done ?_
 refine Wx.go ?_
 refine Wc.ret ?_
 refine Wx.fin1 rfl (.inl rfl) (fun w hs => ?_)
 exact ⟨(), trivial, rfl, hs⟩

theorem bk_fillJoin (W0 : World) (b n : Nat) (v : Value) :
  Con Tryz.prog W0 39 #[Value.pointer (some ⟨b, 0, none⟩)] [pt b 81 (bkC n v)] (X := Unit) (fun _ => True) (fun _ => .tuple #[]) (fun _ => [pt b 81 (bkC n v)]) := by
 refine Con.of (args := [Value.pointer (some ⟨b, 0, none⟩)]) Tryz.func39 rfl Tryz.ntmps39 rfl (fun F => ?_)
 show Wc _ W0 _ _ _ _ _ ((pt b 81 (bkC n v)) :: F)
 refine Wc.seq ?_
 refine Wc.region ?_
 refine Wl.q (v := Value.pointer (some ⟨b, 0, none⟩)) (q_move rfl) ?_
 refine Wl.q (v := Value.pointer (some ⟨b, 0, none⟩)) (q_nil_ptr rfl) ?_
 refine Wl.q (v := Value.pointer (some ⟨b, 9, none⟩)) (q_field (m := 9) fo_81_9 rfl rfl) ?_
 refine Wl.q (v := Value.slice none 0 0) (q_load sc_54 rfl (.cel (i := 0) rfl rfl)) ?_
 refine Wl.q (v := Value.int .i64 0) (q_len_slice Tryz.underlying54 rfl) ?_
 refine Wl.q (v := Value.int .i64 0) (q_move rfl) ?_
 refine Wl.done ?_
 refine Wx.go ?_
 refine Wc.block ?_
 refine Wc.rounds 1 ?_
 refine Wn.round ?_
 refine Wc.seq ?_
 refine Wc.region ?_
 refine Wl.q (v := Value.bool false) (q_lss (r := false) rfl rfl (decide_eq_false (by decide))) ?_
 refine Wl.done ?_
 refine Wx.go ?_
 refine Wc.seq ?_
 refine Wc.no rfl ?_
 refine Wc.exit ?_
 refine Wx.thenExit ?_
 refine Wx.thenExit ?_
 refine Wx.out ?_
 refine Wx.fin0 rfl (.inr rfl) (fun w hs => ?_)
 exact ⟨(), trivial, rfl, hs⟩

theorem bk_growJoin (W0 : World) (b n : Nat) (v : Value) :
  Con Tryz.prog W0 72 #[Value.pointer (some ⟨b, 0, none⟩)] [pt b 81 (bkC n v)] (X := Unit) (fun _ => True) (fun _ => .tuple #[]) (fun _ => [pt b 81 (bkC n v)]) := by
 refine Con.of (args := [Value.pointer (some ⟨b, 0, none⟩)]) Tryz.func72 rfl Tryz.ntmps72 rfl (fun F => ?_)
 show Wc _ W0 _ _ _ _ _ ((pt b 81 (bkC n v)) :: F)
 refine Wc.seq ?_
 refine Wc.region ?_
 refine Wl.q (v := Value.pointer (some ⟨b, 0, none⟩)) (q_move rfl) ?_
 refine Wl.q (v := Value.pointer (some ⟨b, 0, none⟩)) (q_nil_ptr rfl) ?_
 refine Wl.q (v := Value.pointer (some ⟨b, 9, none⟩)) (q_field (m := 9) fo_81_9 rfl rfl) ?_
 refine Wl.q (v := Value.slice none 0 0) (q_load sc_54 rfl (.cel (i := 0) rfl rfl)) ?_
 refine Wl.q (v := Value.int .i64 0) (q_len_slice Tryz.underlying54 rfl) ?_
 refine Wl.q (v := Value.int .i64 0) (q_move rfl) ?_
 refine Wl.done ?_
 refine Wx.go ?_
 refine Wc.block ?_
 refine Wc.rounds 1 ?_
 refine Wn.round ?_
 refine Wc.seq ?_
 refine Wc.region ?_
 refine Wl.q (v := Value.bool false) (q_lss (r := false) rfl rfl (decide_eq_false (by decide))) ?_
 refine Wl.done ?_
 refine Wx.go ?_
 refine Wc.seq ?_
 refine Wc.no rfl ?_
 refine Wc.exit ?_
 refine Wx.thenExit ?_
 refine Wx.thenExit ?_
 refine Wx.out ?_
 refine Wx.fin0 rfl (.inr rfl) (fun w hs => ?_)
 exact ⟨(), trivial, rfl, hs⟩

theorem bk_lookJoin (W0 : World) (b n : Nat) (v : Value) :
  Con Tryz.prog W0 106 #[Value.pointer (some ⟨b, 0, none⟩)] [pt b 81 (bkC n v)] (X := Unit) (fun _ => True) (fun _ => .bool true) (fun _ => [pt b 81 (bkC n v)]) := by
 refine Con.of (args := [Value.pointer (some ⟨b, 0, none⟩)]) Tryz.func106 rfl Tryz.ntmps106 rfl (fun F => ?_)
 show Wc _ W0 _ _ _ _ _ ((pt b 81 (bkC n v)) :: F)
 refine Wc.seq ?_
 refine Wc.region ?_
 refine Wl.q (v := Value.bool false) (q_assign rfl) ?_
 refine Wl.done ?_
 refine Wx.go ?_
 refine Wc.seq ?_
 refine Wc.seq ?_
 refine Wc.region ?_
 refine Wl.q (v := Value.pointer (some ⟨b, 0, none⟩)) (q_move rfl) ?_
 refine Wl.q (v := Value.pointer (some ⟨b, 0, none⟩)) (q_nil_ptr rfl) ?_
 refine Wl.q (v := Value.pointer (some ⟨b, 9, none⟩)) (q_field (m := 9) fo_81_9 rfl rfl) ?_
 refine Wl.q (v := Value.slice none 0 0) (q_load sc_54 rfl (.cel (i := 0) rfl rfl)) ?_
 refine Wl.q (v := Value.int .i64 0) (q_len_slice Tryz.underlying54 rfl) ?_
 refine Wl.q (v := Value.int .i64 0) (q_move rfl) ?_
 refine Wl.done ?_
 refine Wx.go ?_
 refine Wc.block ?_
 refine Wc.rounds 1 ?_
 refine Wn.round ?_
 refine Wc.seq ?_
 refine Wc.region ?_
 refine Wl.q (v := Value.bool false) (q_lss (r := false) rfl rfl (decide_eq_false (by decide))) ?_
 refine Wl.done ?_
 refine Wx.go ?_
 refine Wc.seq ?_
 refine Wc.no rfl ?_
 refine Wc.exit ?_
 refine Wx.thenExit ?_
 refine Wx.thenExit ?_
 refine Wx.out ?_
 refine Wx.go ?_
 refine Wc.seq ?_
 refine Wc.region ?_
 refine Wl.q (v := Value.bool true) (q_assign rfl) ?_
 refine Wl.done ?_
 refine Wx.go ?_
 refine Wc.ret ?_
 refine Wx.fin1 rfl (.inl rfl) (fun w hs => ?_)
 exact ⟨(), trivial, rfl, hs⟩

theorem bk_fillKey (W0 : World) (b n : Nat) (v : Value) :
  Con Tryz.prog W0 37 #[Value.pointer (some ⟨b, 0, none⟩)] [pt b 81 (bkC n v)] (X := Unit) (fun _ => True) (fun _ => .tuple #[]) (fun _ => [pt b 81 (bkC n v)]) := by
 refine Con.of (args := [Value.pointer (some ⟨b, 0, none⟩)]) Tryz.func37 rfl Tryz.ntmps37 rfl (fun F => ?_)
 show Wc _ W0 _ _ _ _ _ ((pt b 81 (bkC n v)) :: F)
 refine Wc.seq ?_
 refine Wc.region ?_
 refine Wl.q (v := Value.pointer (some ⟨b, 0, none⟩)) (q_move rfl) ?_
 refine Wl.q (v := Value.pointer (some ⟨b, 0, none⟩)) (q_nil_ptr rfl) ?_
 refine Wl.q (v := Value.pointer (some ⟨b, 7, none⟩)) (q_field (m := 7) fo_81_7 rfl rfl) ?_
 refine Wl.q (v := Value.slice none 0 0) (q_load sc_52 rfl (.cel (i := 0) rfl rfl)) ?_
 refine Wl.q (v := Value.int .i64 0) (q_len_slice Tryz.underlying52 rfl) ?_
 refine Wl.q (v := Value.int .i64 0) (q_move rfl) ?_
 refine Wl.done ?_
 refine Wx.go ?_
 refine Wc.block ?_
 refine Wc.rounds 1 ?_
 refine Wn.round ?_
 refine Wc.seq ?_
 refine Wc.region ?_
 refine Wl.q (v := Value.bool false) (q_lss (r := false) rfl rfl (decide_eq_false (by decide))) ?_
 refine Wl.done ?_
 refine Wx.go ?_
 refine Wc.seq ?_
 refine Wc.no rfl ?_
 refine Wc.exit ?_
 refine Wx.thenExit ?_
 refine Wx.thenExit ?_
 refine Wx.out ?_
 refine Wx.fin0 rfl (.inr rfl) (fun w hs => ?_)
 exact ⟨(), trivial, rfl, hs⟩

theorem bk_growKey (W0 : World) (b n : Nat) (v : Value) :
  Con Tryz.prog W0 70 #[Value.pointer (some ⟨b, 0, none⟩)] [pt b 81 (bkC n v)] (X := Unit) (fun _ => True) (fun _ => .tuple #[]) (fun _ => [pt b 81 (bkC n v)]) := by
 refine Con.of (args := [Value.pointer (some ⟨b, 0, none⟩)]) Tryz.func70 rfl Tryz.ntmps70 rfl (fun F => ?_)
 show Wc _ W0 _ _ _ _ _ ((pt b 81 (bkC n v)) :: F)
 refine Wc.seq ?_
 refine Wc.region ?_
 refine Wl.q (v := Value.pointer (some ⟨b, 0, none⟩)) (q_move rfl) ?_
 refine Wl.q (v := Value.pointer (some ⟨b, 0, none⟩)) (q_nil_ptr rfl) ?_
 refine Wl.q (v := Value.pointer (some ⟨b, 7, none⟩)) (q_field (m := 7) fo_81_7 rfl rfl) ?_
 refine Wl.q (v := Value.slice none 0 0) (q_load sc_52 rfl (.cel (i := 0) rfl rfl)) ?_
 refine Wl.q (v := Value.int .i64 0) (q_len_slice Tryz.underlying52 rfl) ?_
 refine Wl.q (v := Value.int .i64 0) (q_move rfl) ?_
 refine Wl.done ?_
 refine Wx.go ?_
 refine Wc.block ?_
 refine Wc.rounds 1 ?_
 refine Wn.round ?_
 refine Wc.seq ?_
 refine Wc.region ?_
 refine Wl.q (v := Value.bool false) (q_lss (r := false) rfl rfl (decide_eq_false (by decide))) ?_
 refine Wl.done ?_
 refine Wx.go ?_
 refine Wc.seq ?_
 refine Wc.no rfl ?_
 refine Wc.exit ?_
 refine Wx.thenExit ?_
 refine Wx.thenExit ?_
 refine Wx.out ?_
 refine Wx.fin0 rfl (.inr rfl) (fun w hs => ?_)
 exact ⟨(), trivial, rfl, hs⟩

theorem bk_lookKey (W0 : World) (b n : Nat) (v : Value) :
  Con Tryz.prog W0 104 #[Value.pointer (some ⟨b, 0, none⟩)] [pt b 81 (bkC n v)] (X := Unit) (fun _ => True) (fun _ => .bool true) (fun _ => [pt b 81 (bkC n v)]) := by
 refine Con.of (args := [Value.pointer (some ⟨b, 0, none⟩)]) Tryz.func104 rfl Tryz.ntmps104 rfl (fun F => ?_)
 show Wc _ W0 _ _ _ _ _ ((pt b 81 (bkC n v)) :: F)
 refine Wc.seq ?_
 refine Wc.region ?_
 refine Wl.q (v := Value.bool false) (q_assign rfl) ?_
 refine Wl.done ?_
 refine Wx.go ?_
 refine Wc.seq ?_
 refine Wc.seq ?_
 refine Wc.region ?_
 refine Wl.q (v := Value.pointer (some ⟨b, 0, none⟩)) (q_move rfl) ?_
 refine Wl.q (v := Value.pointer (some ⟨b, 0, none⟩)) (q_nil_ptr rfl) ?_
 refine Wl.q (v := Value.pointer (some ⟨b, 7, none⟩)) (q_field (m := 7) fo_81_7 rfl rfl) ?_
 refine Wl.q (v := Value.slice none 0 0) (q_load sc_52 rfl (.cel (i := 0) rfl rfl)) ?_
 refine Wl.q (v := Value.int .i64 0) (q_len_slice Tryz.underlying52 rfl) ?_
 refine Wl.q (v := Value.int .i64 0) (q_move rfl) ?_
 refine Wl.done ?_
 refine Wx.go ?_
 refine Wc.block ?_
 refine Wc.rounds 1 ?_
 refine Wn.round ?_
 refine Wc.seq ?_
 refine Wc.region ?_
 refine Wl.q (v := Value.bool false) (q_lss (r := false) rfl rfl (decide_eq_false (by decide))) ?_
 refine Wl.done ?_
 refine Wx.go ?_
 refine Wc.seq ?_
 refine Wc.no rfl ?_
 refine Wc.exit ?_
 refine Wx.thenExit ?_
 refine Wx.thenExit ?_
 refine Wx.out ?_
 refine Wx.go ?_
 refine Wc.seq ?_
 refine Wc.region ?_
 refine Wl.q (v := Value.bool true) (q_assign rfl) ?_
 refine Wl.done ?_
 refine Wx.go ?_
 refine Wc.ret ?_
 refine Wx.fin1 rfl (.inl rfl) (fun w hs => ?_)
 exact ⟨(), trivial, rfl, hs⟩

theorem bk_fillLink (W0 : World) (b n : Nat) (v : Value) :
  Con Tryz.prog W0 61 #[Value.pointer (some ⟨b, 0, none⟩)] [pt b 81 (bkC n v)] (X := Unit) (fun _ => True) (fun _ => .tuple #[]) (fun _ => [pt b 81 (bkC n v)]) := by
 refine Con.of (args := [Value.pointer (some ⟨b, 0, none⟩)]) Tryz.func61 rfl Tryz.ntmps61 rfl (fun F => ?_)
 show Wc _ W0 _ _ _ _ _ ((pt b 81 (bkC n v)) :: F)
 refine Wc.seq ?_
 refine Wc.region ?_
 refine Wl.q (v := Value.pointer (some ⟨b, 0, none⟩)) (q_move rfl) ?_
 refine Wl.q (v := Value.pointer (some ⟨b, 0, none⟩)) (q_nil_ptr rfl) ?_
 refine Wl.q (v := Value.pointer (some ⟨b, 31, none⟩)) (q_field (m := 31) fo_81_31 rfl rfl) ?_
 refine Wl.q (v := Value.slice none 0 0) (q_load sc_76 rfl (.cel (i := 0) rfl rfl)) ?_
 refine Wl.q (v := Value.int .i64 0) (q_len_slice Tryz.underlying76 rfl) ?_
 refine Wl.q (v := Value.int .i64 0) (q_move rfl) ?_
 refine Wl.done ?_
 refine Wx.go ?_
 refine Wc.block ?_
 refine Wc.rounds 1 ?_
 refine Wn.round ?_
 refine Wc.seq ?_
 refine Wc.region ?_
 refine Wl.q (v := Value.bool false) (q_lss (r := false) rfl rfl (decide_eq_false (by decide))) ?_
 refine Wl.done ?_
 refine Wx.go ?_
 refine Wc.seq ?_
 refine Wc.no rfl ?_
 refine Wc.exit ?_
 refine Wx.thenExit ?_
 refine Wx.thenExit ?_
 refine Wx.out ?_
 refine Wx.fin0 rfl (.inr rfl) (fun w hs => ?_)
 exact ⟨(), trivial, rfl, hs⟩

theorem bk_growLink (W0 : World) (b n : Nat) (v : Value) :
  Con Tryz.prog W0 94 #[Value.pointer (some ⟨b, 0, none⟩)] [pt b 81 (bkC n v)] (X := Unit) (fun _ => True) (fun _ => .tuple #[]) (fun _ => [pt b 81 (bkC n v)]) := by
 refine Con.of (args := [Value.pointer (some ⟨b, 0, none⟩)]) Tryz.func94 rfl Tryz.ntmps94 rfl (fun F => ?_)
 show Wc _ W0 _ _ _ _ _ ((pt b 81 (bkC n v)) :: F)
 refine Wc.seq ?_
 refine Wc.region ?_
 refine Wl.q (v := Value.pointer (some ⟨b, 0, none⟩)) (q_move rfl) ?_
 refine Wl.q (v := Value.pointer (some ⟨b, 0, none⟩)) (q_nil_ptr rfl) ?_
 refine Wl.q (v := Value.pointer (some ⟨b, 31, none⟩)) (q_field (m := 31) fo_81_31 rfl rfl) ?_
 refine Wl.q (v := Value.slice none 0 0) (q_load sc_76 rfl (.cel (i := 0) rfl rfl)) ?_
 refine Wl.q (v := Value.int .i64 0) (q_len_slice Tryz.underlying76 rfl) ?_
 refine Wl.q (v := Value.int .i64 0) (q_move rfl) ?_
 refine Wl.done ?_
 refine Wx.go ?_
 refine Wc.block ?_
 refine Wc.rounds 1 ?_
 refine Wn.round ?_
 refine Wc.seq ?_
 refine Wc.region ?_
 refine Wl.q (v := Value.bool false) (q_lss (r := false) rfl rfl (decide_eq_false (by decide))) ?_
 refine Wl.done ?_
 refine Wx.go ?_
 refine Wc.seq ?_
 refine Wc.no rfl ?_
 refine Wc.exit ?_
 refine Wx.thenExit ?_
 refine Wx.thenExit ?_
 refine Wx.out ?_
 refine Wx.fin0 rfl (.inr rfl) (fun w hs => ?_)
 exact ⟨(), trivial, rfl, hs⟩

theorem bk_lookLink (W0 : World) (b n : Nat) (v : Value) :
  Con Tryz.prog W0 128 #[Value.pointer (some ⟨b, 0, none⟩)] [pt b 81 (bkC n v)] (X := Unit) (fun _ => True) (fun _ => .bool true) (fun _ => [pt b 81 (bkC n v)]) := by
 refine Con.of (args := [Value.pointer (some ⟨b, 0, none⟩)]) Tryz.func128 rfl Tryz.ntmps128 rfl (fun F => ?_)
 show Wc _ W0 _ _ _ _ _ ((pt b 81 (bkC n v)) :: F)
 refine Wc.seq ?_
 refine Wc.region ?_
 refine Wl.q (v := Value.bool false) (q_assign rfl) ?_
 refine Wl.done ?_
 refine Wx.go ?_
 refine Wc.seq ?_
 refine Wc.seq ?_
 refine Wc.region ?_
 refine Wl.q (v := Value.pointer (some ⟨b, 0, none⟩)) (q_move rfl) ?_
 refine Wl.q (v := Value.pointer (some ⟨b, 0, none⟩)) (q_nil_ptr rfl) ?_
 refine Wl.q (v := Value.pointer (some ⟨b, 31, none⟩)) (q_field (m := 31) fo_81_31 rfl rfl) ?_
 refine Wl.q (v := Value.slice none 0 0) (q_load sc_76 rfl (.cel (i := 0) rfl rfl)) ?_
 refine Wl.q (v := Value.int .i64 0) (q_len_slice Tryz.underlying76 rfl) ?_
 refine Wl.q (v := Value.int .i64 0) (q_move rfl) ?_
 refine Wl.done ?_
 refine Wx.go ?_
 refine Wc.block ?_
 refine Wc.rounds 1 ?_
 refine Wn.round ?_
 refine Wc.seq ?_
 refine Wc.region ?_
 refine Wl.q (v := Value.bool false) (q_lss (r := false) rfl rfl (decide_eq_false (by decide))) ?_
 refine Wl.done ?_
 refine Wx.go ?_
 refine Wc.seq ?_
 refine Wc.no rfl ?_
 refine Wc.exit ?_
 refine Wx.thenExit ?_
 refine Wx.thenExit ?_
 refine Wx.out ?_
 refine Wx.go ?_
 refine Wc.seq ?_
 refine Wc.region ?_
 refine Wl.q (v := Value.bool true) (q_assign rfl) ?_
 refine Wl.done ?_
 refine Wx.go ?_
 refine Wc.ret ?_
 refine Wx.fin1 rfl (.inl rfl) (fun w hs => ?_)
 exact ⟨(), trivial, rfl, hs⟩

theorem bk_fillLog (W0 : World) (b n : Nat) (v : Value) :
  Con Tryz.prog W0 58 #[Value.pointer (some ⟨b, 0, none⟩)] [pt b 81 (bkC n v)] (X := Unit) (fun _ => True) (fun _ => .tuple #[]) (fun _ => [pt b 81 (bkC n v)]) := by
 refine Con.of (args := [Value.pointer (some ⟨b, 0, none⟩)]) Tryz.func58 rfl Tryz.ntmps58 rfl (fun F => ?_)
 show Wc _ W0 _ _ _ _ _ ((pt b 81 (bkC n v)) :: F)
 refine Wc.seq ?_
 refine Wc.region ?_
 refine Wl.q (v := Value.pointer (some ⟨b, 0, none⟩)) (q_move rfl) ?_
 refine Wl.q (v := Value.pointer (some ⟨b, 0, none⟩)) (q_nil_ptr rfl) ?_
 refine Wl.q (v := Value.pointer (some ⟨b, 28, none⟩)) (q_field (m := 28) fo_81_28 rfl rfl) ?_
 refine Wl.q (v := Value.slice none 0 0) (q_load sc_73 rfl (.cel (i := 0) rfl rfl)) ?_
 refine Wl.q (v := Value.int .i64 0) (q_len_slice Tryz.underlying73 rfl) ?_
 refine Wl.q (v := Value.int .i64 0) (q_move rfl) ?_
 refine Wl.done ?_
 refine Wx.go ?_
 refine Wc.block ?_
 refine Wc.rounds 1 ?_
 refine Wn.round ?_
 refine Wc.seq ?_
 refine Wc.region ?_
 refine Wl.q (v := Value.bool false) (q_lss (r := false) rfl rfl (decide_eq_false (by decide))) ?_
 refine Wl.done ?_
 refine Wx.go ?_
 refine Wc.seq ?_
 refine Wc.no rfl ?_
 refine Wc.exit ?_
 refine Wx.thenExit ?_
 refine Wx.thenExit ?_
 refine Wx.out ?_
 refine Wx.fin0 rfl (.inr rfl) (fun w hs => ?_)
 exact ⟨(), trivial, rfl, hs⟩

theorem bk_growLog (W0 : World) (b n : Nat) (v : Value) :
  Con Tryz.prog W0 91 #[Value.pointer (some ⟨b, 0, none⟩)] [pt b 81 (bkC n v)] (X := Unit) (fun _ => True) (fun _ => .tuple #[]) (fun _ => [pt b 81 (bkC n v)]) := by
 refine Con.of (args := [Value.pointer (some ⟨b, 0, none⟩)]) Tryz.func91 rfl Tryz.ntmps91 rfl (fun F => ?_)
 show Wc _ W0 _ _ _ _ _ ((pt b 81 (bkC n v)) :: F)
 refine Wc.seq ?_
 refine Wc.region ?_
 refine Wl.q (v := Value.pointer (some ⟨b, 0, none⟩)) (q_move rfl) ?_
 refine Wl.q (v := Value.pointer (some ⟨b, 0, none⟩)) (q_nil_ptr rfl) ?_
 refine Wl.q (v := Value.pointer (some ⟨b, 28, none⟩)) (q_field (m := 28) fo_81_28 rfl rfl) ?_
 refine Wl.q (v := Value.slice none 0 0) (q_load sc_73 rfl (.cel (i := 0) rfl rfl)) ?_
 refine Wl.q (v := Value.int .i64 0) (q_len_slice Tryz.underlying73 rfl) ?_
 refine Wl.q (v := Value.int .i64 0) (q_move rfl) ?_
 refine Wl.done ?_
 refine Wx.go ?_
 refine Wc.block ?_
 refine Wc.rounds 1 ?_
 refine Wn.round ?_
 refine Wc.seq ?_
 refine Wc.region ?_
 refine Wl.q (v := Value.bool false) (q_lss (r := false) rfl rfl (decide_eq_false (by decide))) ?_
 refine Wl.done ?_
 refine Wx.go ?_
 refine Wc.seq ?_
 refine Wc.no rfl ?_
 refine Wc.exit ?_
 refine Wx.thenExit ?_
 refine Wx.thenExit ?_
 refine Wx.out ?_
 refine Wx.fin0 rfl (.inr rfl) (fun w hs => ?_)
 exact ⟨(), trivial, rfl, hs⟩

theorem bk_lookLog (W0 : World) (b n : Nat) (v : Value) :
  Con Tryz.prog W0 125 #[Value.pointer (some ⟨b, 0, none⟩)] [pt b 81 (bkC n v)] (X := Unit) (fun _ => True) (fun _ => .bool true) (fun _ => [pt b 81 (bkC n v)]) := by
 refine Con.of (args := [Value.pointer (some ⟨b, 0, none⟩)]) Tryz.func125 rfl Tryz.ntmps125 rfl (fun F => ?_)
 show Wc _ W0 _ _ _ _ _ ((pt b 81 (bkC n v)) :: F)
 refine Wc.seq ?_
 refine Wc.region ?_
 refine Wl.q (v := Value.bool false) (q_assign rfl) ?_
 refine Wl.done ?_
 refine Wx.go ?_
 refine Wc.seq ?_
 refine Wc.seq ?_
 refine Wc.region ?_
 refine Wl.q (v := Value.pointer (some ⟨b, 0, none⟩)) (q_move rfl) ?_
 refine Wl.q (v := Value.pointer (some ⟨b, 0, none⟩)) (q_nil_ptr rfl) ?_
 refine Wl.q (v := Value.pointer (some ⟨b, 28, none⟩)) (q_field (m := 28) fo_81_28 rfl rfl) ?_
 refine Wl.q (v := Value.slice none 0 0) (q_load sc_73 rfl (.cel (i := 0) rfl rfl)) ?_
 refine Wl.q (v := Value.int .i64 0) (q_len_slice Tryz.underlying73 rfl) ?_
 refine Wl.q (v := Value.int .i64 0) (q_move rfl) ?_
 refine Wl.done ?_
 refine Wx.go ?_
 refine Wc.block ?_
 refine Wc.rounds 1 ?_
 refine Wn.round ?_
 refine Wc.seq ?_
 refine Wc.region ?_
 refine Wl.q (v := Value.bool false) (q_lss (r := false) rfl rfl (decide_eq_false (by decide))) ?_
 refine Wl.done ?_
 refine Wx.go ?_
 refine Wc.seq ?_
 refine Wc.no rfl ?_
 refine Wc.exit ?_
 refine Wx.thenExit ?_
 refine Wx.thenExit ?_
 refine Wx.out ?_
 refine Wx.go ?_
 refine Wc.seq ?_
 refine Wc.region ?_
 refine Wl.q (v := Value.bool true) (q_assign rfl) ?_
 refine Wl.done ?_
 refine Wx.go ?_
 refine Wc.ret ?_
 refine Wx.fin1 rfl (.inl rfl) (fun w hs => ?_)
 exact ⟨(), trivial, rfl, hs⟩

theorem bk_fillMail (W0 : World) (b n : Nat) (v : Value) :
  Con Tryz.prog W0 55 #[Value.pointer (some ⟨b, 0, none⟩)] [pt b 81 (bkC n v)] (X := Unit) (fun _ => True) (fun _ => .tuple #[]) (fun _ => [pt b 81 (bkC n v)]) := by
 refine Con.of (args := [Value.pointer (some ⟨b, 0, none⟩)]) Tryz.func55 rfl Tryz.ntmps55 rfl (fun F => ?_)
 show Wc _ W0 _ _ _ _ _ ((pt b 81 (bkC n v)) :: F)
 refine Wc.seq ?_
 refine Wc.region ?_
 refine Wl.q (v := Value.pointer (some ⟨b, 0, none⟩)) (q_move rfl) ?_
 refine Wl.q (v := Value.pointer (some ⟨b, 0, none⟩)) (q_nil_ptr rfl) ?_
 refine Wl.q (v := Value.pointer (some ⟨b, 25, none⟩)) (q_field (m := 25) fo_81_25 rfl rfl) ?_
 refine Wl.q (v := Value.slice none 0 0) (q_load sc_70 rfl (.cel (i := 0) rfl rfl)) ?_
 refine Wl.q (v := Value.int .i64 0) (q_len_slice Tryz.underlying70 rfl) ?_
 refine Wl.q (v := Value.int .i64 0) (q_move rfl) ?_
 refine Wl.done ?_
 refine Wx.go ?_
 refine Wc.block ?_
 refine Wc.rounds 1 ?_
 refine Wn.round ?_
 refine Wc.seq ?_
 refine Wc.region ?_
 refine Wl.q (v := Value.bool false) (q_lss (r := false) rfl rfl (decide_eq_false (by decide))) ?_
 refine Wl.done ?_
 refine Wx.go ?_
 refine Wc.seq ?_
 refine Wc.no rfl ?_
 refine Wc.exit ?_
 refine Wx.thenExit ?_
 refine Wx.thenExit ?_
 refine Wx.out ?_
 refine Wx.fin0 rfl (.inr rfl) (fun w hs => ?_)
 exact ⟨(), trivial, rfl, hs⟩

theorem bk_growMail (W0 : World) (b n : Nat) (v : Value) :
  Con Tryz.prog W0 88 #[Value.pointer (some ⟨b, 0, none⟩)] [pt b 81 (bkC n v)] (X := Unit) (fun _ => True) (fun _ => .tuple #[]) (fun _ => [pt b 81 (bkC n v)]) := by
 refine Con.of (args := [Value.pointer (some ⟨b, 0, none⟩)]) Tryz.func88 rfl Tryz.ntmps88 rfl (fun F => ?_)
 show Wc _ W0 _ _ _ _ _ ((pt b 81 (bkC n v)) :: F)
 refine Wc.seq ?_
 refine Wc.region ?_
 refine Wl.q (v := Value.pointer (some ⟨b, 0, none⟩)) (q_move rfl) ?_
 refine Wl.q (v := Value.pointer (some ⟨b, 0, none⟩)) (q_nil_ptr rfl) ?_
 refine Wl.q (v := Value.pointer (some ⟨b, 25, none⟩)) (q_field (m := 25) fo_81_25 rfl rfl) ?_
 refine Wl.q (v := Value.slice none 0 0) (q_load sc_70 rfl (.cel (i := 0) rfl rfl)) ?_
 refine Wl.q (v := Value.int .i64 0) (q_len_slice Tryz.underlying70 rfl) ?_
 refine Wl.q (v := Value.int .i64 0) (q_move rfl) ?_
 refine Wl.done ?_
 refine Wx.go ?_
 refine Wc.block ?_
 refine Wc.rounds 1 ?_
 refine Wn.round ?_
 refine Wc.seq ?_
 refine Wc.region ?_
 refine Wl.q (v := Value.bool false) (q_lss (r := false) rfl rfl (decide_eq_false (by decide))) ?_
 refine Wl.done ?_
 refine Wx.go ?_
 refine Wc.seq ?_
 refine Wc.no rfl ?_
 refine Wc.exit ?_
 refine Wx.thenExit ?_
 refine Wx.thenExit ?_
 refine Wx.out ?_
 refine Wx.fin0 rfl (.inr rfl) (fun w hs => ?_)
 exact ⟨(), trivial, rfl, hs⟩

theorem bk_lookMail (W0 : World) (b n : Nat) (v : Value) :
  Con Tryz.prog W0 122 #[Value.pointer (some ⟨b, 0, none⟩)] [pt b 81 (bkC n v)] (X := Unit) (fun _ => True) (fun _ => .bool true) (fun _ => [pt b 81 (bkC n v)]) := by
 refine Con.of (args := [Value.pointer (some ⟨b, 0, none⟩)]) Tryz.func122 rfl Tryz.ntmps122 rfl (fun F => ?_)
 show Wc _ W0 _ _ _ _ _ ((pt b 81 (bkC n v)) :: F)
 refine Wc.seq ?_
 refine Wc.region ?_
 refine Wl.q (v := Value.bool false) (q_assign rfl) ?_
 refine Wl.done ?_
 refine Wx.go ?_
 refine Wc.seq ?_
 refine Wc.seq ?_
 refine Wc.region ?_
 refine Wl.q (v := Value.pointer (some ⟨b, 0, none⟩)) (q_move rfl) ?_
 refine Wl.q (v := Value.pointer (some ⟨b, 0, none⟩)) (q_nil_ptr rfl) ?_
 refine Wl.q (v := Value.pointer (some ⟨b, 25, none⟩)) (q_field (m := 25) fo_81_25 rfl rfl) ?_
 refine Wl.q (v := Value.slice none 0 0) (q_load sc_70 rfl (.cel (i := 0) rfl rfl)) ?_
 refine Wl.q (v := Value.int .i64 0) (q_len_slice Tryz.underlying70 rfl) ?_
 refine Wl.q (v := Value.int .i64 0) (q_move rfl) ?_
 refine Wl.done ?_
 refine Wx.go ?_
 refine Wc.block ?_
 refine Wc.rounds 1 ?_
 refine Wn.round ?_
 refine Wc.seq ?_
 refine Wc.region ?_
 refine Wl.q (v := Value.bool false) (q_lss (r := false) rfl rfl (decide_eq_false (by decide))) ?_
 refine Wl.done ?_
 refine Wx.go ?_
 refine Wc.seq ?_
 refine Wc.no rfl ?_
 refine Wc.exit ?_
 refine Wx.thenExit ?_
 refine Wx.thenExit ?_
 refine Wx.out ?_
 refine Wx.go ?_
 refine Wc.seq ?_
 refine Wc.region ?_
 refine Wl.q (v := Value.bool true) (q_assign rfl) ?_
 refine Wl.done ?_
 refine Wx.go ?_
 refine Wc.ret ?_
 refine Wx.fin1 rfl (.inl rfl) (fun w hs => ?_)
 exact ⟨(), trivial, rfl, hs⟩

theorem bk_fillNode (W0 : World) (b n : Nat) (v : Value) :
  Con Tryz.prog W0 49 #[Value.pointer (some ⟨b, 0, none⟩)] [pt b 81 (bkC n v)] (X := Unit) (fun _ => True) (fun _ => .tuple #[]) (fun _ => [pt b 81 (bkC n v)]) := by
 refine Con.of (args := [Value.pointer (some ⟨b, 0, none⟩)]) Tryz.func49 rfl Tryz.ntmps49 rfl (fun F => ?_)
 show Wc _ W0 _ _ _ _ _ ((pt b 81 (bkC n v)) :: F)
 refine Wc.seq ?_
 refine Wc.region ?_
 refine Wl.q (v := Value.pointer (some ⟨b, 0, none⟩)) (q_move rfl) ?_
 refine Wl.q (v := Value.pointer (some ⟨b, 0, none⟩)) (q_nil_ptr rfl) ?_
 refine Wl.q (v := Value.pointer (some ⟨b, 19, none⟩)) (q_field (m := 19) fo_81_19 rfl rfl) ?_
 refine Wl.q (v := Value.slice none 0 0) (q_load sc_64 rfl (.cel (i := 0) rfl rfl)) ?_
 refine Wl.q (v := Value.int .i64 0) (q_len_slice Tryz.underlying64 rfl) ?_
 refine Wl.q (v := Value.int .i64 0) (q_move rfl) ?_
 refine Wl.done ?_
 refine Wx.go ?_
 refine Wc.block ?_
 refine Wc.rounds 1 ?_
 refine Wn.round ?_
 refine Wc.seq ?_
 refine Wc.region ?_
 refine Wl.q (v := Value.bool false) (q_lss (r := false) rfl rfl (decide_eq_false (by decide))) ?_
 refine Wl.done ?_
 refine Wx.go ?_
 refine Wc.seq ?_
 refine Wc.no rfl ?_
 refine Wc.exit ?_
 refine Wx.thenExit ?_
 refine Wx.thenExit ?_
 refine Wx.out ?_
 refine Wx.fin0 rfl (.inr rfl) (fun w hs => ?_)
 exact ⟨(), trivial, rfl, hs⟩

theorem bk_growNode (W0 : World) (b n : Nat) (v : Value) :
  Con Tryz.prog W0 82 #[Value.pointer (some ⟨b, 0, none⟩)] [pt b 81 (bkC n v)] (X := Unit) (fun _ => True) (fun _ => .tuple #[]) (fun _ => [pt b 81 (bkC n v)]) := by
 refine Con.of (args := [Value.pointer (some ⟨b, 0, none⟩)]) Tryz.func82 rfl Tryz.ntmps82 rfl (fun F => ?_)
 show Wc _ W0 _ _ _ _ _ ((pt b 81 (bkC n v)) :: F)
 refine Wc.seq ?_
 refine Wc.region ?_
 refine Wl.q (v := Value.pointer (some ⟨b, 0, none⟩)) (q_move rfl) ?_
 refine Wl.q (v := Value.pointer (some ⟨b, 0, none⟩)) (q_nil_ptr rfl) ?_
 refine Wl.q (v := Value.pointer (some ⟨b, 19, none⟩)) (q_field (m := 19) fo_81_19 rfl rfl) ?_
 refine Wl.q (v := Value.slice none 0 0) (q_load sc_64 rfl (.cel (i := 0) rfl rfl)) ?_
 refine Wl.q (v := Value.int .i64 0) (q_len_slice Tryz.underlying64 rfl) ?_
 refine Wl.q (v := Value.int .i64 0) (q_move rfl) ?_
 refine Wl.done ?_
 refine Wx.go ?_
 refine Wc.block ?_
 refine Wc.rounds 1 ?_
 refine Wn.round ?_
 refine Wc.seq ?_
 refine Wc.region ?_
 refine Wl.q (v := Value.bool false) (q_lss (r := false) rfl rfl (decide_eq_false (by decide))) ?_
 refine Wl.done ?_
 refine Wx.go ?_
 refine Wc.seq ?_
 refine Wc.no rfl ?_
 refine Wc.exit ?_
 refine Wx.thenExit ?_
 refine Wx.thenExit ?_
 refine Wx.out ?_
 refine Wx.fin0 rfl (.inr rfl) (fun w hs => ?_)
 exact ⟨(), trivial, rfl, hs⟩

theorem bk_lookNode (W0 : World) (b n : Nat) (v : Value) :
  Con Tryz.prog W0 116 #[Value.pointer (some ⟨b, 0, none⟩)] [pt b 81 (bkC n v)] (X := Unit) (fun _ => True) (fun _ => .bool true) (fun _ => [pt b 81 (bkC n v)]) := by
 refine Con.of (args := [Value.pointer (some ⟨b, 0, none⟩)]) Tryz.func116 rfl Tryz.ntmps116 rfl (fun F => ?_)
 show Wc _ W0 _ _ _ _ _ ((pt b 81 (bkC n v)) :: F)
 refine Wc.seq ?_
 refine Wc.region ?_
 refine Wl.q (v := Value.bool false) (q_assign rfl) ?_
 refine Wl.done ?_
 refine Wx.go ?_
 refine Wc.seq ?_
 refine Wc.seq ?_
 refine Wc.region ?_
 refine Wl.q (v := Value.pointer (some ⟨b, 0, none⟩)) (q_move rfl) ?_
 refine Wl.q (v := Value.pointer (some ⟨b, 0, none⟩)) (q_nil_ptr rfl) ?_
 refine Wl.q (v := Value.pointer (some ⟨b, 19, none⟩)) (q_field (m := 19) fo_81_19 rfl rfl) ?_
 refine Wl.q (v := Value.slice none 0 0) (q_load sc_64 rfl (.cel (i := 0) rfl rfl)) ?_
 refine Wl.q (v := Value.int .i64 0) (q_len_slice Tryz.underlying64 rfl) ?_
 refine Wl.q (v := Value.int .i64 0) (q_move rfl) ?_
 refine Wl.done ?_
 refine Wx.go ?_
 refine Wc.block ?_
 refine Wc.rounds 1 ?_
 refine Wn.round ?_
 refine Wc.seq ?_
 refine Wc.region ?_
 refine Wl.q (v := Value.bool false) (q_lss (r := false) rfl rfl (decide_eq_false (by decide))) ?_
 refine Wl.done ?_
 refine Wx.go ?_
 refine Wc.seq ?_
 refine Wc.no rfl ?_
 refine Wc.exit ?_
 refine Wx.thenExit ?_
 refine Wx.thenExit ?_
 refine Wx.out ?_
 refine Wx.go ?_
 refine Wc.seq ?_
 refine Wc.region ?_
 refine Wl.q (v := Value.bool true) (q_assign rfl) ?_
 refine Wl.done ?_
 refine Wx.go ?_
 refine Wc.ret ?_
 refine Wx.fin1 rfl (.inl rfl) (fun w hs => ?_)
 exact ⟨(), trivial, rfl, hs⟩

theorem bk_fillNote (W0 : World) (b n : Nat) (v : Value) :
  Con Tryz.prog W0 43 #[Value.pointer (some ⟨b, 0, none⟩)] [pt b 81 (bkC n v)] (X := Unit) (fun _ => True) (fun _ => .tuple #[]) (fun _ => [pt b 81 (bkC n v)]) := by
 refine Con.of (args := [Value.pointer (some ⟨b, 0, none⟩)]) Tryz.func43 rfl Tryz.ntmps43 rfl (fun F => ?_)
 show Wc _ W0 _ _ _ _ _ ((pt b 81 (bkC n v)) :: F)
 refine Wc.seq ?_
 refine Wc.region ?_
 refine Wl.q (v := Value.pointer (some ⟨b, 0, none⟩)) (q_move rfl) ?_
 refine Wl.q (v := Value.pointer (some ⟨b, 0, none⟩)) (q_nil_ptr rfl) ?_
 refine Wl.q (v := Value.pointer (some ⟨b, 13, none⟩)) (q_field (m := 13) fo_81_13 rfl rfl) ?_
 refine Wl.q (v := Value.slice none 0 0) (q_load sc_58 rfl (.cel (i := 0) rfl rfl)) ?_
 refine Wl.q (v := Value.int .i64 0) (q_len_slice Tryz.underlying58 rfl) ?_
 refine Wl.q (v := Value.int .i64 0) (q_move rfl) ?_
 refine Wl.done ?_
 refine Wx.go ?_
 refine Wc.block ?_
 refine Wc.rounds 1 ?_
 refine Wn.round ?_
 refine Wc.seq ?_
 refine Wc.region ?_
 refine Wl.q (v := Value.bool false) (q_lss (r := false) rfl rfl (decide_eq_false (by decide))) ?_
 refine Wl.done ?_
 refine Wx.go ?_
 refine Wc.seq ?_
 refine Wc.no rfl ?_
 refine Wc.exit ?_
 refine Wx.thenExit ?_
 refine Wx.thenExit ?_
 refine Wx.out ?_
 refine Wx.fin0 rfl (.inr rfl) (fun w hs => ?_)
 exact ⟨(), trivial, rfl, hs⟩

theorem bk_growNote (W0 : World) (b n : Nat) (v : Value) :
  Con Tryz.prog W0 76 #[Value.pointer (some ⟨b, 0, none⟩)] [pt b 81 (bkC n v)] (X := Unit) (fun _ => True) (fun _ => .tuple #[]) (fun _ => [pt b 81 (bkC n v)]) := by
 refine Con.of (args := [Value.pointer (some ⟨b, 0, none⟩)]) Tryz.func76 rfl Tryz.ntmps76 rfl (fun F => ?_)
 show Wc _ W0 _ _ _ _ _ ((pt b 81 (bkC n v)) :: F)
 refine Wc.seq ?_
 refine Wc.region ?_
 refine Wl.q (v := Value.pointer (some ⟨b, 0, none⟩)) (q_move rfl) ?_
 refine Wl.q (v := Value.pointer (some ⟨b, 0, none⟩)) (q_nil_ptr rfl) ?_
 refine Wl.q (v := Value.pointer (some ⟨b, 13, none⟩)) (q_field (m := 13) fo_81_13 rfl rfl) ?_
 refine Wl.q (v := Value.slice none 0 0) (q_load sc_58 rfl (.cel (i := 0) rfl rfl)) ?_
 refine Wl.q (v := Value.int .i64 0) (q_len_slice Tryz.underlying58 rfl) ?_
 refine Wl.q (v := Value.int .i64 0) (q_move rfl) ?_
 refine Wl.done ?_
 refine Wx.go ?_
 refine Wc.block ?_
 refine Wc.rounds 1 ?_
 refine Wn.round ?_
 refine Wc.seq ?_
 refine Wc.region ?_
 refine Wl.q (v := Value.bool false) (q_lss (r := false) rfl rfl (decide_eq_false (by decide))) ?_
 refine Wl.done ?_
 refine Wx.go ?_
 refine Wc.seq ?_
 refine Wc.no rfl ?_
 refine Wc.exit ?_
 refine Wx.thenExit ?_
 refine Wx.thenExit ?_
 refine Wx.out ?_
 refine Wx.fin0 rfl (.inr rfl) (fun w hs => ?_)
 exact ⟨(), trivial, rfl, hs⟩

theorem bk_lookNote (W0 : World) (b n : Nat) (v : Value) :
  Con Tryz.prog W0 110 #[Value.pointer (some ⟨b, 0, none⟩)] [pt b 81 (bkC n v)] (X := Unit) (fun _ => True) (fun _ => .bool true) (fun _ => [pt b 81 (bkC n v)]) := by
 refine Con.of (args := [Value.pointer (some ⟨b, 0, none⟩)]) Tryz.func110 rfl Tryz.ntmps110 rfl (fun F => ?_)
 show Wc _ W0 _ _ _ _ _ ((pt b 81 (bkC n v)) :: F)
 refine Wc.seq ?_
 refine Wc.region ?_
 refine Wl.q (v := Value.bool false) (q_assign rfl) ?_
 refine Wl.done ?_
 refine Wx.go ?_
 refine Wc.seq ?_
 refine Wc.seq ?_
 refine Wc.region ?_
 refine Wl.q (v := Value.pointer (some ⟨b, 0, none⟩)) (q_move rfl) ?_
 refine Wl.q (v := Value.pointer (some ⟨b, 0, none⟩)) (q_nil_ptr rfl) ?_
 refine Wl.q (v := Value.pointer (some ⟨b, 13, none⟩)) (q_field (m := 13) fo_81_13 rfl rfl) ?_
 refine Wl.q (v := Value.slice none 0 0) (q_load sc_58 rfl (.cel (i := 0) rfl rfl)) ?_
 refine Wl.q (v := Value.int .i64 0) (q_len_slice Tryz.underlying58 rfl) ?_
 refine Wl.q (v := Value.int .i64 0) (q_move rfl) ?_
 refine Wl.done ?_
 refine Wx.go ?_
 refine Wc.block ?_
 refine Wc.rounds 1 ?_
 refine Wn.round ?_
 refine Wc.seq ?_
 refine Wc.region ?_
 refine Wl.q (v := Value.bool false) (q_lss (r := false) rfl rfl (decide_eq_false (by decide))) ?_
 refine Wl.done ?_
 refine Wx.go ?_
 refine Wc.seq ?_
 refine Wc.no rfl ?_
 refine Wc.exit ?_
 refine Wx.thenExit ?_
 refine Wx.thenExit ?_
 refine Wx.out ?_
 refine Wx.go ?_
 refine Wc.seq ?_
 refine Wc.region ?_
 refine Wl.q (v := Value.bool true) (q_assign rfl) ?_
 refine Wl.done ?_
 refine Wx.go ?_
 refine Wc.ret ?_
 refine Wx.fin1 rfl (.inl rfl) (fun w hs => ?_)
 exact ⟨(), trivial, rfl, hs⟩

theorem bk_fillNumberRow (W0 : World) (b n : Nat) (v : Value) :
  Con Tryz.prog W0 64 #[Value.pointer (some ⟨b, 0, none⟩)] [pt b 81 (bkC n v)] (X := Unit) (fun _ => True) (fun _ => .tuple #[]) (fun _ => [pt b 81 (bkC n v)]) := by
 refine Con.of (args := [Value.pointer (some ⟨b, 0, none⟩)]) Tryz.func64 rfl Tryz.ntmps64 rfl (fun F => ?_)
 show Wc _ W0 _ _ _ _ _ ((pt b 81 (bkC n v)) :: F)
 refine Wc.seq ?_
 refine Wc.region ?_
 refine Wl.q (v := Value.pointer (some ⟨b, 0, none⟩)) (q_move rfl) ?_
 refine Wl.q (v := Value.pointer (some ⟨b, 0, none⟩)) (q_nil_ptr rfl) ?_
 refine Wl.q (v := Value.pointer (some ⟨b, 34, none⟩)) (q_field (m := 34) fo_81_34 rfl rfl) ?_
 refine Wl.q (v := Value.slice none 0 0) (q_load sc_79 rfl (.cel (i := 0) rfl rfl)) ?_
 refine Wl.q (v := Value.int .i64 0) (q_len_slice Tryz.underlying79 rfl) ?_
 refine Wl.q (v := Value.int .i64 0) (q_move rfl) ?_
 refine Wl.done ?_
 refine Wx.go ?_
 refine Wc.block ?_
 refine Wc.rounds 1 ?_
 refine Wn.round ?_
 refine Wc.seq ?_
 refine Wc.region ?_
 refine Wl.q (v := Value.bool false) (q_lss (r := false) rfl rfl (decide_eq_false (by decide))) ?_
 refine Wl.done ?_
 refine Wx.go ?_
 refine Wc.seq ?_
 refine Wc.no rfl ?_
 refine Wc.exit ?_
 refine Wx.thenExit ?_
 refine Wx.thenExit ?_
 refine Wx.out ?_
 refine Wx.fin0 rfl (.inr rfl) (fun w hs => ?_)
 exact ⟨(), trivial, rfl, hs⟩

theorem bk_growNumberRow (W0 : World) (b n : Nat) (v : Value) :
  Con Tryz.prog W0 97 #[Value.pointer (some ⟨b, 0, none⟩)] [pt b 81 (bkC n v)] (X := Unit) (fun _ => True) (fun _ => .tuple #[]) (fun _ => [pt b 81 (bkC n v)]) := by
 refine Con.of (args := [Value.pointer (some ⟨b, 0, none⟩)]) Tryz.func97 rfl Tryz.ntmps97 rfl (fun F => ?_)
 show Wc _ W0 _ _ _ _ _ ((pt b 81 (bkC n v)) :: F)
 refine Wc.seq ?_
 refine Wc.region ?_
 refine Wl.q (v := Value.pointer (some ⟨b, 0, none⟩)) (q_move rfl) ?_
 refine Wl.q (v := Value.pointer (some ⟨b, 0, none⟩)) (q_nil_ptr rfl) ?_
 refine Wl.q (v := Value.pointer (some ⟨b, 34, none⟩)) (q_field (m := 34) fo_81_34 rfl rfl) ?_
 refine Wl.q (v := Value.slice none 0 0) (q_load sc_79 rfl (.cel (i := 0) rfl rfl)) ?_
 refine Wl.q (v := Value.int .i64 0) (q_len_slice Tryz.underlying79 rfl) ?_
 refine Wl.q (v := Value.int .i64 0) (q_move rfl) ?_
 refine Wl.done ?_
 refine Wx.go ?_
 refine Wc.block ?_
 refine Wc.rounds 1 ?_
 refine Wn.round ?_
 refine Wc.seq ?_
 refine Wc.region ?_
 refine Wl.q (v := Value.bool false) (q_lss (r := false) rfl rfl (decide_eq_false (by decide))) ?_
 refine Wl.done ?_
 refine Wx.go ?_
 refine Wc.seq ?_
 refine Wc.no rfl ?_
 refine Wc.exit ?_
 refine Wx.thenExit ?_
 refine Wx.thenExit ?_
 refine Wx.out ?_
 refine Wx.fin0 rfl (.inr rfl) (fun w hs => ?_)
 exact ⟨(), trivial, rfl, hs⟩

theorem bk_lookNumberRow (W0 : World) (b n : Nat) (v : Value) :
  Con Tryz.prog W0 131 #[Value.pointer (some ⟨b, 0, none⟩)] [pt b 81 (bkC n v)] (X := Unit) (fun _ => True) (fun _ => .bool true) (fun _ => [pt b 81 (bkC n v)]) := by
 refine Con.of (args := [Value.pointer (some ⟨b, 0, none⟩)]) Tryz.func131 rfl Tryz.ntmps131 rfl (fun F => ?_)
 show Wc _ W0 _ _ _ _ _ ((pt b 81 (bkC n v)) :: F)
 refine Wc.seq ?_
 refine Wc.region ?_
 refine Wl.q (v := Value.bool false) (q_assign rfl) ?_
 refine Wl.done ?_
 refine Wx.go ?_
 refine Wc.seq ?_
 refine Wc.seq ?_
 refine Wc.region ?_
 refine Wl.q (v := Value.pointer (some ⟨b, 0, none⟩)) (q_move rfl) ?_
 refine Wl.q (v := Value.pointer (some ⟨b, 0, none⟩)) (q_nil_ptr rfl) ?_
 refine Wl.q (v := Value.pointer (some ⟨b, 34, none⟩)) (q_field (m := 34) fo_81_34 rfl rfl) ?_
 refine Wl.q (v := Value.slice none 0 0) (q_load sc_79 rfl (.cel (i := 0) rfl rfl)) ?_
 refine Wl.q (v := Value.int .i64 0) (q_len_slice Tryz.underlying79 rfl) ?_
 refine Wl.q (v := Value.int .i64 0) (q_move rfl) ?_
 refine Wl.done ?_
 refine Wx.go ?_
 refine Wc.block ?_
 refine Wc.rounds 1 ?_
 refine Wn.round ?_
 refine Wc.seq ?_
 refine Wc.region ?_
 refine Wl.q (v := Value.bool false) (q_lss (r := false) rfl rfl (decide_eq_false (by decide))) ?_
 refine Wl.done ?_
 refine Wx.go ?_
 refine Wc.seq ?_
 refine Wc.no rfl ?_
 refine Wc.exit ?_
 refine Wx.thenExit ?_
 refine Wx.thenExit ?_
 refine Wx.out ?_
 refine Wx.go ?_
 refine Wc.seq ?_
 refine Wc.region ?_
 refine Wl.q (v := Value.bool true) (q_assign rfl) ?_
 refine Wl.done ?_
 refine Wx.go ?_
 refine Wc.ret ?_
 refine Wx.fin1 rfl (.inl rfl) (fun w hs => ?_)
 exact ⟨(), trivial, rfl, hs⟩

theorem bk_fillOutcome (W0 : World) (b n : Nat) (v : Value) :
  Con Tryz.prog W0 45 #[Value.pointer (some ⟨b, 0, none⟩)] [pt b 81 (bkC n v)] (X := Unit) (fun _ => True) (fun _ => .tuple #[]) (fun _ => [pt b 81 (bkC n v)]) := by
 refine Con.of (args := [Value.pointer (some ⟨b, 0, none⟩)]) Tryz.func45 rfl Tryz.ntmps45 rfl (fun F => ?_)
 show Wc _ W0 _ _ _ _ _ ((pt b 81 (bkC n v)) :: F)
 refine Wc.seq ?_
 refine Wc.region ?_
 refine Wl.q (v := Value.pointer (some ⟨b, 0, none⟩)) (q_move rfl) ?_
 refine Wl.q (v := Value.pointer (some ⟨b, 0, none⟩)) (q_nil_ptr rfl) ?_
 refine Wl.q (v := Value.pointer (some ⟨b, 15, none⟩)) (q_field (m := 15) fo_81_15 rfl rfl) ?_
 refine Wl.q (v := Value.slice none 0 0) (q_load sc_60 rfl (.cel (i := 0) rfl rfl)) ?_
 refine Wl.q (v := Value.int .i64 0) (q_len_slice Tryz.underlying60 rfl) ?_
 refine Wl.q (v := Value.int .i64 0) (q_move rfl) ?_
 refine Wl.done ?_
 refine Wx.go ?_
 refine Wc.block ?_
 refine Wc.rounds 1 ?_
 refine Wn.round ?_
 refine Wc.seq ?_
 refine Wc.region ?_
 refine Wl.q (v := Value.bool false) (q_lss (r := false) rfl rfl (decide_eq_false (by decide))) ?_
 refine Wl.done ?_
 refine Wx.go ?_
 refine Wc.seq ?_
 refine Wc.no rfl ?_
 refine Wc.exit ?_
 refine Wx.thenExit ?_
 refine Wx.thenExit ?_
 refine Wx.out ?_
 refine Wx.fin0 rfl (.inr rfl) (fun w hs => ?_)
 exact ⟨(), trivial, rfl, hs⟩

theorem bk_growOutcome (W0 : World) (b n : Nat) (v : Value) :
  Con Tryz.prog W0 78 #[Value.pointer (some ⟨b, 0, none⟩)] [pt b 81 (bkC n v)] (X := Unit) (fun _ => True) (fun _ => .tuple #[]) (fun _ => [pt b 81 (bkC n v)]) := by
 refine Con.of (args := [Value.pointer (some ⟨b, 0, none⟩)]) Tryz.func78 rfl Tryz.ntmps78 rfl (fun F => ?_)
 show Wc _ W0 _ _ _ _ _ ((pt b 81 (bkC n v)) :: F)
 refine Wc.seq ?_
 refine Wc.region ?_
 refine Wl.q (v := Value.pointer (some ⟨b, 0, none⟩)) (q_move rfl) ?_
 refine Wl.q (v := Value.pointer (some ⟨b, 0, none⟩)) (q_nil_ptr rfl) ?_
 refine Wl.q (v := Value.pointer (some ⟨b, 15, none⟩)) (q_field (m := 15) fo_81_15 rfl rfl) ?_
 refine Wl.q (v := Value.slice none 0 0) (q_load sc_60 rfl (.cel (i := 0) rfl rfl)) ?_
 refine Wl.q (v := Value.int .i64 0) (q_len_slice Tryz.underlying60 rfl) ?_
 refine Wl.q (v := Value.int .i64 0) (q_move rfl) ?_
 refine Wl.done ?_
 refine Wx.go ?_
 refine Wc.block ?_
 refine Wc.rounds 1 ?_
 refine Wn.round ?_
 refine Wc.seq ?_
 refine Wc.region ?_
 refine Wl.q (v := Value.bool false) (q_lss (r := false) rfl rfl (decide_eq_false (by decide))) ?_
 refine Wl.done ?_
 refine Wx.go ?_
 refine Wc.seq ?_
 refine Wc.no rfl ?_
 refine Wc.exit ?_
 refine Wx.thenExit ?_
 refine Wx.thenExit ?_
 refine Wx.out ?_
 refine Wx.fin0 rfl (.inr rfl) (fun w hs => ?_)
 exact ⟨(), trivial, rfl, hs⟩

theorem bk_lookOutcome (W0 : World) (b n : Nat) (v : Value) :
  Con Tryz.prog W0 112 #[Value.pointer (some ⟨b, 0, none⟩)] [pt b 81 (bkC n v)] (X := Unit) (fun _ => True) (fun _ => .bool true) (fun _ => [pt b 81 (bkC n v)]) := by
 refine Con.of (args := [Value.pointer (some ⟨b, 0, none⟩)]) Tryz.func112 rfl Tryz.ntmps112 rfl (fun F => ?_)
 show Wc _ W0 _ _ _ _ _ ((pt b 81 (bkC n v)) :: F)
 refine Wc.seq ?_
 refine Wc.region ?_
 refine Wl.q (v := Value.bool false) (q_assign rfl) ?_
 refine Wl.done ?_
 refine Wx.go ?_
 refine Wc.seq ?_
 refine Wc.seq ?_
 refine Wc.region ?_
 refine Wl.q (v := Value.pointer (some ⟨b, 0, none⟩)) (q_move rfl) ?_
 refine Wl.q (v := Value.pointer (some ⟨b, 0, none⟩)) (q_nil_ptr rfl) ?_
 refine Wl.q (v := Value.pointer (some ⟨b, 15, none⟩)) (q_field (m := 15) fo_81_15 rfl rfl) ?_
 refine Wl.q (v := Value.slice none 0 0) (q_load sc_60 rfl (.cel (i := 0) rfl rfl)) ?_
 refine Wl.q (v := Value.int .i64 0) (q_len_slice Tryz.underlying60 rfl) ?_
 refine Wl.q (v := Value.int .i64 0) (q_move rfl) ?_
 refine Wl.done ?_
 refine Wx.go ?_
 refine Wc.block ?_
 refine Wc.rounds 1 ?_
 refine Wn.round ?_
 refine Wc.seq ?_
 refine Wc.region ?_
 refine Wl.q (v := Value.bool false) (q_lss (r := false) rfl rfl (decide_eq_false (by decide))) ?_
 refine Wl.done ?_
 refine Wx.go ?_
 refine Wc.seq ?_
 refine Wc.no rfl ?_
 refine Wc.exit ?_
 refine Wx.thenExit ?_
 refine Wx.thenExit ?_
 refine Wx.out ?_
 refine Wx.go ?_
 refine Wc.seq ?_
 refine Wc.region ?_
 refine Wl.q (v := Value.bool true) (q_assign rfl) ?_
 refine Wl.done ?_
 refine Wx.go ?_
 refine Wc.ret ?_
 refine Wx.fin1 rfl (.inl rfl) (fun w hs => ?_)
 exact ⟨(), trivial, rfl, hs⟩

theorem bk_fillPacket (W0 : World) (b n : Nat) (v : Value) :
  Con Tryz.prog W0 62 #[Value.pointer (some ⟨b, 0, none⟩)] [pt b 81 (bkC n v)] (X := Unit) (fun _ => True) (fun _ => .tuple #[]) (fun _ => [pt b 81 (bkC n v)]) := by
 refine Con.of (args := [Value.pointer (some ⟨b, 0, none⟩)]) Tryz.func62 rfl Tryz.ntmps62 rfl (fun F => ?_)
 show Wc _ W0 _ _ _ _ _ ((pt b 81 (bkC n v)) :: F)
 refine Wc.seq ?_
 refine Wc.region ?_
 refine Wl.q (v := Value.pointer (some ⟨b, 0, none⟩)) (q_move rfl) ?_
 refine Wl.q (v := Value.pointer (some ⟨b, 0, none⟩)) (q_nil_ptr rfl) ?_
 refine Wl.q (v := Value.pointer (some ⟨b, 32, none⟩)) (q_field (m := 32) fo_81_32 rfl rfl) ?_
 refine Wl.q (v := Value.slice none 0 0) (q_load sc_77 rfl (.cel (i := 0) rfl rfl)) ?_
 refine Wl.q (v := Value.int .i64 0) (q_len_slice Tryz.underlying77 rfl) ?_
 refine Wl.q (v := Value.int .i64 0) (q_move rfl) ?_
 refine Wl.done ?_
 refine Wx.go ?_
 refine Wc.block ?_
 refine Wc.rounds 1 ?_
 refine Wn.round ?_
 refine Wc.seq ?_
 refine Wc.region ?_
 refine Wl.q (v := Value.bool false) (q_lss (r := false) rfl rfl (decide_eq_false (by decide))) ?_
 refine Wl.done ?_
 refine Wx.go ?_
 refine Wc.seq ?_
 refine Wc.no rfl ?_
 refine Wc.exit ?_
 refine Wx.thenExit ?_
 refine Wx.thenExit ?_
 refine Wx.out ?_
 refine Wx.fin0 rfl (.inr rfl) (fun w hs => ?_)
 exact ⟨(), trivial, rfl, hs⟩

theorem bk_growPacket (W0 : World) (b n : Nat) (v : Value) :
  Con Tryz.prog W0 95 #[Value.pointer (some ⟨b, 0, none⟩)] [pt b 81 (bkC n v)] (X := Unit) (fun _ => True) (fun _ => .tuple #[]) (fun _ => [pt b 81 (bkC n v)]) := by
 refine Con.of (args := [Value.pointer (some ⟨b, 0, none⟩)]) Tryz.func95 rfl Tryz.ntmps95 rfl (fun F => ?_)
 show Wc _ W0 _ _ _ _ _ ((pt b 81 (bkC n v)) :: F)
 refine Wc.seq ?_
 refine Wc.region ?_
 refine Wl.q (v := Value.pointer (some ⟨b, 0, none⟩)) (q_move rfl) ?_
 refine Wl.q (v := Value.pointer (some ⟨b, 0, none⟩)) (q_nil_ptr rfl) ?_
 refine Wl.q (v := Value.pointer (some ⟨b, 32, none⟩)) (q_field (m := 32) fo_81_32 rfl rfl) ?_
 refine Wl.q (v := Value.slice none 0 0) (q_load sc_77 rfl (.cel (i := 0) rfl rfl)) ?_
 refine Wl.q (v := Value.int .i64 0) (q_len_slice Tryz.underlying77 rfl) ?_
 refine Wl.q (v := Value.int .i64 0) (q_move rfl) ?_
 refine Wl.done ?_
 refine Wx.go ?_
 refine Wc.block ?_
 refine Wc.rounds 1 ?_
 refine Wn.round ?_
 refine Wc.seq ?_
 refine Wc.region ?_
 refine Wl.q (v := Value.bool false) (q_lss (r := false) rfl rfl (decide_eq_false (by decide))) ?_
 refine Wl.done ?_
 refine Wx.go ?_
 refine Wc.seq ?_
 refine Wc.no rfl ?_
 refine Wc.exit ?_
 refine Wx.thenExit ?_
 refine Wx.thenExit ?_
 refine Wx.out ?_
 refine Wx.fin0 rfl (.inr rfl) (fun w hs => ?_)
 exact ⟨(), trivial, rfl, hs⟩

theorem bk_lookPacket (W0 : World) (b n : Nat) (v : Value) :
  Con Tryz.prog W0 129 #[Value.pointer (some ⟨b, 0, none⟩)] [pt b 81 (bkC n v)] (X := Unit) (fun _ => True) (fun _ => .bool true) (fun _ => [pt b 81 (bkC n v)]) := by
 refine Con.of (args := [Value.pointer (some ⟨b, 0, none⟩)]) Tryz.func129 rfl Tryz.ntmps129 rfl (fun F => ?_)
 show Wc _ W0 _ _ _ _ _ ((pt b 81 (bkC n v)) :: F)
 refine Wc.seq ?_
 refine Wc.region ?_
 refine Wl.q (v := Value.bool false) (q_assign rfl) ?_
 refine Wl.done ?_
 refine Wx.go ?_
 refine Wc.seq ?_
 refine Wc.seq ?_
 refine Wc.region ?_
 refine Wl.q (v := Value.pointer (some ⟨b, 0, none⟩)) (q_move rfl) ?_
 refine Wl.q (v := Value.pointer (some ⟨b, 0, none⟩)) (q_nil_ptr rfl) ?_
 refine Wl.q (v := Value.pointer (some ⟨b, 32, none⟩)) (q_field (m := 32) fo_81_32 rfl rfl) ?_
 refine Wl.q (v := Value.slice none 0 0) (q_load sc_77 rfl (.cel (i := 0) rfl rfl)) ?_
 refine Wl.q (v := Value.int .i64 0) (q_len_slice Tryz.underlying77 rfl) ?_
 refine Wl.q (v := Value.int .i64 0) (q_move rfl) ?_
 refine Wl.done ?_
 refine Wx.go ?_
 refine Wc.block ?_
 refine Wc.rounds 1 ?_
 refine Wn.round ?_
 refine Wc.seq ?_
 refine Wc.region ?_
 refine Wl.q (v := Value.bool false) (q_lss (r := false) rfl rfl (decide_eq_false (by decide))) ?_
 refine Wl.done ?_
 refine Wx.go ?_
 refine Wc.seq ?_
 refine Wc.no rfl ?_
 refine Wc.exit ?_
 refine Wx.thenExit ?_
 refine Wx.thenExit ?_
 refine Wx.out ?_
 refine Wx.go ?_
 refine Wc.seq ?_
 refine Wc.region ?_
 refine Wl.q (v := Value.bool true) (q_assign rfl) ?_
 refine Wl.done ?_
 refine Wx.go ?_
 refine Wc.ret ?_
 refine Wx.fin1 rfl (.inl rfl) (fun w hs => ?_)
 exact ⟨(), trivial, rfl, hs⟩

theorem bk_fillPast (W0 : World) (b n : Nat) (v : Value) :
  Con Tryz.prog W0 40 #[Value.pointer (some ⟨b, 0, none⟩)] [pt b 81 (bkC n v)] (X := Unit) (fun _ => True) (fun _ => .tuple #[]) (fun _ => [pt b 81 (bkC n v)]) := by
 refine Con.of (args := [Value.pointer (some ⟨b, 0, none⟩)]) Tryz.func40 rfl Tryz.ntmps40 rfl (fun F => ?_)
 show Wc _ W0 _ _ _ _ _ ((pt b 81 (bkC n v)) :: F)
 refine Wc.seq ?_
 refine Wc.region ?_
 refine Wl.q (v := Value.pointer (some ⟨b, 0, none⟩)) (q_move rfl) ?_
 refine Wl.q (v := Value.pointer (some ⟨b, 0, none⟩)) (q_nil_ptr rfl) ?_
 refine Wl.q (v := Value.pointer (some ⟨b, 10, none⟩)) (q_field (m := 10) fo_81_10 rfl rfl) ?_
 refine Wl.q (v := Value.slice none 0 0) (q_load sc_55 rfl (.cel (i := 0) rfl rfl)) ?_
 refine Wl.q (v := Value.int .i64 0) (q_len_slice Tryz.underlying55 rfl) ?_
 refine Wl.q (v := Value.int .i64 0) (q_move rfl) ?_
 refine Wl.done ?_
 refine Wx.go ?_
 refine Wc.block ?_
 refine Wc.rounds 1 ?_
 refine Wn.round ?_
 refine Wc.seq ?_
 refine Wc.region ?_
 refine Wl.q (v := Value.bool false) (q_lss (r := false) rfl rfl (decide_eq_false (by decide))) ?_
 refine Wl.done ?_
 refine Wx.go ?_
 refine Wc.seq ?_
 refine Wc.no rfl ?_
 refine Wc.exit ?_
 refine Wx.thenExit ?_
 refine Wx.thenExit ?_
 refine Wx.out ?_
 refine Wx.fin0 rfl (.inr rfl) (fun w hs => ?_)
 exact ⟨(), trivial, rfl, hs⟩

theorem bk_growPast (W0 : World) (b n : Nat) (v : Value) :
  Con Tryz.prog W0 73 #[Value.pointer (some ⟨b, 0, none⟩)] [pt b 81 (bkC n v)] (X := Unit) (fun _ => True) (fun _ => .tuple #[]) (fun _ => [pt b 81 (bkC n v)]) := by
 refine Con.of (args := [Value.pointer (some ⟨b, 0, none⟩)]) Tryz.func73 rfl Tryz.ntmps73 rfl (fun F => ?_)
 show Wc _ W0 _ _ _ _ _ ((pt b 81 (bkC n v)) :: F)
 refine Wc.seq ?_
 refine Wc.region ?_
 refine Wl.q (v := Value.pointer (some ⟨b, 0, none⟩)) (q_move rfl) ?_
 refine Wl.q (v := Value.pointer (some ⟨b, 0, none⟩)) (q_nil_ptr rfl) ?_
 refine Wl.q (v := Value.pointer (some ⟨b, 10, none⟩)) (q_field (m := 10) fo_81_10 rfl rfl) ?_
 refine Wl.q (v := Value.slice none 0 0) (q_load sc_55 rfl (.cel (i := 0) rfl rfl)) ?_
 refine Wl.q (v := Value.int .i64 0) (q_len_slice Tryz.underlying55 rfl) ?_
 refine Wl.q (v := Value.int .i64 0) (q_move rfl) ?_
 refine Wl.done ?_
 refine Wx.go ?_
 refine Wc.block ?_
 refine Wc.rounds 1 ?_
 refine Wn.round ?_
 refine Wc.seq ?_
 refine Wc.region ?_
 refine Wl.q (v := Value.bool false) (q_lss (r := false) rfl rfl (decide_eq_false (by decide))) ?_
 refine Wl.done ?_
 refine Wx.go ?_
 refine Wc.seq ?_
 refine Wc.no rfl ?_
 refine Wc.exit ?_
 refine Wx.thenExit ?_
 refine Wx.thenExit ?_
 refine Wx.out ?_
 refine Wx.fin0 rfl (.inr rfl) (fun w hs => ?_)
 exact ⟨(), trivial, rfl, hs⟩

theorem bk_lookPast (W0 : World) (b n : Nat) (v : Value) :
  Con Tryz.prog W0 107 #[Value.pointer (some ⟨b, 0, none⟩)] [pt b 81 (bkC n v)] (X := Unit) (fun _ => True) (fun _ => .bool true) (fun _ => [pt b 81 (bkC n v)]) := by
 refine Con.of (args := [Value.pointer (some ⟨b, 0, none⟩)]) Tryz.func107 rfl Tryz.ntmps107 rfl (fun F => ?_)
 show Wc _ W0 _ _ _ _ _ ((pt b 81 (bkC n v)) :: F)
 refine Wc.seq ?_
 refine Wc.region ?_
 refine Wl.q (v := Value.bool false) (q_assign rfl) ?_
 refine Wl.done ?_
 refine Wx.go ?_
 refine Wc.seq ?_
 refine Wc.seq ?_
 refine Wc.region ?_
 refine Wl.q (v := Value.pointer (some ⟨b, 0, none⟩)) (q_move rfl) ?_
 refine Wl.q (v := Value.pointer (some ⟨b, 0, none⟩)) (q_nil_ptr rfl) ?_
 refine Wl.q (v := Value.pointer (some ⟨b, 10, none⟩)) (q_field (m := 10) fo_81_10 rfl rfl) ?_
 refine Wl.q (v := Value.slice none 0 0) (q_load sc_55 rfl (.cel (i := 0) rfl rfl)) ?_
 refine Wl.q (v := Value.int .i64 0) (q_len_slice Tryz.underlying55 rfl) ?_
 refine Wl.q (v := Value.int .i64 0) (q_move rfl) ?_
 refine Wl.done ?_
 refine Wx.go ?_
 refine Wc.block ?_
 refine Wc.rounds 1 ?_
 refine Wn.round ?_
 refine Wc.seq ?_
 refine Wc.region ?_
 refine Wl.q (v := Value.bool false) (q_lss (r := false) rfl rfl (decide_eq_false (by decide))) ?_
 refine Wl.done ?_
 refine Wx.go ?_
 refine Wc.seq ?_
 refine Wc.no rfl ?_
 refine Wc.exit ?_
 refine Wx.thenExit ?_
 refine Wx.thenExit ?_
 refine Wx.out ?_
 refine Wx.go ?_
 refine Wc.seq ?_
 refine Wc.region ?_
 refine Wl.q (v := Value.bool true) (q_assign rfl) ?_
 refine Wl.done ?_
 refine Wx.go ?_
 refine Wc.ret ?_
 refine Wx.fin1 rfl (.inl rfl) (fun w hs => ?_)
 exact ⟨(), trivial, rfl, hs⟩

theorem bk_fillPending (W0 : World) (b n : Nat) (v : Value) :
  Con Tryz.prog W0 56 #[Value.pointer (some ⟨b, 0, none⟩)] [pt b 81 (bkC n v)] (X := Unit) (fun _ => True) (fun _ => .tuple #[]) (fun _ => [pt b 81 (bkC n v)]) := by
 refine Con.of (args := [Value.pointer (some ⟨b, 0, none⟩)]) Tryz.func56 rfl Tryz.ntmps56 rfl (fun F => ?_)
 show Wc _ W0 _ _ _ _ _ ((pt b 81 (bkC n v)) :: F)
 refine Wc.seq ?_
 refine Wc.region ?_
 refine Wl.q (v := Value.pointer (some ⟨b, 0, none⟩)) (q_move rfl) ?_
 refine Wl.q (v := Value.pointer (some ⟨b, 0, none⟩)) (q_nil_ptr rfl) ?_
 refine Wl.q (v := Value.pointer (some ⟨b, 26, none⟩)) (q_field (m := 26) fo_81_26 rfl rfl) ?_
 refine Wl.q (v := Value.slice none 0 0) (q_load sc_71 rfl (.cel (i := 0) rfl rfl)) ?_
 refine Wl.q (v := Value.int .i64 0) (q_len_slice Tryz.underlying71 rfl) ?_
 refine Wl.q (v := Value.int .i64 0) (q_move rfl) ?_
 refine Wl.done ?_
 refine Wx.go ?_
 refine Wc.block ?_
 refine Wc.rounds 1 ?_
 refine Wn.round ?_
 refine Wc.seq ?_
 refine Wc.region ?_
 refine Wl.q (v := Value.bool false) (q_lss (r := false) rfl rfl (decide_eq_false (by decide))) ?_
 refine Wl.done ?_
 refine Wx.go ?_
 refine Wc.seq ?_
 refine Wc.no rfl ?_
 refine Wc.exit ?_
 refine Wx.thenExit ?_
 refine Wx.thenExit ?_
 refine Wx.out ?_
 refine Wx.fin0 rfl (.inr rfl) (fun w hs => ?_)
 exact ⟨(), trivial, rfl, hs⟩

theorem bk_growPending (W0 : World) (b n : Nat) (v : Value) :
  Con Tryz.prog W0 89 #[Value.pointer (some ⟨b, 0, none⟩)] [pt b 81 (bkC n v)] (X := Unit) (fun _ => True) (fun _ => .tuple #[]) (fun _ => [pt b 81 (bkC n v)]) := by
 refine Con.of (args := [Value.pointer (some ⟨b, 0, none⟩)]) Tryz.func89 rfl Tryz.ntmps89 rfl (fun F => ?_)
 show Wc _ W0 _ _ _ _ _ ((pt b 81 (bkC n v)) :: F)
 refine Wc.seq ?_
 refine Wc.region ?_
 refine Wl.q (v := Value.pointer (some ⟨b, 0, none⟩)) (q_move rfl) ?_
 refine Wl.q (v := Value.pointer (some ⟨b, 0, none⟩)) (q_nil_ptr rfl) ?_
 refine Wl.q (v := Value.pointer (some ⟨b, 26, none⟩)) (q_field (m := 26) fo_81_26 rfl rfl) ?_
 refine Wl.q (v := Value.slice none 0 0) (q_load sc_71 rfl (.cel (i := 0) rfl rfl)) ?_
 refine Wl.q (v := Value.int .i64 0) (q_len_slice Tryz.underlying71 rfl) ?_
 refine Wl.q (v := Value.int .i64 0) (q_move rfl) ?_
 refine Wl.done ?_
 refine Wx.go ?_
 refine Wc.block ?_
 refine Wc.rounds 1 ?_
 refine Wn.round ?_
 refine Wc.seq ?_
 refine Wc.region ?_
 refine Wl.q (v := Value.bool false) (q_lss (r := false) rfl rfl (decide_eq_false (by decide))) ?_
 refine Wl.done ?_
 refine Wx.go ?_
 refine Wc.seq ?_
 refine Wc.no rfl ?_
 refine Wc.exit ?_
 refine Wx.thenExit ?_
 refine Wx.thenExit ?_
 refine Wx.out ?_
 refine Wx.fin0 rfl (.inr rfl) (fun w hs => ?_)
 exact ⟨(), trivial, rfl, hs⟩

theorem bk_lookPending (W0 : World) (b n : Nat) (v : Value) :
  Con Tryz.prog W0 123 #[Value.pointer (some ⟨b, 0, none⟩)] [pt b 81 (bkC n v)] (X := Unit) (fun _ => True) (fun _ => .bool true) (fun _ => [pt b 81 (bkC n v)]) := by
 refine Con.of (args := [Value.pointer (some ⟨b, 0, none⟩)]) Tryz.func123 rfl Tryz.ntmps123 rfl (fun F => ?_)
 show Wc _ W0 _ _ _ _ _ ((pt b 81 (bkC n v)) :: F)
 refine Wc.seq ?_
 refine Wc.region ?_
 refine Wl.q (v := Value.bool false) (q_assign rfl) ?_
 refine Wl.done ?_
 refine Wx.go ?_
 refine Wc.seq ?_
 refine Wc.seq ?_
 refine Wc.region ?_
 refine Wl.q (v := Value.pointer (some ⟨b, 0, none⟩)) (q_move rfl) ?_
 refine Wl.q (v := Value.pointer (some ⟨b, 0, none⟩)) (q_nil_ptr rfl) ?_
 refine Wl.q (v := Value.pointer (some ⟨b, 26, none⟩)) (q_field (m := 26) fo_81_26 rfl rfl) ?_
 refine Wl.q (v := Value.slice none 0 0) (q_load sc_71 rfl (.cel (i := 0) rfl rfl)) ?_
 refine Wl.q (v := Value.int .i64 0) (q_len_slice Tryz.underlying71 rfl) ?_
 refine Wl.q (v := Value.int .i64 0) (q_move rfl) ?_
 refine Wl.done ?_
 refine Wx.go ?_
 refine Wc.block ?_
 refine Wc.rounds 1 ?_
 refine Wn.round ?_
 refine Wc.seq ?_
 refine Wc.region ?_
 refine Wl.q (v := Value.bool false) (q_lss (r := false) rfl rfl (decide_eq_false (by decide))) ?_
 refine Wl.done ?_
 refine Wx.go ?_
 refine Wc.seq ?_
 refine Wc.no rfl ?_
 refine Wc.exit ?_
 refine Wx.thenExit ?_
 refine Wx.thenExit ?_
 refine Wx.out ?_
 refine Wx.go ?_
 refine Wc.seq ?_
 refine Wc.region ?_
 refine Wl.q (v := Value.bool true) (q_assign rfl) ?_
 refine Wl.done ?_
 refine Wx.go ?_
 refine Wc.ret ?_
 refine Wx.fin1 rfl (.inl rfl) (fun w hs => ?_)
 exact ⟨(), trivial, rfl, hs⟩

theorem bk_fillRequest (W0 : World) (b n : Nat) (v : Value) :
  Con Tryz.prog W0 54 #[Value.pointer (some ⟨b, 0, none⟩)] [pt b 81 (bkC n v)] (X := Unit) (fun _ => True) (fun _ => .tuple #[]) (fun _ => [pt b 81 (bkC n v)]) := by
 refine Con.of (args := [Value.pointer (some ⟨b, 0, none⟩)]) Tryz.func54 rfl Tryz.ntmps54 rfl (fun F => ?_)
 show Wc _ W0 _ _ _ _ _ ((pt b 81 (bkC n v)) :: F)
 refine Wc.seq ?_
 refine Wc.region ?_
 refine Wl.q (v := Value.pointer (some ⟨b, 0, none⟩)) (q_move rfl) ?_
 refine Wl.q (v := Value.pointer (some ⟨b, 0, none⟩)) (q_nil_ptr rfl) ?_
 refine Wl.q (v := Value.pointer (some ⟨b, 24, none⟩)) (q_field (m := 24) fo_81_24 rfl rfl) ?_
 refine Wl.q (v := Value.slice none 0 0) (q_load sc_69 rfl (.cel (i := 0) rfl rfl)) ?_
 refine Wl.q (v := Value.int .i64 0) (q_len_slice Tryz.underlying69 rfl) ?_
 refine Wl.q (v := Value.int .i64 0) (q_move rfl) ?_
 refine Wl.done ?_
 refine Wx.go ?_
 refine Wc.block ?_
 refine Wc.rounds 1 ?_
 refine Wn.round ?_
 refine Wc.seq ?_
 refine Wc.region ?_
 refine Wl.q (v := Value.bool false) (q_lss (r := false) rfl rfl (decide_eq_false (by decide))) ?_
 refine Wl.done ?_
 refine Wx.go ?_
 refine Wc.seq ?_
 refine Wc.no rfl ?_
 refine Wc.exit ?_
 refine Wx.thenExit ?_
 refine Wx.thenExit ?_
 refine Wx.out ?_
 refine Wx.fin0 rfl (.inr rfl) (fun w hs => ?_)
 exact ⟨(), trivial, rfl, hs⟩

theorem bk_growRequest (W0 : World) (b n : Nat) (v : Value) :
  Con Tryz.prog W0 87 #[Value.pointer (some ⟨b, 0, none⟩)] [pt b 81 (bkC n v)] (X := Unit) (fun _ => True) (fun _ => .tuple #[]) (fun _ => [pt b 81 (bkC n v)]) := by
 refine Con.of (args := [Value.pointer (some ⟨b, 0, none⟩)]) Tryz.func87 rfl Tryz.ntmps87 rfl (fun F => ?_)
 show Wc _ W0 _ _ _ _ _ ((pt b 81 (bkC n v)) :: F)
 refine Wc.seq ?_
 refine Wc.region ?_
 refine Wl.q (v := Value.pointer (some ⟨b, 0, none⟩)) (q_move rfl) ?_
 refine Wl.q (v := Value.pointer (some ⟨b, 0, none⟩)) (q_nil_ptr rfl) ?_
 refine Wl.q (v := Value.pointer (some ⟨b, 24, none⟩)) (q_field (m := 24) fo_81_24 rfl rfl) ?_
 refine Wl.q (v := Value.slice none 0 0) (q_load sc_69 rfl (.cel (i := 0) rfl rfl)) ?_
 refine Wl.q (v := Value.int .i64 0) (q_len_slice Tryz.underlying69 rfl) ?_
 refine Wl.q (v := Value.int .i64 0) (q_move rfl) ?_
 refine Wl.done ?_
 refine Wx.go ?_
 refine Wc.block ?_
 refine Wc.rounds 1 ?_
 refine Wn.round ?_
 refine Wc.seq ?_
 refine Wc.region ?_
 refine Wl.q (v := Value.bool false) (q_lss (r := false) rfl rfl (decide_eq_false (by decide))) ?_
 refine Wl.done ?_
 refine Wx.go ?_
 refine Wc.seq ?_
 refine Wc.no rfl ?_
 refine Wc.exit ?_
 refine Wx.thenExit ?_
 refine Wx.thenExit ?_
 refine Wx.out ?_
 refine Wx.fin0 rfl (.inr rfl) (fun w hs => ?_)
 exact ⟨(), trivial, rfl, hs⟩

theorem bk_lookRequest (W0 : World) (b n : Nat) (v : Value) :
  Con Tryz.prog W0 121 #[Value.pointer (some ⟨b, 0, none⟩)] [pt b 81 (bkC n v)] (X := Unit) (fun _ => True) (fun _ => .bool true) (fun _ => [pt b 81 (bkC n v)]) := by
 refine Con.of (args := [Value.pointer (some ⟨b, 0, none⟩)]) Tryz.func121 rfl Tryz.ntmps121 rfl (fun F => ?_)
 show Wc _ W0 _ _ _ _ _ ((pt b 81 (bkC n v)) :: F)
 refine Wc.seq ?_
 refine Wc.region ?_
 refine Wl.q (v := Value.bool false) (q_assign rfl) ?_
 refine Wl.done ?_
 refine Wx.go ?_
 refine Wc.seq ?_
 refine Wc.seq ?_
 refine Wc.region ?_
 refine Wl.q (v := Value.pointer (some ⟨b, 0, none⟩)) (q_move rfl) ?_
 refine Wl.q (v := Value.pointer (some ⟨b, 0, none⟩)) (q_nil_ptr rfl) ?_
 refine Wl.q (v := Value.pointer (some ⟨b, 24, none⟩)) (q_field (m := 24) fo_81_24 rfl rfl) ?_
 refine Wl.q (v := Value.slice none 0 0) (q_load sc_69 rfl (.cel (i := 0) rfl rfl)) ?_
 refine Wl.q (v := Value.int .i64 0) (q_len_slice Tryz.underlying69 rfl) ?_
 refine Wl.q (v := Value.int .i64 0) (q_move rfl) ?_
 refine Wl.done ?_
 refine Wx.go ?_
 refine Wc.block ?_
 refine Wc.rounds 1 ?_
 refine Wn.round ?_
 refine Wc.seq ?_
 refine Wc.region ?_
 refine Wl.q (v := Value.bool false) (q_lss (r := false) rfl rfl (decide_eq_false (by decide))) ?_
 refine Wl.done ?_
 refine Wx.go ?_
 refine Wc.seq ?_
 refine Wc.no rfl ?_
 refine Wc.exit ?_
 refine Wx.thenExit ?_
 refine Wx.thenExit ?_
 refine Wx.out ?_
 refine Wx.go ?_
 refine Wc.seq ?_
 refine Wc.region ?_
 refine Wl.q (v := Value.bool true) (q_assign rfl) ?_
 refine Wl.done ?_
 refine Wx.go ?_
 refine Wc.ret ?_
 refine Wx.fin1 rfl (.inl rfl) (fun w hs => ?_)
 exact ⟨(), trivial, rfl, hs⟩

theorem bk_fillSeal (W0 : World) (b n : Nat) (v : Value) :
  Con Tryz.prog W0 36 #[Value.pointer (some ⟨b, 0, none⟩)] [pt b 81 (bkC n v)] (X := Unit) (fun _ => True) (fun _ => .tuple #[]) (fun _ => [pt b 81 (bkC n v)]) := by
 refine Con.of (args := [Value.pointer (some ⟨b, 0, none⟩)]) Tryz.func36 rfl Tryz.ntmps36 rfl (fun F => ?_)
 show Wc _ W0 _ _ _ _ _ ((pt b 81 (bkC n v)) :: F)
 refine Wc.seq ?_
 refine Wc.region ?_
 refine Wl.q (v := Value.pointer (some ⟨b, 0, none⟩)) (q_move rfl) ?_
 refine Wl.q (v := Value.pointer (some ⟨b, 0, none⟩)) (q_nil_ptr rfl) ?_
 refine Wl.q (v := Value.pointer (some ⟨b, 6, none⟩)) (q_field (m := 6) fo_81_6 rfl rfl) ?_
 refine Wl.q (v := Value.slice none 0 0) (q_load sc_51 rfl (.cel (i := 0) rfl rfl)) ?_
 refine Wl.q (v := Value.int .i64 0) (q_len_slice Tryz.underlying51 rfl) ?_
 refine Wl.q (v := Value.int .i64 0) (q_move rfl) ?_
 refine Wl.done ?_
 refine Wx.go ?_
 refine Wc.block ?_
 refine Wc.rounds 1 ?_
 refine Wn.round ?_
 refine Wc.seq ?_
 refine Wc.region ?_
 refine Wl.q (v := Value.bool false) (q_lss (r := false) rfl rfl (decide_eq_false (by decide))) ?_
 refine Wl.done ?_
 refine Wx.go ?_
 refine Wc.seq ?_
 refine Wc.no rfl ?_
 refine Wc.exit ?_
 refine Wx.thenExit ?_
 refine Wx.thenExit ?_
 refine Wx.out ?_
 refine Wx.fin0 rfl (.inr rfl) (fun w hs => ?_)
 exact ⟨(), trivial, rfl, hs⟩

theorem bk_growSeal (W0 : World) (b n : Nat) (v : Value) :
  Con Tryz.prog W0 69 #[Value.pointer (some ⟨b, 0, none⟩)] [pt b 81 (bkC n v)] (X := Unit) (fun _ => True) (fun _ => .tuple #[]) (fun _ => [pt b 81 (bkC n v)]) := by
 refine Con.of (args := [Value.pointer (some ⟨b, 0, none⟩)]) Tryz.func69 rfl Tryz.ntmps69 rfl (fun F => ?_)
 show Wc _ W0 _ _ _ _ _ ((pt b 81 (bkC n v)) :: F)
 refine Wc.seq ?_
 refine Wc.region ?_
 refine Wl.q (v := Value.pointer (some ⟨b, 0, none⟩)) (q_move rfl) ?_
 refine Wl.q (v := Value.pointer (some ⟨b, 0, none⟩)) (q_nil_ptr rfl) ?_
 refine Wl.q (v := Value.pointer (some ⟨b, 6, none⟩)) (q_field (m := 6) fo_81_6 rfl rfl) ?_
 refine Wl.q (v := Value.slice none 0 0) (q_load sc_51 rfl (.cel (i := 0) rfl rfl)) ?_
 refine Wl.q (v := Value.int .i64 0) (q_len_slice Tryz.underlying51 rfl) ?_
 refine Wl.q (v := Value.int .i64 0) (q_move rfl) ?_
 refine Wl.done ?_
 refine Wx.go ?_
 refine Wc.block ?_
 refine Wc.rounds 1 ?_
 refine Wn.round ?_
 refine Wc.seq ?_
 refine Wc.region ?_
 refine Wl.q (v := Value.bool false) (q_lss (r := false) rfl rfl (decide_eq_false (by decide))) ?_
 refine Wl.done ?_
 refine Wx.go ?_
 refine Wc.seq ?_
 refine Wc.no rfl ?_
 refine Wc.exit ?_
 refine Wx.thenExit ?_
 refine Wx.thenExit ?_
 refine Wx.out ?_
 refine Wx.fin0 rfl (.inr rfl) (fun w hs => ?_)
 exact ⟨(), trivial, rfl, hs⟩

theorem bk_lookSeal (W0 : World) (b n : Nat) (v : Value) :
  Con Tryz.prog W0 103 #[Value.pointer (some ⟨b, 0, none⟩)] [pt b 81 (bkC n v)] (X := Unit) (fun _ => True) (fun _ => .bool true) (fun _ => [pt b 81 (bkC n v)]) := by
 refine Con.of (args := [Value.pointer (some ⟨b, 0, none⟩)]) Tryz.func103 rfl Tryz.ntmps103 rfl (fun F => ?_)
 show Wc _ W0 _ _ _ _ _ ((pt b 81 (bkC n v)) :: F)
 refine Wc.seq ?_
 refine Wc.region ?_
 refine Wl.q (v := Value.bool false) (q_assign rfl) ?_
 refine Wl.done ?_
 refine Wx.go ?_
 refine Wc.seq ?_
 refine Wc.seq ?_
 refine Wc.region ?_
 refine Wl.q (v := Value.pointer (some ⟨b, 0, none⟩)) (q_move rfl) ?_
 refine Wl.q (v := Value.pointer (some ⟨b, 0, none⟩)) (q_nil_ptr rfl) ?_
 refine Wl.q (v := Value.pointer (some ⟨b, 6, none⟩)) (q_field (m := 6) fo_81_6 rfl rfl) ?_
 refine Wl.q (v := Value.slice none 0 0) (q_load sc_51 rfl (.cel (i := 0) rfl rfl)) ?_
 refine Wl.q (v := Value.int .i64 0) (q_len_slice Tryz.underlying51 rfl) ?_
 refine Wl.q (v := Value.int .i64 0) (q_move rfl) ?_
 refine Wl.done ?_
 refine Wx.go ?_
 refine Wc.block ?_
 refine Wc.rounds 1 ?_
 refine Wn.round ?_
 refine Wc.seq ?_
 refine Wc.region ?_
 refine Wl.q (v := Value.bool false) (q_lss (r := false) rfl rfl (decide_eq_false (by decide))) ?_
 refine Wl.done ?_
 refine Wx.go ?_
 refine Wc.seq ?_
 refine Wc.no rfl ?_
 refine Wc.exit ?_
 refine Wx.thenExit ?_
 refine Wx.thenExit ?_
 refine Wx.out ?_
 refine Wx.go ?_
 refine Wc.seq ?_
 refine Wc.region ?_
 refine Wl.q (v := Value.bool true) (q_assign rfl) ?_
 refine Wl.done ?_
 refine Wx.go ?_
 refine Wc.ret ?_
 refine Wx.fin1 rfl (.inl rfl) (fun w hs => ?_)
 exact ⟨(), trivial, rfl, hs⟩

theorem bk_fillState (W0 : World) (b n : Nat) (v : Value) :
  Con Tryz.prog W0 52 #[Value.pointer (some ⟨b, 0, none⟩)] [pt b 81 (bkC n v)] (X := Unit) (fun _ => True) (fun _ => .tuple #[]) (fun _ => [pt b 81 (bkC n v)]) := by
 refine Con.of (args := [Value.pointer (some ⟨b, 0, none⟩)]) Tryz.func52 rfl Tryz.ntmps52 rfl (fun F => ?_)
 show Wc _ W0 _ _ _ _ _ ((pt b 81 (bkC n v)) :: F)
 refine Wc.seq ?_
 refine Wc.region ?_
 refine Wl.q (v := Value.pointer (some ⟨b, 0, none⟩)) (q_move rfl) ?_
 refine Wl.q (v := Value.pointer (some ⟨b, 0, none⟩)) (q_nil_ptr rfl) ?_
 refine Wl.q (v := Value.pointer (some ⟨b, 22, none⟩)) (q_field (m := 22) fo_81_22 rfl rfl) ?_
 refine Wl.q (v := Value.slice none 0 0) (q_load sc_67 rfl (.cel (i := 0) rfl rfl)) ?_
 refine Wl.q (v := Value.int .i64 0) (q_len_slice Tryz.underlying67 rfl) ?_
 refine Wl.q (v := Value.int .i64 0) (q_move rfl) ?_
 refine Wl.done ?_
 refine Wx.go ?_
 refine Wc.block ?_
 refine Wc.rounds 1 ?_
 refine Wn.round ?_
 refine Wc.seq ?_
 refine Wc.region ?_
 refine Wl.q (v := Value.bool false) (q_lss (r := false) rfl rfl (decide_eq_false (by decide))) ?_
 refine Wl.done ?_
 refine Wx.go ?_
 refine Wc.seq ?_
 refine Wc.no rfl ?_
 refine Wc.exit ?_
 refine Wx.thenExit ?_
 refine Wx.thenExit ?_
 refine Wx.out ?_
 refine Wx.fin0 rfl (.inr rfl) (fun w hs => ?_)
 exact ⟨(), trivial, rfl, hs⟩

theorem bk_growState (W0 : World) (b n : Nat) (v : Value) :
  Con Tryz.prog W0 85 #[Value.pointer (some ⟨b, 0, none⟩)] [pt b 81 (bkC n v)] (X := Unit) (fun _ => True) (fun _ => .tuple #[]) (fun _ => [pt b 81 (bkC n v)]) := by
 refine Con.of (args := [Value.pointer (some ⟨b, 0, none⟩)]) Tryz.func85 rfl Tryz.ntmps85 rfl (fun F => ?_)
 show Wc _ W0 _ _ _ _ _ ((pt b 81 (bkC n v)) :: F)
 refine Wc.seq ?_
 refine Wc.region ?_
 refine Wl.q (v := Value.pointer (some ⟨b, 0, none⟩)) (q_move rfl) ?_
 refine Wl.q (v := Value.pointer (some ⟨b, 0, none⟩)) (q_nil_ptr rfl) ?_
 refine Wl.q (v := Value.pointer (some ⟨b, 22, none⟩)) (q_field (m := 22) fo_81_22 rfl rfl) ?_
 refine Wl.q (v := Value.slice none 0 0) (q_load sc_67 rfl (.cel (i := 0) rfl rfl)) ?_
 refine Wl.q (v := Value.int .i64 0) (q_len_slice Tryz.underlying67 rfl) ?_
 refine Wl.q (v := Value.int .i64 0) (q_move rfl) ?_
 refine Wl.done ?_
 refine Wx.go ?_
 refine Wc.block ?_
 refine Wc.rounds 1 ?_
 refine Wn.round ?_
 refine Wc.seq ?_
 refine Wc.region ?_
 refine Wl.q (v := Value.bool false) (q_lss (r := false) rfl rfl (decide_eq_false (by decide))) ?_
 refine Wl.done ?_
 refine Wx.go ?_
 refine Wc.seq ?_
 refine Wc.no rfl ?_
 refine Wc.exit ?_
 refine Wx.thenExit ?_
 refine Wx.thenExit ?_
 refine Wx.out ?_
 refine Wx.fin0 rfl (.inr rfl) (fun w hs => ?_)
 exact ⟨(), trivial, rfl, hs⟩

theorem bk_lookState (W0 : World) (b n : Nat) (v : Value) :
  Con Tryz.prog W0 119 #[Value.pointer (some ⟨b, 0, none⟩)] [pt b 81 (bkC n v)] (X := Unit) (fun _ => True) (fun _ => .bool true) (fun _ => [pt b 81 (bkC n v)]) := by
 refine Con.of (args := [Value.pointer (some ⟨b, 0, none⟩)]) Tryz.func119 rfl Tryz.ntmps119 rfl (fun F => ?_)
 show Wc _ W0 _ _ _ _ _ ((pt b 81 (bkC n v)) :: F)
 refine Wc.seq ?_
 refine Wc.region ?_
 refine Wl.q (v := Value.bool false) (q_assign rfl) ?_
 refine Wl.done ?_
 refine Wx.go ?_
 refine Wc.seq ?_
 refine Wc.seq ?_
 refine Wc.region ?_
 refine Wl.q (v := Value.pointer (some ⟨b, 0, none⟩)) (q_move rfl) ?_
 refine Wl.q (v := Value.pointer (some ⟨b, 0, none⟩)) (q_nil_ptr rfl) ?_
 refine Wl.q (v := Value.pointer (some ⟨b, 22, none⟩)) (q_field (m := 22) fo_81_22 rfl rfl) ?_
 refine Wl.q (v := Value.slice none 0 0) (q_load sc_67 rfl (.cel (i := 0) rfl rfl)) ?_
 refine Wl.q (v := Value.int .i64 0) (q_len_slice Tryz.underlying67 rfl) ?_
 refine Wl.q (v := Value.int .i64 0) (q_move rfl) ?_
 refine Wl.done ?_
 refine Wx.go ?_
 refine Wc.block ?_
 refine Wc.rounds 1 ?_
 refine Wn.round ?_
 refine Wc.seq ?_
 refine Wc.region ?_
 refine Wl.q (v := Value.bool false) (q_lss (r := false) rfl rfl (decide_eq_false (by decide))) ?_
 refine Wl.done ?_
 refine Wx.go ?_
 refine Wc.seq ?_
 refine Wc.no rfl ?_
 refine Wc.exit ?_
 refine Wx.thenExit ?_
 refine Wx.thenExit ?_
 refine Wx.out ?_
 refine Wx.go ?_
 refine Wc.seq ?_
 refine Wc.region ?_
 refine Wl.q (v := Value.bool true) (q_assign rfl) ?_
 refine Wl.done ?_
 refine Wx.go ?_
 refine Wc.ret ?_
 refine Wx.fin1 rfl (.inl rfl) (fun w hs => ?_)
 exact ⟨(), trivial, rfl, hs⟩

theorem bk_fillStep (W0 : World) (b n : Nat) (v : Value) :
  Con Tryz.prog W0 47 #[Value.pointer (some ⟨b, 0, none⟩)] [pt b 81 (bkC n v)] (X := Unit) (fun _ => True) (fun _ => .tuple #[]) (fun _ => [pt b 81 (bkC n v)]) := by
 refine Con.of (args := [Value.pointer (some ⟨b, 0, none⟩)]) Tryz.func47 rfl Tryz.ntmps47 rfl (fun F => ?_)
 show Wc _ W0 _ _ _ _ _ ((pt b 81 (bkC n v)) :: F)
 refine Wc.seq ?_
 refine Wc.region ?_
 refine Wl.q (v := Value.pointer (some ⟨b, 0, none⟩)) (q_move rfl) ?_
 refine Wl.q (v := Value.pointer (some ⟨b, 0, none⟩)) (q_nil_ptr rfl) ?_
 refine Wl.q (v := Value.pointer (some ⟨b, 17, none⟩)) (q_field (m := 17) fo_81_17 rfl rfl) ?_
 refine Wl.q (v := Value.slice none 0 0) (q_load sc_62 rfl (.cel (i := 0) rfl rfl)) ?_
 refine Wl.q (v := Value.int .i64 0) (q_len_slice Tryz.underlying62 rfl) ?_
 refine Wl.q (v := Value.int .i64 0) (q_move rfl) ?_
 refine Wl.done ?_
 refine Wx.go ?_
 refine Wc.block ?_
 refine Wc.rounds 1 ?_
 refine Wn.round ?_
 refine Wc.seq ?_
 refine Wc.region ?_
 refine Wl.q (v := Value.bool false) (q_lss (r := false) rfl rfl (decide_eq_false (by decide))) ?_
 refine Wl.done ?_
 refine Wx.go ?_
 refine Wc.seq ?_
 refine Wc.no rfl ?_
 refine Wc.exit ?_
 refine Wx.thenExit ?_
 refine Wx.thenExit ?_
 refine Wx.out ?_
 refine Wx.fin0 rfl (.inr rfl) (fun w hs => ?_)
 exact ⟨(), trivial, rfl, hs⟩

theorem bk_growStep (W0 : World) (b n : Nat) (v : Value) :
  Con Tryz.prog W0 80 #[Value.pointer (some ⟨b, 0, none⟩)] [pt b 81 (bkC n v)] (X := Unit) (fun _ => True) (fun _ => .tuple #[]) (fun _ => [pt b 81 (bkC n v)]) := by
 refine Con.of (args := [Value.pointer (some ⟨b, 0, none⟩)]) Tryz.func80 rfl Tryz.ntmps80 rfl (fun F => ?_)
 show Wc _ W0 _ _ _ _ _ ((pt b 81 (bkC n v)) :: F)
 refine Wc.seq ?_
 refine Wc.region ?_
 refine Wl.q (v := Value.pointer (some ⟨b, 0, none⟩)) (q_move rfl) ?_
 refine Wl.q (v := Value.pointer (some ⟨b, 0, none⟩)) (q_nil_ptr rfl) ?_
 refine Wl.q (v := Value.pointer (some ⟨b, 17, none⟩)) (q_field (m := 17) fo_81_17 rfl rfl) ?_
 refine Wl.q (v := Value.slice none 0 0) (q_load sc_62 rfl (.cel (i := 0) rfl rfl)) ?_
 refine Wl.q (v := Value.int .i64 0) (q_len_slice Tryz.underlying62 rfl) ?_
 refine Wl.q (v := Value.int .i64 0) (q_move rfl) ?_
 refine Wl.done ?_
 refine Wx.go ?_
 refine Wc.block ?_
 refine Wc.rounds 1 ?_
 refine Wn.round ?_
 refine Wc.seq ?_
 refine Wc.region ?_
 refine Wl.q (v := Value.bool false) (q_lss (r := false) rfl rfl (decide_eq_false (by decide))) ?_
 refine Wl.done ?_
 refine Wx.go ?_
 refine Wc.seq ?_
 refine Wc.no rfl ?_
 refine Wc.exit ?_
 refine Wx.thenExit ?_
 refine Wx.thenExit ?_
 refine Wx.out ?_
 refine Wx.fin0 rfl (.inr rfl) (fun w hs => ?_)
 exact ⟨(), trivial, rfl, hs⟩

theorem bk_lookStep (W0 : World) (b n : Nat) (v : Value) :
  Con Tryz.prog W0 114 #[Value.pointer (some ⟨b, 0, none⟩)] [pt b 81 (bkC n v)] (X := Unit) (fun _ => True) (fun _ => .bool true) (fun _ => [pt b 81 (bkC n v)]) := by
 refine Con.of (args := [Value.pointer (some ⟨b, 0, none⟩)]) Tryz.func114 rfl Tryz.ntmps114 rfl (fun F => ?_)
 show Wc _ W0 _ _ _ _ _ ((pt b 81 (bkC n v)) :: F)
 refine Wc.seq ?_
 refine Wc.region ?_
 refine Wl.q (v := Value.bool false) (q_assign rfl) ?_
 refine Wl.done ?_
 refine Wx.go ?_
 refine Wc.seq ?_
 refine Wc.seq ?_
 refine Wc.region ?_
 refine Wl.q (v := Value.pointer (some ⟨b, 0, none⟩)) (q_move rfl) ?_
 refine Wl.q (v := Value.pointer (some ⟨b, 0, none⟩)) (q_nil_ptr rfl) ?_
 refine Wl.q (v := Value.pointer (some ⟨b, 17, none⟩)) (q_field (m := 17) fo_81_17 rfl rfl) ?_
 refine Wl.q (v := Value.slice none 0 0) (q_load sc_62 rfl (.cel (i := 0) rfl rfl)) ?_
 refine Wl.q (v := Value.int .i64 0) (q_len_slice Tryz.underlying62 rfl) ?_
 refine Wl.q (v := Value.int .i64 0) (q_move rfl) ?_
 refine Wl.done ?_
 refine Wx.go ?_
 refine Wc.block ?_
 refine Wc.rounds 1 ?_
 refine Wn.round ?_
 refine Wc.seq ?_
 refine Wc.region ?_
 refine Wl.q (v := Value.bool false) (q_lss (r := false) rfl rfl (decide_eq_false (by decide))) ?_
 refine Wl.done ?_
 refine Wx.go ?_
 refine Wc.seq ?_
 refine Wc.no rfl ?_
 refine Wc.exit ?_
 refine Wx.thenExit ?_
 refine Wx.thenExit ?_
 refine Wx.out ?_
 refine Wx.go ?_
 refine Wc.seq ?_
 refine Wc.region ?_
 refine Wl.q (v := Value.bool true) (q_assign rfl) ?_
 refine Wl.done ?_
 refine Wx.go ?_
 refine Wc.ret ?_
 refine Wx.fin1 rfl (.inl rfl) (fun w hs => ?_)
 exact ⟨(), trivial, rfl, hs⟩

theorem bk_fillTerm (W0 : World) (b n : Nat) (v : Value) :
  Con Tryz.prog W0 35 #[Value.pointer (some ⟨b, 0, none⟩)] [pt b 81 (bkC n v)] (X := Unit) (fun _ => True) (fun _ => .tuple #[]) (fun _ => [pt b 81 (bkC n v)]) := by
 refine Con.of (args := [Value.pointer (some ⟨b, 0, none⟩)]) Tryz.func35 rfl Tryz.ntmps35 rfl (fun F => ?_)
 show Wc _ W0 _ _ _ _ _ ((pt b 81 (bkC n v)) :: F)
 refine Wc.seq ?_
 refine Wc.region ?_
 refine Wl.q (v := Value.pointer (some ⟨b, 0, none⟩)) (q_move rfl) ?_
 refine Wl.q (v := Value.pointer (some ⟨b, 0, none⟩)) (q_nil_ptr rfl) ?_
 refine Wl.q (v := Value.pointer (some ⟨b, 5, none⟩)) (q_field (m := 5) fo_81_5 rfl rfl) ?_
 refine Wl.q (v := Value.slice none 0 0) (q_load sc_50 rfl (.cel (i := 0) rfl rfl)) ?_
 refine Wl.q (v := Value.int .i64 0) (q_len_slice Tryz.underlying50 rfl) ?_
 refine Wl.q (v := Value.int .i64 0) (q_move rfl) ?_
 refine Wl.done ?_
 refine Wx.go ?_
 refine Wc.block ?_
 refine Wc.rounds 1 ?_
 refine Wn.round ?_
 refine Wc.seq ?_
 refine Wc.region ?_
 refine Wl.q (v := Value.bool false) (q_lss (r := false) rfl rfl (decide_eq_false (by decide))) ?_
 refine Wl.done ?_
 refine Wx.go ?_
 refine Wc.seq ?_
 refine Wc.no rfl ?_
 refine Wc.exit ?_
 refine Wx.thenExit ?_
 refine Wx.thenExit ?_
 refine Wx.out ?_
 refine Wx.fin0 rfl (.inr rfl) (fun w hs => ?_)
 exact ⟨(), trivial, rfl, hs⟩

theorem bk_growTerm (W0 : World) (b n : Nat) (v : Value) :
  Con Tryz.prog W0 68 #[Value.pointer (some ⟨b, 0, none⟩)] [pt b 81 (bkC n v)] (X := Unit) (fun _ => True) (fun _ => .tuple #[]) (fun _ => [pt b 81 (bkC n v)]) := by
 refine Con.of (args := [Value.pointer (some ⟨b, 0, none⟩)]) Tryz.func68 rfl Tryz.ntmps68 rfl (fun F => ?_)
 show Wc _ W0 _ _ _ _ _ ((pt b 81 (bkC n v)) :: F)
 refine Wc.seq ?_
 refine Wc.region ?_
 refine Wl.q (v := Value.pointer (some ⟨b, 0, none⟩)) (q_move rfl) ?_
 refine Wl.q (v := Value.pointer (some ⟨b, 0, none⟩)) (q_nil_ptr rfl) ?_
 refine Wl.q (v := Value.pointer (some ⟨b, 5, none⟩)) (q_field (m := 5) fo_81_5 rfl rfl) ?_
 refine Wl.q (v := Value.slice none 0 0) (q_load sc_50 rfl (.cel (i := 0) rfl rfl)) ?_
 refine Wl.q (v := Value.int .i64 0) (q_len_slice Tryz.underlying50 rfl) ?_
 refine Wl.q (v := Value.int .i64 0) (q_move rfl) ?_
 refine Wl.done ?_
 refine Wx.go ?_
 refine Wc.block ?_
 refine Wc.rounds 1 ?_
 refine Wn.round ?_
 refine Wc.seq ?_
 refine Wc.region ?_
 refine Wl.q (v := Value.bool false) (q_lss (r := false) rfl rfl (decide_eq_false (by decide))) ?_
 refine Wl.done ?_
 refine Wx.go ?_
 refine Wc.seq ?_
 refine Wc.no rfl ?_
 refine Wc.exit ?_
 refine Wx.thenExit ?_
 refine Wx.thenExit ?_
 refine Wx.out ?_
 refine Wx.fin0 rfl (.inr rfl) (fun w hs => ?_)
 exact ⟨(), trivial, rfl, hs⟩

theorem bk_lookTerm (W0 : World) (b n : Nat) (v : Value) :
  Con Tryz.prog W0 102 #[Value.pointer (some ⟨b, 0, none⟩)] [pt b 81 (bkC n v)] (X := Unit) (fun _ => True) (fun _ => .bool true) (fun _ => [pt b 81 (bkC n v)]) := by
 refine Con.of (args := [Value.pointer (some ⟨b, 0, none⟩)]) Tryz.func102 rfl Tryz.ntmps102 rfl (fun F => ?_)
 show Wc _ W0 _ _ _ _ _ ((pt b 81 (bkC n v)) :: F)
 refine Wc.seq ?_
 refine Wc.region ?_
 refine Wl.q (v := Value.bool false) (q_assign rfl) ?_
 refine Wl.done ?_
 refine Wx.go ?_
 refine Wc.seq ?_
 refine Wc.seq ?_
 refine Wc.region ?_
 refine Wl.q (v := Value.pointer (some ⟨b, 0, none⟩)) (q_move rfl) ?_
 refine Wl.q (v := Value.pointer (some ⟨b, 0, none⟩)) (q_nil_ptr rfl) ?_
 refine Wl.q (v := Value.pointer (some ⟨b, 5, none⟩)) (q_field (m := 5) fo_81_5 rfl rfl) ?_
 refine Wl.q (v := Value.slice none 0 0) (q_load sc_50 rfl (.cel (i := 0) rfl rfl)) ?_
 refine Wl.q (v := Value.int .i64 0) (q_len_slice Tryz.underlying50 rfl) ?_
 refine Wl.q (v := Value.int .i64 0) (q_move rfl) ?_
 refine Wl.done ?_
 refine Wx.go ?_
 refine Wc.block ?_
 refine Wc.rounds 1 ?_
 refine Wn.round ?_
 refine Wc.seq ?_
 refine Wc.region ?_
 refine Wl.q (v := Value.bool false) (q_lss (r := false) rfl rfl (decide_eq_false (by decide))) ?_
 refine Wl.done ?_
 refine Wx.go ?_
 refine Wc.seq ?_
 refine Wc.no rfl ?_
 refine Wc.exit ?_
 refine Wx.thenExit ?_
 refine Wx.thenExit ?_
 refine Wx.out ?_
 refine Wx.go ?_
 refine Wc.seq ?_
 refine Wc.region ?_
 refine Wl.q (v := Value.bool true) (q_assign rfl) ?_
 refine Wl.done ?_
 refine Wx.go ?_
 refine Wc.ret ?_
 refine Wx.fin1 rfl (.inl rfl) (fun w hs => ?_)
 exact ⟨(), trivial, rfl, hs⟩

theorem bk_fillTermRow (W0 : World) (b n : Nat) (v : Value) :
  Con Tryz.prog W0 63 #[Value.pointer (some ⟨b, 0, none⟩)] [pt b 81 (bkC n v)] (X := Unit) (fun _ => True) (fun _ => .tuple #[]) (fun _ => [pt b 81 (bkC n v)]) := by
 refine Con.of (args := [Value.pointer (some ⟨b, 0, none⟩)]) Tryz.func63 rfl Tryz.ntmps63 rfl (fun F => ?_)
 show Wc _ W0 _ _ _ _ _ ((pt b 81 (bkC n v)) :: F)
 refine Wc.seq ?_
 refine Wc.region ?_
 refine Wl.q (v := Value.pointer (some ⟨b, 0, none⟩)) (q_move rfl) ?_
 refine Wl.q (v := Value.pointer (some ⟨b, 0, none⟩)) (q_nil_ptr rfl) ?_
 refine Wl.q (v := Value.pointer (some ⟨b, 33, none⟩)) (q_field (m := 33) fo_81_33 rfl rfl) ?_
 refine Wl.q (v := Value.slice none 0 0) (q_load sc_78 rfl (.cel (i := 0) rfl rfl)) ?_
 refine Wl.q (v := Value.int .i64 0) (q_len_slice Tryz.underlying78 rfl) ?_
 refine Wl.q (v := Value.int .i64 0) (q_move rfl) ?_
 refine Wl.done ?_
 refine Wx.go ?_
 refine Wc.block ?_
 refine Wc.rounds 1 ?_
 refine Wn.round ?_
 refine Wc.seq ?_
 refine Wc.region ?_
 refine Wl.q (v := Value.bool false) (q_lss (r := false) rfl rfl (decide_eq_false (by decide))) ?_
 refine Wl.done ?_
 refine Wx.go ?_
 refine Wc.seq ?_
 refine Wc.no rfl ?_
 refine Wc.exit ?_
 refine Wx.thenExit ?_
 refine Wx.thenExit ?_
 refine Wx.out ?_
 refine Wx.fin0 rfl (.inr rfl) (fun w hs => ?_)
 exact ⟨(), trivial, rfl, hs⟩

theorem bk_growTermRow (W0 : World) (b n : Nat) (v : Value) :
  Con Tryz.prog W0 96 #[Value.pointer (some ⟨b, 0, none⟩)] [pt b 81 (bkC n v)] (X := Unit) (fun _ => True) (fun _ => .tuple #[]) (fun _ => [pt b 81 (bkC n v)]) := by
 refine Con.of (args := [Value.pointer (some ⟨b, 0, none⟩)]) Tryz.func96 rfl Tryz.ntmps96 rfl (fun F => ?_)
 show Wc _ W0 _ _ _ _ _ ((pt b 81 (bkC n v)) :: F)
 refine Wc.seq ?_
 refine Wc.region ?_
 refine Wl.q (v := Value.pointer (some ⟨b, 0, none⟩)) (q_move rfl) ?_
 refine Wl.q (v := Value.pointer (some ⟨b, 0, none⟩)) (q_nil_ptr rfl) ?_
 refine Wl.q (v := Value.pointer (some ⟨b, 33, none⟩)) (q_field (m := 33) fo_81_33 rfl rfl) ?_
 refine Wl.q (v := Value.slice none 0 0) (q_load sc_78 rfl (.cel (i := 0) rfl rfl)) ?_
 refine Wl.q (v := Value.int .i64 0) (q_len_slice Tryz.underlying78 rfl) ?_
 refine Wl.q (v := Value.int .i64 0) (q_move rfl) ?_
 refine Wl.done ?_
 refine Wx.go ?_
 refine Wc.block ?_
 refine Wc.rounds 1 ?_
 refine Wn.round ?_
 refine Wc.seq ?_
 refine Wc.region ?_
 refine Wl.q (v := Value.bool false) (q_lss (r := false) rfl rfl (decide_eq_false (by decide))) ?_
 refine Wl.done ?_
 refine Wx.go ?_
 refine Wc.seq ?_
 refine Wc.no rfl ?_
 refine Wc.exit ?_
 refine Wx.thenExit ?_
 refine Wx.thenExit ?_
 refine Wx.out ?_
 refine Wx.fin0 rfl (.inr rfl) (fun w hs => ?_)
 exact ⟨(), trivial, rfl, hs⟩

theorem bk_lookTermRow (W0 : World) (b n : Nat) (v : Value) :
  Con Tryz.prog W0 130 #[Value.pointer (some ⟨b, 0, none⟩)] [pt b 81 (bkC n v)] (X := Unit) (fun _ => True) (fun _ => .bool true) (fun _ => [pt b 81 (bkC n v)]) := by
 refine Con.of (args := [Value.pointer (some ⟨b, 0, none⟩)]) Tryz.func130 rfl Tryz.ntmps130 rfl (fun F => ?_)
 show Wc _ W0 _ _ _ _ _ ((pt b 81 (bkC n v)) :: F)
 refine Wc.seq ?_
 refine Wc.region ?_
 refine Wl.q (v := Value.bool false) (q_assign rfl) ?_
 refine Wl.done ?_
 refine Wx.go ?_
 refine Wc.seq ?_
 refine Wc.seq ?_
 refine Wc.region ?_
 refine Wl.q (v := Value.pointer (some ⟨b, 0, none⟩)) (q_move rfl) ?_
 refine Wl.q (v := Value.pointer (some ⟨b, 0, none⟩)) (q_nil_ptr rfl) ?_
 refine Wl.q (v := Value.pointer (some ⟨b, 33, none⟩)) (q_field (m := 33) fo_81_33 rfl rfl) ?_
 refine Wl.q (v := Value.slice none 0 0) (q_load sc_78 rfl (.cel (i := 0) rfl rfl)) ?_
 refine Wl.q (v := Value.int .i64 0) (q_len_slice Tryz.underlying78 rfl) ?_
 refine Wl.q (v := Value.int .i64 0) (q_move rfl) ?_
 refine Wl.done ?_
 refine Wx.go ?_
 refine Wc.block ?_
 refine Wc.rounds 1 ?_
 refine Wn.round ?_
 refine Wc.seq ?_
 refine Wc.region ?_
 refine Wl.q (v := Value.bool false) (q_lss (r := false) rfl rfl (decide_eq_false (by decide))) ?_
 refine Wl.done ?_
 refine Wx.go ?_
 refine Wc.seq ?_
 refine Wc.no rfl ?_
 refine Wc.exit ?_
 refine Wx.thenExit ?_
 refine Wx.thenExit ?_
 refine Wx.out ?_
 refine Wx.go ?_
 refine Wc.seq ?_
 refine Wc.region ?_
 refine Wl.q (v := Value.bool true) (q_assign rfl) ?_
 refine Wl.done ?_
 refine Wx.go ?_
 refine Wc.ret ?_
 refine Wx.fin1 rfl (.inl rfl) (fun w hs => ?_)
 exact ⟨(), trivial, rfl, hs⟩

theorem bk_fillText (W0 : World) (b n : Nat) (v : Value) :
  Con Tryz.prog W0 34 #[Value.pointer (some ⟨b, 0, none⟩)] [pt b 81 (bkC n v)] (X := Unit) (fun _ => True) (fun _ => .tuple #[]) (fun _ => [pt b 81 (bkC n v)]) := by
 refine Con.of (args := [Value.pointer (some ⟨b, 0, none⟩)]) Tryz.func34 rfl Tryz.ntmps34 rfl (fun F => ?_)
 show Wc _ W0 _ _ _ _ _ ((pt b 81 (bkC n v)) :: F)
 refine Wc.seq ?_
 refine Wc.region ?_
 refine Wl.q (v := Value.pointer (some ⟨b, 0, none⟩)) (q_move rfl) ?_
 refine Wl.q (v := Value.pointer (some ⟨b, 0, none⟩)) (q_nil_ptr rfl) ?_
 refine Wl.q (v := Value.pointer (some ⟨b, 4, none⟩)) (q_field (m := 4) fo_81_4 rfl rfl) ?_
 refine Wl.q (v := Value.slice none 0 0) (q_load sc_49 rfl (.cel (i := 0) rfl rfl)) ?_
 refine Wl.q (v := Value.int .i64 0) (q_len_slice Tryz.underlying49 rfl) ?_
 refine Wl.q (v := Value.int .i64 0) (q_move rfl) ?_
 refine Wl.done ?_
 refine Wx.go ?_
 refine Wc.block ?_
 refine Wc.rounds 1 ?_
 refine Wn.round ?_
 refine Wc.seq ?_
 refine Wc.region ?_
 refine Wl.q (v := Value.bool false) (q_lss (r := false) rfl rfl (decide_eq_false (by decide))) ?_
 refine Wl.done ?_
 refine Wx.go ?_
 refine Wc.seq ?_
 refine Wc.no rfl ?_
 refine Wc.exit ?_
 refine Wx.thenExit ?_
 refine Wx.thenExit ?_
 refine Wx.out ?_
 refine Wx.fin0 rfl (.inr rfl) (fun w hs => ?_)
 exact ⟨(), trivial, rfl, hs⟩

theorem bk_growText (W0 : World) (b n : Nat) (v : Value) :
  Con Tryz.prog W0 67 #[Value.pointer (some ⟨b, 0, none⟩)] [pt b 81 (bkC n v)] (X := Unit) (fun _ => True) (fun _ => .tuple #[]) (fun _ => [pt b 81 (bkC n v)]) := by
 refine Con.of (args := [Value.pointer (some ⟨b, 0, none⟩)]) Tryz.func67 rfl Tryz.ntmps67 rfl (fun F => ?_)
 show Wc _ W0 _ _ _ _ _ ((pt b 81 (bkC n v)) :: F)
 refine Wc.seq ?_
 refine Wc.region ?_
 refine Wl.q (v := Value.pointer (some ⟨b, 0, none⟩)) (q_move rfl) ?_
 refine Wl.q (v := Value.pointer (some ⟨b, 0, none⟩)) (q_nil_ptr rfl) ?_
 refine Wl.q (v := Value.pointer (some ⟨b, 4, none⟩)) (q_field (m := 4) fo_81_4 rfl rfl) ?_
 refine Wl.q (v := Value.slice none 0 0) (q_load sc_49 rfl (.cel (i := 0) rfl rfl)) ?_
 refine Wl.q (v := Value.int .i64 0) (q_len_slice Tryz.underlying49 rfl) ?_
 refine Wl.q (v := Value.int .i64 0) (q_move rfl) ?_
 refine Wl.done ?_
 refine Wx.go ?_
 refine Wc.block ?_
 refine Wc.rounds 1 ?_
 refine Wn.round ?_
 refine Wc.seq ?_
 refine Wc.region ?_
 refine Wl.q (v := Value.bool false) (q_lss (r := false) rfl rfl (decide_eq_false (by decide))) ?_
 refine Wl.done ?_
 refine Wx.go ?_
 refine Wc.seq ?_
 refine Wc.no rfl ?_
 refine Wc.exit ?_
 refine Wx.thenExit ?_
 refine Wx.thenExit ?_
 refine Wx.out ?_
 refine Wx.fin0 rfl (.inr rfl) (fun w hs => ?_)
 exact ⟨(), trivial, rfl, hs⟩

theorem bk_lookText (W0 : World) (b n : Nat) (v : Value) :
  Con Tryz.prog W0 101 #[Value.pointer (some ⟨b, 0, none⟩)] [pt b 81 (bkC n v)] (X := Unit) (fun _ => True) (fun _ => .bool true) (fun _ => [pt b 81 (bkC n v)]) := by
 refine Con.of (args := [Value.pointer (some ⟨b, 0, none⟩)]) Tryz.func101 rfl Tryz.ntmps101 rfl (fun F => ?_)
 show Wc _ W0 _ _ _ _ _ ((pt b 81 (bkC n v)) :: F)
 refine Wc.seq ?_
 refine Wc.region ?_
 refine Wl.q (v := Value.bool false) (q_assign rfl) ?_
 refine Wl.done ?_
 refine Wx.go ?_
 refine Wc.seq ?_
 refine Wc.seq ?_
 refine Wc.region ?_
 refine Wl.q (v := Value.pointer (some ⟨b, 0, none⟩)) (q_move rfl) ?_
 refine Wl.q (v := Value.pointer (some ⟨b, 0, none⟩)) (q_nil_ptr rfl) ?_
 refine Wl.q (v := Value.pointer (some ⟨b, 4, none⟩)) (q_field (m := 4) fo_81_4 rfl rfl) ?_
 refine Wl.q (v := Value.slice none 0 0) (q_load sc_49 rfl (.cel (i := 0) rfl rfl)) ?_
 refine Wl.q (v := Value.int .i64 0) (q_len_slice Tryz.underlying49 rfl) ?_
 refine Wl.q (v := Value.int .i64 0) (q_move rfl) ?_
 refine Wl.done ?_
 refine Wx.go ?_
 refine Wc.block ?_
 refine Wc.rounds 1 ?_
 refine Wn.round ?_
 refine Wc.seq ?_
 refine Wc.region ?_
 refine Wl.q (v := Value.bool false) (q_lss (r := false) rfl rfl (decide_eq_false (by decide))) ?_
 refine Wl.done ?_
 refine Wx.go ?_
 refine Wc.seq ?_
 refine Wc.no rfl ?_
 refine Wc.exit ?_
 refine Wx.thenExit ?_
 refine Wx.thenExit ?_
 refine Wx.out ?_
 refine Wx.go ?_
 refine Wc.seq ?_
 refine Wc.region ?_
 refine Wl.q (v := Value.bool true) (q_assign rfl) ?_
 refine Wl.done ?_
 refine Wx.go ?_
 refine Wc.ret ?_
 refine Wx.fin1 rfl (.inl rfl) (fun w hs => ?_)
 exact ⟨(), trivial, rfl, hs⟩

theorem bk_fillTree (W0 : World) (b n : Nat) (v : Value) :
  Con Tryz.prog W0 50 #[Value.pointer (some ⟨b, 0, none⟩)] [pt b 81 (bkC n v)] (X := Unit) (fun _ => True) (fun _ => .tuple #[]) (fun _ => [pt b 81 (bkC n v)]) := by
 refine Con.of (args := [Value.pointer (some ⟨b, 0, none⟩)]) Tryz.func50 rfl Tryz.ntmps50 rfl (fun F => ?_)
 show Wc _ W0 _ _ _ _ _ ((pt b 81 (bkC n v)) :: F)
 refine Wc.seq ?_
 refine Wc.region ?_
 refine Wl.q (v := Value.pointer (some ⟨b, 0, none⟩)) (q_move rfl) ?_
 refine Wl.q (v := Value.pointer (some ⟨b, 0, none⟩)) (q_nil_ptr rfl) ?_
 refine Wl.q (v := Value.pointer (some ⟨b, 20, none⟩)) (q_field (m := 20) fo_81_20 rfl rfl) ?_
 refine Wl.q (v := Value.slice none 0 0) (q_load sc_65 rfl (.cel (i := 0) rfl rfl)) ?_
 refine Wl.q (v := Value.int .i64 0) (q_len_slice Tryz.underlying65 rfl) ?_
 refine Wl.q (v := Value.int .i64 0) (q_move rfl) ?_
 refine Wl.done ?_
 refine Wx.go ?_
 refine Wc.block ?_
 refine Wc.rounds 1 ?_
 refine Wn.round ?_
 refine Wc.seq ?_
 refine Wc.region ?_
 refine Wl.q (v := Value.bool false) (q_lss (r := false) rfl rfl (decide_eq_false (by decide))) ?_
 refine Wl.done ?_
 refine Wx.go ?_
 refine Wc.seq ?_
 refine Wc.no rfl ?_
 refine Wc.exit ?_
 refine Wx.thenExit ?_
 refine Wx.thenExit ?_
 refine Wx.out ?_
 refine Wx.fin0 rfl (.inr rfl) (fun w hs => ?_)
 exact ⟨(), trivial, rfl, hs⟩

theorem bk_growTree (W0 : World) (b n : Nat) (v : Value) :
  Con Tryz.prog W0 83 #[Value.pointer (some ⟨b, 0, none⟩)] [pt b 81 (bkC n v)] (X := Unit) (fun _ => True) (fun _ => .tuple #[]) (fun _ => [pt b 81 (bkC n v)]) := by
 refine Con.of (args := [Value.pointer (some ⟨b, 0, none⟩)]) Tryz.func83 rfl Tryz.ntmps83 rfl (fun F => ?_)
 show Wc _ W0 _ _ _ _ _ ((pt b 81 (bkC n v)) :: F)
 refine Wc.seq ?_
 refine Wc.region ?_
 refine Wl.q (v := Value.pointer (some ⟨b, 0, none⟩)) (q_move rfl) ?_
 refine Wl.q (v := Value.pointer (some ⟨b, 0, none⟩)) (q_nil_ptr rfl) ?_
 refine Wl.q (v := Value.pointer (some ⟨b, 20, none⟩)) (q_field (m := 20) fo_81_20 rfl rfl) ?_
 refine Wl.q (v := Value.slice none 0 0) (q_load sc_65 rfl (.cel (i := 0) rfl rfl)) ?_
 refine Wl.q (v := Value.int .i64 0) (q_len_slice Tryz.underlying65 rfl) ?_
 refine Wl.q (v := Value.int .i64 0) (q_move rfl) ?_
 refine Wl.done ?_
 refine Wx.go ?_
 refine Wc.block ?_
 refine Wc.rounds 1 ?_
 refine Wn.round ?_
 refine Wc.seq ?_
 refine Wc.region ?_
 refine Wl.q (v := Value.bool false) (q_lss (r := false) rfl rfl (decide_eq_false (by decide))) ?_
 refine Wl.done ?_
 refine Wx.go ?_
 refine Wc.seq ?_
 refine Wc.no rfl ?_
 refine Wc.exit ?_
 refine Wx.thenExit ?_
 refine Wx.thenExit ?_
 refine Wx.out ?_
 refine Wx.fin0 rfl (.inr rfl) (fun w hs => ?_)
 exact ⟨(), trivial, rfl, hs⟩

theorem bk_lookTree (W0 : World) (b n : Nat) (v : Value) :
  Con Tryz.prog W0 117 #[Value.pointer (some ⟨b, 0, none⟩)] [pt b 81 (bkC n v)] (X := Unit) (fun _ => True) (fun _ => .bool true) (fun _ => [pt b 81 (bkC n v)]) := by
 refine Con.of (args := [Value.pointer (some ⟨b, 0, none⟩)]) Tryz.func117 rfl Tryz.ntmps117 rfl (fun F => ?_)
 show Wc _ W0 _ _ _ _ _ ((pt b 81 (bkC n v)) :: F)
 refine Wc.seq ?_
 refine Wc.region ?_
 refine Wl.q (v := Value.bool false) (q_assign rfl) ?_
 refine Wl.done ?_
 refine Wx.go ?_
 refine Wc.seq ?_
 refine Wc.seq ?_
 refine Wc.region ?_
 refine Wl.q (v := Value.pointer (some ⟨b, 0, none⟩)) (q_move rfl) ?_
 refine Wl.q (v := Value.pointer (some ⟨b, 0, none⟩)) (q_nil_ptr rfl) ?_
 refine Wl.q (v := Value.pointer (some ⟨b, 20, none⟩)) (q_field (m := 20) fo_81_20 rfl rfl) ?_
 refine Wl.q (v := Value.slice none 0 0) (q_load sc_65 rfl (.cel (i := 0) rfl rfl)) ?_
 refine Wl.q (v := Value.int .i64 0) (q_len_slice Tryz.underlying65 rfl) ?_
 refine Wl.q (v := Value.int .i64 0) (q_move rfl) ?_
 refine Wl.done ?_
 refine Wx.go ?_
 refine Wc.block ?_
 refine Wc.rounds 1 ?_
 refine Wn.round ?_
 refine Wc.seq ?_
 refine Wc.region ?_
 refine Wl.q (v := Value.bool false) (q_lss (r := false) rfl rfl (decide_eq_false (by decide))) ?_
 refine Wl.done ?_
 refine Wx.go ?_
 refine Wc.seq ?_
 refine Wc.no rfl ?_
 refine Wc.exit ?_
 refine Wx.thenExit ?_
 refine Wx.thenExit ?_
 refine Wx.out ?_
 refine Wx.go ?_
 refine Wc.seq ?_
 refine Wc.region ?_
 refine Wl.q (v := Value.bool true) (q_assign rfl) ?_
 refine Wl.done ?_
 refine Wx.go ?_
 refine Wc.ret ?_
 refine Wx.fin1 rfl (.inl rfl) (fun w hs => ?_)
 exact ⟨(), trivial, rfl, hs⟩

theorem bk_fillWide (W0 : World) (b n : Nat) (v : Value) :
  Con Tryz.prog W0 33 #[Value.pointer (some ⟨b, 0, none⟩)] [pt b 81 (bkC n v)] (X := Unit) (fun _ => True) (fun _ => .tuple #[]) (fun _ => [pt b 81 (bkC n v)]) := by
 refine Con.of (args := [Value.pointer (some ⟨b, 0, none⟩)]) Tryz.func33 rfl Tryz.ntmps33 rfl (fun F => ?_)
 show Wc _ W0 _ _ _ _ _ ((pt b 81 (bkC n v)) :: F)
 refine Wc.seq ?_
 refine Wc.region ?_
 refine Wl.q (v := Value.pointer (some ⟨b, 0, none⟩)) (q_move rfl) ?_
 refine Wl.q (v := Value.pointer (some ⟨b, 0, none⟩)) (q_nil_ptr rfl) ?_
 refine Wl.q (v := Value.pointer (some ⟨b, 3, none⟩)) (q_field (m := 3) fo_81_3 rfl rfl) ?_
 refine Wl.q (v := Value.slice none 0 0) (q_load sc_48 rfl (.cel (i := 0) rfl rfl)) ?_
 refine Wl.q (v := Value.int .i64 0) (q_len_slice Tryz.underlying48 rfl) ?_
 refine Wl.q (v := Value.int .i64 0) (q_move rfl) ?_
 refine Wl.done ?_
 refine Wx.go ?_
 refine Wc.block ?_
 refine Wc.rounds 1 ?_
 refine Wn.round ?_
 refine Wc.seq ?_
 refine Wc.region ?_
 refine Wl.q (v := Value.bool false) (q_lss (r := false) rfl rfl (decide_eq_false (by decide))) ?_
 refine Wl.done ?_
 refine Wx.go ?_
 refine Wc.seq ?_
 refine Wc.no rfl ?_
 refine Wc.exit ?_
 refine Wx.thenExit ?_
 refine Wx.thenExit ?_
 refine Wx.out ?_
 refine Wx.fin0 rfl (.inr rfl) (fun w hs => ?_)
 exact ⟨(), trivial, rfl, hs⟩

theorem bk_growWide (W0 : World) (b n : Nat) (v : Value) :
  Con Tryz.prog W0 66 #[Value.pointer (some ⟨b, 0, none⟩)] [pt b 81 (bkC n v)] (X := Unit) (fun _ => True) (fun _ => .tuple #[]) (fun _ => [pt b 81 (bkC n v)]) := by
 refine Con.of (args := [Value.pointer (some ⟨b, 0, none⟩)]) Tryz.func66 rfl Tryz.ntmps66 rfl (fun F => ?_)
 show Wc _ W0 _ _ _ _ _ ((pt b 81 (bkC n v)) :: F)
 refine Wc.seq ?_
 refine Wc.region ?_
 refine Wl.q (v := Value.pointer (some ⟨b, 0, none⟩)) (q_move rfl) ?_
 refine Wl.q (v := Value.pointer (some ⟨b, 0, none⟩)) (q_nil_ptr rfl) ?_
 refine Wl.q (v := Value.pointer (some ⟨b, 3, none⟩)) (q_field (m := 3) fo_81_3 rfl rfl) ?_
 refine Wl.q (v := Value.slice none 0 0) (q_load sc_48 rfl (.cel (i := 0) rfl rfl)) ?_
 refine Wl.q (v := Value.int .i64 0) (q_len_slice Tryz.underlying48 rfl) ?_
 refine Wl.q (v := Value.int .i64 0) (q_move rfl) ?_
 refine Wl.done ?_
 refine Wx.go ?_
 refine Wc.block ?_
 refine Wc.rounds 1 ?_
 refine Wn.round ?_
 refine Wc.seq ?_
 refine Wc.region ?_
 refine Wl.q (v := Value.bool false) (q_lss (r := false) rfl rfl (decide_eq_false (by decide))) ?_
 refine Wl.done ?_
 refine Wx.go ?_
 refine Wc.seq ?_
 refine Wc.no rfl ?_
 refine Wc.exit ?_
 refine Wx.thenExit ?_
 refine Wx.thenExit ?_
 refine Wx.out ?_
 refine Wx.fin0 rfl (.inr rfl) (fun w hs => ?_)
 exact ⟨(), trivial, rfl, hs⟩

theorem bk_lookWide (W0 : World) (b n : Nat) (v : Value) :
  Con Tryz.prog W0 100 #[Value.pointer (some ⟨b, 0, none⟩)] [pt b 81 (bkC n v)] (X := Unit) (fun _ => True) (fun _ => .bool true) (fun _ => [pt b 81 (bkC n v)]) := by
 refine Con.of (args := [Value.pointer (some ⟨b, 0, none⟩)]) Tryz.func100 rfl Tryz.ntmps100 rfl (fun F => ?_)
 show Wc _ W0 _ _ _ _ _ ((pt b 81 (bkC n v)) :: F)
 refine Wc.seq ?_
 refine Wc.region ?_
 refine Wl.q (v := Value.bool false) (q_assign rfl) ?_
 refine Wl.done ?_
 refine Wx.go ?_
 refine Wc.seq ?_
 refine Wc.seq ?_
 refine Wc.region ?_
 refine Wl.q (v := Value.pointer (some ⟨b, 0, none⟩)) (q_move rfl) ?_
 refine Wl.q (v := Value.pointer (some ⟨b, 0, none⟩)) (q_nil_ptr rfl) ?_
 refine Wl.q (v := Value.pointer (some ⟨b, 3, none⟩)) (q_field (m := 3) fo_81_3 rfl rfl) ?_
 refine Wl.q (v := Value.slice none 0 0) (q_load sc_48 rfl (.cel (i := 0) rfl rfl)) ?_
 refine Wl.q (v := Value.int .i64 0) (q_len_slice Tryz.underlying48 rfl) ?_
 refine Wl.q (v := Value.int .i64 0) (q_move rfl) ?_
 refine Wl.done ?_
 refine Wx.go ?_
 refine Wc.block ?_
 refine Wc.rounds 1 ?_
 refine Wn.round ?_
 refine Wc.seq ?_
 refine Wc.region ?_
 refine Wl.q (v := Value.bool false) (q_lss (r := false) rfl rfl (decide_eq_false (by decide))) ?_
 refine Wl.done ?_
 refine Wx.go ?_
 refine Wc.seq ?_
 refine Wc.no rfl ?_
 refine Wc.exit ?_
 refine Wx.thenExit ?_
 refine Wx.thenExit ?_
 refine Wx.out ?_
 refine Wx.go ?_
 refine Wc.seq ?_
 refine Wc.region ?_
 refine Wl.q (v := Value.bool true) (q_assign rfl) ?_
 refine Wl.done ?_
 refine Wx.go ?_
 refine Wc.ret ?_
 refine Wx.fin1 rfl (.inl rfl) (fun w hs => ?_)
 exact ⟨(), trivial, rfl, hs⟩

theorem bk_fillWrite (W0 : World) (b n : Nat) (v : Value) :
  Con Tryz.prog W0 48 #[Value.pointer (some ⟨b, 0, none⟩)] [pt b 81 (bkC n v)] (X := Unit) (fun _ => True) (fun _ => .tuple #[]) (fun _ => [pt b 81 (bkC n v)]) := by
 refine Con.of (args := [Value.pointer (some ⟨b, 0, none⟩)]) Tryz.func48 rfl Tryz.ntmps48 rfl (fun F => ?_)
 show Wc _ W0 _ _ _ _ _ ((pt b 81 (bkC n v)) :: F)
 refine Wc.seq ?_
 refine Wc.region ?_
 refine Wl.q (v := Value.pointer (some ⟨b, 0, none⟩)) (q_move rfl) ?_
 refine Wl.q (v := Value.pointer (some ⟨b, 0, none⟩)) (q_nil_ptr rfl) ?_
 refine Wl.q (v := Value.pointer (some ⟨b, 18, none⟩)) (q_field (m := 18) fo_81_18 rfl rfl) ?_
 refine Wl.q (v := Value.slice none 0 0) (q_load sc_63 rfl (.cel (i := 0) rfl rfl)) ?_
 refine Wl.q (v := Value.int .i64 0) (q_len_slice Tryz.underlying63 rfl) ?_
 refine Wl.q (v := Value.int .i64 0) (q_move rfl) ?_
 refine Wl.done ?_
 refine Wx.go ?_
 refine Wc.block ?_
 refine Wc.rounds 1 ?_
 refine Wn.round ?_
 refine Wc.seq ?_
 refine Wc.region ?_
 refine Wl.q (v := Value.bool false) (q_lss (r := false) rfl rfl (decide_eq_false (by decide))) ?_
 refine Wl.done ?_
 refine Wx.go ?_
 refine Wc.seq ?_
 refine Wc.no rfl ?_
 refine Wc.exit ?_
 refine Wx.thenExit ?_
 refine Wx.thenExit ?_
 refine Wx.out ?_
 refine Wx.fin0 rfl (.inr rfl) (fun w hs => ?_)
 exact ⟨(), trivial, rfl, hs⟩

theorem bk_growWrite (W0 : World) (b n : Nat) (v : Value) :
  Con Tryz.prog W0 81 #[Value.pointer (some ⟨b, 0, none⟩)] [pt b 81 (bkC n v)] (X := Unit) (fun _ => True) (fun _ => .tuple #[]) (fun _ => [pt b 81 (bkC n v)]) := by
 refine Con.of (args := [Value.pointer (some ⟨b, 0, none⟩)]) Tryz.func81 rfl Tryz.ntmps81 rfl (fun F => ?_)
 show Wc _ W0 _ _ _ _ _ ((pt b 81 (bkC n v)) :: F)
 refine Wc.seq ?_
 refine Wc.region ?_
 refine Wl.q (v := Value.pointer (some ⟨b, 0, none⟩)) (q_move rfl) ?_
 refine Wl.q (v := Value.pointer (some ⟨b, 0, none⟩)) (q_nil_ptr rfl) ?_
 refine Wl.q (v := Value.pointer (some ⟨b, 18, none⟩)) (q_field (m := 18) fo_81_18 rfl rfl) ?_
 refine Wl.q (v := Value.slice none 0 0) (q_load sc_63 rfl (.cel (i := 0) rfl rfl)) ?_
 refine Wl.q (v := Value.int .i64 0) (q_len_slice Tryz.underlying63 rfl) ?_
 refine Wl.q (v := Value.int .i64 0) (q_move rfl) ?_
 refine Wl.done ?_
 refine Wx.go ?_
 refine Wc.block ?_
 refine Wc.rounds 1 ?_
 refine Wn.round ?_
 refine Wc.seq ?_
 refine Wc.region ?_
 refine Wl.q (v := Value.bool false) (q_lss (r := false) rfl rfl (decide_eq_false (by decide))) ?_
 refine Wl.done ?_
 refine Wx.go ?_
 refine Wc.seq ?_
 refine Wc.no rfl ?_
 refine Wc.exit ?_
 refine Wx.thenExit ?_
 refine Wx.thenExit ?_
 refine Wx.out ?_
 refine Wx.fin0 rfl (.inr rfl) (fun w hs => ?_)
 exact ⟨(), trivial, rfl, hs⟩

theorem bk_lookWrite (W0 : World) (b n : Nat) (v : Value) :
  Con Tryz.prog W0 115 #[Value.pointer (some ⟨b, 0, none⟩)] [pt b 81 (bkC n v)] (X := Unit) (fun _ => True) (fun _ => .bool true) (fun _ => [pt b 81 (bkC n v)]) := by
 refine Con.of (args := [Value.pointer (some ⟨b, 0, none⟩)]) Tryz.func115 rfl Tryz.ntmps115 rfl (fun F => ?_)
 show Wc _ W0 _ _ _ _ _ ((pt b 81 (bkC n v)) :: F)
 refine Wc.seq ?_
 refine Wc.region ?_
 refine Wl.q (v := Value.bool false) (q_assign rfl) ?_
 refine Wl.done ?_
 refine Wx.go ?_
 refine Wc.seq ?_
 refine Wc.seq ?_
 refine Wc.region ?_
 refine Wl.q (v := Value.pointer (some ⟨b, 0, none⟩)) (q_move rfl) ?_
 refine Wl.q (v := Value.pointer (some ⟨b, 0, none⟩)) (q_nil_ptr rfl) ?_
 refine Wl.q (v := Value.pointer (some ⟨b, 18, none⟩)) (q_field (m := 18) fo_81_18 rfl rfl) ?_
 refine Wl.q (v := Value.slice none 0 0) (q_load sc_63 rfl (.cel (i := 0) rfl rfl)) ?_
 refine Wl.q (v := Value.int .i64 0) (q_len_slice Tryz.underlying63 rfl) ?_
 refine Wl.q (v := Value.int .i64 0) (q_move rfl) ?_
 refine Wl.done ?_
 refine Wx.go ?_
 refine Wc.block ?_
 refine Wc.rounds 1 ?_
 refine Wn.round ?_
 refine Wc.seq ?_
 refine Wc.region ?_
 refine Wl.q (v := Value.bool false) (q_lss (r := false) rfl rfl (decide_eq_false (by decide))) ?_
 refine Wl.done ?_
 refine Wx.go ?_
 refine Wc.seq ?_
 refine Wc.no rfl ?_
 refine Wc.exit ?_
 refine Wx.thenExit ?_
 refine Wx.thenExit ?_
 refine Wx.out ?_
 refine Wx.go ?_
 refine Wc.seq ?_
 refine Wc.region ?_
 refine Wl.q (v := Value.bool true) (q_assign rfl) ?_
 refine Wl.done ?_
 refine Wx.go ?_
 refine Wc.ret ?_
 refine Wx.fin1 rfl (.inl rfl) (fun w hs => ?_)
 exact ⟨(), trivial, rfl, hs⟩

theorem bk_bits (W0 : World) (b n : Nat) (v : Value) (k : Int) :
  Con Tryz.prog W0 98 #[Value.pointer (some ⟨b, 0, none⟩), Value.int .u64 k] [pt b 81 (bkC n v)] (X := Unit) (fun _ => True) (fun _ => .bool true) (fun _ => [pt b 81 (bkC n v)]) := by
 refine Con.of (args := [Value.pointer (some ⟨b, 0, none⟩), Value.int .u64 k]) Tryz.func98 rfl Tryz.ntmps98 rfl (fun F => ?_)
 show Wc _ W0 _ _ _ _ _ ((pt b 81 (bkC n v)) :: F)
 refine Wc.seq ?_
 refine Wc.region ?_
 refine Wl.q (v := Value.bool false) (q_assign rfl) ?_
 refine Wl.done ?_
 refine Wx.go ?_
 refine Wc.seq ?_
 refine Wc.seq ?_
 refine Wc.region ?_
 refine Wl.q (v := Value.pointer (some ⟨b, 0, none⟩)) (q_move rfl) ?_
 refine Wl.q (v := Value.pointer (some ⟨b, 0, none⟩)) (q_nil_ptr rfl) ?_
 refine Wl.q (v := Value.pointer (some ⟨b, 1, none⟩)) (q_field (m := 1) fo_81_1 rfl rfl) ?_
 refine Wl.q (v := Value.slice none 0 0) (q_load sc_46 rfl (.cel (i := 0) rfl rfl)) ?_
 refine Wl.q (v := Value.int .i64 0) (q_len_slice Tryz.underlying46 rfl) ?_
 refine Wl.q (v := Value.int .i64 0) (q_move rfl) ?_
 refine Wl.done ?_
 refine Wx.go ?_
 refine Wc.block ?_
 refine Wc.rounds 1 ?_
 refine Wn.round ?_
 refine Wc.seq ?_
 refine Wc.region ?_
 refine Wl.q (v := Value.bool false) (q_lss (r := false) rfl rfl (decide_eq_false (by decide))) ?_
 refine Wl.done ?_
 refine Wx.go ?_
 refine Wc.seq ?_
 refine Wc.no rfl ?_
 refine Wc.exit ?_
 refine Wx.thenExit ?_
 refine Wx.thenExit ?_
 refine Wx.out ?_
 refine Wx.go ?_
 refine Wc.seq ?_
 refine Wc.seq ?_
 refine Wc.region ?_
 refine Wl.q (v := Value.pointer (some ⟨b, 0, none⟩)) (q_move rfl) ?_
 refine Wl.q (v := Value.pointer (some ⟨b, 0, none⟩)) (q_nil_ptr rfl) ?_
 refine Wl.q (v := Value.pointer (some ⟨b, 1, none⟩)) (q_field (m := 1) fo_81_1 rfl rfl) ?_
 refine Wl.q (v := Value.slice none 0 0) (q_load sc_46 rfl (.cel (i := 0) rfl rfl)) ?_
 refine Wl.q (v := Value.int .i64 0) (q_len_slice Tryz.underlying46 rfl) ?_
 refine Wl.q (v := Value.int .i64 0) (q_move rfl) ?_
 refine Wl.done ?_
 refine Wx.go ?_
 refine Wc.block ?_
 refine Wc.rounds 1 ?_
 refine Wn.round ?_
 refine Wc.seq ?_
 refine Wc.region ?_
 refine Wl.q (v := Value.bool false) (q_lss (r := false) rfl rfl (decide_eq_false (by decide))) ?_
 refine Wl.done ?_
 refine Wx.go ?_
 refine Wc.seq ?_
 refine Wc.no rfl ?_
 refine Wc.exit ?_
 refine Wx.thenExit ?_
 refine Wx.thenExit ?_
 refine Wx.out ?_
 refine Wx.go ?_
 refine Wc.seq ?_
 refine Wc.seq ?_
 refine Wc.region ?_
 refine Wl.q (v := Value.pointer (some ⟨b, 0, none⟩)) (q_move rfl) ?_
 refine Wl.q (v := Value.pointer (some ⟨b, 0, none⟩)) (q_nil_ptr rfl) ?_
 refine Wl.q (v := Value.pointer (some ⟨b, 1, none⟩)) (q_field (m := 1) fo_81_1 rfl rfl) ?_
 refine Wl.q (v := Value.slice none 0 0) (q_load sc_46 rfl (.cel (i := 0) rfl rfl)) ?_
 refine Wl.q (v := Value.int .i64 0) (q_len_slice Tryz.underlying46 rfl) ?_
 refine Wl.q (v := Value.int .i64 0) (q_move rfl) ?_
 refine Wl.done ?_
 refine Wx.go ?_
 refine Wc.block ?_
 refine Wc.rounds 1 ?_
 refine Wn.round ?_
 refine Wc.seq ?_
 refine Wc.region ?_
 refine Wl.q (v := Value.bool false) (q_lss (r := false) rfl rfl (decide_eq_false (by decide))) ?_
 refine Wl.done ?_
 refine Wx.go ?_
 refine Wc.seq ?_
 refine Wc.no rfl ?_
 refine Wc.exit ?_
 refine Wx.thenExit ?_
 refine Wx.thenExit ?_
 refine Wx.out ?_
 refine Wx.go ?_
 refine Wc.seq ?_
 refine Wc.region ?_
 refine Wl.q (v := Value.bool true) (q_assign rfl) ?_
 refine Wl.done ?_
 refine Wx.go ?_
 refine Wc.ret ?_
 refine Wx.fin1 rfl (.inl rfl) (fun w hs => ?_)
 exact ⟨(), trivial, rfl, hs⟩

end Go.Proofs.YtjjghmkjdgogiaaGreatDoor
