/- A part of the proof. -/
import Derived.Test.YtjnejkdamhefgaaGreatDoorStC
namespace Go.Proofs.YtjnejkdamhefgaaGreatDoor
open Tryz
open Go Go.SL Go.St Go.Wr Go.RowKit
open Go.Dk (DS WF)
open Go.Jn (JS Ok openD_up)
set_option linter.unusedVariables false
set_option maxRecDepth 8000
theorem fo_97_1 : fieldOff prog 97 1 = some 1 := by kernel_rfl
theorem sc_62 : scalar prog 62 = true := by kernel_rfl
theorem splice_map {α : Type} {f : α → Value} {l : List α} {a : Nat} {s : α} (h : a < l.length) : splice (l.map f) a [f s] = (l.set a s).map f := by
 rw [splice, List.map_set, List.set_eq_take_append_cons_drop, if_pos (by simpa using h)]
 simp
theorem map_at {α : Type} {f : α → Value} {l : List α} {i : Nat} {x : α} (h : l[i]? = some x) : (l.map f)[i]? = some (f x) := by rw [List.getElem?_map, h]; rfl
def bkC (n : Nat) (v : Value) : List Value := [.int .i64 ((n : Nat) : Int), .slice none 0 0, .slice none 0 0, .slice none 0 0, v, Value.slice none 0 0, Value.slice none 0 0, Value.slice none 0 0, Value.slice none 0 0, Value.slice none 0 0, Value.slice none 0 0, Value.slice none 0 0, Value.slice none 0 0, Value.slice none 0 0, Value.slice none 0 0, Value.slice none 0 0, Value.slice none 0 0, Value.slice none 0 0, Value.slice none 0 0, Value.slice none 0 0, Value.slice none 0 0, Value.slice none 0 0, Value.slice none 0 0, Value.slice none 0 0, Value.slice none 0 0, Value.slice none 0 0, Value.slice none 0 0, Value.slice none 0 0, Value.slice none 0 0, Value.slice none 0 0, Value.slice none 0 0, Value.slice none 0 0, Value.slice none 0 0, Value.slice none 0 0, Value.slice none 0 0]
theorem fo97 {i : Nat} (h : i < 35 := by decide) : fieldOff prog 97 i = some i := by
 have := List.all_eq_true.1 (show ((List.range 35).all fun i => fieldOff prog 97 i == some i) = true by kernel_rfl) i (List.mem_range.2 h)
 simpa using this
theorem scB {t : Nat} (h : 62 ≤ t ∧ t < 96 := by decide) : scalar prog t = true := by
 have : (decide (t < 62) || scalar prog t) = true := List.all_eq_true.1 (show ((List.range 96).all fun t => decide (t < 62) || scalar prog t) = true by kernel_rfl) t (List.mem_range.2 h.2)
 rwa [decide_eq_false (Nat.not_lt.2 h.1), Bool.false_or] at this
noncomputable def isSl (t : Nat) : Bool := match prog.underlying t with
 | some (.slice _) => true
 | _ => false
theorem unB {t : Nat} (h : 62 ≤ t ∧ t < 96 := by decide) : ∃ e, prog.underlying t = some (.slice e) := by
 have : (decide (t < 62) || isSl t) = true := List.all_eq_true.1 (show ((List.range 96).all fun t => decide (t < 62) || isSl t) = true by kernel_rfl) t (List.mem_range.2 h.2)
 rw [decide_eq_false (Nat.not_lt.2 h.1), Bool.false_or] at this
 unfold isSl at this
 split at this
 · rename_i e he; exact ⟨e, he⟩
 · cases this
def BkC_fill (f : Nat) : Prop := ∀ (W0 : World) (b n : Nat) (v : Value), Con prog W0 f #[Vp b] [pt b 97 (bkC n v)] (X := Unit) (fun _ => True) (fun _ => .tuple #[]) (fun _ => [pt b 97 (bkC n v)])
theorem bk_fills : ∀ f ∈ [60, 66, 81, 63, 73, 82, 75, 79, 68, 64, 61, 59, 83, 80, 77, 71, 65, 54, 86, 67, 84, 62, 78, 76, 58, 74, 69, 57, 85, 72, 55, 70], BkC_fill f := by
 simp only [List.forall_mem_cons]
 refine ⟨fun W0 b n v => Con.of func60 rfl ntmps60 rfl (fun F => ?_), fun W0 b n v => Con.of func66 rfl ntmps66 rfl (fun F => ?_), fun W0 b n v => Con.of func81 rfl ntmps81 rfl (fun F => ?_), fun W0 b n v => Con.of func63 rfl ntmps63 rfl (fun F => ?_), fun W0 b n v => Con.of func73 rfl ntmps73 rfl (fun F => ?_), fun W0 b n v => Con.of func82 rfl ntmps82 rfl (fun F => ?_), fun W0 b n v => Con.of func75 rfl ntmps75 rfl (fun F => ?_), fun W0 b n v => Con.of func79 rfl ntmps79 rfl (fun F => ?_), fun W0 b n v => Con.of func68 rfl ntmps68 rfl (fun F => ?_), fun W0 b n v => Con.of func64 rfl ntmps64 rfl (fun F => ?_), fun W0 b n v => Con.of func61 rfl ntmps61 rfl (fun F => ?_), fun W0 b n v => Con.of func59 rfl ntmps59 rfl (fun F => ?_), fun W0 b n v => Con.of func83 rfl ntmps83 rfl (fun F => ?_), fun W0 b n v => Con.of func80 rfl ntmps80 rfl (fun F => ?_), fun W0 b n v => Con.of func77 rfl ntmps77 rfl (fun F => ?_), fun W0 b n v => Con.of func71 rfl ntmps71 rfl (fun F => ?_), fun W0 b n v => Con.of func65 rfl ntmps65 rfl (fun F => ?_), fun W0 b n v => Con.of func54 rfl ntmps54 rfl (fun F => ?_), fun W0 b n v => Con.of func86 rfl ntmps86 rfl (fun F => ?_), fun W0 b n v => Con.of func67 rfl ntmps67 rfl (fun F => ?_), fun W0 b n v => Con.of func84 rfl ntmps84 rfl (fun F => ?_), fun W0 b n v => Con.of func62 rfl ntmps62 rfl (fun F => ?_), fun W0 b n v => Con.of func78 rfl ntmps78 rfl (fun F => ?_), fun W0 b n v => Con.of func76 rfl ntmps76 rfl (fun F => ?_), fun W0 b n v => Con.of func58 rfl ntmps58 rfl (fun F => ?_), fun W0 b n v => Con.of func74 rfl ntmps74 rfl (fun F => ?_), fun W0 b n v => Con.of func69 rfl ntmps69 rfl (fun F => ?_), fun W0 b n v => Con.of func57 rfl ntmps57 rfl (fun F => ?_), fun W0 b n v => Con.of func85 rfl ntmps85 rfl (fun F => ?_), fun W0 b n v => Con.of func72 rfl ntmps72 rfl (fun F => ?_), fun W0 b n v => Con.of func55 rfl ntmps55 rfl (fun F => ?_), fun W0 b n v => Con.of func70 rfl ntmps70 rfl (fun F => ?_), fun _ h => by cases h⟩
 all_goals
  show Wc _ W0 _ _ _ _ _ ((pt b 97 (bkC n v)) :: F)
  refine Wc.b 2 rfl (Wl.q (q_field fo97 rfl rfl) (Wl.q (q_load scB rfl (.cel (i := 0) rfl rfl)) (Wl.q (q_len_slice (Exists.choose_spec unB) rfl) (Wl.rg 1 rfl (Wc.block (Wc.rounds 1 ?_))))))
  refine Wn.round ?_
  refine Wc.sr (Wl.q (q_lss rfl rfl (df (by decide))) (Wl.dg (Wc.seq (Wc.no rfl (Wc.exit (Wx.thenExit (Wx.thenExit (Wx.out (Wx.fin0 rfl (.inr rfl) (fun w hs => ?_))))))))))
  exact ⟨(), trivial, rfl, hs⟩
theorem bkf (f : Nat) (h : [60, 66, 81, 63, 73, 82, 75, 79, 68, 64, 61, 59, 83, 80, 77, 71, 65, 54, 86, 67, 84, 62, 78, 76, 58, 74, 69, 57, 85, 72, 55, 70].contains f = true := by rfl) : BkC_fill f := bk_fills f (List.contains_iff_mem.1 h)
def BkC_grow (f : Nat) : Prop := ∀ (W0 : World) (b n : Nat) (v : Value), Con prog W0 f #[Vp b] [pt b 97 (bkC n v)] (X := Unit) (fun _ => True) (fun _ => .tuple #[]) (fun _ => [pt b 97 (bkC n v)])
theorem bk_grows : ∀ f ∈ [93, 99, 114, 96, 106, 115, 108, 112, 101, 97, 94, 92, 116, 113, 110, 104, 98, 87, 119, 100, 117, 95, 111, 109, 91, 107, 102, 90, 118, 105, 88, 103], BkC_grow f := by
 simp only [List.forall_mem_cons]
 refine ⟨fun W0 b n v => Con.of func93 rfl ntmps93 rfl (fun F => ?_), fun W0 b n v => Con.of func99 rfl ntmps99 rfl (fun F => ?_), fun W0 b n v => Con.of func114 rfl ntmps114 rfl (fun F => ?_), fun W0 b n v => Con.of func96 rfl ntmps96 rfl (fun F => ?_), fun W0 b n v => Con.of func106 rfl ntmps106 rfl (fun F => ?_), fun W0 b n v => Con.of func115 rfl ntmps115 rfl (fun F => ?_), fun W0 b n v => Con.of func108 rfl ntmps108 rfl (fun F => ?_), fun W0 b n v => Con.of func112 rfl ntmps112 rfl (fun F => ?_), fun W0 b n v => Con.of func101 rfl ntmps101 rfl (fun F => ?_), fun W0 b n v => Con.of func97 rfl ntmps97 rfl (fun F => ?_), fun W0 b n v => Con.of func94 rfl ntmps94 rfl (fun F => ?_), fun W0 b n v => Con.of func92 rfl ntmps92 rfl (fun F => ?_), fun W0 b n v => Con.of func116 rfl ntmps116 rfl (fun F => ?_), fun W0 b n v => Con.of func113 rfl ntmps113 rfl (fun F => ?_), fun W0 b n v => Con.of func110 rfl ntmps110 rfl (fun F => ?_), fun W0 b n v => Con.of func104 rfl ntmps104 rfl (fun F => ?_), fun W0 b n v => Con.of func98 rfl ntmps98 rfl (fun F => ?_), fun W0 b n v => Con.of func87 rfl ntmps87 rfl (fun F => ?_), fun W0 b n v => Con.of func119 rfl ntmps119 rfl (fun F => ?_), fun W0 b n v => Con.of func100 rfl ntmps100 rfl (fun F => ?_), fun W0 b n v => Con.of func117 rfl ntmps117 rfl (fun F => ?_), fun W0 b n v => Con.of func95 rfl ntmps95 rfl (fun F => ?_), fun W0 b n v => Con.of func111 rfl ntmps111 rfl (fun F => ?_), fun W0 b n v => Con.of func109 rfl ntmps109 rfl (fun F => ?_), fun W0 b n v => Con.of func91 rfl ntmps91 rfl (fun F => ?_), fun W0 b n v => Con.of func107 rfl ntmps107 rfl (fun F => ?_), fun W0 b n v => Con.of func102 rfl ntmps102 rfl (fun F => ?_), fun W0 b n v => Con.of func90 rfl ntmps90 rfl (fun F => ?_), fun W0 b n v => Con.of func118 rfl ntmps118 rfl (fun F => ?_), fun W0 b n v => Con.of func105 rfl ntmps105 rfl (fun F => ?_), fun W0 b n v => Con.of func88 rfl ntmps88 rfl (fun F => ?_), fun W0 b n v => Con.of func103 rfl ntmps103 rfl (fun F => ?_), fun _ h => by cases h⟩
 all_goals
  show Wc _ W0 _ _ _ _ _ ((pt b 97 (bkC n v)) :: F)
  refine Wc.b 2 rfl (Wl.q (q_field fo97 rfl rfl) (Wl.q (q_load scB rfl (.cel (i := 0) rfl rfl)) (Wl.q (q_len_slice (Exists.choose_spec unB) rfl) (Wl.rg 1 rfl (Wc.block (Wc.rounds 1 ?_))))))
  refine Wn.round ?_
  refine Wc.sr (Wl.q (q_lss rfl rfl (df (by decide))) (Wl.dg (Wc.seq (Wc.no rfl (Wc.exit (Wx.thenExit (Wx.thenExit (Wx.out (Wx.fin0 rfl (.inr rfl) (fun w hs => ?_))))))))))
  exact ⟨(), trivial, rfl, hs⟩
theorem bkg (f : Nat) (h : [93, 99, 114, 96, 106, 115, 108, 112, 101, 97, 94, 92, 116, 113, 110, 104, 98, 87, 119, 100, 117, 95, 111, 109, 91, 107, 102, 90, 118, 105, 88, 103].contains f = true := by rfl) : BkC_grow f := bk_grows f (List.contains_iff_mem.1 h)
def BkC_look (f : Nat) : Prop := ∀ (W0 : World) (b n : Nat) (v : Value), Con prog W0 f #[Vp b] [pt b 97 (bkC n v)] (X := Unit) (fun _ => True) (fun _ => .bool true) (fun _ => [pt b 97 (bkC n v)])
theorem bk_looks : ∀ f ∈ [127, 133, 148, 130, 140, 149, 142, 146, 135, 131, 128, 126, 150, 147, 144, 138, 132, 121, 153, 134, 151, 129, 145, 143, 125, 141, 136, 124, 152, 139, 122, 137], BkC_look f := by
 simp only [List.forall_mem_cons]
 refine ⟨fun W0 b n v => Con.of func127 rfl ntmps127 rfl (fun F => ?_), fun W0 b n v => Con.of func133 rfl ntmps133 rfl (fun F => ?_), fun W0 b n v => Con.of func148 rfl ntmps148 rfl (fun F => ?_), fun W0 b n v => Con.of func130 rfl ntmps130 rfl (fun F => ?_), fun W0 b n v => Con.of func140 rfl ntmps140 rfl (fun F => ?_), fun W0 b n v => Con.of func149 rfl ntmps149 rfl (fun F => ?_), fun W0 b n v => Con.of func142 rfl ntmps142 rfl (fun F => ?_), fun W0 b n v => Con.of func146 rfl ntmps146 rfl (fun F => ?_), fun W0 b n v => Con.of func135 rfl ntmps135 rfl (fun F => ?_), fun W0 b n v => Con.of func131 rfl ntmps131 rfl (fun F => ?_), fun W0 b n v => Con.of func128 rfl ntmps128 rfl (fun F => ?_), fun W0 b n v => Con.of func126 rfl ntmps126 rfl (fun F => ?_), fun W0 b n v => Con.of func150 rfl ntmps150 rfl (fun F => ?_), fun W0 b n v => Con.of func147 rfl ntmps147 rfl (fun F => ?_), fun W0 b n v => Con.of func144 rfl ntmps144 rfl (fun F => ?_), fun W0 b n v => Con.of func138 rfl ntmps138 rfl (fun F => ?_), fun W0 b n v => Con.of func132 rfl ntmps132 rfl (fun F => ?_), fun W0 b n v => Con.of func121 rfl ntmps121 rfl (fun F => ?_), fun W0 b n v => Con.of func153 rfl ntmps153 rfl (fun F => ?_), fun W0 b n v => Con.of func134 rfl ntmps134 rfl (fun F => ?_), fun W0 b n v => Con.of func151 rfl ntmps151 rfl (fun F => ?_), fun W0 b n v => Con.of func129 rfl ntmps129 rfl (fun F => ?_), fun W0 b n v => Con.of func145 rfl ntmps145 rfl (fun F => ?_), fun W0 b n v => Con.of func143 rfl ntmps143 rfl (fun F => ?_), fun W0 b n v => Con.of func125 rfl ntmps125 rfl (fun F => ?_), fun W0 b n v => Con.of func141 rfl ntmps141 rfl (fun F => ?_), fun W0 b n v => Con.of func136 rfl ntmps136 rfl (fun F => ?_), fun W0 b n v => Con.of func124 rfl ntmps124 rfl (fun F => ?_), fun W0 b n v => Con.of func152 rfl ntmps152 rfl (fun F => ?_), fun W0 b n v => Con.of func139 rfl ntmps139 rfl (fun F => ?_), fun W0 b n v => Con.of func122 rfl ntmps122 rfl (fun F => ?_), fun W0 b n v => Con.of func137 rfl ntmps137 rfl (fun F => ?_), fun _ h => by cases h⟩
 all_goals
  show Wc _ W0 _ _ _ _ _ ((pt b 97 (bkC n v)) :: F)
  refine Wc.a 1 rfl (Wc.seq (Wc.b 2 rfl (Wl.q (q_field fo97 rfl rfl) (Wl.q (q_load scB rfl (.cel (i := 0) rfl rfl)) (Wl.q (q_len_slice (Exists.choose_spec unB) rfl) (Wl.rg 1 rfl (Wc.block (Wc.rounds 1 ?_))))))))
  refine Wn.round ?_
  refine Wc.sr (Wl.q (q_lss rfl rfl (df (by decide))) (Wl.dg (Wc.seq (Wc.no rfl (Wc.exit (Wx.thenExit (Wx.thenExit (Wx.out (Wx.go (Wc.a 1 rfl (Wc.ret (Wx.f1 rfl (fun w hs => ?_)))))))))))))
  exact ⟨(), trivial, rfl, hs⟩
theorem bkl (f : Nat) (h : [127, 133, 148, 130, 140, 149, 142, 146, 135, 131, 128, 126, 150, 147, 144, 138, 132, 121, 153, 134, 151, 129, 145, 143, 125, 141, 136, 124, 152, 139, 122, 137].contains f = true := by rfl) : BkC_look f := bk_looks f (List.contains_iff_mem.1 h)
theorem bk_bits (W0 : World) (b n : Nat) (v : Value) (k : Int) :
  Con1 prog W0 120 #[Vp b, Value.int .u64 k] [pt b 97 (bkC n v)] (.bool true) [pt b 97 (bkC n v)] := by
 refine Con.of func120 rfl ntmps120 rfl (fun F => ?_)
 show Wc _ W0 _ _ _ _ _ ((pt b 97 (bkC n v)) :: F)
 refine Wc.a 1 rfl (Wc.seq (Wc.b 2 rfl (Wl.q (q_field (m := 1) fo_97_1 rfl rfl) (Wl.q (q_c 0 sc_62 rfl rfl rfl) (Wl.q (q_len_slice underlying62 rfl) (Wl.rg 1 rfl (Wc.block (Wc.rounds 1 ?_))))))))
 refine Wn.round ?_
 refine Wc.sr (Wl.q (q_lss rfl rfl (df (by decide))) (Wl.dg (Wc.seq (Wc.no rfl (Wc.exit (Wx.thenExit (Wx.thenExit (Wx.out (Wx.go (Wc.seq (Wc.b 2 rfl (Wl.q (q_field (m := 1) fo_97_1 rfl rfl) (Wl.q (q_c 0 sc_62 rfl rfl rfl) (Wl.q (q_len_slice underlying62 rfl) (Wl.rg 1 rfl (Wc.block (Wc.rounds 1 ?_)))))))))))))))))
 refine Wn.round ?_
 refine Wc.sr (Wl.q (q_lss rfl rfl (df (by decide))) (Wl.dg (Wc.seq (Wc.no rfl (Wc.exit (Wx.thenExit (Wx.thenExit (Wx.out (Wx.go (Wc.seq (Wc.b 2 rfl (Wl.q (q_field (m := 1) fo_97_1 rfl rfl) (Wl.q (q_c 0 sc_62 rfl rfl rfl) (Wl.q (q_len_slice underlying62 rfl) (Wl.rg 1 rfl (Wc.block (Wc.rounds 1 ?_)))))))))))))))))
 refine Wn.round ?_
 refine Wc.sr (Wl.q (q_lss rfl rfl (df (by decide))) (Wl.dg (Wc.seq (Wc.no rfl (Wc.exit (Wx.thenExit (Wx.thenExit (Wx.out (Wx.go (Wc.a 1 rfl (Wc.ret (Wx.f1 rfl (fun w hs => ?_)))))))))))))
 exact ⟨(), trivial, rfl, hs⟩
end Go.Proofs.YtjnejkdamhefgaaGreatDoor
