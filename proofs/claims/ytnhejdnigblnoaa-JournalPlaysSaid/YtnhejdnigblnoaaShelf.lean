/- Contracts of the library, laid at this dump. -/
import Derived.Shelf.Strings.Builder1
import Derived.Shelf.Strings.Builder2
import Derived.Shelf.Strings.BuilderF
import Derived.Shelf.Strings.Prefix
import Derived.Shelf.Bits.Mul64
import Derived.Shelf.Strings.Repeat
import Derived.Test.YtnhejdnigblnoaaProg
namespace Go.Proofs
open Go.Shelf
def Try.lays105_ren : Go.Shelf.Ren := ⟨fun | 105 => 72 | 212 => 75 | 99 => 76 | 165 => 77 | 166 => 60 | 170 => 59 | 169 => 61 | 263 => 79 | 264 => 80 | 206 => 81 | 240 => 73 | 241 => 82 | 276 => 78 | 277 => 83 | n => n, fun | 9 => 9 | 3 => 3 | 4 => 4 | 20 => 20 | 0 => 0 | 46 => 91 | 109 => 110 | 5 => 5 | 72 => 94 | 76 => 97 | 51 => 116 | 146 => 117 | 53 => 119 | 148 => 120 | 70 => 92 | 37 => 71 | 75 => 96 | 127 => 108 | 164 => 114 | 80 => 77 | n => n, fun | n => n⟩
theorem Try.lays105 : Go.Proofs.Lays.n105 Try.prog Try.lays105_ren := {
 mixed := by kernel_rfl
 f99 := Try.func76.trans (congrArg some (by kernel_rfl))
 f105 := Try.func72.trans (congrArg some (by kernel_rfl))
 f165 := Try.func77.trans (congrArg some (by kernel_rfl))
 f166 := Try.func60.trans (congrArg some (by kernel_rfl))
 f169 := Try.func61.trans (congrArg some (by kernel_rfl))
 f170 := Try.func59.trans (congrArg some (by kernel_rfl))
 f206 := Try.func81.trans (congrArg some (by kernel_rfl))
 f212 := Try.func75.trans (congrArg some (by kernel_rfl))
 f240 := Try.func73.trans (congrArg some (by kernel_rfl))
 f241 := Try.func82.trans (congrArg some (by kernel_rfl))
 f263 := Try.func79.trans (congrArg some (by kernel_rfl))
 f264 := Try.func80.trans (congrArg some (by kernel_rfl))
 f276 := Try.func78.trans (congrArg some (by kernel_rfl))
 f277 := Try.func83.trans (congrArg some (by kernel_rfl))
 t0 := Try.underlying0
 a0 := Try.isAgg0
 z0 := Try.sizeOf0
 v0 := Try.zeroValue0
 t3 := Try.underlying3
 a3 := Try.isAgg3
 z3 := Try.sizeOf3
 v3 := Try.zeroValue3
 t4 := Try.underlying4
 a4 := Try.isAgg4
 z4 := Try.sizeOf4
 v4 := Try.zeroValue4
 t5 := Try.underlying5
 a5 := Try.isAgg5
 z5 := Try.sizeOf5
 v5 := Try.zeroValue5
 t9 := Try.underlying9
 a9 := Try.isAgg9
 z9 := Try.sizeOf9
 v9 := Try.zeroValue9
 t20 := Try.underlying20
 a20 := Try.isAgg20
 z20 := Try.sizeOf20
 v20 := Try.zeroValue20
 t37 := Try.underlying71
 a37 := Try.isAgg71
 z37 := Try.sizeOf71
 v37 := Try.zeroValue71
 t46 := Try.underlying91
 a46 := Try.isAgg91
 z46 := Try.sizeOf91
 v46 := Try.zeroValue91
 t51 := Try.underlying116
 a51 := Try.isAgg116
 z51 := Try.sizeOf116
 v51 := Try.zeroValue116
 t53 := Try.underlying119
 a53 := Try.isAgg119
 z53 := Try.sizeOf119
 v53 := Try.zeroValue119
 t70 := Try.underlying92
 a70 := Try.isAgg92
 z70 := Try.sizeOf92
 v70 := Try.zeroValue92
 t72 := Try.underlying94
 a72 := Try.isAgg94
 z72 := Try.sizeOf94
 v72 := Try.zeroValue94
 t75 := Try.underlying96
 a75 := Try.isAgg96
 z75 := Try.sizeOf96
 v75 := Try.zeroValue96
 t76 := Try.underlying97
 a76 := Try.isAgg97
 z76 := Try.sizeOf97
 v76 := Try.zeroValue97
 t109 := Try.underlying110
 a109 := Try.isAgg110
 z109 := Try.sizeOf110
 v109 := Try.zeroValue110
 t127 := Try.underlying108
 a127 := Try.isAgg108
 z127 := Try.sizeOf108
 v127 := Try.zeroValue108
 t146 := Try.underlying117
 a146 := Try.isAgg117
 z146 := Try.sizeOf117
 v146 := Try.zeroValue117
 t148 := Try.underlying120
 a148 := Try.isAgg120
 z148 := Try.sizeOf120
 v148 := Try.zeroValue120
 t164 := Try.underlying114
 a164 := Try.isAgg114
 z164 := Try.sizeOf114
 v164 := Try.zeroValue114 }
theorem Try.Builder_Extra_105 : Builder.Extra Try.prog Try.lays105_ren := {
 sizeBuilder := by kernel_rfl
 liesBuilder := by kernel_rfl
 t5 := Try.underlying5
 a5 := Try.isAgg5
 z5 := Try.sizeOf5
 v5 := Try.zeroValue5
 infoByte := by kernel_rfl
 cellsByte := by kernel_rfl
 sizeByte := by kernel_rfl
 neB5 := by decide }
open Go.RowKit Go.Lib in

theorem Try.strings_Repeat (s : ByteArray) (c : Nat) (w : World) (hc : c ≤ 9223372036854775807) (hlen : s.size * c ≤ 140737488355328) :
  Calls Try.prog 72 #[.string s, .int .i64 c] w fun e w' => e = .returned (.string ⟨(Lib.repeatL s.data.toList c).toArray⟩) ∧ Below w.heap.size w w' := Any.strings_Repeat Try.lays105 Try.Builder_Extra_105 s c w hc hlen
end Go.Proofs
