/-
The contract SlLaysF.n6 of the shelf, laid at this program.
-/
import Derived.Shelf.SlLaysF
import Derived.Test.YtbhlpnbidmnbkaaDoorProg
import Derived.Test.YtbhlpnbidmnbkaaDoorBase
import Derived.Shelf.SlLaysN
/-!
The contract SlLaysF.n6 of the shelf, laid at this program.
-/
namespace Go.Proofs.YtbhlpnbidmnbkaaDoor
set_option linter.unusedVariables false
set_option linter.unusedSimpArgs false
open Go.Shelf Go.Proofs
def laySort_ren : Go.Shelf.Ren := ⟨fun | 6 => 49 | 15 => 80 | 14 => 79 | 28 => 104 | 29 => 94 | 20 => 96 | 21 => 97 | 22 => 98 | 23 => 99 | 24 => 100 | 25 => 101 | 26 => 102 | 27 => 103 | 46 => 114 | 47 => 115 | 48 => 116 | 49 => 117 | 50 => 118 | 57 => 125 | n => n, fun | 22 => 47 | 24 => 9 | 25 => 53 | 3 => 3 | 39 => 99 | 0 => 0 | 53 => 127 | 55 => 26 | 4 => 4 | 46 => 120 | 45 => 119 | 50 => 124 | 5 => 5 | 9 => 9 | 66 => 135 | 70 => 139 | 76 => 151 | 77 => 152 | n => n, fun | n => n⟩
theorem laySort : SlLaysF.n6 Tryd.prog laySort_ren := {
  mixed := by kernel_rfl,
  f6 := ⟨Tryd.f49.name, by kernel_rfl, Tryd.func49.trans (congrArg some (by kernel_rfl))⟩,
  f14 := ⟨Tryd.f79.name, by kernel_rfl, Tryd.func79.trans (congrArg some (by kernel_rfl))⟩,
  f15 := Tryd.func80.trans (congrArg some (by kernel_rfl)),
  f20 := ⟨Tryd.f96.name, by kernel_rfl, Tryd.func96.trans (congrArg some (by kernel_rfl))⟩,
  f21 := ⟨Tryd.f97.name, by kernel_rfl, Tryd.func97.trans (congrArg some (by kernel_rfl))⟩,
  f22 := ⟨Tryd.f98.name, by kernel_rfl, Tryd.func98.trans (congrArg some (by kernel_rfl))⟩,
  f23 := ⟨Tryd.f99.name, by kernel_rfl, Tryd.func99.trans (congrArg some (by kernel_rfl))⟩,
  f24 := ⟨Tryd.f100.name, by kernel_rfl, Tryd.func100.trans (congrArg some (by kernel_rfl))⟩,
  f25 := ⟨Tryd.f101.name, by kernel_rfl, Tryd.func101.trans (congrArg some (by kernel_rfl))⟩,
  f26 := ⟨Tryd.f102.name, by kernel_rfl, Tryd.func102.trans (congrArg some (by kernel_rfl))⟩,
  f27 := ⟨Tryd.f103.name, by kernel_rfl, Tryd.func103.trans (congrArg some (by kernel_rfl))⟩,
  f28 := Tryd.func104.trans (congrArg some (by kernel_rfl)),
  f29 := Tryd.func94.trans (congrArg some (by kernel_rfl)),
  f46 := ⟨Tryd.f114.name, by kernel_rfl, Tryd.func114.trans (congrArg some (by kernel_rfl))⟩,
  f47 := Tryd.func115.trans (congrArg some (by kernel_rfl)),
  f48 := Tryd.func116.trans (congrArg some (by kernel_rfl)),
  f49 := ⟨Tryd.f117.name, by kernel_rfl, Tryd.func117.trans (congrArg some (by kernel_rfl))⟩,
  f50 := ⟨Tryd.f118.name, by kernel_rfl, Tryd.func118.trans (congrArg some (by kernel_rfl))⟩,
  f57 := ⟨Tryd.f125.name, by kernel_rfl, Tryd.func125.trans (congrArg some (by kernel_rfl))⟩,
  t0 := Tryd.underlying0,
  a0 := Tryd.isAgg0,
  z0 := Tryd.sizeOf0,
  v0 := Tryd.zeroValue0,
  t3 := Tryd.underlying3,
  a3 := Tryd.isAgg3,
  z3 := Tryd.sizeOf3,
  v3 := Tryd.zeroValue3,
  t4 := Tryd.underlying4,
  a4 := Tryd.isAgg4,
  z4 := Tryd.sizeOf4,
  v4 := Tryd.zeroValue4,
  t5 := Tryd.underlying5,
  a5 := Tryd.isAgg5,
  z5 := Tryd.sizeOf5,
  v5 := Tryd.zeroValue5,
  t9 := Tryd.underlying9,
  a9 := Tryd.isAgg9,
  z9 := Tryd.sizeOf9,
  v9 := Tryd.zeroValue9,
  t22 := Tryd.underlying47,
  a22 := Tryd.isAgg47,
  z22 := Tryd.sizeOf47,
  v22 := Tryd.zeroValue47,
  a24 := Tryd.isAgg9,
  z24 := Tryd.sizeOf9,
  t25 := Tryd.underlying53,
  a25 := Tryd.isAgg53,
  z25 := Tryd.sizeOf53,
  v25 := Tryd.zeroValue53,
  t39 := Tryd.underlying99,
  a39 := Tryd.isAgg99,
  z39 := Tryd.sizeOf99,
  v39 := Tryd.zeroValue99,
  t45 := Tryd.underlying119,
  a45 := Tryd.isAgg119,
  z45 := Tryd.sizeOf119,
  v45 := Tryd.zeroValue119,
  t46 := Tryd.underlying120,
  a46 := Tryd.isAgg120,
  z46 := Tryd.sizeOf120,
  v46 := Tryd.zeroValue120,
  t50 := Tryd.underlying124,
  a50 := Tryd.isAgg124,
  z50 := Tryd.sizeOf124,
  v50 := Tryd.zeroValue124,
  t53 := Tryd.underlying127,
  a53 := Tryd.isAgg127,
  z53 := Tryd.sizeOf127,
  v53 := Tryd.zeroValue127,
  t55 := Tryd.underlying26,
  a55 := Tryd.isAgg26,
  z55 := Tryd.sizeOf26,
  v55 := Tryd.zeroValue26,
  t66 := Tryd.underlying135,
  a66 := Tryd.isAgg135,
  z66 := Tryd.sizeOf135,
  v66 := Tryd.zeroValue135,
  t70 := Tryd.underlying139,
  a70 := Tryd.isAgg139,
  z70 := Tryd.sizeOf139,
  v70 := Tryd.zeroValue139,
  t76 := Tryd.underlying151,
  a76 := Tryd.isAgg151,
  z76 := Tryd.sizeOf151,
  v76 := Tryd.zeroValue151,
  t77 := Tryd.underlying152,
  a77 := Tryd.isAgg152,
  z77 := Tryd.sizeOf152,
  v77 := Tryd.zeroValue152 }
end Go.Proofs.YtbhlpnbidmnbkaaDoor
/-!
The contract SlLaysN.n44 of the shelf, laid at this program.
-/
namespace Go.Proofs.YtbhlpnbidmnbkaaDoor
set_option linter.unusedVariables false
set_option linter.unusedSimpArgs false
open Go.Shelf Go.Proofs
def layCompact_ren : Go.Shelf.Ren := ⟨fun | 44 => 53 | n => n, fun | 25 => 47 | 26 => 9 | 3 => 3 | 4 => 4 | 0 => 0 | n => n, fun | n => n⟩
theorem layCompact : SlLaysN.n44 Tryd.prog layCompact_ren := {
  mixed := by kernel_rfl,
  f44 := ⟨Tryd.f53.name, by kernel_rfl, Tryd.func53.trans (congrArg some (by kernel_rfl))⟩,
  t0 := Tryd.underlying0,
  a0 := Tryd.isAgg0,
  z0 := Tryd.sizeOf0,
  v0 := Tryd.zeroValue0,
  t3 := Tryd.underlying3,
  a3 := Tryd.isAgg3,
  z3 := Tryd.sizeOf3,
  v3 := Tryd.zeroValue3,
  t4 := Tryd.underlying4,
  a4 := Tryd.isAgg4,
  z4 := Tryd.sizeOf4,
  v4 := Tryd.zeroValue4,
  t25 := Tryd.underlying47,
  a25 := Tryd.isAgg47,
  z25 := Tryd.sizeOf47,
  v25 := Tryd.zeroValue47,
  t26 := Tryd.underlying9,
  a26 := Tryd.isAgg9,
  z26 := Tryd.sizeOf9,
  v26 := Tryd.zeroValue9,
  i26 := by kernel_rfl }
end Go.Proofs.YtbhlpnbidmnbkaaDoor
