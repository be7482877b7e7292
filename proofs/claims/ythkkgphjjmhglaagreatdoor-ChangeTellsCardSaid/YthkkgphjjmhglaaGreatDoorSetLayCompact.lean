/-
The contract SlLaysF.n6 of the shelf, laid at this program.
-/
import Derived.Shelf.SlLaysF
import Derived.Test.YthkkgphjjmhglaaGreatDoorProg
import Derived.Test.YthkkgphjjmhglaaGreatDoorBase
import Derived.Shelf.SlLaysN
/-!
The contract SlLaysF.n6 of the shelf, laid at this program.
-/
namespace Go.Proofs.YthkkgphjjmhglaaGreatDoor
set_option linter.unusedVariables false
set_option linter.unusedSimpArgs false
open Go.Shelf Go.Proofs
def laySort_ren : Go.Shelf.Ren := ⟨fun | 6 => 158 | 15 => 202 | 14 => 201 | 28 => 241 | 29 => 119 | 20 => 233 | 21 => 234 | 22 => 235 | 23 => 236 | 24 => 237 | 25 => 238 | 26 => 239 | 27 => 240 | 46 => 262 | 47 => 263 | 48 => 264 | 49 => 265 | 50 => 266 | 57 => 275 | n => n, fun | 22 => 72 | 24 => 9 | 25 => 210 | 3 => 3 | 39 => 233 | 0 => 0 | 53 => 280 | 55 => 29 | 4 => 4 | 46 => 302 | 45 => 301 | 50 => 228 | 5 => 5 | 9 => 9 | 66 => 330 | 70 => 334 | 76 => 346 | 77 => 176 | n => n, fun | n => n⟩
theorem laySort : SlLaysF.n6 Tryz.prog laySort_ren := {
  mixed := by kernel_rfl,
  f6 := ⟨Tryz.f158.name, by kernel_rfl, Tryz.func158.trans (congrArg some (by kernel_rfl))⟩,
  f14 := ⟨Tryz.f201.name, by kernel_rfl, Tryz.func201.trans (congrArg some (by kernel_rfl))⟩,
  f15 := Tryz.func202.trans (congrArg some (by kernel_rfl)),
  f20 := ⟨Tryz.f233.name, by kernel_rfl, Tryz.func233.trans (congrArg some (by kernel_rfl))⟩,
  f21 := ⟨Tryz.f234.name, by kernel_rfl, Tryz.func234.trans (congrArg some (by kernel_rfl))⟩,
  f22 := ⟨Tryz.f235.name, by kernel_rfl, Tryz.func235.trans (congrArg some (by kernel_rfl))⟩,
  f23 := ⟨Tryz.f236.name, by kernel_rfl, Tryz.func236.trans (congrArg some (by kernel_rfl))⟩,
  f24 := ⟨Tryz.f237.name, by kernel_rfl, Tryz.func237.trans (congrArg some (by kernel_rfl))⟩,
  f25 := ⟨Tryz.f238.name, by kernel_rfl, Tryz.func238.trans (congrArg some (by kernel_rfl))⟩,
  f26 := ⟨Tryz.f239.name, by kernel_rfl, Tryz.func239.trans (congrArg some (by kernel_rfl))⟩,
  f27 := ⟨Tryz.f240.name, by kernel_rfl, Tryz.func240.trans (congrArg some (by kernel_rfl))⟩,
  f28 := Tryz.func241.trans (congrArg some (by kernel_rfl)),
  f29 := Tryz.func119.trans (congrArg some (by kernel_rfl)),
  f46 := ⟨Tryz.f262.name, by kernel_rfl, Tryz.func262.trans (congrArg some (by kernel_rfl))⟩,
  f47 := Tryz.func263.trans (congrArg some (by kernel_rfl)),
  f48 := Tryz.func264.trans (congrArg some (by kernel_rfl)),
  f49 := ⟨Tryz.f265.name, by kernel_rfl, Tryz.func265.trans (congrArg some (by kernel_rfl))⟩,
  f50 := ⟨Tryz.f266.name, by kernel_rfl, Tryz.func266.trans (congrArg some (by kernel_rfl))⟩,
  f57 := ⟨Tryz.f275.name, by kernel_rfl, Tryz.func275.trans (congrArg some (by kernel_rfl))⟩,
  t0 := Tryz.underlying0,
  a0 := Tryz.isAgg0,
  z0 := Tryz.sizeOf0,
  v0 := Tryz.zeroValue0,
  t3 := Tryz.underlying3,
  a3 := Tryz.isAgg3,
  z3 := Tryz.sizeOf3,
  v3 := Tryz.zeroValue3,
  t4 := Tryz.underlying4,
  a4 := Tryz.isAgg4,
  z4 := Tryz.sizeOf4,
  v4 := Tryz.zeroValue4,
  t5 := Tryz.underlying5,
  a5 := Tryz.isAgg5,
  z5 := Tryz.sizeOf5,
  v5 := Tryz.zeroValue5,
  t9 := Tryz.underlying9,
  a9 := Tryz.isAgg9,
  z9 := Tryz.sizeOf9,
  v9 := Tryz.zeroValue9,
  t22 := Tryz.underlying72,
  a22 := Tryz.isAgg72,
  z22 := Tryz.sizeOf72,
  v22 := Tryz.zeroValue72,
  a24 := Tryz.isAgg9,
  z24 := Tryz.sizeOf9,
  t25 := Tryz.underlying210,
  a25 := Tryz.isAgg210,
  z25 := Tryz.sizeOf210,
  v25 := Tryz.zeroValue210,
  t39 := Tryz.underlying233,
  a39 := Tryz.isAgg233,
  z39 := Tryz.sizeOf233,
  v39 := Tryz.zeroValue233,
  t45 := Tryz.underlying301,
  a45 := Tryz.isAgg301,
  z45 := Tryz.sizeOf301,
  v45 := Tryz.zeroValue301,
  t46 := Tryz.underlying302,
  a46 := Tryz.isAgg302,
  z46 := Tryz.sizeOf302,
  v46 := Tryz.zeroValue302,
  t50 := Tryz.underlying228,
  a50 := Tryz.isAgg228,
  z50 := Tryz.sizeOf228,
  v50 := Tryz.zeroValue228,
  t53 := Tryz.underlying280,
  a53 := Tryz.isAgg280,
  z53 := Tryz.sizeOf280,
  v53 := Tryz.zeroValue280,
  t55 := Tryz.underlying29,
  a55 := Tryz.isAgg29,
  z55 := Tryz.sizeOf29,
  v55 := Tryz.zeroValue29,
  t66 := Tryz.underlying330,
  a66 := Tryz.isAgg330,
  z66 := Tryz.sizeOf330,
  v66 := Tryz.zeroValue330,
  t70 := Tryz.underlying334,
  a70 := Tryz.isAgg334,
  z70 := Tryz.sizeOf334,
  v70 := Tryz.zeroValue334,
  t76 := Tryz.underlying346,
  a76 := Tryz.isAgg346,
  z76 := Tryz.sizeOf346,
  v76 := Tryz.zeroValue346,
  t77 := Tryz.underlying176,
  a77 := Tryz.isAgg176,
  z77 := Tryz.sizeOf176,
  v77 := Tryz.zeroValue176 }
end Go.Proofs.YthkkgphjjmhglaaGreatDoor
/-!
The contract SlLaysN.n44 of the shelf, laid at this program.
-/
namespace Go.Proofs.YthkkgphjjmhglaaGreatDoor
set_option linter.unusedVariables false
set_option linter.unusedSimpArgs false
open Go.Shelf Go.Proofs
def layCompact_ren : Go.Shelf.Ren := ⟨fun | 44 => 162 | n => n, fun | 25 => 72 | 26 => 9 | 3 => 3 | 4 => 4 | 0 => 0 | n => n, fun | n => n⟩
theorem layCompact : SlLaysN.n44 Tryz.prog layCompact_ren := {
  mixed := by kernel_rfl,
  f44 := ⟨Tryz.f162.name, by kernel_rfl, Tryz.func162.trans (congrArg some (by kernel_rfl))⟩,
  t0 := Tryz.underlying0,
  a0 := Tryz.isAgg0,
  z0 := Tryz.sizeOf0,
  v0 := Tryz.zeroValue0,
  t3 := Tryz.underlying3,
  a3 := Tryz.isAgg3,
  z3 := Tryz.sizeOf3,
  v3 := Tryz.zeroValue3,
  t4 := Tryz.underlying4,
  a4 := Tryz.isAgg4,
  z4 := Tryz.sizeOf4,
  v4 := Tryz.zeroValue4,
  t25 := Tryz.underlying72,
  a25 := Tryz.isAgg72,
  z25 := Tryz.sizeOf72,
  v25 := Tryz.zeroValue72,
  t26 := Tryz.underlying9,
  a26 := Tryz.isAgg9,
  z26 := Tryz.sizeOf9,
  v26 := Tryz.zeroValue9,
  i26 := by kernel_rfl }
end Go.Proofs.YthkkgphjjmhglaaGreatDoor
