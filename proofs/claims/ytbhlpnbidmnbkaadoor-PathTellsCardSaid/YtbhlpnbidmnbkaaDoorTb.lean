/-
The table of types of this seat's program, and closed facts on its functions, laid by a small program of ours (wip/tools/gentb.py) out of Lean's own print of the program.
-/
import Derived.Test.YtbhlpnbidmnbkaaDoorProg
import Derived.Test.YtbhlpnbidmnbkaaDoorFwB
import Derived.KernelRfl
namespace Go.Proofs.YtbhlpnbidmnbkaaDoor
open Go.TR
def tbl : List (Nat × TI) := [
  (9, ⟨.string, 1, 16, [(Value.string { data := #[] })], false⟩),
  (3, ⟨(.int .i64), 1, 8, [(Value.int IntKind.i64 0)], false⟩),
  (47, ⟨(.slice 9), 1, 24, [(Value.slice none 0 0)], false⟩),
  (26, ⟨(.int .u64), 1, 8, [(Value.int IntKind.u64 0)], false⟩),
  (22, ⟨(.slice 32), 1, 24, [(Value.slice none 0 0)], false⟩),
  (5, ⟨(.int .u8), 1, 1, [(Value.int IntKind.u8 0)], false⟩),
  (32, ⟨(.struct [(9, 0), (9, 1)]), 2, 32, [(Value.string { data := #[] }), (Value.string { data := #[] })], true⟩),
  (40, ⟨(.struct [(9, 0), (22, 1), (38, 2)]), 3, 64, [(Value.string { data := #[] }), (Value.slice none 0 0), (Value.slice none 0 0)], false⟩),
  (21, ⟨(.int .i32), 1, 4, [(Value.int IntKind.i32 0)], false⟩),
  (38, ⟨(.slice 26), 1, 24, [(Value.slice none 0 0)], false⟩),
  (79, ⟨(.slice 5), 1, 24, [(Value.slice none 0 0)], false⟩),
  (23, ⟨(.int .i64), 1, 8, [(Value.int IntKind.i64 0)], false⟩),
  (53, ⟨.other, 1, 8, [Value.nilFunc], false⟩),
  (135, ⟨(.int .u64), 1, 8, [(Value.int IntKind.u64 0)], false⟩),
  (104, ⟨(.struct [(102, 0), (79, 1)]), 2, 32, [(Value.pointer none), (Value.slice none 0 0)], false⟩),
  (65, ⟨.other, 1, 8, [(Value.map none)], false⟩),
  (99, ⟨(.int .u64), 1, 8, [(Value.int IntKind.u64 0)], false⟩),
  (145, ⟨(.struct [(5, 0), (5, 1)]), 2, 2, [(Value.int IntKind.u8 0), (Value.int IntKind.u8 0)], true⟩),
  (102, ⟨(.pointer 104), 1, 8, [(Value.pointer none)], false⟩),
  (139, ⟨(.pointer 3), 1, 8, [(Value.pointer none)], false⟩),
  (127, ⟨(.int .u32), 1, 4, [(Value.int IntKind.u32 0)], false⟩),
  (75, ⟨.other, 1, 8, [Value.nilFunc], false⟩),
  (100, ⟨(.slice 3), 1, 24, [(Value.slice none 0 0)], false⟩),
  (4, ⟨.bool, 1, 1, [(Value.bool false)], false⟩),
  (92, ⟨.other, 1, 8, [(Value.map none)], false⟩),
  (68, ⟨.other, 1, 8, [Value.nilFunc], false⟩),
  (87, ⟨(.pointer 83), 1, 8, [(Value.pointer none)], false⟩),
  (36, ⟨.other, 1, 8, [Value.nilFunc], false⟩),
  (96, ⟨(.array 16 5), 16, 16, [(Value.int IntKind.u8 0), (Value.int IntKind.u8 0), (Value.int IntKind.u8 0), (Value.int IntKind.u8 0), (Value.int IntKind.u8 0), (Value.int IntKind.u8 0), (Value.int IntKind.u8 0), (Value.int IntKind.u8 0), (Value.int IntKind.u8 0), (Value.int IntKind.u8 0), (Value.int IntKind.u8 0), (Value.int IntKind.u8 0), (Value.int IntKind.u8 0), (Value.int IntKind.u8 0), (Value.int IntKind.u8 0), (Value.int IntKind.u8 0)], false⟩),
  (141, ⟨.other, 1, 8, [(Value.pointer none)], false⟩),
  (146, ⟨(.array 16 145), 32, 32, [(Value.int IntKind.u8 0), (Value.int IntKind.u8 0), (Value.int IntKind.u8 0), (Value.int IntKind.u8 0), (Value.int IntKind.u8 0), (Value.int IntKind.u8 0), (Value.int IntKind.u8 0), (Value.int IntKind.u8 0), (Value.int IntKind.u8 0), (Value.int IntKind.u8 0), (Value.int IntKind.u8 0), (Value.int IntKind.u8 0), (Value.int IntKind.u8 0), (Value.int IntKind.u8 0), (Value.int IntKind.u8 0), (Value.int IntKind.u8 0), (Value.int IntKind.u8 0), (Value.int IntKind.u8 0), (Value.int IntKind.u8 0), (Value.int IntKind.u8 0), (Value.int IntKind.u8 0), (Value.int IntKind.u8 0), (Value.int IntKind.u8 0), (Value.int IntKind.u8 0), (Value.int IntKind.u8 0), (Value.int IntKind.u8 0), (Value.int IntKind.u8 0), (Value.int IntKind.u8 0), (Value.int IntKind.u8 0), (Value.int IntKind.u8 0), (Value.int IntKind.u8 0), (Value.int IntKind.u8 0)], false⟩),
  (150, ⟨(.array 8 5), 8, 8, [(Value.int IntKind.u8 0), (Value.int IntKind.u8 0), (Value.int IntKind.u8 0), (Value.int IntKind.u8 0), (Value.int IntKind.u8 0), (Value.int IntKind.u8 0), (Value.int IntKind.u8 0), (Value.int IntKind.u8 0)], false⟩),
  (70, ⟨.other, 1, 8, [Value.nilFunc], false⟩),
  (107, ⟨.other, 1, 16, [Value.nilIface], false⟩),
  (119, ⟨(.int .i64), 1, 8, [(Value.int IntKind.i64 0)], false⟩),
  (129, ⟨(.pointer 5), 1, 8, [(Value.pointer none)], false⟩)]
def tb : Tb := lkT tbl
theorem tb9 : TI.ok Tryd.prog 9 ⟨.string, 1, 16, [(Value.string { data := #[] })], false⟩ where
  info := ⟨Tryd.t9, by kernel_rfl, rfl, rfl, _, rfl, rfl⟩
  kind := ⟨TypeDesc.string, by kernel_rfl, rfl⟩
  flat := fun h => by cases h
theorem tb3 : TI.ok Tryd.prog 3 ⟨(.int .i64), 1, 8, [(Value.int IntKind.i64 0)], false⟩ where
  info := ⟨Tryd.t3, by kernel_rfl, rfl, rfl, _, rfl, rfl⟩
  kind := ⟨(TypeDesc.int IntKind.i64), by kernel_rfl, rfl⟩
  flat := fun h => by cases h
theorem tb47 : TI.ok Tryd.prog 47 ⟨(.slice 9), 1, 24, [(Value.slice none 0 0)], false⟩ where
  info := ⟨Tryd.t47, by kernel_rfl, rfl, rfl, _, rfl, rfl⟩
  kind := ⟨(TypeDesc.slice 9), by kernel_rfl, rfl⟩
  flat := fun h => by cases h
theorem tb26 : TI.ok Tryd.prog 26 ⟨(.int .u64), 1, 8, [(Value.int IntKind.u64 0)], false⟩ where
  info := ⟨Tryd.t26, by kernel_rfl, rfl, rfl, _, rfl, rfl⟩
  kind := ⟨(TypeDesc.int IntKind.u64), by kernel_rfl, rfl⟩
  flat := fun h => by cases h
theorem tb22 : TI.ok Tryd.prog 22 ⟨(.slice 32), 1, 24, [(Value.slice none 0 0)], false⟩ where
  info := ⟨Tryd.t22, by kernel_rfl, rfl, rfl, _, rfl, rfl⟩
  kind := ⟨(TypeDesc.slice 32), by kernel_rfl, rfl⟩
  flat := fun h => by cases h
theorem tb5 : TI.ok Tryd.prog 5 ⟨(.int .u8), 1, 1, [(Value.int IntKind.u8 0)], false⟩ where
  info := ⟨Tryd.t5, by kernel_rfl, rfl, rfl, _, rfl, rfl⟩
  kind := ⟨(TypeDesc.int IntKind.u8), by kernel_rfl, rfl⟩
  flat := fun h => by cases h
theorem tb32 : TI.ok Tryd.prog 32 ⟨(.struct [(9, 0), (9, 1)]), 2, 32, [(Value.string { data := #[] }), (Value.string { data := #[] })], true⟩ where
  info := ⟨Tryd.t32, by kernel_rfl, rfl, rfl, _, rfl, rfl⟩
  kind := ⟨(TypeDesc.struct #[{ name := "Name", type := 9, offset := 0, embedded := false, tag := "", pkgPath := "", byteOffset := 0 }, { name := "Value", type := 9, offset := 1, embedded := false, tag := "", pkgPath := "", byteOffset := 16 }]), by kernel_rfl, ⟨_, rfl, by rfl, by simp⟩⟩
  flat := fun _ => ⟨by kernel_rfl, by kernel_rfl⟩
theorem tb40 : TI.ok Tryd.prog 40 ⟨(.struct [(9, 0), (22, 1), (38, 2)]), 3, 64, [(Value.string { data := #[] }), (Value.slice none 0 0), (Value.slice none 0 0)], false⟩ where
  info := ⟨Tryd.t40, by kernel_rfl, rfl, rfl, _, rfl, rfl⟩
  kind := ⟨(TypeDesc.struct #[{ name := "Name", type := 9, offset := 0, embedded := false, tag := "", pkgPath := "", byteOffset := 0 }, { name := "Entries", type := 22, offset := 1, embedded := false, tag := "", pkgPath := "", byteOffset := 16 }, { name := "Sides", type := 38, offset := 2, embedded := false, tag := "", pkgPath := "", byteOffset := 40 }]), by kernel_rfl, ⟨_, rfl, by rfl, by simp⟩⟩
  flat := fun h => by cases h
theorem tb21 : TI.ok Tryd.prog 21 ⟨(.int .i32), 1, 4, [(Value.int IntKind.i32 0)], false⟩ where
  info := ⟨Tryd.t21, by kernel_rfl, rfl, rfl, _, rfl, rfl⟩
  kind := ⟨(TypeDesc.int IntKind.i32), by kernel_rfl, rfl⟩
  flat := fun h => by cases h
theorem tb38 : TI.ok Tryd.prog 38 ⟨(.slice 26), 1, 24, [(Value.slice none 0 0)], false⟩ where
  info := ⟨Tryd.t38, by kernel_rfl, rfl, rfl, _, rfl, rfl⟩
  kind := ⟨(TypeDesc.slice 26), by kernel_rfl, rfl⟩
  flat := fun h => by cases h
theorem tb79 : TI.ok Tryd.prog 79 ⟨(.slice 5), 1, 24, [(Value.slice none 0 0)], false⟩ where
  info := ⟨Tryd.t79, by kernel_rfl, rfl, rfl, _, rfl, rfl⟩
  kind := ⟨(TypeDesc.slice 5), by kernel_rfl, rfl⟩
  flat := fun h => by cases h
theorem tb23 : TI.ok Tryd.prog 23 ⟨(.int .i64), 1, 8, [(Value.int IntKind.i64 0)], false⟩ where
  info := ⟨Tryd.t23, by kernel_rfl, rfl, rfl, _, rfl, rfl⟩
  kind := ⟨(TypeDesc.int IntKind.i64), by kernel_rfl, rfl⟩
  flat := fun h => by cases h
theorem tb53 : TI.ok Tryd.prog 53 ⟨.other, 1, 8, [Value.nilFunc], false⟩ where
  info := ⟨Tryd.t53, by kernel_rfl, rfl, rfl, _, rfl, rfl⟩
  kind := ⟨(TypeDesc.func #[9, 9] #[3] false), by kernel_rfl, ⟨(by intro fs h; cases h), (by intro n e h; cases h)⟩⟩
  flat := fun h => by cases h
theorem tb135 : TI.ok Tryd.prog 135 ⟨(.int .u64), 1, 8, [(Value.int IntKind.u64 0)], false⟩ where
  info := ⟨Tryd.t135, by kernel_rfl, rfl, rfl, _, rfl, rfl⟩
  kind := ⟨(TypeDesc.int IntKind.u64), by kernel_rfl, rfl⟩
  flat := fun h => by cases h
theorem tb104 : TI.ok Tryd.prog 104 ⟨(.struct [(102, 0), (79, 1)]), 2, 32, [(Value.pointer none), (Value.slice none 0 0)], false⟩ where
  info := ⟨Tryd.t104, by kernel_rfl, rfl, rfl, _, rfl, rfl⟩
  kind := ⟨(TypeDesc.struct #[{ name := "addr", type := 102, offset := 0, embedded := false, tag := "", pkgPath := "strings", byteOffset := 0 }, { name := "buf", type := 79, offset := 1, embedded := false, tag := "", pkgPath := "strings", byteOffset := 8 }]), by kernel_rfl, ⟨_, rfl, by rfl, by simp⟩⟩
  flat := fun h => by cases h
theorem tb65 : TI.ok Tryd.prog 65 ⟨.other, 1, 8, [(Value.map none)], false⟩ where
  info := ⟨Tryd.t65, by kernel_rfl, rfl, rfl, _, rfl, rfl⟩
  kind := ⟨(TypeDesc.map 9 26), by kernel_rfl, ⟨(by intro fs h; cases h), (by intro n e h; cases h)⟩⟩
  flat := fun h => by cases h
theorem tb99 : TI.ok Tryd.prog 99 ⟨(.int .u64), 1, 8, [(Value.int IntKind.u64 0)], false⟩ where
  info := ⟨Tryd.t99, by kernel_rfl, rfl, rfl, _, rfl, rfl⟩
  kind := ⟨(TypeDesc.int IntKind.u64), by kernel_rfl, rfl⟩
  flat := fun h => by cases h
theorem tb145 : TI.ok Tryd.prog 145 ⟨(.struct [(5, 0), (5, 1)]), 2, 2, [(Value.int IntKind.u8 0), (Value.int IntKind.u8 0)], true⟩ where
  info := ⟨Tryd.t145, by kernel_rfl, rfl, rfl, _, rfl, rfl⟩
  kind := ⟨(TypeDesc.struct #[{ name := "lo", type := 5, offset := 0, embedded := false, tag := "", pkgPath := "unicode/utf8", byteOffset := 0 }, { name := "hi", type := 5, offset := 1, embedded := false, tag := "", pkgPath := "unicode/utf8", byteOffset := 1 }]), by kernel_rfl, ⟨_, rfl, by rfl, by simp⟩⟩
  flat := fun _ => ⟨by kernel_rfl, by kernel_rfl⟩
theorem tb102 : TI.ok Tryd.prog 102 ⟨(.pointer 104), 1, 8, [(Value.pointer none)], false⟩ where
  info := ⟨Tryd.t102, by kernel_rfl, rfl, rfl, _, rfl, rfl⟩
  kind := ⟨(TypeDesc.pointer 104), by kernel_rfl, rfl⟩
  flat := fun h => by cases h
theorem tb139 : TI.ok Tryd.prog 139 ⟨(.pointer 3), 1, 8, [(Value.pointer none)], false⟩ where
  info := ⟨Tryd.t139, by kernel_rfl, rfl, rfl, _, rfl, rfl⟩
  kind := ⟨(TypeDesc.pointer 3), by kernel_rfl, rfl⟩
  flat := fun h => by cases h
theorem tb127 : TI.ok Tryd.prog 127 ⟨(.int .u32), 1, 4, [(Value.int IntKind.u32 0)], false⟩ where
  info := ⟨Tryd.t127, by kernel_rfl, rfl, rfl, _, rfl, rfl⟩
  kind := ⟨(TypeDesc.int IntKind.u32), by kernel_rfl, rfl⟩
  flat := fun h => by cases h
theorem tb75 : TI.ok Tryd.prog 75 ⟨.other, 1, 8, [Value.nilFunc], false⟩ where
  info := ⟨Tryd.t75, by kernel_rfl, rfl, rfl, _, rfl, rfl⟩
  kind := ⟨(TypeDesc.func #[21] #[4] false), by kernel_rfl, ⟨(by intro fs h; cases h), (by intro n e h; cases h)⟩⟩
  flat := fun h => by cases h
theorem tb100 : TI.ok Tryd.prog 100 ⟨(.slice 3), 1, 24, [(Value.slice none 0 0)], false⟩ where
  info := ⟨Tryd.t100, by kernel_rfl, rfl, rfl, _, rfl, rfl⟩
  kind := ⟨(TypeDesc.slice 3), by kernel_rfl, rfl⟩
  flat := fun h => by cases h
theorem tb4 : TI.ok Tryd.prog 4 ⟨.bool, 1, 1, [(Value.bool false)], false⟩ where
  info := ⟨Tryd.t4, by kernel_rfl, rfl, rfl, _, rfl, rfl⟩
  kind := ⟨TypeDesc.bool, by kernel_rfl, rfl⟩
  flat := fun h => by cases h
theorem tb92 : TI.ok Tryd.prog 92 ⟨.other, 1, 8, [(Value.map none)], false⟩ where
  info := ⟨Tryd.t92, by kernel_rfl, rfl, rfl, _, rfl, rfl⟩
  kind := ⟨(TypeDesc.map 9 22), by kernel_rfl, ⟨(by intro fs h; cases h), (by intro n e h; cases h)⟩⟩
  flat := fun h => by cases h
theorem tb68 : TI.ok Tryd.prog 68 ⟨.other, 1, 8, [Value.nilFunc], false⟩ where
  info := ⟨Tryd.t68, by kernel_rfl, rfl, rfl, _, rfl, rfl⟩
  kind := ⟨(TypeDesc.func #[32] #[4] false), by kernel_rfl, ⟨(by intro fs h; cases h), (by intro n e h; cases h)⟩⟩
  flat := fun h => by cases h
theorem tb87 : TI.ok Tryd.prog 87 ⟨(.pointer 83), 1, 8, [(Value.pointer none)], false⟩ where
  info := ⟨Tryd.t87, by kernel_rfl, rfl, rfl, _, rfl, rfl⟩
  kind := ⟨(TypeDesc.pointer 83), by kernel_rfl, rfl⟩
  flat := fun h => by cases h
theorem tb36 : TI.ok Tryd.prog 36 ⟨.other, 1, 8, [Value.nilFunc], false⟩ where
  info := ⟨Tryd.t36, by kernel_rfl, rfl, rfl, _, rfl, rfl⟩
  kind := ⟨(TypeDesc.func #[9] #[4] false), by kernel_rfl, ⟨(by intro fs h; cases h), (by intro n e h; cases h)⟩⟩
  flat := fun h => by cases h
theorem tb96 : TI.ok Tryd.prog 96 ⟨(.array 16 5), 16, 16, [(Value.int IntKind.u8 0), (Value.int IntKind.u8 0), (Value.int IntKind.u8 0), (Value.int IntKind.u8 0), (Value.int IntKind.u8 0), (Value.int IntKind.u8 0), (Value.int IntKind.u8 0), (Value.int IntKind.u8 0), (Value.int IntKind.u8 0), (Value.int IntKind.u8 0), (Value.int IntKind.u8 0), (Value.int IntKind.u8 0), (Value.int IntKind.u8 0), (Value.int IntKind.u8 0), (Value.int IntKind.u8 0), (Value.int IntKind.u8 0)], false⟩ where
  info := ⟨Tryd.t96, by kernel_rfl, rfl, rfl, _, rfl, rfl⟩
  kind := ⟨(TypeDesc.array 16 5), by kernel_rfl, rfl⟩
  flat := fun h => by cases h
theorem tb141 : TI.ok Tryd.prog 141 ⟨.other, 1, 8, [(Value.pointer none)], false⟩ where
  info := ⟨Tryd.t141, by kernel_rfl, rfl, rfl, _, rfl, rfl⟩
  kind := ⟨TypeDesc.unsafePointer, by kernel_rfl, ⟨(by intro fs h; cases h), (by intro n e h; cases h)⟩⟩
  flat := fun h => by cases h
theorem tb146 : TI.ok Tryd.prog 146 ⟨(.array 16 145), 32, 32, [(Value.int IntKind.u8 0), (Value.int IntKind.u8 0), (Value.int IntKind.u8 0), (Value.int IntKind.u8 0), (Value.int IntKind.u8 0), (Value.int IntKind.u8 0), (Value.int IntKind.u8 0), (Value.int IntKind.u8 0), (Value.int IntKind.u8 0), (Value.int IntKind.u8 0), (Value.int IntKind.u8 0), (Value.int IntKind.u8 0), (Value.int IntKind.u8 0), (Value.int IntKind.u8 0), (Value.int IntKind.u8 0), (Value.int IntKind.u8 0), (Value.int IntKind.u8 0), (Value.int IntKind.u8 0), (Value.int IntKind.u8 0), (Value.int IntKind.u8 0), (Value.int IntKind.u8 0), (Value.int IntKind.u8 0), (Value.int IntKind.u8 0), (Value.int IntKind.u8 0), (Value.int IntKind.u8 0), (Value.int IntKind.u8 0), (Value.int IntKind.u8 0), (Value.int IntKind.u8 0), (Value.int IntKind.u8 0), (Value.int IntKind.u8 0), (Value.int IntKind.u8 0), (Value.int IntKind.u8 0)], false⟩ where
  info := ⟨Tryd.t146, by kernel_rfl, rfl, rfl, _, rfl, rfl⟩
  kind := ⟨(TypeDesc.array 16 145), by kernel_rfl, rfl⟩
  flat := fun h => by cases h
theorem tb150 : TI.ok Tryd.prog 150 ⟨(.array 8 5), 8, 8, [(Value.int IntKind.u8 0), (Value.int IntKind.u8 0), (Value.int IntKind.u8 0), (Value.int IntKind.u8 0), (Value.int IntKind.u8 0), (Value.int IntKind.u8 0), (Value.int IntKind.u8 0), (Value.int IntKind.u8 0)], false⟩ where
  info := ⟨Tryd.t150, by kernel_rfl, rfl, rfl, _, rfl, rfl⟩
  kind := ⟨(TypeDesc.array 8 5), by kernel_rfl, rfl⟩
  flat := fun h => by cases h
theorem tb70 : TI.ok Tryd.prog 70 ⟨.other, 1, 8, [Value.nilFunc], false⟩ where
  info := ⟨Tryd.t70, by kernel_rfl, rfl, rfl, _, rfl, rfl⟩
  kind := ⟨(TypeDesc.func #[26] #[4] false), by kernel_rfl, ⟨(by intro fs h; cases h), (by intro n e h; cases h)⟩⟩
  flat := fun h => by cases h
theorem tb107 : TI.ok Tryd.prog 107 ⟨.other, 1, 16, [Value.nilIface], false⟩ where
  info := ⟨Tryd.t107, by kernel_rfl, rfl, rfl, _, rfl, rfl⟩
  kind := ⟨(TypeDesc.interface #[("Error", 111)]), by kernel_rfl, ⟨(by intro fs h; cases h), (by intro n e h; cases h)⟩⟩
  flat := fun h => by cases h
theorem tb119 : TI.ok Tryd.prog 119 ⟨(.int .i64), 1, 8, [(Value.int IntKind.i64 0)], false⟩ where
  info := ⟨Tryd.t119, by kernel_rfl, rfl, rfl, _, rfl, rfl⟩
  kind := ⟨(TypeDesc.int IntKind.i64), by kernel_rfl, rfl⟩
  flat := fun h => by cases h
theorem tb129 : TI.ok Tryd.prog 129 ⟨(.pointer 5), 1, 8, [(Value.pointer none)], false⟩ where
  info := ⟨Tryd.t129, by kernel_rfl, rfl, rfl, _, rfl, rfl⟩
  kind := ⟨(TypeDesc.pointer 5), by kernel_rfl, rfl⟩
  flat := fun h => by cases h
theorem tbok : TbOK Tryd.prog tb := lkT_ok ⟨tb9, tb3, tb47, tb26, tb22, tb5, tb32, tb40, tb21, tb38, tb79, tb23, tb53, tb135, tb104, tb65, tb99, tb145, tb102, tb139, tb127, tb75, tb100, tb4, tb92, tb68, tb87, tb36, tb96, tb141, tb146, tb150, tb70, tb107, tb119, tb129, trivial⟩
theorem mixed : Tryd.prog.follows .mixedOrders = true := by kernel_rfl
theorem bd2 : bodied Tryd.prog 2 := ⟨_, Tryd.func2, by kernel_rfl, by kernel_rfl⟩
theorem bd3 : bodied Tryd.prog 3 := ⟨_, Tryd.func3, by kernel_rfl, by kernel_rfl⟩
theorem bd4 : bodied Tryd.prog 4 := ⟨_, Tryd.func4, by kernel_rfl, by kernel_rfl⟩
theorem bd5 : bodied Tryd.prog 5 := ⟨_, Tryd.func5, by kernel_rfl, by kernel_rfl⟩
theorem bd6 : bodied Tryd.prog 6 := ⟨_, Tryd.func6, by kernel_rfl, by kernel_rfl⟩
theorem bd7 : bodied Tryd.prog 7 := ⟨_, Tryd.func7, by kernel_rfl, by kernel_rfl⟩
theorem bd8 : bodied Tryd.prog 8 := ⟨_, Tryd.func8, by kernel_rfl, by kernel_rfl⟩
theorem bd9 : bodied Tryd.prog 9 := ⟨_, Tryd.func9, by kernel_rfl, by kernel_rfl⟩
theorem bd10 : bodied Tryd.prog 10 := ⟨_, Tryd.func10, by kernel_rfl, by kernel_rfl⟩
theorem bd11 : bodied Tryd.prog 11 := ⟨_, Tryd.func11, by kernel_rfl, by kernel_rfl⟩
theorem bd12 : bodied Tryd.prog 12 := ⟨_, Tryd.func12, by kernel_rfl, by kernel_rfl⟩
theorem bd13 : bodied Tryd.prog 13 := ⟨_, Tryd.func13, by kernel_rfl, by kernel_rfl⟩
theorem bd14 : bodied Tryd.prog 14 := ⟨_, Tryd.func14, by kernel_rfl, by kernel_rfl⟩
theorem bd15 : bodied Tryd.prog 15 := ⟨_, Tryd.func15, by kernel_rfl, by kernel_rfl⟩
theorem bd16 : bodied Tryd.prog 16 := ⟨_, Tryd.func16, by kernel_rfl, by kernel_rfl⟩
theorem bd17 : bodied Tryd.prog 17 := ⟨_, Tryd.func17, by kernel_rfl, by kernel_rfl⟩
theorem bd18 : bodied Tryd.prog 18 := ⟨_, Tryd.func18, by kernel_rfl, by kernel_rfl⟩
theorem bd19 : bodied Tryd.prog 19 := ⟨_, Tryd.func19, by kernel_rfl, by kernel_rfl⟩
theorem bd20 : bodied Tryd.prog 20 := ⟨_, Tryd.func20, by kernel_rfl, by kernel_rfl⟩
theorem bd21 : bodied Tryd.prog 21 := ⟨_, Tryd.func21, by kernel_rfl, by kernel_rfl⟩
theorem bd22 : bodied Tryd.prog 22 := ⟨_, Tryd.func22, by kernel_rfl, by kernel_rfl⟩
theorem bd23 : bodied Tryd.prog 23 := ⟨_, Tryd.func23, by kernel_rfl, by kernel_rfl⟩
theorem bd24 : bodied Tryd.prog 24 := ⟨_, Tryd.func24, by kernel_rfl, by kernel_rfl⟩
theorem bd25 : bodied Tryd.prog 25 := ⟨_, Tryd.func25, by kernel_rfl, by kernel_rfl⟩
theorem bd26 : bodied Tryd.prog 26 := ⟨_, Tryd.func26, by kernel_rfl, by kernel_rfl⟩
theorem bd27 : bodied Tryd.prog 27 := ⟨_, Tryd.func27, by kernel_rfl, by kernel_rfl⟩
theorem bd28 : bodied Tryd.prog 28 := ⟨_, Tryd.func28, by kernel_rfl, by kernel_rfl⟩
theorem bd29 : bodied Tryd.prog 29 := ⟨_, Tryd.func29, by kernel_rfl, by kernel_rfl⟩
theorem bd30 : bodied Tryd.prog 30 := ⟨_, Tryd.func30, by kernel_rfl, by kernel_rfl⟩
theorem bd31 : bodied Tryd.prog 31 := ⟨_, Tryd.func31, by kernel_rfl, by kernel_rfl⟩
theorem bd32 : bodied Tryd.prog 32 := ⟨_, Tryd.func32, by kernel_rfl, by kernel_rfl⟩
theorem bd33 : bodied Tryd.prog 33 := ⟨_, Tryd.func33, by kernel_rfl, by kernel_rfl⟩
theorem bd34 : bodied Tryd.prog 34 := ⟨_, Tryd.func34, by kernel_rfl, by kernel_rfl⟩
theorem bd35 : bodied Tryd.prog 35 := ⟨_, Tryd.func35, by kernel_rfl, by kernel_rfl⟩
theorem bd36 : bodied Tryd.prog 36 := ⟨_, Tryd.func36, by kernel_rfl, by kernel_rfl⟩
theorem bd37 : bodied Tryd.prog 37 := ⟨_, Tryd.func37, by kernel_rfl, by kernel_rfl⟩
theorem bd38 : bodied Tryd.prog 38 := ⟨_, Tryd.func38, by kernel_rfl, by kernel_rfl⟩
theorem bd39 : bodied Tryd.prog 39 := ⟨_, Tryd.func39, by kernel_rfl, by kernel_rfl⟩
theorem bd40 : bodied Tryd.prog 40 := ⟨_, Tryd.func40, by kernel_rfl, by kernel_rfl⟩
theorem bd41 : bodied Tryd.prog 41 := ⟨_, Tryd.func41, by kernel_rfl, by kernel_rfl⟩
theorem bd42 : bodied Tryd.prog 42 := ⟨_, Tryd.func42, by kernel_rfl, by kernel_rfl⟩
theorem bd43 : bodied Tryd.prog 43 := ⟨_, Tryd.func43, by kernel_rfl, by kernel_rfl⟩
theorem bd44 : bodied Tryd.prog 44 := ⟨_, Tryd.func44, by kernel_rfl, by kernel_rfl⟩
theorem bd45 : bodied Tryd.prog 45 := ⟨_, Tryd.func45, by kernel_rfl, by kernel_rfl⟩
theorem bd46 : bodied Tryd.prog 46 := ⟨_, Tryd.func46, by kernel_rfl, by kernel_rfl⟩
theorem bd47 : bodied Tryd.prog 47 := ⟨_, Tryd.func47, by kernel_rfl, by kernel_rfl⟩
theorem bd48 : bodied Tryd.prog 48 := ⟨_, Tryd.func48, by kernel_rfl, by kernel_rfl⟩
theorem bd49 : bodied Tryd.prog 49 := ⟨_, Tryd.func49, by kernel_rfl, by kernel_rfl⟩
theorem bd50 : bodied Tryd.prog 50 := ⟨_, Tryd.func50, by kernel_rfl, by kernel_rfl⟩
theorem bd51 : bodied Tryd.prog 51 := ⟨_, Tryd.func51, by kernel_rfl, by kernel_rfl⟩
theorem bd52 : bodied Tryd.prog 52 := ⟨_, Tryd.func52, by kernel_rfl, by kernel_rfl⟩
theorem bd53 : bodied Tryd.prog 53 := ⟨_, Tryd.func53, by kernel_rfl, by kernel_rfl⟩
theorem bd54 : bodied Tryd.prog 54 := ⟨_, Tryd.func54, by kernel_rfl, by kernel_rfl⟩
theorem bd55 : bodied Tryd.prog 55 := ⟨_, Tryd.func55, by kernel_rfl, by kernel_rfl⟩
theorem bd56 : bodied Tryd.prog 56 := ⟨_, Tryd.func56, by kernel_rfl, by kernel_rfl⟩
theorem bd57 : bodied Tryd.prog 57 := ⟨_, Tryd.func57, by kernel_rfl, by kernel_rfl⟩
theorem bd58 : bodied Tryd.prog 58 := ⟨_, Tryd.func58, by kernel_rfl, by kernel_rfl⟩
theorem bd59 : bodied Tryd.prog 59 := ⟨_, Tryd.func59, by kernel_rfl, by kernel_rfl⟩
theorem bd60 : bodied Tryd.prog 60 := ⟨_, Tryd.func60, by kernel_rfl, by kernel_rfl⟩
theorem bd61 : bodied Tryd.prog 61 := ⟨_, Tryd.func61, by kernel_rfl, by kernel_rfl⟩
theorem bd62 : bodied Tryd.prog 62 := ⟨_, Tryd.func62, by kernel_rfl, by kernel_rfl⟩
theorem bd63 : bodied Tryd.prog 63 := ⟨_, Tryd.func63, by kernel_rfl, by kernel_rfl⟩
theorem bd64 : bodied Tryd.prog 64 := ⟨_, Tryd.func64, by kernel_rfl, by kernel_rfl⟩
theorem bd65 : bodied Tryd.prog 65 := ⟨_, Tryd.func65, by kernel_rfl, by kernel_rfl⟩
theorem bd66 : bodied Tryd.prog 66 := ⟨_, Tryd.func66, by kernel_rfl, by kernel_rfl⟩
theorem bd67 : bodied Tryd.prog 67 := ⟨_, Tryd.func67, by kernel_rfl, by kernel_rfl⟩
theorem bd68 : bodied Tryd.prog 68 := ⟨_, Tryd.func68, by kernel_rfl, by kernel_rfl⟩
theorem bd69 : bodied Tryd.prog 69 := ⟨_, Tryd.func69, by kernel_rfl, by kernel_rfl⟩
theorem bd70 : bodied Tryd.prog 70 := ⟨_, Tryd.func70, by kernel_rfl, by kernel_rfl⟩
theorem bd71 : bodied Tryd.prog 71 := ⟨_, Tryd.func71, by kernel_rfl, by kernel_rfl⟩
theorem bd72 : bodied Tryd.prog 72 := ⟨_, Tryd.func72, by kernel_rfl, by kernel_rfl⟩
theorem bd73 : bodied Tryd.prog 73 := ⟨_, Tryd.func73, by kernel_rfl, by kernel_rfl⟩
theorem bd74 : bodied Tryd.prog 74 := ⟨_, Tryd.func74, by kernel_rfl, by kernel_rfl⟩
theorem bd75 : bodied Tryd.prog 75 := ⟨_, Tryd.func75, by kernel_rfl, by kernel_rfl⟩
theorem bd76 : bodied Tryd.prog 76 := ⟨_, Tryd.func76, by kernel_rfl, by kernel_rfl⟩
theorem bd77 : bodied Tryd.prog 77 := ⟨_, Tryd.func77, by kernel_rfl, by kernel_rfl⟩
theorem bd78 : bodied Tryd.prog 78 := ⟨_, Tryd.func78, by kernel_rfl, by kernel_rfl⟩
theorem bd79 : bodied Tryd.prog 79 := ⟨_, Tryd.func79, by kernel_rfl, by kernel_rfl⟩
theorem bd80 : bodied Tryd.prog 80 := ⟨_, Tryd.func80, by kernel_rfl, by kernel_rfl⟩
theorem bd81 : bodied Tryd.prog 81 := ⟨_, Tryd.func81, by kernel_rfl, by kernel_rfl⟩
theorem bd82 : bodied Tryd.prog 82 := ⟨_, Tryd.func82, by kernel_rfl, by kernel_rfl⟩
theorem bd83 : bodied Tryd.prog 83 := ⟨_, Tryd.func83, by kernel_rfl, by kernel_rfl⟩
theorem bd84 : bodied Tryd.prog 84 := ⟨_, Tryd.func84, by kernel_rfl, by kernel_rfl⟩
theorem bd85 : bodied Tryd.prog 85 := ⟨_, Tryd.func85, by kernel_rfl, by kernel_rfl⟩
theorem bd86 : bodied Tryd.prog 86 := ⟨_, Tryd.func86, by kernel_rfl, by kernel_rfl⟩
theorem bd87 : bodied Tryd.prog 87 := ⟨_, Tryd.func87, by kernel_rfl, by kernel_rfl⟩
theorem bd88 : bodied Tryd.prog 88 := ⟨_, Tryd.func88, by kernel_rfl, by kernel_rfl⟩
theorem bd89 : bodied Tryd.prog 89 := ⟨_, Tryd.func89, by kernel_rfl, by kernel_rfl⟩
theorem bd90 : bodied Tryd.prog 90 := ⟨_, Tryd.func90, by kernel_rfl, by kernel_rfl⟩
theorem bd91 : bodied Tryd.prog 91 := ⟨_, Tryd.func91, by kernel_rfl, by kernel_rfl⟩
theorem bd92 : bodied Tryd.prog 92 := ⟨_, Tryd.func92, by kernel_rfl, by kernel_rfl⟩
theorem bd93 : bodied Tryd.prog 93 := ⟨_, Tryd.func93, by kernel_rfl, by kernel_rfl⟩
theorem bd94 : bodied Tryd.prog 94 := ⟨_, Tryd.func94, by kernel_rfl, by kernel_rfl⟩
theorem bd95 : bodied Tryd.prog 95 := ⟨_, Tryd.func95, by kernel_rfl, by kernel_rfl⟩
theorem bd96 : bodied Tryd.prog 96 := ⟨_, Tryd.func96, by kernel_rfl, by kernel_rfl⟩
theorem bd97 : bodied Tryd.prog 97 := ⟨_, Tryd.func97, by kernel_rfl, by kernel_rfl⟩
theorem bd98 : bodied Tryd.prog 98 := ⟨_, Tryd.func98, by kernel_rfl, by kernel_rfl⟩
theorem bd99 : bodied Tryd.prog 99 := ⟨_, Tryd.func99, by kernel_rfl, by kernel_rfl⟩
theorem bd100 : bodied Tryd.prog 100 := ⟨_, Tryd.func100, by kernel_rfl, by kernel_rfl⟩
theorem bd101 : bodied Tryd.prog 101 := ⟨_, Tryd.func101, by kernel_rfl, by kernel_rfl⟩
theorem bd102 : bodied Tryd.prog 102 := ⟨_, Tryd.func102, by kernel_rfl, by kernel_rfl⟩
theorem bd103 : bodied Tryd.prog 103 := ⟨_, Tryd.func103, by kernel_rfl, by kernel_rfl⟩
theorem bd104 : bodied Tryd.prog 104 := ⟨_, Tryd.func104, by kernel_rfl, by kernel_rfl⟩
theorem bd105 : bodied Tryd.prog 105 := ⟨_, Tryd.func105, by kernel_rfl, by kernel_rfl⟩
theorem bd106 : bodied Tryd.prog 106 := ⟨_, Tryd.func106, by kernel_rfl, by kernel_rfl⟩
theorem bd107 : bodied Tryd.prog 107 := ⟨_, Tryd.func107, by kernel_rfl, by kernel_rfl⟩
theorem bd108 : bodied Tryd.prog 108 := ⟨_, Tryd.func108, by kernel_rfl, by kernel_rfl⟩
theorem bd109 : bodied Tryd.prog 109 := ⟨_, Tryd.func109, by kernel_rfl, by kernel_rfl⟩
theorem bd110 : bodied Tryd.prog 110 := ⟨_, Tryd.func110, by kernel_rfl, by kernel_rfl⟩
theorem bd111 : bodied Tryd.prog 111 := ⟨_, Tryd.func111, by kernel_rfl, by kernel_rfl⟩
theorem bd112 : bodied Tryd.prog 112 := ⟨_, Tryd.func112, by kernel_rfl, by kernel_rfl⟩
theorem bd113 : bodied Tryd.prog 113 := ⟨_, Tryd.func113, by kernel_rfl, by kernel_rfl⟩
theorem bd114 : bodied Tryd.prog 114 := ⟨_, Tryd.func114, by kernel_rfl, by kernel_rfl⟩
theorem bd115 : bodied Tryd.prog 115 := ⟨_, Tryd.func115, by kernel_rfl, by kernel_rfl⟩
theorem bd116 : bodied Tryd.prog 116 := ⟨_, Tryd.func116, by kernel_rfl, by kernel_rfl⟩
theorem bd117 : bodied Tryd.prog 117 := ⟨_, Tryd.func117, by kernel_rfl, by kernel_rfl⟩
theorem bd118 : bodied Tryd.prog 118 := ⟨_, Tryd.func118, by kernel_rfl, by kernel_rfl⟩
theorem bd120 : bodied Tryd.prog 120 := ⟨_, Tryd.func120, by kernel_rfl, by kernel_rfl⟩
theorem bd121 : bodied Tryd.prog 121 := ⟨_, Tryd.func121, by kernel_rfl, by kernel_rfl⟩
theorem bd122 : bodied Tryd.prog 122 := ⟨_, Tryd.func122, by kernel_rfl, by kernel_rfl⟩
theorem bd124 : bodied Tryd.prog 124 := ⟨_, Tryd.func124, by kernel_rfl, by kernel_rfl⟩
theorem bd125 : bodied Tryd.prog 125 := ⟨_, Tryd.func125, by kernel_rfl, by kernel_rfl⟩
theorem bd126 : bodied Tryd.prog 126 := ⟨_, Tryd.func126, by kernel_rfl, by kernel_rfl⟩
theorem bd127 : bodied Tryd.prog 127 := ⟨_, Tryd.func127, by kernel_rfl, by kernel_rfl⟩
theorem bd152 : bodied Tryd.prog 152 := ⟨_, Tryd.func152, by kernel_rfl, by kernel_rfl⟩
end Go.Proofs.YtbhlpnbidmnbkaaDoor
