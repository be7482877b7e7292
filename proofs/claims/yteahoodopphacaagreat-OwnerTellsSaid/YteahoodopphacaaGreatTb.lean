/-
The table of types of this seat's program, and closed facts on its functions, laid by a small program of ours (wip/tools/gentb.py) out of Lean's own print of the program.
-/
import Derived.Test.YteahoodopphacaaGreatProg
import Derived.Test.YteahoodopphacaaGreatFwB
import Derived.KernelRfl
namespace Go.Proofs.YteahoodopphacaaGreat
open Go.TR
def tbl : List (Nat × TI) := [
  (9, ⟨.string, 1, 16, [(Value.string { data := #[] })], false⟩),
  (22, ⟨(.int .u64), 1, 8, [(Value.int IntKind.u64 0)], false⟩),
  (3, ⟨(.int .i64), 1, 8, [(Value.int IntKind.i64 0)], false⟩),
  (24, ⟨(.struct [(2, 0), (22, 1), (22, 2), (2, 3)]), 4, 32, [(Value.int IntKind.i64 0), (Value.int IntKind.u64 0), (Value.int IntKind.u64 0), (Value.int IntKind.i64 0)], true⟩),
  (27, ⟨(.struct [(9, 0), (22, 1), (24, 2), (25, 6), (3, 7)]), 8, 88, [(Value.string { data := #[] }), (Value.int IntKind.u64 0), (Value.int IntKind.i64 0), (Value.int IntKind.u64 0), (Value.int IntKind.u64 0), (Value.int IntKind.i64 0), (Value.slice none 0 0), (Value.int IntKind.i64 0)], false⟩),
  (25, ⟨(.slice 9), 1, 24, [(Value.slice none 0 0)], false⟩),
  (2, ⟨(.int .i64), 1, 8, [(Value.int IntKind.i64 0)], false⟩),
  (29, ⟨(.slice 82), 1, 24, [(Value.slice none 0 0)], false⟩),
  (32, ⟨(.struct [(9, 0), (29, 1), (30, 2)]), 3, 64, [(Value.string { data := #[] }), (Value.slice none 0 0), (Value.slice none 0 0)], false⟩),
  (82, ⟨(.struct [(9, 0), (9, 1)]), 2, 32, [(Value.string { data := #[] }), (Value.string { data := #[] })], true⟩),
  (28, ⟨(.slice 24), 1, 24, [(Value.slice none 0 0)], false⟩),
  (35, ⟨(.int .i64), 1, 8, [(Value.int IntKind.i64 0)], false⟩),
  (34, ⟨(.struct [(24, 0), (32, 4)]), 7, 96, [(Value.int IntKind.i64 0), (Value.int IntKind.u64 0), (Value.int IntKind.u64 0), (Value.int IntKind.i64 0), (Value.string { data := #[] }), (Value.slice none 0 0), (Value.slice none 0 0)], false⟩),
  (83, ⟨(.slice 5), 1, 24, [(Value.slice none 0 0)], false⟩),
  (39, ⟨(.struct [(9, 0), (9, 1), (22, 2), (22, 3)]), 4, 48, [(Value.string { data := #[] }), (Value.string { data := #[] }), (Value.int IntKind.u64 0), (Value.int IntKind.u64 0)], true⟩),
  (5, ⟨(.int .u8), 1, 1, [(Value.int IntKind.u8 0)], false⟩),
  (30, ⟨(.slice 22), 1, 24, [(Value.slice none 0 0)], false⟩),
  (101, ⟨(.struct [(99, 0), (83, 1)]), 2, 32, [(Value.pointer none), (Value.slice none 0 0)], false⟩),
  (99, ⟨(.pointer 101), 1, 8, [(Value.pointer none)], false⟩),
  (21, ⟨(.int .i32), 1, 4, [(Value.int IntKind.i32 0)], false⟩),
  (75, ⟨.other, 1, 8, [Value.nilFunc], false⟩),
  (106, ⟨(.int .u64), 1, 8, [(Value.int IntKind.u64 0)], false⟩),
  (126, ⟨(.slice 28), 1, 24, [(Value.slice none 0 0)], false⟩),
  (150, ⟨(.slice 3), 1, 24, [(Value.slice none 0 0)], false⟩),
  (98, ⟨(.array 8 5), 8, 8, [(Value.int IntKind.u8 0), (Value.int IntKind.u8 0), (Value.int IntKind.u8 0), (Value.int IntKind.u8 0), (Value.int IntKind.u8 0), (Value.int IntKind.u8 0), (Value.int IntKind.u8 0), (Value.int IntKind.u8 0)], false⟩),
  (133, ⟨.other, 1, 8, [(Value.pointer none)], false⟩),
  (153, ⟨(.array 16 5), 16, 16, [(Value.int IntKind.u8 0), (Value.int IntKind.u8 0), (Value.int IntKind.u8 0), (Value.int IntKind.u8 0), (Value.int IntKind.u8 0), (Value.int IntKind.u8 0), (Value.int IntKind.u8 0), (Value.int IntKind.u8 0), (Value.int IntKind.u8 0), (Value.int IntKind.u8 0), (Value.int IntKind.u8 0), (Value.int IntKind.u8 0), (Value.int IntKind.u8 0), (Value.int IntKind.u8 0), (Value.int IntKind.u8 0), (Value.int IntKind.u8 0)], false⟩),
  (4, ⟨.bool, 1, 1, [(Value.bool false)], false⟩),
  (51, ⟨.other, 1, 8, [Value.nilFunc], false⟩),
  (90, ⟨.other, 1, 8, [Value.nilFunc], false⟩),
  (104, ⟨.other, 1, 16, [Value.nilIface], false⟩),
  (146, ⟨.other, 1, 8, [Value.nilFunc], false⟩),
  (148, ⟨.other, 1, 8, [Value.nilFunc], false⟩),
  (123, ⟨(.pointer 5), 1, 8, [(Value.pointer none)], false⟩),
  (141, ⟨.other, 1, 8, [Value.nilFunc], false⟩)]
def tb : Tb := lkT tbl
theorem tb9 : TI.ok Tryz.prog 9 ⟨.string, 1, 16, [(Value.string { data := #[] })], false⟩ where
  info := ⟨Tryz.t9, by kernel_rfl, rfl, rfl, _, rfl, rfl⟩
  kind := ⟨TypeDesc.string, by kernel_rfl, rfl⟩
  flat := fun h => by cases h
theorem tb22 : TI.ok Tryz.prog 22 ⟨(.int .u64), 1, 8, [(Value.int IntKind.u64 0)], false⟩ where
  info := ⟨Tryz.t22, by kernel_rfl, rfl, rfl, _, rfl, rfl⟩
  kind := ⟨(TypeDesc.int IntKind.u64), by kernel_rfl, rfl⟩
  flat := fun h => by cases h
theorem tb3 : TI.ok Tryz.prog 3 ⟨(.int .i64), 1, 8, [(Value.int IntKind.i64 0)], false⟩ where
  info := ⟨Tryz.t3, by kernel_rfl, rfl, rfl, _, rfl, rfl⟩
  kind := ⟨(TypeDesc.int IntKind.i64), by kernel_rfl, rfl⟩
  flat := fun h => by cases h
theorem tb24 : TI.ok Tryz.prog 24 ⟨(.struct [(2, 0), (22, 1), (22, 2), (2, 3)]), 4, 32, [(Value.int IntKind.i64 0), (Value.int IntKind.u64 0), (Value.int IntKind.u64 0), (Value.int IntKind.i64 0)], true⟩ where
  info := ⟨Tryz.t24, by kernel_rfl, rfl, rfl, _, rfl, rfl⟩
  kind := ⟨(TypeDesc.struct #[{ name := "Epoch", type := 2, offset := 0, embedded := false, tag := "", pkgPath := "", byteOffset := 0 }, { name := "Root", type := 22, offset := 1, embedded := false, tag := "", pkgPath := "", byteOffset := 8 }, { name := "Prev", type := 22, offset := 2, embedded := false, tag := "", pkgPath := "", byteOffset := 16 }, { name := "At", type := 2, offset := 3, embedded := false, tag := "", pkgPath := "", byteOffset := 24 }]), by kernel_rfl, ⟨_, rfl, by rfl, by simp⟩⟩
  flat := fun _ => ⟨by kernel_rfl, by kernel_rfl⟩
theorem tb27 : TI.ok Tryz.prog 27 ⟨(.struct [(9, 0), (22, 1), (24, 2), (25, 6), (3, 7)]), 8, 88, [(Value.string { data := #[] }), (Value.int IntKind.u64 0), (Value.int IntKind.i64 0), (Value.int IntKind.u64 0), (Value.int IntKind.u64 0), (Value.int IntKind.i64 0), (Value.slice none 0 0), (Value.int IntKind.i64 0)], false⟩ where
  info := ⟨Tryz.t27, by kernel_rfl, rfl, rfl, _, rfl, rfl⟩
  kind := ⟨(TypeDesc.struct #[{ name := "Name", type := 9, offset := 0, embedded := false, tag := "", pkgPath := "", byteOffset := 0 }, { name := "Key", type := 22, offset := 1, embedded := false, tag := "", pkgPath := "", byteOffset := 16 }, { name := "Head", type := 24, offset := 2, embedded := false, tag := "", pkgPath := "", byteOffset := 24 }, { name := "Wanted", type := 25, offset := 6, embedded := false, tag := "", pkgPath := "", byteOffset := 56 }, { name := "Had", type := 3, offset := 7, embedded := false, tag := "", pkgPath := "", byteOffset := 80 }]), by kernel_rfl, ⟨_, rfl, by rfl, by simp⟩⟩
  flat := fun h => by cases h
theorem tb25 : TI.ok Tryz.prog 25 ⟨(.slice 9), 1, 24, [(Value.slice none 0 0)], false⟩ where
  info := ⟨Tryz.t25, by kernel_rfl, rfl, rfl, _, rfl, rfl⟩
  kind := ⟨(TypeDesc.slice 9), by kernel_rfl, rfl⟩
  flat := fun h => by cases h
theorem tb2 : TI.ok Tryz.prog 2 ⟨(.int .i64), 1, 8, [(Value.int IntKind.i64 0)], false⟩ where
  info := ⟨Tryz.t2, by kernel_rfl, rfl, rfl, _, rfl, rfl⟩
  kind := ⟨(TypeDesc.int IntKind.i64), by kernel_rfl, rfl⟩
  flat := fun h => by cases h
theorem tb29 : TI.ok Tryz.prog 29 ⟨(.slice 82), 1, 24, [(Value.slice none 0 0)], false⟩ where
  info := ⟨Tryz.t29, by kernel_rfl, rfl, rfl, _, rfl, rfl⟩
  kind := ⟨(TypeDesc.slice 82), by kernel_rfl, rfl⟩
  flat := fun h => by cases h
theorem tb32 : TI.ok Tryz.prog 32 ⟨(.struct [(9, 0), (29, 1), (30, 2)]), 3, 64, [(Value.string { data := #[] }), (Value.slice none 0 0), (Value.slice none 0 0)], false⟩ where
  info := ⟨Tryz.t32, by kernel_rfl, rfl, rfl, _, rfl, rfl⟩
  kind := ⟨(TypeDesc.struct #[{ name := "Name", type := 9, offset := 0, embedded := false, tag := "", pkgPath := "", byteOffset := 0 }, { name := "Entries", type := 29, offset := 1, embedded := false, tag := "", pkgPath := "", byteOffset := 16 }, { name := "Sides", type := 30, offset := 2, embedded := false, tag := "", pkgPath := "", byteOffset := 40 }]), by kernel_rfl, ⟨_, rfl, by rfl, by simp⟩⟩
  flat := fun h => by cases h
theorem tb82 : TI.ok Tryz.prog 82 ⟨(.struct [(9, 0), (9, 1)]), 2, 32, [(Value.string { data := #[] }), (Value.string { data := #[] })], true⟩ where
  info := ⟨Tryz.t82, by kernel_rfl, rfl, rfl, _, rfl, rfl⟩
  kind := ⟨(TypeDesc.struct #[{ name := "Name", type := 9, offset := 0, embedded := false, tag := "", pkgPath := "", byteOffset := 0 }, { name := "Value", type := 9, offset := 1, embedded := false, tag := "", pkgPath := "", byteOffset := 16 }]), by kernel_rfl, ⟨_, rfl, by rfl, by simp⟩⟩
  flat := fun _ => ⟨by kernel_rfl, by kernel_rfl⟩
theorem tb28 : TI.ok Tryz.prog 28 ⟨(.slice 24), 1, 24, [(Value.slice none 0 0)], false⟩ where
  info := ⟨Tryz.t28, by kernel_rfl, rfl, rfl, _, rfl, rfl⟩
  kind := ⟨(TypeDesc.slice 24), by kernel_rfl, rfl⟩
  flat := fun h => by cases h
theorem tb35 : TI.ok Tryz.prog 35 ⟨(.int .i64), 1, 8, [(Value.int IntKind.i64 0)], false⟩ where
  info := ⟨Tryz.t35, by kernel_rfl, rfl, rfl, _, rfl, rfl⟩
  kind := ⟨(TypeDesc.int IntKind.i64), by kernel_rfl, rfl⟩
  flat := fun h => by cases h
theorem tb34 : TI.ok Tryz.prog 34 ⟨(.struct [(24, 0), (32, 4)]), 7, 96, [(Value.int IntKind.i64 0), (Value.int IntKind.u64 0), (Value.int IntKind.u64 0), (Value.int IntKind.i64 0), (Value.string { data := #[] }), (Value.slice none 0 0), (Value.slice none 0 0)], false⟩ where
  info := ⟨Tryz.t34, by kernel_rfl, rfl, rfl, _, rfl, rfl⟩
  kind := ⟨(TypeDesc.struct #[{ name := "Head", type := 24, offset := 0, embedded := false, tag := "", pkgPath := "", byteOffset := 0 }, { name := "Proof", type := 32, offset := 4, embedded := false, tag := "", pkgPath := "", byteOffset := 32 }]), by kernel_rfl, ⟨_, rfl, by rfl, by simp⟩⟩
  flat := fun h => by cases h
theorem tb83 : TI.ok Tryz.prog 83 ⟨(.slice 5), 1, 24, [(Value.slice none 0 0)], false⟩ where
  info := ⟨Tryz.t83, by kernel_rfl, rfl, rfl, _, rfl, rfl⟩
  kind := ⟨(TypeDesc.slice 5), by kernel_rfl, rfl⟩
  flat := fun h => by cases h
theorem tb39 : TI.ok Tryz.prog 39 ⟨(.struct [(9, 0), (9, 1), (22, 2), (22, 3)]), 4, 48, [(Value.string { data := #[] }), (Value.string { data := #[] }), (Value.int IntKind.u64 0), (Value.int IntKind.u64 0)], true⟩ where
  info := ⟨Tryz.t39, by kernel_rfl, rfl, rfl, _, rfl, rfl⟩
  kind := ⟨(TypeDesc.struct #[{ name := "Name", type := 9, offset := 0, embedded := false, tag := "", pkgPath := "", byteOffset := 0 }, { name := "Value", type := 9, offset := 1, embedded := false, tag := "", pkgPath := "", byteOffset := 16 }, { name := "N", type := 22, offset := 2, embedded := false, tag := "", pkgPath := "", byteOffset := 32 }, { name := "Tag", type := 22, offset := 3, embedded := false, tag := "", pkgPath := "", byteOffset := 40 }]), by kernel_rfl, ⟨_, rfl, by rfl, by simp⟩⟩
  flat := fun _ => ⟨by kernel_rfl, by kernel_rfl⟩
theorem tb5 : TI.ok Tryz.prog 5 ⟨(.int .u8), 1, 1, [(Value.int IntKind.u8 0)], false⟩ where
  info := ⟨Tryz.t5, by kernel_rfl, rfl, rfl, _, rfl, rfl⟩
  kind := ⟨(TypeDesc.int IntKind.u8), by kernel_rfl, rfl⟩
  flat := fun h => by cases h
theorem tb30 : TI.ok Tryz.prog 30 ⟨(.slice 22), 1, 24, [(Value.slice none 0 0)], false⟩ where
  info := ⟨Tryz.t30, by kernel_rfl, rfl, rfl, _, rfl, rfl⟩
  kind := ⟨(TypeDesc.slice 22), by kernel_rfl, rfl⟩
  flat := fun h => by cases h
theorem tb101 : TI.ok Tryz.prog 101 ⟨(.struct [(99, 0), (83, 1)]), 2, 32, [(Value.pointer none), (Value.slice none 0 0)], false⟩ where
  info := ⟨Tryz.t101, by kernel_rfl, rfl, rfl, _, rfl, rfl⟩
  kind := ⟨(TypeDesc.struct #[{ name := "addr", type := 99, offset := 0, embedded := false, tag := "", pkgPath := "strings", byteOffset := 0 }, { name := "buf", type := 83, offset := 1, embedded := false, tag := "", pkgPath := "strings", byteOffset := 8 }]), by kernel_rfl, ⟨_, rfl, by rfl, by simp⟩⟩
  flat := fun h => by cases h
theorem tb99 : TI.ok Tryz.prog 99 ⟨(.pointer 101), 1, 8, [(Value.pointer none)], false⟩ where
  info := ⟨Tryz.t99, by kernel_rfl, rfl, rfl, _, rfl, rfl⟩
  kind := ⟨(TypeDesc.pointer 101), by kernel_rfl, rfl⟩
  flat := fun h => by cases h
theorem tb21 : TI.ok Tryz.prog 21 ⟨(.int .i32), 1, 4, [(Value.int IntKind.i32 0)], false⟩ where
  info := ⟨Tryz.t21, by kernel_rfl, rfl, rfl, _, rfl, rfl⟩
  kind := ⟨(TypeDesc.int IntKind.i32), by kernel_rfl, rfl⟩
  flat := fun h => by cases h
theorem tb75 : TI.ok Tryz.prog 75 ⟨.other, 1, 8, [Value.nilFunc], false⟩ where
  info := ⟨Tryz.t75, by kernel_rfl, rfl, rfl, _, rfl, rfl⟩
  kind := ⟨(TypeDesc.func #[21] #[4] false), by kernel_rfl, ⟨(by intro fs h; cases h), (by intro n e h; cases h)⟩⟩
  flat := fun h => by cases h
theorem tb106 : TI.ok Tryz.prog 106 ⟨(.int .u64), 1, 8, [(Value.int IntKind.u64 0)], false⟩ where
  info := ⟨Tryz.t106, by kernel_rfl, rfl, rfl, _, rfl, rfl⟩
  kind := ⟨(TypeDesc.int IntKind.u64), by kernel_rfl, rfl⟩
  flat := fun h => by cases h
theorem tb126 : TI.ok Tryz.prog 126 ⟨(.slice 28), 1, 24, [(Value.slice none 0 0)], false⟩ where
  info := ⟨Tryz.t126, by kernel_rfl, rfl, rfl, _, rfl, rfl⟩
  kind := ⟨(TypeDesc.slice 28), by kernel_rfl, rfl⟩
  flat := fun h => by cases h
theorem tb150 : TI.ok Tryz.prog 150 ⟨(.slice 3), 1, 24, [(Value.slice none 0 0)], false⟩ where
  info := ⟨Tryz.t150, by kernel_rfl, rfl, rfl, _, rfl, rfl⟩
  kind := ⟨(TypeDesc.slice 3), by kernel_rfl, rfl⟩
  flat := fun h => by cases h
theorem tb98 : TI.ok Tryz.prog 98 ⟨(.array 8 5), 8, 8, [(Value.int IntKind.u8 0), (Value.int IntKind.u8 0), (Value.int IntKind.u8 0), (Value.int IntKind.u8 0), (Value.int IntKind.u8 0), (Value.int IntKind.u8 0), (Value.int IntKind.u8 0), (Value.int IntKind.u8 0)], false⟩ where
  info := ⟨Tryz.t98, by kernel_rfl, rfl, rfl, _, rfl, rfl⟩
  kind := ⟨(TypeDesc.array 8 5), by kernel_rfl, rfl⟩
  flat := fun h => by cases h
theorem tb133 : TI.ok Tryz.prog 133 ⟨.other, 1, 8, [(Value.pointer none)], false⟩ where
  info := ⟨Tryz.t133, by kernel_rfl, rfl, rfl, _, rfl, rfl⟩
  kind := ⟨TypeDesc.unsafePointer, by kernel_rfl, ⟨(by intro fs h; cases h), (by intro n e h; cases h)⟩⟩
  flat := fun h => by cases h
theorem tb153 : TI.ok Tryz.prog 153 ⟨(.array 16 5), 16, 16, [(Value.int IntKind.u8 0), (Value.int IntKind.u8 0), (Value.int IntKind.u8 0), (Value.int IntKind.u8 0), (Value.int IntKind.u8 0), (Value.int IntKind.u8 0), (Value.int IntKind.u8 0), (Value.int IntKind.u8 0), (Value.int IntKind.u8 0), (Value.int IntKind.u8 0), (Value.int IntKind.u8 0), (Value.int IntKind.u8 0), (Value.int IntKind.u8 0), (Value.int IntKind.u8 0), (Value.int IntKind.u8 0), (Value.int IntKind.u8 0)], false⟩ where
  info := ⟨Tryz.t153, by kernel_rfl, rfl, rfl, _, rfl, rfl⟩
  kind := ⟨(TypeDesc.array 16 5), by kernel_rfl, rfl⟩
  flat := fun h => by cases h
theorem tb4 : TI.ok Tryz.prog 4 ⟨.bool, 1, 1, [(Value.bool false)], false⟩ where
  info := ⟨Tryz.t4, by kernel_rfl, rfl, rfl, _, rfl, rfl⟩
  kind := ⟨TypeDesc.bool, by kernel_rfl, rfl⟩
  flat := fun h => by cases h
theorem tb51 : TI.ok Tryz.prog 51 ⟨.other, 1, 8, [Value.nilFunc], false⟩ where
  info := ⟨Tryz.t51, by kernel_rfl, rfl, rfl, _, rfl, rfl⟩
  kind := ⟨(TypeDesc.func #[9] #[4] false), by kernel_rfl, ⟨(by intro fs h; cases h), (by intro n e h; cases h)⟩⟩
  flat := fun h => by cases h
theorem tb90 : TI.ok Tryz.prog 90 ⟨.other, 1, 8, [Value.nilFunc], false⟩ where
  info := ⟨Tryz.t90, by kernel_rfl, rfl, rfl, _, rfl, rfl⟩
  kind := ⟨(TypeDesc.func #[24] #[4] false), by kernel_rfl, ⟨(by intro fs h; cases h), (by intro n e h; cases h)⟩⟩
  flat := fun h => by cases h
theorem tb104 : TI.ok Tryz.prog 104 ⟨.other, 1, 16, [Value.nilIface], false⟩ where
  info := ⟨Tryz.t104, by kernel_rfl, rfl, rfl, _, rfl, rfl⟩
  kind := ⟨(TypeDesc.interface #[("Error", 109)]), by kernel_rfl, ⟨(by intro fs h; cases h), (by intro n e h; cases h)⟩⟩
  flat := fun h => by cases h
theorem tb146 : TI.ok Tryz.prog 146 ⟨.other, 1, 8, [Value.nilFunc], false⟩ where
  info := ⟨Tryz.t146, by kernel_rfl, rfl, rfl, _, rfl, rfl⟩
  kind := ⟨(TypeDesc.func #[82] #[4] false), by kernel_rfl, ⟨(by intro fs h; cases h), (by intro n e h; cases h)⟩⟩
  flat := fun h => by cases h
theorem tb148 : TI.ok Tryz.prog 148 ⟨.other, 1, 8, [Value.nilFunc], false⟩ where
  info := ⟨Tryz.t148, by kernel_rfl, rfl, rfl, _, rfl, rfl⟩
  kind := ⟨(TypeDesc.func #[22] #[4] false), by kernel_rfl, ⟨(by intro fs h; cases h), (by intro n e h; cases h)⟩⟩
  flat := fun h => by cases h
theorem tb123 : TI.ok Tryz.prog 123 ⟨(.pointer 5), 1, 8, [(Value.pointer none)], false⟩ where
  info := ⟨Tryz.t123, by kernel_rfl, rfl, rfl, _, rfl, rfl⟩
  kind := ⟨(TypeDesc.pointer 5), by kernel_rfl, rfl⟩
  flat := fun h => by cases h
theorem tb141 : TI.ok Tryz.prog 141 ⟨.other, 1, 8, [Value.nilFunc], false⟩ where
  info := ⟨Tryz.t141, by kernel_rfl, rfl, rfl, _, rfl, rfl⟩
  kind := ⟨(TypeDesc.func #[82, 9] #[3] false), by kernel_rfl, ⟨(by intro fs h; cases h), (by intro n e h; cases h)⟩⟩
  flat := fun h => by cases h
theorem tbok : TbOK Tryz.prog tb := lkT_ok ⟨tb9, tb22, tb3, tb24, tb27, tb25, tb2, tb29, tb32, tb82, tb28, tb35, tb34, tb83, tb39, tb5, tb30, tb101, tb99, tb21, tb75, tb106, tb126, tb150, tb98, tb133, tb153, tb4, tb51, tb90, tb104, tb146, tb148, tb123, tb141, trivial⟩
theorem mixed : Tryz.prog.follows .mixedOrders = true := by kernel_rfl
theorem bd2 : bodied Tryz.prog 2 := ⟨_, Tryz.func2, by kernel_rfl, by kernel_rfl⟩
theorem bd3 : bodied Tryz.prog 3 := ⟨_, Tryz.func3, by kernel_rfl, by kernel_rfl⟩
theorem bd4 : bodied Tryz.prog 4 := ⟨_, Tryz.func4, by kernel_rfl, by kernel_rfl⟩
theorem bd5 : bodied Tryz.prog 5 := ⟨_, Tryz.func5, by kernel_rfl, by kernel_rfl⟩
theorem bd6 : bodied Tryz.prog 6 := ⟨_, Tryz.func6, by kernel_rfl, by kernel_rfl⟩
theorem bd7 : bodied Tryz.prog 7 := ⟨_, Tryz.func7, by kernel_rfl, by kernel_rfl⟩
theorem bd8 : bodied Tryz.prog 8 := ⟨_, Tryz.func8, by kernel_rfl, by kernel_rfl⟩
theorem bd9 : bodied Tryz.prog 9 := ⟨_, Tryz.func9, by kernel_rfl, by kernel_rfl⟩
theorem bd10 : bodied Tryz.prog 10 := ⟨_, Tryz.func10, by kernel_rfl, by kernel_rfl⟩
theorem bd11 : bodied Tryz.prog 11 := ⟨_, Tryz.func11, by kernel_rfl, by kernel_rfl⟩
theorem bd12 : bodied Tryz.prog 12 := ⟨_, Tryz.func12, by kernel_rfl, by kernel_rfl⟩
theorem bd13 : bodied Tryz.prog 13 := ⟨_, Tryz.func13, by kernel_rfl, by kernel_rfl⟩
theorem bd14 : bodied Tryz.prog 14 := ⟨_, Tryz.func14, by kernel_rfl, by kernel_rfl⟩
theorem bd15 : bodied Tryz.prog 15 := ⟨_, Tryz.func15, by kernel_rfl, by kernel_rfl⟩
theorem bd16 : bodied Tryz.prog 16 := ⟨_, Tryz.func16, by kernel_rfl, by kernel_rfl⟩
theorem bd17 : bodied Tryz.prog 17 := ⟨_, Tryz.func17, by kernel_rfl, by kernel_rfl⟩
theorem bd18 : bodied Tryz.prog 18 := ⟨_, Tryz.func18, by kernel_rfl, by kernel_rfl⟩
theorem bd19 : bodied Tryz.prog 19 := ⟨_, Tryz.func19, by kernel_rfl, by kernel_rfl⟩
theorem bd20 : bodied Tryz.prog 20 := ⟨_, Tryz.func20, by kernel_rfl, by kernel_rfl⟩
theorem bd21 : bodied Tryz.prog 21 := ⟨_, Tryz.func21, by kernel_rfl, by kernel_rfl⟩
theorem bd22 : bodied Tryz.prog 22 := ⟨_, Tryz.func22, by kernel_rfl, by kernel_rfl⟩
theorem bd23 : bodied Tryz.prog 23 := ⟨_, Tryz.func23, by kernel_rfl, by kernel_rfl⟩
theorem bd24 : bodied Tryz.prog 24 := ⟨_, Tryz.func24, by kernel_rfl, by kernel_rfl⟩
theorem bd25 : bodied Tryz.prog 25 := ⟨_, Tryz.func25, by kernel_rfl, by kernel_rfl⟩
theorem bd26 : bodied Tryz.prog 26 := ⟨_, Tryz.func26, by kernel_rfl, by kernel_rfl⟩
theorem bd27 : bodied Tryz.prog 27 := ⟨_, Tryz.func27, by kernel_rfl, by kernel_rfl⟩
theorem bd28 : bodied Tryz.prog 28 := ⟨_, Tryz.func28, by kernel_rfl, by kernel_rfl⟩
theorem bd29 : bodied Tryz.prog 29 := ⟨_, Tryz.func29, by kernel_rfl, by kernel_rfl⟩
theorem bd30 : bodied Tryz.prog 30 := ⟨_, Tryz.func30, by kernel_rfl, by kernel_rfl⟩
theorem bd31 : bodied Tryz.prog 31 := ⟨_, Tryz.func31, by kernel_rfl, by kernel_rfl⟩
theorem bd32 : bodied Tryz.prog 32 := ⟨_, Tryz.func32, by kernel_rfl, by kernel_rfl⟩
theorem bd33 : bodied Tryz.prog 33 := ⟨_, Tryz.func33, by kernel_rfl, by kernel_rfl⟩
theorem bd34 : bodied Tryz.prog 34 := ⟨_, Tryz.func34, by kernel_rfl, by kernel_rfl⟩
theorem bd35 : bodied Tryz.prog 35 := ⟨_, Tryz.func35, by kernel_rfl, by kernel_rfl⟩
theorem bd36 : bodied Tryz.prog 36 := ⟨_, Tryz.func36, by kernel_rfl, by kernel_rfl⟩
theorem bd37 : bodied Tryz.prog 37 := ⟨_, Tryz.func37, by kernel_rfl, by kernel_rfl⟩
theorem bd38 : bodied Tryz.prog 38 := ⟨_, Tryz.func38, by kernel_rfl, by kernel_rfl⟩
theorem bd39 : bodied Tryz.prog 39 := ⟨_, Tryz.func39, by kernel_rfl, by kernel_rfl⟩
theorem bd40 : bodied Tryz.prog 40 := ⟨_, Tryz.func40, by kernel_rfl, by kernel_rfl⟩
theorem bd41 : bodied Tryz.prog 41 := ⟨_, Tryz.func41, by kernel_rfl, by kernel_rfl⟩
theorem bd42 : bodied Tryz.prog 42 := ⟨_, Tryz.func42, by kernel_rfl, by kernel_rfl⟩
theorem bd43 : bodied Tryz.prog 43 := ⟨_, Tryz.func43, by kernel_rfl, by kernel_rfl⟩
theorem bd44 : bodied Tryz.prog 44 := ⟨_, Tryz.func44, by kernel_rfl, by kernel_rfl⟩
theorem bd45 : bodied Tryz.prog 45 := ⟨_, Tryz.func45, by kernel_rfl, by kernel_rfl⟩
theorem bd46 : bodied Tryz.prog 46 := ⟨_, Tryz.func46, by kernel_rfl, by kernel_rfl⟩
theorem bd47 : bodied Tryz.prog 47 := ⟨_, Tryz.func47, by kernel_rfl, by kernel_rfl⟩
theorem bd48 : bodied Tryz.prog 48 := ⟨_, Tryz.func48, by kernel_rfl, by kernel_rfl⟩
theorem bd49 : bodied Tryz.prog 49 := ⟨_, Tryz.func49, by kernel_rfl, by kernel_rfl⟩
theorem bd50 : bodied Tryz.prog 50 := ⟨_, Tryz.func50, by kernel_rfl, by kernel_rfl⟩
theorem bd51 : bodied Tryz.prog 51 := ⟨_, Tryz.func51, by kernel_rfl, by kernel_rfl⟩
theorem bd52 : bodied Tryz.prog 52 := ⟨_, Tryz.func52, by kernel_rfl, by kernel_rfl⟩
theorem bd53 : bodied Tryz.prog 53 := ⟨_, Tryz.func53, by kernel_rfl, by kernel_rfl⟩
theorem bd54 : bodied Tryz.prog 54 := ⟨_, Tryz.func54, by kernel_rfl, by kernel_rfl⟩
theorem bd55 : bodied Tryz.prog 55 := ⟨_, Tryz.func55, by kernel_rfl, by kernel_rfl⟩
theorem bd56 : bodied Tryz.prog 56 := ⟨_, Tryz.func56, by kernel_rfl, by kernel_rfl⟩
theorem bd57 : bodied Tryz.prog 57 := ⟨_, Tryz.func57, by kernel_rfl, by kernel_rfl⟩
theorem bd58 : bodied Tryz.prog 58 := ⟨_, Tryz.func58, by kernel_rfl, by kernel_rfl⟩
theorem bd59 : bodied Tryz.prog 59 := ⟨_, Tryz.func59, by kernel_rfl, by kernel_rfl⟩
theorem bd60 : bodied Tryz.prog 60 := ⟨_, Tryz.func60, by kernel_rfl, by kernel_rfl⟩
theorem bd61 : bodied Tryz.prog 61 := ⟨_, Tryz.func61, by kernel_rfl, by kernel_rfl⟩
theorem bd62 : bodied Tryz.prog 62 := ⟨_, Tryz.func62, by kernel_rfl, by kernel_rfl⟩
theorem bd63 : bodied Tryz.prog 63 := ⟨_, Tryz.func63, by kernel_rfl, by kernel_rfl⟩
theorem bd64 : bodied Tryz.prog 64 := ⟨_, Tryz.func64, by kernel_rfl, by kernel_rfl⟩
theorem bd65 : bodied Tryz.prog 65 := ⟨_, Tryz.func65, by kernel_rfl, by kernel_rfl⟩
theorem bd66 : bodied Tryz.prog 66 := ⟨_, Tryz.func66, by kernel_rfl, by kernel_rfl⟩
theorem bd67 : bodied Tryz.prog 67 := ⟨_, Tryz.func67, by kernel_rfl, by kernel_rfl⟩
theorem bd68 : bodied Tryz.prog 68 := ⟨_, Tryz.func68, by kernel_rfl, by kernel_rfl⟩
theorem bd69 : bodied Tryz.prog 69 := ⟨_, Tryz.func69, by kernel_rfl, by kernel_rfl⟩
theorem bd70 : bodied Tryz.prog 70 := ⟨_, Tryz.func70, by kernel_rfl, by kernel_rfl⟩
theorem bd71 : bodied Tryz.prog 71 := ⟨_, Tryz.func71, by kernel_rfl, by kernel_rfl⟩
theorem bd72 : bodied Tryz.prog 72 := ⟨_, Tryz.func72, by kernel_rfl, by kernel_rfl⟩
theorem bd73 : bodied Tryz.prog 73 := ⟨_, Tryz.func73, by kernel_rfl, by kernel_rfl⟩
theorem bd74 : bodied Tryz.prog 74 := ⟨_, Tryz.func74, by kernel_rfl, by kernel_rfl⟩
theorem bd75 : bodied Tryz.prog 75 := ⟨_, Tryz.func75, by kernel_rfl, by kernel_rfl⟩
theorem bd76 : bodied Tryz.prog 76 := ⟨_, Tryz.func76, by kernel_rfl, by kernel_rfl⟩
theorem bd77 : bodied Tryz.prog 77 := ⟨_, Tryz.func77, by kernel_rfl, by kernel_rfl⟩
theorem bd78 : bodied Tryz.prog 78 := ⟨_, Tryz.func78, by kernel_rfl, by kernel_rfl⟩
theorem bd79 : bodied Tryz.prog 79 := ⟨_, Tryz.func79, by kernel_rfl, by kernel_rfl⟩
theorem bd80 : bodied Tryz.prog 80 := ⟨_, Tryz.func80, by kernel_rfl, by kernel_rfl⟩
theorem bd81 : bodied Tryz.prog 81 := ⟨_, Tryz.func81, by kernel_rfl, by kernel_rfl⟩
theorem bd83 : bodied Tryz.prog 83 := ⟨_, Tryz.func83, by kernel_rfl, by kernel_rfl⟩
theorem bd84 : bodied Tryz.prog 84 := ⟨_, Tryz.func84, by kernel_rfl, by kernel_rfl⟩
theorem bd85 : bodied Tryz.prog 85 := ⟨_, Tryz.func85, by kernel_rfl, by kernel_rfl⟩
theorem bd86 : bodied Tryz.prog 86 := ⟨_, Tryz.func86, by kernel_rfl, by kernel_rfl⟩
theorem bd87 : bodied Tryz.prog 87 := ⟨_, Tryz.func87, by kernel_rfl, by kernel_rfl⟩
theorem bd88 : bodied Tryz.prog 88 := ⟨_, Tryz.func88, by kernel_rfl, by kernel_rfl⟩
theorem bd89 : bodied Tryz.prog 89 := ⟨_, Tryz.func89, by kernel_rfl, by kernel_rfl⟩
theorem bd90 : bodied Tryz.prog 90 := ⟨_, Tryz.func90, by kernel_rfl, by kernel_rfl⟩
theorem bd91 : bodied Tryz.prog 91 := ⟨_, Tryz.func91, by kernel_rfl, by kernel_rfl⟩
theorem bd92 : bodied Tryz.prog 92 := ⟨_, Tryz.func92, by kernel_rfl, by kernel_rfl⟩
theorem bd93 : bodied Tryz.prog 93 := ⟨_, Tryz.func93, by kernel_rfl, by kernel_rfl⟩
theorem bd94 : bodied Tryz.prog 94 := ⟨_, Tryz.func94, by kernel_rfl, by kernel_rfl⟩
theorem bd95 : bodied Tryz.prog 95 := ⟨_, Tryz.func95, by kernel_rfl, by kernel_rfl⟩
theorem bd96 : bodied Tryz.prog 96 := ⟨_, Tryz.func96, by kernel_rfl, by kernel_rfl⟩
theorem bd97 : bodied Tryz.prog 97 := ⟨_, Tryz.func97, by kernel_rfl, by kernel_rfl⟩
theorem bd98 : bodied Tryz.prog 98 := ⟨_, Tryz.func98, by kernel_rfl, by kernel_rfl⟩
theorem bd99 : bodied Tryz.prog 99 := ⟨_, Tryz.func99, by kernel_rfl, by kernel_rfl⟩
theorem bd100 : bodied Tryz.prog 100 := ⟨_, Tryz.func100, by kernel_rfl, by kernel_rfl⟩
theorem bd101 : bodied Tryz.prog 101 := ⟨_, Tryz.func101, by kernel_rfl, by kernel_rfl⟩
theorem bd102 : bodied Tryz.prog 102 := ⟨_, Tryz.func102, by kernel_rfl, by kernel_rfl⟩
theorem bd103 : bodied Tryz.prog 103 := ⟨_, Tryz.func103, by kernel_rfl, by kernel_rfl⟩
theorem bd104 : bodied Tryz.prog 104 := ⟨_, Tryz.func104, by kernel_rfl, by kernel_rfl⟩
theorem bd105 : bodied Tryz.prog 105 := ⟨_, Tryz.func105, by kernel_rfl, by kernel_rfl⟩
theorem bd106 : bodied Tryz.prog 106 := ⟨_, Tryz.func106, by kernel_rfl, by kernel_rfl⟩
theorem bd107 : bodied Tryz.prog 107 := ⟨_, Tryz.func107, by kernel_rfl, by kernel_rfl⟩
theorem bd108 : bodied Tryz.prog 108 := ⟨_, Tryz.func108, by kernel_rfl, by kernel_rfl⟩
end Go.Proofs.YteahoodopphacaaGreat
