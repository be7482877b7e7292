/-
The table of types of this seat's program, and closed facts on its functions, laid by a small program of ours (wip/tools/gentb.py) out of Lean's own print of the program.
-/
import Derived.Test.YthkkgphjjmhglaaGreatDoorProg
import Derived.Test.YthkkgphjjmhglaaGreatDoorFwB
import Derived.KernelRfl
namespace Go.Proofs.YthkkgphjjmhglaaGreatDoor
open Go.TR
def tbl : List (Nat × TI) := [
  (3, ⟨(.int .i64), 1, 8, [(Value.int IntKind.i64 0)], false⟩),
  (9, ⟨.string, 1, 16, [(Value.string { data := #[] })], false⟩),
  (28, ⟨(.struct [(24, 0), (3, 2), (3, 3), (2, 4), (25, 5), (26, 6)]), 7, 104, [(Value.int IntKind.i64 0), (Value.slice none 0 0), (Value.int IntKind.i64 0), (Value.int IntKind.i64 0), (Value.int IntKind.i64 0), (Value.slice none 0 0), (Value.slice none 0 0)], false⟩),
  (72, ⟨(.slice 9), 1, 24, [(Value.slice none 0 0)], false⟩),
  (32, ⟨(.slice 70), 1, 24, [(Value.slice none 0 0)], false⟩),
  (2, ⟨(.int .i64), 1, 8, [(Value.int IntKind.i64 0)], false⟩),
  (29, ⟨(.int .u64), 1, 8, [(Value.int IntKind.u64 0)], false⟩),
  (31, ⟨(.struct [(2, 0), (29, 1), (29, 2), (2, 3)]), 4, 32, [(Value.int IntKind.i64 0), (Value.int IntKind.u64 0), (Value.int IntKind.u64 0), (Value.int IntKind.i64 0)], true⟩),
  (25, ⟨(.slice 31), 1, 24, [(Value.slice none 0 0)], false⟩),
  (165, ⟨(.struct [(9, 0), (29, 1), (31, 2), (72, 6), (3, 7)]), 8, 88, [(Value.string { data := #[] }), (Value.int IntKind.u64 0), (Value.int IntKind.i64 0), (Value.int IntKind.u64 0), (Value.int IntKind.u64 0), (Value.int IntKind.i64 0), (Value.slice none 0 0), (Value.int IntKind.i64 0)], false⟩),
  (167, ⟨(.struct [(3, 0), (3, 1), (3, 2), (3, 3), (2, 4), (3, 5)]), 6, 48, [(Value.int IntKind.i64 0), (Value.int IntKind.i64 0), (Value.int IntKind.i64 0), (Value.int IntKind.i64 0), (Value.int IntKind.i64 0), (Value.int IntKind.i64 0)], true⟩),
  (155, ⟨(.struct [(3, 0), (3, 1), (2, 2), (2, 3), (25, 4), (37, 5)]), 12, 152, [(Value.int IntKind.i64 0), (Value.int IntKind.i64 0), (Value.int IntKind.i64 0), (Value.int IntKind.i64 0), (Value.slice none 0 0), (Value.int IntKind.i64 0), (Value.int IntKind.u64 0), (Value.int IntKind.u64 0), (Value.int IntKind.i64 0), (Value.string { data := #[] }), (Value.slice none 0 0), (Value.slice none 0 0)], false⟩),
  (38, ⟨(.int .i64), 1, 8, [(Value.int IntKind.i64 0)], false⟩),
  (70, ⟨(.struct [(9, 0), (9, 1)]), 2, 32, [(Value.string { data := #[] }), (Value.string { data := #[] })], true⟩),
  (96, ⟨(.struct [(28, 0), (90, 7), (91, 8), (94, 9)]), 11, 184, [(Value.int IntKind.i64 0), (Value.slice none 0 0), (Value.int IntKind.i64 0), (Value.int IntKind.i64 0), (Value.int IntKind.i64 0), (Value.slice none 0 0), (Value.slice none 0 0), (Value.slice none 0 0), (Value.slice none 0 0), (Value.int IntKind.i64 0), (Value.slice none 0 0)], false⟩),
  (94, ⟨(.struct [(2, 0), (92, 1)]), 2, 32, [(Value.int IntKind.i64 0), (Value.slice none 0 0)], false⟩),
  (35, ⟨(.struct [(9, 0), (32, 1), (33, 2)]), 3, 64, [(Value.string { data := #[] }), (Value.slice none 0 0), (Value.slice none 0 0)], false⟩),
  (5, ⟨(.int .u8), 1, 1, [(Value.int IntKind.u8 0)], false⟩),
  (24, ⟨(.struct [(3, 0), (22, 1)]), 2, 32, [(Value.int IntKind.i64 0), (Value.slice none 0 0)], false⟩),
  (55, ⟨(.struct [(9, 0), (9, 1), (29, 2), (29, 3)]), 4, 48, [(Value.string { data := #[] }), (Value.string { data := #[] }), (Value.int IntKind.u64 0), (Value.int IntKind.u64 0)], true⟩),
  (37, ⟨(.struct [(31, 0), (35, 4)]), 7, 96, [(Value.int IntKind.i64 0), (Value.int IntKind.u64 0), (Value.int IntKind.u64 0), (Value.int IntKind.i64 0), (Value.string { data := #[] }), (Value.slice none 0 0), (Value.slice none 0 0)], false⟩),
  (26, ⟨(.slice 32), 1, 24, [(Value.slice none 0 0)], false⟩),
  (22, ⟨(.slice 55), 1, 24, [(Value.slice none 0 0)], false⟩),
  (92, ⟨(.slice 155), 1, 24, [(Value.slice none 0 0)], false⟩),
  (90, ⟨(.slice 165), 1, 24, [(Value.slice none 0 0)], false⟩),
  (21, ⟨(.int .i32), 1, 4, [(Value.int IntKind.i32 0)], false⟩),
  (88, ⟨(.struct [(72, 0), (33, 1), (3, 2), (3, 3), (3, 4), (3, 5), (3, 6), (3, 7), (3, 8)]), 9, 104, [(Value.slice none 0 0), (Value.slice none 0 0), (Value.int IntKind.i64 0), (Value.int IntKind.i64 0), (Value.int IntKind.i64 0), (Value.int IntKind.i64 0), (Value.int IntKind.i64 0), (Value.int IntKind.i64 0), (Value.int IntKind.i64 0)], false⟩),
  (33, ⟨(.slice 29), 1, 24, [(Value.slice none 0 0)], false⟩),
  (161, ⟨(.struct [(96, 0), (3, 11), (159, 12), (97, 13)]), 14, 240, [(Value.int IntKind.i64 0), (Value.slice none 0 0), (Value.int IntKind.i64 0), (Value.int IntKind.i64 0), (Value.int IntKind.i64 0), (Value.slice none 0 0), (Value.slice none 0 0), (Value.slice none 0 0), (Value.slice none 0 0), (Value.int IntKind.i64 0), (Value.slice none 0 0), (Value.int IntKind.i64 0), (Value.slice none 0 0), (Value.slice none 0 0)], false⟩),
  (91, ⟨(.slice 167), 1, 24, [(Value.slice none 0 0)], false⟩),
  (157, ⟨(.struct [(3, 0), (3, 1), (9, 2), (153, 3), (155, 4)]), 16, 208, [(Value.int IntKind.i64 0), (Value.int IntKind.i64 0), (Value.string { data := #[] }), (Value.slice none 0 0), (Value.int IntKind.i64 0), (Value.int IntKind.i64 0), (Value.int IntKind.i64 0), (Value.int IntKind.i64 0), (Value.slice none 0 0), (Value.int IntKind.i64 0), (Value.int IntKind.u64 0), (Value.int IntKind.u64 0), (Value.int IntKind.i64 0), (Value.string { data := #[] }), (Value.slice none 0 0), (Value.slice none 0 0)], false⟩),
  (153, ⟨(.slice 3), 1, 24, [(Value.slice none 0 0)], false⟩),
  (266, ⟨(.slice 5), 1, 24, [(Value.slice none 0 0)], false⟩),
  (159, ⟨(.slice 153), 1, 24, [(Value.slice none 0 0)], false⟩),
  (233, ⟨(.int .u64), 1, 8, [(Value.int IntKind.u64 0)], false⟩),
  (97, ⟨(.slice 175), 1, 24, [(Value.slice none 0 0)], false⟩),
  (210, ⟨.other, 1, 8, [Value.nilFunc], false⟩),
  (330, ⟨(.int .u64), 1, 8, [(Value.int IntKind.u64 0)], false⟩),
  (120, ⟨.other, 1, 8, [(Value.map none)], false⟩),
  (280, ⟨(.int .u32), 1, 4, [(Value.int IntKind.u32 0)], false⟩),
  (312, ⟨(.struct [(310, 0), (266, 1)]), 2, 32, [(Value.pointer none), (Value.slice none 0 0)], false⟩),
  (150, ⟨(.pointer 161), 1, 8, [(Value.pointer none)], false⟩),
  (338, ⟨(.struct [(5, 0), (5, 1)]), 2, 2, [(Value.int IntKind.u8 0), (Value.int IntKind.u8 0)], true⟩),
  (89, ⟨(.slice 157), 1, 24, [(Value.slice none 0 0)], false⟩),
  (310, ⟨(.pointer 312), 1, 8, [(Value.pointer none)], false⟩),
  (4, ⟨.bool, 1, 1, [(Value.bool false)], false⟩),
  (193, ⟨.other, 1, 8, [(Value.map none)], false⟩),
  (224, ⟨(.slice 25), 1, 24, [(Value.slice none 0 0)], false⟩),
  (334, ⟨(.pointer 3), 1, 8, [(Value.pointer none)], false⟩),
  (175, ⟨(.struct [(3, 0), (3, 1), (3, 2), (2, 3)]), 4, 32, [(Value.int IntKind.i64 0), (Value.int IntKind.i64 0), (Value.int IntKind.i64 0), (Value.int IntKind.i64 0)], true⟩),
  (247, ⟨.other, 1, 8, [Value.nilFunc], false⟩),
  (145, ⟨.other, 1, 8, [Value.nilFunc], false⟩),
  (188, ⟨.other, 1, 8, [(Value.map none)], false⟩),
  (171, ⟨.other, 1, 8, [Value.nilFunc], false⟩),
  (243, ⟨(.pointer 239), 1, 8, [(Value.pointer none)], false⟩),
  (246, ⟨.other, 1, 8, [Value.nilFunc], false⟩),
  (51, ⟨.other, 1, 8, [Value.nilFunc], false⟩),
  (267, ⟨(.array 16 5), 16, 16, [(Value.int IntKind.u8 0), (Value.int IntKind.u8 0), (Value.int IntKind.u8 0), (Value.int IntKind.u8 0), (Value.int IntKind.u8 0), (Value.int IntKind.u8 0), (Value.int IntKind.u8 0), (Value.int IntKind.u8 0), (Value.int IntKind.u8 0), (Value.int IntKind.u8 0), (Value.int IntKind.u8 0), (Value.int IntKind.u8 0), (Value.int IntKind.u8 0), (Value.int IntKind.u8 0), (Value.int IntKind.u8 0), (Value.int IntKind.u8 0)], false⟩),
  (329, ⟨(.array 8 5), 8, 8, [(Value.int IntKind.u8 0), (Value.int IntKind.u8 0), (Value.int IntKind.u8 0), (Value.int IntKind.u8 0), (Value.int IntKind.u8 0), (Value.int IntKind.u8 0), (Value.int IntKind.u8 0), (Value.int IntKind.u8 0)], false⟩),
  (339, ⟨(.array 16 338), 32, 32, [(Value.int IntKind.u8 0), (Value.int IntKind.u8 0), (Value.int IntKind.u8 0), (Value.int IntKind.u8 0), (Value.int IntKind.u8 0), (Value.int IntKind.u8 0), (Value.int IntKind.u8 0), (Value.int IntKind.u8 0), (Value.int IntKind.u8 0), (Value.int IntKind.u8 0), (Value.int IntKind.u8 0), (Value.int IntKind.u8 0), (Value.int IntKind.u8 0), (Value.int IntKind.u8 0), (Value.int IntKind.u8 0), (Value.int IntKind.u8 0), (Value.int IntKind.u8 0), (Value.int IntKind.u8 0), (Value.int IntKind.u8 0), (Value.int IntKind.u8 0), (Value.int IntKind.u8 0), (Value.int IntKind.u8 0), (Value.int IntKind.u8 0), (Value.int IntKind.u8 0), (Value.int IntKind.u8 0), (Value.int IntKind.u8 0), (Value.int IntKind.u8 0), (Value.int IntKind.u8 0), (Value.int IntKind.u8 0), (Value.int IntKind.u8 0), (Value.int IntKind.u8 0), (Value.int IntKind.u8 0)], false⟩),
  (348, ⟨.other, 1, 8, [(Value.pointer none)], false⟩),
  (168, ⟨.other, 1, 8, [Value.nilFunc], false⟩),
  (196, ⟨.other, 1, 8, [Value.nilFunc], false⟩),
  (290, ⟨.other, 1, 8, [Value.nilFunc], false⟩),
  (301, ⟨(.int .i64), 1, 8, [(Value.int IntKind.i64 0)], false⟩),
  (315, ⟨.other, 1, 16, [Value.nilIface], false⟩),
  (328, ⟨.other, 1, 8, [Value.nilFunc], false⟩),
  (352, ⟨.other, 1, 8, [Value.nilFunc], false⟩),
  (230, ⟨.other, 1, 8, [Value.nilFunc], false⟩),
  (343, ⟨(.pointer 5), 1, 8, [(Value.pointer none)], false⟩)]
def tb : Tb := lkT tbl
theorem tb3 : TI.ok Tryz.prog 3 ⟨(.int .i64), 1, 8, [(Value.int IntKind.i64 0)], false⟩ where
  info := ⟨Tryz.t3, by kernel_rfl, rfl, rfl, _, rfl, rfl⟩
  kind := ⟨(TypeDesc.int IntKind.i64), by kernel_rfl, rfl⟩
  flat := fun h => by cases h
theorem tb9 : TI.ok Tryz.prog 9 ⟨.string, 1, 16, [(Value.string { data := #[] })], false⟩ where
  info := ⟨Tryz.t9, by kernel_rfl, rfl, rfl, _, rfl, rfl⟩
  kind := ⟨TypeDesc.string, by kernel_rfl, rfl⟩
  flat := fun h => by cases h
theorem tb28 : TI.ok Tryz.prog 28 ⟨(.struct [(24, 0), (3, 2), (3, 3), (2, 4), (25, 5), (26, 6)]), 7, 104, [(Value.int IntKind.i64 0), (Value.slice none 0 0), (Value.int IntKind.i64 0), (Value.int IntKind.i64 0), (Value.int IntKind.i64 0), (Value.slice none 0 0), (Value.slice none 0 0)], false⟩ where
  info := ⟨Tryz.t28, by kernel_rfl, rfl, rfl, _, rfl, rfl⟩
  kind := ⟨(TypeDesc.struct #[{ name := "Queue", type := 24, offset := 0, embedded := false, tag := "", pkgPath := "", byteOffset := 0 }, { name := "Batch", type := 3, offset := 2, embedded := false, tag := "", pkgPath := "", byteOffset := 32 }, { name := "Every", type := 3, offset := 3, embedded := false, tag := "", pkgPath := "", byteOffset := 40 }, { name := "Now", type := 2, offset := 4, embedded := false, tag := "", pkgPath := "", byteOffset := 48 }, { name := "Heads", type := 25, offset := 5, embedded := false, tag := "", pkgPath := "", byteOffset := 56 }, { name := "Books", type := 26, offset := 6, embedded := false, tag := "", pkgPath := "", byteOffset := 80 }]), by kernel_rfl, ⟨_, rfl, by rfl, by simp⟩⟩
  flat := fun h => by cases h
theorem tb72 : TI.ok Tryz.prog 72 ⟨(.slice 9), 1, 24, [(Value.slice none 0 0)], false⟩ where
  info := ⟨Tryz.t72, by kernel_rfl, rfl, rfl, _, rfl, rfl⟩
  kind := ⟨(TypeDesc.slice 9), by kernel_rfl, rfl⟩
  flat := fun h => by cases h
theorem tb32 : TI.ok Tryz.prog 32 ⟨(.slice 70), 1, 24, [(Value.slice none 0 0)], false⟩ where
  info := ⟨Tryz.t32, by kernel_rfl, rfl, rfl, _, rfl, rfl⟩
  kind := ⟨(TypeDesc.slice 70), by kernel_rfl, rfl⟩
  flat := fun h => by cases h
theorem tb2 : TI.ok Tryz.prog 2 ⟨(.int .i64), 1, 8, [(Value.int IntKind.i64 0)], false⟩ where
  info := ⟨Tryz.t2, by kernel_rfl, rfl, rfl, _, rfl, rfl⟩
  kind := ⟨(TypeDesc.int IntKind.i64), by kernel_rfl, rfl⟩
  flat := fun h => by cases h
theorem tb29 : TI.ok Tryz.prog 29 ⟨(.int .u64), 1, 8, [(Value.int IntKind.u64 0)], false⟩ where
  info := ⟨Tryz.t29, by kernel_rfl, rfl, rfl, _, rfl, rfl⟩
  kind := ⟨(TypeDesc.int IntKind.u64), by kernel_rfl, rfl⟩
  flat := fun h => by cases h
theorem tb31 : TI.ok Tryz.prog 31 ⟨(.struct [(2, 0), (29, 1), (29, 2), (2, 3)]), 4, 32, [(Value.int IntKind.i64 0), (Value.int IntKind.u64 0), (Value.int IntKind.u64 0), (Value.int IntKind.i64 0)], true⟩ where
  info := ⟨Tryz.t31, by kernel_rfl, rfl, rfl, _, rfl, rfl⟩
  kind := ⟨(TypeDesc.struct #[{ name := "Epoch", type := 2, offset := 0, embedded := false, tag := "", pkgPath := "", byteOffset := 0 }, { name := "Root", type := 29, offset := 1, embedded := false, tag := "", pkgPath := "", byteOffset := 8 }, { name := "Prev", type := 29, offset := 2, embedded := false, tag := "", pkgPath := "", byteOffset := 16 }, { name := "At", type := 2, offset := 3, embedded := false, tag := "", pkgPath := "", byteOffset := 24 }]), by kernel_rfl, ⟨_, rfl, by rfl, by simp⟩⟩
  flat := fun _ => ⟨by kernel_rfl, by kernel_rfl⟩
theorem tb25 : TI.ok Tryz.prog 25 ⟨(.slice 31), 1, 24, [(Value.slice none 0 0)], false⟩ where
  info := ⟨Tryz.t25, by kernel_rfl, rfl, rfl, _, rfl, rfl⟩
  kind := ⟨(TypeDesc.slice 31), by kernel_rfl, rfl⟩
  flat := fun h => by cases h
theorem tb165 : TI.ok Tryz.prog 165 ⟨(.struct [(9, 0), (29, 1), (31, 2), (72, 6), (3, 7)]), 8, 88, [(Value.string { data := #[] }), (Value.int IntKind.u64 0), (Value.int IntKind.i64 0), (Value.int IntKind.u64 0), (Value.int IntKind.u64 0), (Value.int IntKind.i64 0), (Value.slice none 0 0), (Value.int IntKind.i64 0)], false⟩ where
  info := ⟨Tryz.t165, by kernel_rfl, rfl, rfl, _, rfl, rfl⟩
  kind := ⟨(TypeDesc.struct #[{ name := "Name", type := 9, offset := 0, embedded := false, tag := "", pkgPath := "", byteOffset := 0 }, { name := "Key", type := 29, offset := 1, embedded := false, tag := "", pkgPath := "", byteOffset := 16 }, { name := "Head", type := 31, offset := 2, embedded := false, tag := "", pkgPath := "", byteOffset := 24 }, { name := "Wanted", type := 72, offset := 6, embedded := false, tag := "", pkgPath := "", byteOffset := 56 }, { name := "Had", type := 3, offset := 7, embedded := false, tag := "", pkgPath := "", byteOffset := 80 }]), by kernel_rfl, ⟨_, rfl, by rfl, by simp⟩⟩
  flat := fun h => by cases h
theorem tb167 : TI.ok Tryz.prog 167 ⟨(.struct [(3, 0), (3, 1), (3, 2), (3, 3), (2, 4), (3, 5)]), 6, 48, [(Value.int IntKind.i64 0), (Value.int IntKind.i64 0), (Value.int IntKind.i64 0), (Value.int IntKind.i64 0), (Value.int IntKind.i64 0), (Value.int IntKind.i64 0)], true⟩ where
  info := ⟨Tryz.t167, by kernel_rfl, rfl, rfl, _, rfl, rfl⟩
  kind := ⟨(TypeDesc.struct #[{ name := "Least", type := 3, offset := 0, embedded := false, tag := "", pkgPath := "", byteOffset := 0 }, { name := "Most", type := 3, offset := 1, embedded := false, tag := "", pkgPath := "", byteOffset := 8 }, { name := "Lost", type := 3, offset := 2, embedded := false, tag := "", pkgPath := "", byteOffset := 16 }, { name := "Gap", type := 3, offset := 3, embedded := false, tag := "", pkgPath := "", byteOffset := 24 }, { name := "Next", type := 2, offset := 4, embedded := false, tag := "", pkgPath := "", byteOffset := 32 }, { name := "Asked", type := 3, offset := 5, embedded := false, tag := "", pkgPath := "", byteOffset := 40 }]), by kernel_rfl, ⟨_, rfl, by rfl, by simp⟩⟩
  flat := fun _ => ⟨by kernel_rfl, by kernel_rfl⟩
theorem tb155 : TI.ok Tryz.prog 155 ⟨(.struct [(3, 0), (3, 1), (2, 2), (2, 3), (25, 4), (37, 5)]), 12, 152, [(Value.int IntKind.i64 0), (Value.int IntKind.i64 0), (Value.int IntKind.i64 0), (Value.int IntKind.i64 0), (Value.slice none 0 0), (Value.int IntKind.i64 0), (Value.int IntKind.u64 0), (Value.int IntKind.u64 0), (Value.int IntKind.i64 0), (Value.string { data := #[] }), (Value.slice none 0 0), (Value.slice none 0 0)], false⟩ where
  info := ⟨Tryz.t155, by kernel_rfl, rfl, rfl, _, rfl, rfl⟩
  kind := ⟨(TypeDesc.struct #[{ name := "To", type := 3, offset := 0, embedded := false, tag := "", pkgPath := "", byteOffset := 0 }, { name := "From", type := 3, offset := 1, embedded := false, tag := "", pkgPath := "", byteOffset := 8 }, { name := "Since", type := 2, offset := 2, embedded := false, tag := "", pkgPath := "", byteOffset := 16 }, { name := "Due", type := 2, offset := 3, embedded := false, tag := "", pkgPath := "", byteOffset := 24 }, { name := "Heads", type := 25, offset := 4, embedded := false, tag := "", pkgPath := "", byteOffset := 32 }, { name := "Reply", type := 37, offset := 5, embedded := false, tag := "", pkgPath := "", byteOffset := 56 }]), by kernel_rfl, ⟨_, rfl, by rfl, by simp⟩⟩
  flat := fun h => by cases h
theorem tb38 : TI.ok Tryz.prog 38 ⟨(.int .i64), 1, 8, [(Value.int IntKind.i64 0)], false⟩ where
  info := ⟨Tryz.t38, by kernel_rfl, rfl, rfl, _, rfl, rfl⟩
  kind := ⟨(TypeDesc.int IntKind.i64), by kernel_rfl, rfl⟩
  flat := fun h => by cases h
theorem tb70 : TI.ok Tryz.prog 70 ⟨(.struct [(9, 0), (9, 1)]), 2, 32, [(Value.string { data := #[] }), (Value.string { data := #[] })], true⟩ where
  info := ⟨Tryz.t70, by kernel_rfl, rfl, rfl, _, rfl, rfl⟩
  kind := ⟨(TypeDesc.struct #[{ name := "Name", type := 9, offset := 0, embedded := false, tag := "", pkgPath := "", byteOffset := 0 }, { name := "Value", type := 9, offset := 1, embedded := false, tag := "", pkgPath := "", byteOffset := 16 }]), by kernel_rfl, ⟨_, rfl, by rfl, by simp⟩⟩
  flat := fun _ => ⟨by kernel_rfl, by kernel_rfl⟩
theorem tb96 : TI.ok Tryz.prog 96 ⟨(.struct [(28, 0), (90, 7), (91, 8), (94, 9)]), 11, 184, [(Value.int IntKind.i64 0), (Value.slice none 0 0), (Value.int IntKind.i64 0), (Value.int IntKind.i64 0), (Value.int IntKind.i64 0), (Value.slice none 0 0), (Value.slice none 0 0), (Value.slice none 0 0), (Value.slice none 0 0), (Value.int IntKind.i64 0), (Value.slice none 0 0)], false⟩ where
  info := ⟨Tryz.t96, by kernel_rfl, rfl, rfl, _, rfl, rfl⟩
  kind := ⟨(TypeDesc.struct #[{ name := "Clerk", type := 28, offset := 0, embedded := false, tag := "", pkgPath := "", byteOffset := 0 }, { name := "Owners", type := 90, offset := 7, embedded := false, tag := "", pkgPath := "", byteOffset := 104 }, { name := "Polls", type := 91, offset := 8, embedded := false, tag := "", pkgPath := "", byteOffset := 128 }, { name := "Net", type := 94, offset := 9, embedded := false, tag := "", pkgPath := "", byteOffset := 152 }]), by kernel_rfl, ⟨_, rfl, by rfl, by simp⟩⟩
  flat := fun h => by cases h
theorem tb94 : TI.ok Tryz.prog 94 ⟨(.struct [(2, 0), (92, 1)]), 2, 32, [(Value.int IntKind.i64 0), (Value.slice none 0 0)], false⟩ where
  info := ⟨Tryz.t94, by kernel_rfl, rfl, rfl, _, rfl, rfl⟩
  kind := ⟨(TypeDesc.struct #[{ name := "Now", type := 2, offset := 0, embedded := false, tag := "", pkgPath := "", byteOffset := 0 }, { name := "Way", type := 92, offset := 1, embedded := false, tag := "", pkgPath := "", byteOffset := 8 }]), by kernel_rfl, ⟨_, rfl, by rfl, by simp⟩⟩
  flat := fun h => by cases h
theorem tb35 : TI.ok Tryz.prog 35 ⟨(.struct [(9, 0), (32, 1), (33, 2)]), 3, 64, [(Value.string { data := #[] }), (Value.slice none 0 0), (Value.slice none 0 0)], false⟩ where
  info := ⟨Tryz.t35, by kernel_rfl, rfl, rfl, _, rfl, rfl⟩
  kind := ⟨(TypeDesc.struct #[{ name := "Name", type := 9, offset := 0, embedded := false, tag := "", pkgPath := "", byteOffset := 0 }, { name := "Entries", type := 32, offset := 1, embedded := false, tag := "", pkgPath := "", byteOffset := 16 }, { name := "Sides", type := 33, offset := 2, embedded := false, tag := "", pkgPath := "", byteOffset := 40 }]), by kernel_rfl, ⟨_, rfl, by rfl, by simp⟩⟩
  flat := fun h => by cases h
theorem tb5 : TI.ok Tryz.prog 5 ⟨(.int .u8), 1, 1, [(Value.int IntKind.u8 0)], false⟩ where
  info := ⟨Tryz.t5, by kernel_rfl, rfl, rfl, _, rfl, rfl⟩
  kind := ⟨(TypeDesc.int IntKind.u8), by kernel_rfl, rfl⟩
  flat := fun h => by cases h
theorem tb24 : TI.ok Tryz.prog 24 ⟨(.struct [(3, 0), (22, 1)]), 2, 32, [(Value.int IntKind.i64 0), (Value.slice none 0 0)], false⟩ where
  info := ⟨Tryz.t24, by kernel_rfl, rfl, rfl, _, rfl, rfl⟩
  kind := ⟨(TypeDesc.struct #[{ name := "Most", type := 3, offset := 0, embedded := false, tag := "", pkgPath := "", byteOffset := 0 }, { name := "Wait", type := 22, offset := 1, embedded := false, tag := "", pkgPath := "", byteOffset := 8 }]), by kernel_rfl, ⟨_, rfl, by rfl, by simp⟩⟩
  flat := fun h => by cases h
theorem tb55 : TI.ok Tryz.prog 55 ⟨(.struct [(9, 0), (9, 1), (29, 2), (29, 3)]), 4, 48, [(Value.string { data := #[] }), (Value.string { data := #[] }), (Value.int IntKind.u64 0), (Value.int IntKind.u64 0)], true⟩ where
  info := ⟨Tryz.t55, by kernel_rfl, rfl, rfl, _, rfl, rfl⟩
  kind := ⟨(TypeDesc.struct #[{ name := "Name", type := 9, offset := 0, embedded := false, tag := "", pkgPath := "", byteOffset := 0 }, { name := "Value", type := 9, offset := 1, embedded := false, tag := "", pkgPath := "", byteOffset := 16 }, { name := "N", type := 29, offset := 2, embedded := false, tag := "", pkgPath := "", byteOffset := 32 }, { name := "Tag", type := 29, offset := 3, embedded := false, tag := "", pkgPath := "", byteOffset := 40 }]), by kernel_rfl, ⟨_, rfl, by rfl, by simp⟩⟩
  flat := fun _ => ⟨by kernel_rfl, by kernel_rfl⟩
theorem tb37 : TI.ok Tryz.prog 37 ⟨(.struct [(31, 0), (35, 4)]), 7, 96, [(Value.int IntKind.i64 0), (Value.int IntKind.u64 0), (Value.int IntKind.u64 0), (Value.int IntKind.i64 0), (Value.string { data := #[] }), (Value.slice none 0 0), (Value.slice none 0 0)], false⟩ where
  info := ⟨Tryz.t37, by kernel_rfl, rfl, rfl, _, rfl, rfl⟩
  kind := ⟨(TypeDesc.struct #[{ name := "Head", type := 31, offset := 0, embedded := false, tag := "", pkgPath := "", byteOffset := 0 }, { name := "Proof", type := 35, offset := 4, embedded := false, tag := "", pkgPath := "", byteOffset := 32 }]), by kernel_rfl, ⟨_, rfl, by rfl, by simp⟩⟩
  flat := fun h => by cases h
theorem tb26 : TI.ok Tryz.prog 26 ⟨(.slice 32), 1, 24, [(Value.slice none 0 0)], false⟩ where
  info := ⟨Tryz.t26, by kernel_rfl, rfl, rfl, _, rfl, rfl⟩
  kind := ⟨(TypeDesc.slice 32), by kernel_rfl, rfl⟩
  flat := fun h => by cases h
theorem tb22 : TI.ok Tryz.prog 22 ⟨(.slice 55), 1, 24, [(Value.slice none 0 0)], false⟩ where
  info := ⟨Tryz.t22, by kernel_rfl, rfl, rfl, _, rfl, rfl⟩
  kind := ⟨(TypeDesc.slice 55), by kernel_rfl, rfl⟩
  flat := fun h => by cases h
theorem tb92 : TI.ok Tryz.prog 92 ⟨(.slice 155), 1, 24, [(Value.slice none 0 0)], false⟩ where
  info := ⟨Tryz.t92, by kernel_rfl, rfl, rfl, _, rfl, rfl⟩
  kind := ⟨(TypeDesc.slice 155), by kernel_rfl, rfl⟩
  flat := fun h => by cases h
theorem tb90 : TI.ok Tryz.prog 90 ⟨(.slice 165), 1, 24, [(Value.slice none 0 0)], false⟩ where
  info := ⟨Tryz.t90, by kernel_rfl, rfl, rfl, _, rfl, rfl⟩
  kind := ⟨(TypeDesc.slice 165), by kernel_rfl, rfl⟩
  flat := fun h => by cases h
theorem tb21 : TI.ok Tryz.prog 21 ⟨(.int .i32), 1, 4, [(Value.int IntKind.i32 0)], false⟩ where
  info := ⟨Tryz.t21, by kernel_rfl, rfl, rfl, _, rfl, rfl⟩
  kind := ⟨(TypeDesc.int IntKind.i32), by kernel_rfl, rfl⟩
  flat := fun h => by cases h
theorem tb88 : TI.ok Tryz.prog 88 ⟨(.struct [(72, 0), (33, 1), (3, 2), (3, 3), (3, 4), (3, 5), (3, 6), (3, 7), (3, 8)]), 9, 104, [(Value.slice none 0 0), (Value.slice none 0 0), (Value.int IntKind.i64 0), (Value.int IntKind.i64 0), (Value.int IntKind.i64 0), (Value.int IntKind.i64 0), (Value.int IntKind.i64 0), (Value.int IntKind.i64 0), (Value.int IntKind.i64 0)], false⟩ where
  info := ⟨Tryz.t88, by kernel_rfl, rfl, rfl, _, rfl, rfl⟩
  kind := ⟨(TypeDesc.struct #[{ name := "Names", type := 72, offset := 0, embedded := false, tag := "", pkgPath := "", byteOffset := 0 }, { name := "Keys", type := 33, offset := 1, embedded := false, tag := "", pkgPath := "", byteOffset := 24 }, { name := "Most", type := 3, offset := 2, embedded := false, tag := "", pkgPath := "", byteOffset := 48 }, { name := "Batch", type := 3, offset := 3, embedded := false, tag := "", pkgPath := "", byteOffset := 56 }, { name := "Every", type := 3, offset := 4, embedded := false, tag := "", pkgPath := "", byteOffset := 64 }, { name := "Least", type := 3, offset := 5, embedded := false, tag := "", pkgPath := "", byteOffset := 72 }, { name := "Top", type := 3, offset := 6, embedded := false, tag := "", pkgPath := "", byteOffset := 80 }, { name := "Lost", type := 3, offset := 7, embedded := false, tag := "", pkgPath := "", byteOffset := 88 }, { name := "Reach", type := 3, offset := 8, embedded := false, tag := "", pkgPath := "", byteOffset := 96 }]), by kernel_rfl, ⟨_, rfl, by rfl, by simp⟩⟩
  flat := fun h => by cases h
theorem tb33 : TI.ok Tryz.prog 33 ⟨(.slice 29), 1, 24, [(Value.slice none 0 0)], false⟩ where
  info := ⟨Tryz.t33, by kernel_rfl, rfl, rfl, _, rfl, rfl⟩
  kind := ⟨(TypeDesc.slice 29), by kernel_rfl, rfl⟩
  flat := fun h => by cases h
theorem tb161 : TI.ok Tryz.prog 161 ⟨(.struct [(96, 0), (3, 11), (159, 12), (97, 13)]), 14, 240, [(Value.int IntKind.i64 0), (Value.slice none 0 0), (Value.int IntKind.i64 0), (Value.int IntKind.i64 0), (Value.int IntKind.i64 0), (Value.slice none 0 0), (Value.slice none 0 0), (Value.slice none 0 0), (Value.slice none 0 0), (Value.int IntKind.i64 0), (Value.slice none 0 0), (Value.int IntKind.i64 0), (Value.slice none 0 0), (Value.slice none 0 0)], false⟩ where
  info := ⟨Tryz.t161, by kernel_rfl, rfl, rfl, _, rfl, rfl⟩
  kind := ⟨(TypeDesc.struct #[{ name := "Town", type := 96, offset := 0, embedded := true, tag := "", pkgPath := "", byteOffset := 0 }, { name := "reach", type := 3, offset := 11, embedded := false, tag := "", pkgPath := "tallyroll/town", byteOffset := 184 }, { name := "fates", type := 159, offset := 12, embedded := false, tag := "", pkgPath := "tallyroll/town", byteOffset := 192 }, { name := "events", type := 97, offset := 13, embedded := false, tag := "", pkgPath := "tallyroll/town", byteOffset := 216 }]), by kernel_rfl, ⟨_, rfl, by rfl, by simp⟩⟩
  flat := fun h => by cases h
theorem tb91 : TI.ok Tryz.prog 91 ⟨(.slice 167), 1, 24, [(Value.slice none 0 0)], false⟩ where
  info := ⟨Tryz.t91, by kernel_rfl, rfl, rfl, _, rfl, rfl⟩
  kind := ⟨(TypeDesc.slice 167), by kernel_rfl, rfl⟩
  flat := fun h => by cases h
theorem tb157 : TI.ok Tryz.prog 157 ⟨(.struct [(3, 0), (3, 1), (9, 2), (153, 3), (155, 4)]), 16, 208, [(Value.int IntKind.i64 0), (Value.int IntKind.i64 0), (Value.string { data := #[] }), (Value.slice none 0 0), (Value.int IntKind.i64 0), (Value.int IntKind.i64 0), (Value.int IntKind.i64 0), (Value.int IntKind.i64 0), (Value.slice none 0 0), (Value.int IntKind.i64 0), (Value.int IntKind.u64 0), (Value.int IntKind.u64 0), (Value.int IntKind.i64 0), (Value.string { data := #[] }), (Value.slice none 0 0), (Value.slice none 0 0)], false⟩ where
  info := ⟨Tryz.t157, by kernel_rfl, rfl, rfl, _, rfl, rfl⟩
  kind := ⟨(TypeDesc.struct #[{ name := "Kind", type := 3, offset := 0, embedded := false, tag := "", pkgPath := "", byteOffset := 0 }, { name := "Who", type := 3, offset := 1, embedded := false, tag := "", pkgPath := "", byteOffset := 8 }, { name := "Value", type := 9, offset := 2, embedded := false, tag := "", pkgPath := "", byteOffset := 16 }, { name := "Fates", type := 153, offset := 3, embedded := false, tag := "", pkgPath := "", byteOffset := 32 }, { name := "Letter", type := 155, offset := 4, embedded := false, tag := "", pkgPath := "", byteOffset := 56 }]), by kernel_rfl, ⟨_, rfl, by rfl, by simp⟩⟩
  flat := fun h => by cases h
theorem tb153 : TI.ok Tryz.prog 153 ⟨(.slice 3), 1, 24, [(Value.slice none 0 0)], false⟩ where
  info := ⟨Tryz.t153, by kernel_rfl, rfl, rfl, _, rfl, rfl⟩
  kind := ⟨(TypeDesc.slice 3), by kernel_rfl, rfl⟩
  flat := fun h => by cases h
theorem tb266 : TI.ok Tryz.prog 266 ⟨(.slice 5), 1, 24, [(Value.slice none 0 0)], false⟩ where
  info := ⟨Tryz.t266, by kernel_rfl, rfl, rfl, _, rfl, rfl⟩
  kind := ⟨(TypeDesc.slice 5), by kernel_rfl, rfl⟩
  flat := fun h => by cases h
theorem tb159 : TI.ok Tryz.prog 159 ⟨(.slice 153), 1, 24, [(Value.slice none 0 0)], false⟩ where
  info := ⟨Tryz.t159, by kernel_rfl, rfl, rfl, _, rfl, rfl⟩
  kind := ⟨(TypeDesc.slice 153), by kernel_rfl, rfl⟩
  flat := fun h => by cases h
theorem tb233 : TI.ok Tryz.prog 233 ⟨(.int .u64), 1, 8, [(Value.int IntKind.u64 0)], false⟩ where
  info := ⟨Tryz.t233, by kernel_rfl, rfl, rfl, _, rfl, rfl⟩
  kind := ⟨(TypeDesc.int IntKind.u64), by kernel_rfl, rfl⟩
  flat := fun h => by cases h
theorem tb97 : TI.ok Tryz.prog 97 ⟨(.slice 175), 1, 24, [(Value.slice none 0 0)], false⟩ where
  info := ⟨Tryz.t97, by kernel_rfl, rfl, rfl, _, rfl, rfl⟩
  kind := ⟨(TypeDesc.slice 175), by kernel_rfl, rfl⟩
  flat := fun h => by cases h
theorem tb210 : TI.ok Tryz.prog 210 ⟨.other, 1, 8, [Value.nilFunc], false⟩ where
  info := ⟨Tryz.t210, by kernel_rfl, rfl, rfl, _, rfl, rfl⟩
  kind := ⟨(TypeDesc.func #[9, 9] #[3] false), by kernel_rfl, ⟨(by intro fs h; cases h), (by intro n e h; cases h)⟩⟩
  flat := fun h => by cases h
theorem tb330 : TI.ok Tryz.prog 330 ⟨(.int .u64), 1, 8, [(Value.int IntKind.u64 0)], false⟩ where
  info := ⟨Tryz.t330, by kernel_rfl, rfl, rfl, _, rfl, rfl⟩
  kind := ⟨(TypeDesc.int IntKind.u64), by kernel_rfl, rfl⟩
  flat := fun h => by cases h
theorem tb120 : TI.ok Tryz.prog 120 ⟨.other, 1, 8, [(Value.map none)], false⟩ where
  info := ⟨Tryz.t120, by kernel_rfl, rfl, rfl, _, rfl, rfl⟩
  kind := ⟨(TypeDesc.map 9 29), by kernel_rfl, ⟨(by intro fs h; cases h), (by intro n e h; cases h)⟩⟩
  flat := fun h => by cases h
theorem tb280 : TI.ok Tryz.prog 280 ⟨(.int .u32), 1, 4, [(Value.int IntKind.u32 0)], false⟩ where
  info := ⟨Tryz.t280, by kernel_rfl, rfl, rfl, _, rfl, rfl⟩
  kind := ⟨(TypeDesc.int IntKind.u32), by kernel_rfl, rfl⟩
  flat := fun h => by cases h
theorem tb312 : TI.ok Tryz.prog 312 ⟨(.struct [(310, 0), (266, 1)]), 2, 32, [(Value.pointer none), (Value.slice none 0 0)], false⟩ where
  info := ⟨Tryz.t312, by kernel_rfl, rfl, rfl, _, rfl, rfl⟩
  kind := ⟨(TypeDesc.struct #[{ name := "addr", type := 310, offset := 0, embedded := false, tag := "", pkgPath := "strings", byteOffset := 0 }, { name := "buf", type := 266, offset := 1, embedded := false, tag := "", pkgPath := "strings", byteOffset := 8 }]), by kernel_rfl, ⟨_, rfl, by rfl, by simp⟩⟩
  flat := fun h => by cases h
theorem tb150 : TI.ok Tryz.prog 150 ⟨(.pointer 161), 1, 8, [(Value.pointer none)], false⟩ where
  info := ⟨Tryz.t150, by kernel_rfl, rfl, rfl, _, rfl, rfl⟩
  kind := ⟨(TypeDesc.pointer 161), by kernel_rfl, rfl⟩
  flat := fun h => by cases h
theorem tb338 : TI.ok Tryz.prog 338 ⟨(.struct [(5, 0), (5, 1)]), 2, 2, [(Value.int IntKind.u8 0), (Value.int IntKind.u8 0)], true⟩ where
  info := ⟨Tryz.t338, by kernel_rfl, rfl, rfl, _, rfl, rfl⟩
  kind := ⟨(TypeDesc.struct #[{ name := "lo", type := 5, offset := 0, embedded := false, tag := "", pkgPath := "unicode/utf8", byteOffset := 0 }, { name := "hi", type := 5, offset := 1, embedded := false, tag := "", pkgPath := "unicode/utf8", byteOffset := 1 }]), by kernel_rfl, ⟨_, rfl, by rfl, by simp⟩⟩
  flat := fun _ => ⟨by kernel_rfl, by kernel_rfl⟩
theorem tb89 : TI.ok Tryz.prog 89 ⟨(.slice 157), 1, 24, [(Value.slice none 0 0)], false⟩ where
  info := ⟨Tryz.t89, by kernel_rfl, rfl, rfl, _, rfl, rfl⟩
  kind := ⟨(TypeDesc.slice 157), by kernel_rfl, rfl⟩
  flat := fun h => by cases h
theorem tb310 : TI.ok Tryz.prog 310 ⟨(.pointer 312), 1, 8, [(Value.pointer none)], false⟩ where
  info := ⟨Tryz.t310, by kernel_rfl, rfl, rfl, _, rfl, rfl⟩
  kind := ⟨(TypeDesc.pointer 312), by kernel_rfl, rfl⟩
  flat := fun h => by cases h
theorem tb4 : TI.ok Tryz.prog 4 ⟨.bool, 1, 1, [(Value.bool false)], false⟩ where
  info := ⟨Tryz.t4, by kernel_rfl, rfl, rfl, _, rfl, rfl⟩
  kind := ⟨TypeDesc.bool, by kernel_rfl, rfl⟩
  flat := fun h => by cases h
theorem tb193 : TI.ok Tryz.prog 193 ⟨.other, 1, 8, [(Value.map none)], false⟩ where
  info := ⟨Tryz.t193, by kernel_rfl, rfl, rfl, _, rfl, rfl⟩
  kind := ⟨(TypeDesc.map 9 4), by kernel_rfl, ⟨(by intro fs h; cases h), (by intro n e h; cases h)⟩⟩
  flat := fun h => by cases h
theorem tb224 : TI.ok Tryz.prog 224 ⟨(.slice 25), 1, 24, [(Value.slice none 0 0)], false⟩ where
  info := ⟨Tryz.t224, by kernel_rfl, rfl, rfl, _, rfl, rfl⟩
  kind := ⟨(TypeDesc.slice 25), by kernel_rfl, rfl⟩
  flat := fun h => by cases h
theorem tb334 : TI.ok Tryz.prog 334 ⟨(.pointer 3), 1, 8, [(Value.pointer none)], false⟩ where
  info := ⟨Tryz.t334, by kernel_rfl, rfl, rfl, _, rfl, rfl⟩
  kind := ⟨(TypeDesc.pointer 3), by kernel_rfl, rfl⟩
  flat := fun h => by cases h
theorem tb175 : TI.ok Tryz.prog 175 ⟨(.struct [(3, 0), (3, 1), (3, 2), (2, 3)]), 4, 32, [(Value.int IntKind.i64 0), (Value.int IntKind.i64 0), (Value.int IntKind.i64 0), (Value.int IntKind.i64 0)], true⟩ where
  info := ⟨Tryz.t175, by kernel_rfl, rfl, rfl, _, rfl, rfl⟩
  kind := ⟨(TypeDesc.struct #[{ name := "Kind", type := 3, offset := 0, embedded := false, tag := "", pkgPath := "", byteOffset := 0 }, { name := "Who", type := 3, offset := 1, embedded := false, tag := "", pkgPath := "", byteOffset := 8 }, { name := "N", type := 3, offset := 2, embedded := false, tag := "", pkgPath := "", byteOffset := 16 }, { name := "At", type := 2, offset := 3, embedded := false, tag := "", pkgPath := "", byteOffset := 24 }]), by kernel_rfl, ⟨_, rfl, by rfl, by simp⟩⟩
  flat := fun _ => ⟨by kernel_rfl, by kernel_rfl⟩
theorem tb247 : TI.ok Tryz.prog 247 ⟨.other, 1, 8, [Value.nilFunc], false⟩ where
  info := ⟨Tryz.t247, by kernel_rfl, rfl, rfl, _, rfl, rfl⟩
  kind := ⟨(TypeDesc.func #[21] #[4] false), by kernel_rfl, ⟨(by intro fs h; cases h), (by intro n e h; cases h)⟩⟩
  flat := fun h => by cases h
theorem tb145 : TI.ok Tryz.prog 145 ⟨.other, 1, 8, [Value.nilFunc], false⟩ where
  info := ⟨Tryz.t145, by kernel_rfl, rfl, rfl, _, rfl, rfl⟩
  kind := ⟨(TypeDesc.func #[9] #[] false), by kernel_rfl, ⟨(by intro fs h; cases h), (by intro n e h; cases h)⟩⟩
  flat := fun h => by cases h
theorem tb188 : TI.ok Tryz.prog 188 ⟨.other, 1, 8, [(Value.map none)], false⟩ where
  info := ⟨Tryz.t188, by kernel_rfl, rfl, rfl, _, rfl, rfl⟩
  kind := ⟨(TypeDesc.map 9 32), by kernel_rfl, ⟨(by intro fs h; cases h), (by intro n e h; cases h)⟩⟩
  flat := fun h => by cases h
theorem tb171 : TI.ok Tryz.prog 171 ⟨.other, 1, 8, [Value.nilFunc], false⟩ where
  info := ⟨Tryz.t171, by kernel_rfl, rfl, rfl, _, rfl, rfl⟩
  kind := ⟨(TypeDesc.func #[155, 153] #[] false), by kernel_rfl, ⟨(by intro fs h; cases h), (by intro n e h; cases h)⟩⟩
  flat := fun h => by cases h
theorem tb243 : TI.ok Tryz.prog 243 ⟨(.pointer 239), 1, 8, [(Value.pointer none)], false⟩ where
  info := ⟨Tryz.t243, by kernel_rfl, rfl, rfl, _, rfl, rfl⟩
  kind := ⟨(TypeDesc.pointer 239), by kernel_rfl, rfl⟩
  flat := fun h => by cases h
theorem tb246 : TI.ok Tryz.prog 246 ⟨.other, 1, 8, [Value.nilFunc], false⟩ where
  info := ⟨Tryz.t246, by kernel_rfl, rfl, rfl, _, rfl, rfl⟩
  kind := ⟨(TypeDesc.func #[70] #[4] false), by kernel_rfl, ⟨(by intro fs h; cases h), (by intro n e h; cases h)⟩⟩
  flat := fun h => by cases h
theorem tb51 : TI.ok Tryz.prog 51 ⟨.other, 1, 8, [Value.nilFunc], false⟩ where
  info := ⟨Tryz.t51, by kernel_rfl, rfl, rfl, _, rfl, rfl⟩
  kind := ⟨(TypeDesc.func #[9] #[4] false), by kernel_rfl, ⟨(by intro fs h; cases h), (by intro n e h; cases h)⟩⟩
  flat := fun h => by cases h
theorem tb267 : TI.ok Tryz.prog 267 ⟨(.array 16 5), 16, 16, [(Value.int IntKind.u8 0), (Value.int IntKind.u8 0), (Value.int IntKind.u8 0), (Value.int IntKind.u8 0), (Value.int IntKind.u8 0), (Value.int IntKind.u8 0), (Value.int IntKind.u8 0), (Value.int IntKind.u8 0), (Value.int IntKind.u8 0), (Value.int IntKind.u8 0), (Value.int IntKind.u8 0), (Value.int IntKind.u8 0), (Value.int IntKind.u8 0), (Value.int IntKind.u8 0), (Value.int IntKind.u8 0), (Value.int IntKind.u8 0)], false⟩ where
  info := ⟨Tryz.t267, by kernel_rfl, rfl, rfl, _, rfl, rfl⟩
  kind := ⟨(TypeDesc.array 16 5), by kernel_rfl, rfl⟩
  flat := fun h => by cases h
theorem tb329 : TI.ok Tryz.prog 329 ⟨(.array 8 5), 8, 8, [(Value.int IntKind.u8 0), (Value.int IntKind.u8 0), (Value.int IntKind.u8 0), (Value.int IntKind.u8 0), (Value.int IntKind.u8 0), (Value.int IntKind.u8 0), (Value.int IntKind.u8 0), (Value.int IntKind.u8 0)], false⟩ where
  info := ⟨Tryz.t329, by kernel_rfl, rfl, rfl, _, rfl, rfl⟩
  kind := ⟨(TypeDesc.array 8 5), by kernel_rfl, rfl⟩
  flat := fun h => by cases h
theorem tb339 : TI.ok Tryz.prog 339 ⟨(.array 16 338), 32, 32, [(Value.int IntKind.u8 0), (Value.int IntKind.u8 0), (Value.int IntKind.u8 0), (Value.int IntKind.u8 0), (Value.int IntKind.u8 0), (Value.int IntKind.u8 0), (Value.int IntKind.u8 0), (Value.int IntKind.u8 0), (Value.int IntKind.u8 0), (Value.int IntKind.u8 0), (Value.int IntKind.u8 0), (Value.int IntKind.u8 0), (Value.int IntKind.u8 0), (Value.int IntKind.u8 0), (Value.int IntKind.u8 0), (Value.int IntKind.u8 0), (Value.int IntKind.u8 0), (Value.int IntKind.u8 0), (Value.int IntKind.u8 0), (Value.int IntKind.u8 0), (Value.int IntKind.u8 0), (Value.int IntKind.u8 0), (Value.int IntKind.u8 0), (Value.int IntKind.u8 0), (Value.int IntKind.u8 0), (Value.int IntKind.u8 0), (Value.int IntKind.u8 0), (Value.int IntKind.u8 0), (Value.int IntKind.u8 0), (Value.int IntKind.u8 0), (Value.int IntKind.u8 0), (Value.int IntKind.u8 0)], false⟩ where
  info := ⟨Tryz.t339, by kernel_rfl, rfl, rfl, _, rfl, rfl⟩
  kind := ⟨(TypeDesc.array 16 338), by kernel_rfl, rfl⟩
  flat := fun h => by cases h
theorem tb348 : TI.ok Tryz.prog 348 ⟨.other, 1, 8, [(Value.pointer none)], false⟩ where
  info := ⟨Tryz.t348, by kernel_rfl, rfl, rfl, _, rfl, rfl⟩
  kind := ⟨TypeDesc.unsafePointer, by kernel_rfl, ⟨(by intro fs h; cases h), (by intro n e h; cases h)⟩⟩
  flat := fun h => by cases h
theorem tb168 : TI.ok Tryz.prog 168 ⟨.other, 1, 8, [Value.nilFunc], false⟩ where
  info := ⟨Tryz.t168, by kernel_rfl, rfl, rfl, _, rfl, rfl⟩
  kind := ⟨(TypeDesc.func #[3] #[4] false), by kernel_rfl, ⟨(by intro fs h; cases h), (by intro n e h; cases h)⟩⟩
  flat := fun h => by cases h
theorem tb196 : TI.ok Tryz.prog 196 ⟨.other, 1, 8, [Value.nilFunc], false⟩ where
  info := ⟨Tryz.t196, by kernel_rfl, rfl, rfl, _, rfl, rfl⟩
  kind := ⟨(TypeDesc.func #[51] #[] false), by kernel_rfl, ⟨(by intro fs h; cases h), (by intro n e h; cases h)⟩⟩
  flat := fun h => by cases h
theorem tb290 : TI.ok Tryz.prog 290 ⟨.other, 1, 8, [Value.nilFunc], false⟩ where
  info := ⟨Tryz.t290, by kernel_rfl, rfl, rfl, _, rfl, rfl⟩
  kind := ⟨(TypeDesc.func #[155] #[4] false), by kernel_rfl, ⟨(by intro fs h; cases h), (by intro n e h; cases h)⟩⟩
  flat := fun h => by cases h
theorem tb301 : TI.ok Tryz.prog 301 ⟨(.int .i64), 1, 8, [(Value.int IntKind.i64 0)], false⟩ where
  info := ⟨Tryz.t301, by kernel_rfl, rfl, rfl, _, rfl, rfl⟩
  kind := ⟨(TypeDesc.int IntKind.i64), by kernel_rfl, rfl⟩
  flat := fun h => by cases h
theorem tb315 : TI.ok Tryz.prog 315 ⟨.other, 1, 16, [Value.nilIface], false⟩ where
  info := ⟨Tryz.t315, by kernel_rfl, rfl, rfl, _, rfl, rfl⟩
  kind := ⟨(TypeDesc.interface #[("Error", 319)]), by kernel_rfl, ⟨(by intro fs h; cases h), (by intro n e h; cases h)⟩⟩
  flat := fun h => by cases h
theorem tb328 : TI.ok Tryz.prog 328 ⟨.other, 1, 8, [Value.nilFunc], false⟩ where
  info := ⟨Tryz.t328, by kernel_rfl, rfl, rfl, _, rfl, rfl⟩
  kind := ⟨(TypeDesc.func #[29] #[4] false), by kernel_rfl, ⟨(by intro fs h; cases h), (by intro n e h; cases h)⟩⟩
  flat := fun h => by cases h
theorem tb352 : TI.ok Tryz.prog 352 ⟨.other, 1, 8, [Value.nilFunc], false⟩ where
  info := ⟨Tryz.t352, by kernel_rfl, rfl, rfl, _, rfl, rfl⟩
  kind := ⟨(TypeDesc.func #[31] #[4] false), by kernel_rfl, ⟨(by intro fs h; cases h), (by intro n e h; cases h)⟩⟩
  flat := fun h => by cases h
theorem tb230 : TI.ok Tryz.prog 230 ⟨.other, 1, 8, [Value.nilFunc], false⟩ where
  info := ⟨Tryz.t230, by kernel_rfl, rfl, rfl, _, rfl, rfl⟩
  kind := ⟨(TypeDesc.func #[70, 9] #[3] false), by kernel_rfl, ⟨(by intro fs h; cases h), (by intro n e h; cases h)⟩⟩
  flat := fun h => by cases h
theorem tb343 : TI.ok Tryz.prog 343 ⟨(.pointer 5), 1, 8, [(Value.pointer none)], false⟩ where
  info := ⟨Tryz.t343, by kernel_rfl, rfl, rfl, _, rfl, rfl⟩
  kind := ⟨(TypeDesc.pointer 5), by kernel_rfl, rfl⟩
  flat := fun h => by cases h
theorem tbok : TbOK Tryz.prog tb := lkT_ok ⟨tb3, tb9, tb28, tb72, tb32, tb2, tb29, tb31, tb25, tb165, tb167, tb155, tb38, tb70, tb96, tb94, tb35, tb5, tb24, tb55, tb37, tb26, tb22, tb92, tb90, tb21, tb88, tb33, tb161, tb91, tb157, tb153, tb266, tb159, tb233, tb97, tb210, tb330, tb120, tb280, tb312, tb150, tb338, tb89, tb310, tb4, tb193, tb224, tb334, tb175, tb247, tb145, tb188, tb171, tb243, tb246, tb51, tb267, tb329, tb339, tb348, tb168, tb196, tb290, tb301, tb315, tb328, tb352, tb230, tb343, trivial⟩
theorem mixed : Tryz.prog.follows .mixedOrders = true := by kernel_rfl
theorem bd11 : bodied Tryz.prog 11 := ⟨_, Tryz.func11, by kernel_rfl, by kernel_rfl⟩
theorem bd15 : bodied Tryz.prog 15 := ⟨_, Tryz.func15, by kernel_rfl, by kernel_rfl⟩
theorem bd22 : bodied Tryz.prog 22 := ⟨_, Tryz.func22, by kernel_rfl, by kernel_rfl⟩
theorem bd26 : bodied Tryz.prog 26 := ⟨_, Tryz.func26, by kernel_rfl, by kernel_rfl⟩
theorem bd27 : bodied Tryz.prog 27 := ⟨_, Tryz.func27, by kernel_rfl, by kernel_rfl⟩
theorem bd28 : bodied Tryz.prog 28 := ⟨_, Tryz.func28, by kernel_rfl, by kernel_rfl⟩
theorem bd29 : bodied Tryz.prog 29 := ⟨_, Tryz.func29, by kernel_rfl, by kernel_rfl⟩
theorem bd30 : bodied Tryz.prog 30 := ⟨_, Tryz.func30, by kernel_rfl, by kernel_rfl⟩
theorem bd31 : bodied Tryz.prog 31 := ⟨_, Tryz.func31, by kernel_rfl, by kernel_rfl⟩
theorem bd32 : bodied Tryz.prog 32 := ⟨_, Tryz.func32, by kernel_rfl, by kernel_rfl⟩
theorem bd33 : bodied Tryz.prog 33 := ⟨_, Tryz.func33, by kernel_rfl, by kernel_rfl⟩
theorem bd34 : bodied Tryz.prog 34 := ⟨_, Tryz.func34, by kernel_rfl, by kernel_rfl⟩
theorem bd35 : bodied Tryz.prog 35 := ⟨_, Tryz.func35, by kernel_rfl, by kernel_rfl⟩
theorem bd36 : bodied Tryz.prog 36 := ⟨_, Tryz.func36, by kernel_rfl, by kernel_rfl⟩
theorem bd54 : bodied Tryz.prog 54 := ⟨_, Tryz.func54, by kernel_rfl, by kernel_rfl⟩
theorem bd55 : bodied Tryz.prog 55 := ⟨_, Tryz.func55, by kernel_rfl, by kernel_rfl⟩
theorem bd66 : bodied Tryz.prog 66 := ⟨_, Tryz.func66, by kernel_rfl, by kernel_rfl⟩
theorem bd71 : bodied Tryz.prog 71 := ⟨_, Tryz.func71, by kernel_rfl, by kernel_rfl⟩
theorem bd78 : bodied Tryz.prog 78 := ⟨_, Tryz.func78, by kernel_rfl, by kernel_rfl⟩
theorem bd79 : bodied Tryz.prog 79 := ⟨_, Tryz.func79, by kernel_rfl, by kernel_rfl⟩
theorem bd80 : bodied Tryz.prog 80 := ⟨_, Tryz.func80, by kernel_rfl, by kernel_rfl⟩
theorem bd81 : bodied Tryz.prog 81 := ⟨_, Tryz.func81, by kernel_rfl, by kernel_rfl⟩
theorem bd82 : bodied Tryz.prog 82 := ⟨_, Tryz.func82, by kernel_rfl, by kernel_rfl⟩
theorem bd83 : bodied Tryz.prog 83 := ⟨_, Tryz.func83, by kernel_rfl, by kernel_rfl⟩
theorem bd84 : bodied Tryz.prog 84 := ⟨_, Tryz.func84, by kernel_rfl, by kernel_rfl⟩
theorem bd85 : bodied Tryz.prog 85 := ⟨_, Tryz.func85, by kernel_rfl, by kernel_rfl⟩
theorem bd98 : bodied Tryz.prog 98 := ⟨_, Tryz.func98, by kernel_rfl, by kernel_rfl⟩
theorem bd99 : bodied Tryz.prog 99 := ⟨_, Tryz.func99, by kernel_rfl, by kernel_rfl⟩
theorem bd103 : bodied Tryz.prog 103 := ⟨_, Tryz.func103, by kernel_rfl, by kernel_rfl⟩
theorem bd107 : bodied Tryz.prog 107 := ⟨_, Tryz.func107, by kernel_rfl, by kernel_rfl⟩
theorem bd108 : bodied Tryz.prog 108 := ⟨_, Tryz.func108, by kernel_rfl, by kernel_rfl⟩
theorem bd109 : bodied Tryz.prog 109 := ⟨_, Tryz.func109, by kernel_rfl, by kernel_rfl⟩
theorem bd114 : bodied Tryz.prog 114 := ⟨_, Tryz.func114, by kernel_rfl, by kernel_rfl⟩
theorem bd115 : bodied Tryz.prog 115 := ⟨_, Tryz.func115, by kernel_rfl, by kernel_rfl⟩
theorem bd116 : bodied Tryz.prog 116 := ⟨_, Tryz.func116, by kernel_rfl, by kernel_rfl⟩
theorem bd119 : bodied Tryz.prog 119 := ⟨_, Tryz.func119, by kernel_rfl, by kernel_rfl⟩
theorem bd122 : bodied Tryz.prog 122 := ⟨_, Tryz.func122, by kernel_rfl, by kernel_rfl⟩
theorem bd123 : bodied Tryz.prog 123 := ⟨_, Tryz.func123, by kernel_rfl, by kernel_rfl⟩
theorem bd124 : bodied Tryz.prog 124 := ⟨_, Tryz.func124, by kernel_rfl, by kernel_rfl⟩
theorem bd125 : bodied Tryz.prog 125 := ⟨_, Tryz.func125, by kernel_rfl, by kernel_rfl⟩
theorem bd126 : bodied Tryz.prog 126 := ⟨_, Tryz.func126, by kernel_rfl, by kernel_rfl⟩
theorem bd127 : bodied Tryz.prog 127 := ⟨_, Tryz.func127, by kernel_rfl, by kernel_rfl⟩
theorem bd128 : bodied Tryz.prog 128 := ⟨_, Tryz.func128, by kernel_rfl, by kernel_rfl⟩
theorem bd129 : bodied Tryz.prog 129 := ⟨_, Tryz.func129, by kernel_rfl, by kernel_rfl⟩
theorem bd141 : bodied Tryz.prog 141 := ⟨_, Tryz.func141, by kernel_rfl, by kernel_rfl⟩
theorem bd143 : bodied Tryz.prog 143 := ⟨_, Tryz.func143, by kernel_rfl, by kernel_rfl⟩
theorem bd145 : bodied Tryz.prog 145 := ⟨_, Tryz.func145, by kernel_rfl, by kernel_rfl⟩
theorem bd147 : bodied Tryz.prog 147 := ⟨_, Tryz.func147, by kernel_rfl, by kernel_rfl⟩
theorem bd150 : bodied Tryz.prog 150 := ⟨_, Tryz.func150, by kernel_rfl, by kernel_rfl⟩
theorem bd151 : bodied Tryz.prog 151 := ⟨_, Tryz.func151, by kernel_rfl, by kernel_rfl⟩
theorem bd155 : bodied Tryz.prog 155 := ⟨_, Tryz.func155, by kernel_rfl, by kernel_rfl⟩
theorem bd156 : bodied Tryz.prog 156 := ⟨_, Tryz.func156, by kernel_rfl, by kernel_rfl⟩
theorem bd157 : bodied Tryz.prog 157 := ⟨_, Tryz.func157, by kernel_rfl, by kernel_rfl⟩
theorem bd158 : bodied Tryz.prog 158 := ⟨_, Tryz.func158, by kernel_rfl, by kernel_rfl⟩
theorem bd160 : bodied Tryz.prog 160 := ⟨_, Tryz.func160, by kernel_rfl, by kernel_rfl⟩
theorem bd161 : bodied Tryz.prog 161 := ⟨_, Tryz.func161, by kernel_rfl, by kernel_rfl⟩
theorem bd162 : bodied Tryz.prog 162 := ⟨_, Tryz.func162, by kernel_rfl, by kernel_rfl⟩
theorem bd163 : bodied Tryz.prog 163 := ⟨_, Tryz.func163, by kernel_rfl, by kernel_rfl⟩
theorem bd166 : bodied Tryz.prog 166 := ⟨_, Tryz.func166, by kernel_rfl, by kernel_rfl⟩
theorem bd167 : bodied Tryz.prog 167 := ⟨_, Tryz.func167, by kernel_rfl, by kernel_rfl⟩
theorem bd168 : bodied Tryz.prog 168 := ⟨_, Tryz.func168, by kernel_rfl, by kernel_rfl⟩
theorem bd171 : bodied Tryz.prog 171 := ⟨_, Tryz.func171, by kernel_rfl, by kernel_rfl⟩
theorem bd172 : bodied Tryz.prog 172 := ⟨_, Tryz.func172, by kernel_rfl, by kernel_rfl⟩
theorem bd173 : bodied Tryz.prog 173 := ⟨_, Tryz.func173, by kernel_rfl, by kernel_rfl⟩
theorem bd174 : bodied Tryz.prog 174 := ⟨_, Tryz.func174, by kernel_rfl, by kernel_rfl⟩
theorem bd175 : bodied Tryz.prog 175 := ⟨_, Tryz.func175, by kernel_rfl, by kernel_rfl⟩
theorem bd176 : bodied Tryz.prog 176 := ⟨_, Tryz.func176, by kernel_rfl, by kernel_rfl⟩
theorem bd177 : bodied Tryz.prog 177 := ⟨_, Tryz.func177, by kernel_rfl, by kernel_rfl⟩
theorem bd178 : bodied Tryz.prog 178 := ⟨_, Tryz.func178, by kernel_rfl, by kernel_rfl⟩
theorem bd179 : bodied Tryz.prog 179 := ⟨_, Tryz.func179, by kernel_rfl, by kernel_rfl⟩
theorem bd200 : bodied Tryz.prog 200 := ⟨_, Tryz.func200, by kernel_rfl, by kernel_rfl⟩
theorem bd203 : bodied Tryz.prog 203 := ⟨_, Tryz.func203, by kernel_rfl, by kernel_rfl⟩
theorem bd204 : bodied Tryz.prog 204 := ⟨_, Tryz.func204, by kernel_rfl, by kernel_rfl⟩
theorem bd208 : bodied Tryz.prog 208 := ⟨_, Tryz.func208, by kernel_rfl, by kernel_rfl⟩
theorem bd209 : bodied Tryz.prog 209 := ⟨_, Tryz.func209, by kernel_rfl, by kernel_rfl⟩
theorem bd210 : bodied Tryz.prog 210 := ⟨_, Tryz.func210, by kernel_rfl, by kernel_rfl⟩
theorem bd211 : bodied Tryz.prog 211 := ⟨_, Tryz.func211, by kernel_rfl, by kernel_rfl⟩
theorem bd212 : bodied Tryz.prog 212 := ⟨_, Tryz.func212, by kernel_rfl, by kernel_rfl⟩
theorem bd215 : bodied Tryz.prog 215 := ⟨_, Tryz.func215, by kernel_rfl, by kernel_rfl⟩
theorem bd232 : bodied Tryz.prog 232 := ⟨_, Tryz.func232, by kernel_rfl, by kernel_rfl⟩
theorem bd245 : bodied Tryz.prog 245 := ⟨_, Tryz.func245, by kernel_rfl, by kernel_rfl⟩
theorem bd246 : bodied Tryz.prog 246 := ⟨_, Tryz.func246, by kernel_rfl, by kernel_rfl⟩
theorem bd247 : bodied Tryz.prog 247 := ⟨_, Tryz.func247, by kernel_rfl, by kernel_rfl⟩
theorem bd248 : bodied Tryz.prog 248 := ⟨_, Tryz.func248, by kernel_rfl, by kernel_rfl⟩
theorem bd249 : bodied Tryz.prog 249 := ⟨_, Tryz.func249, by kernel_rfl, by kernel_rfl⟩
theorem bd250 : bodied Tryz.prog 250 := ⟨_, Tryz.func250, by kernel_rfl, by kernel_rfl⟩
theorem bd258 : bodied Tryz.prog 258 := ⟨_, Tryz.func258, by kernel_rfl, by kernel_rfl⟩
theorem bd259 : bodied Tryz.prog 259 := ⟨_, Tryz.func259, by kernel_rfl, by kernel_rfl⟩
theorem bd260 : bodied Tryz.prog 260 := ⟨_, Tryz.func260, by kernel_rfl, by kernel_rfl⟩
theorem bd261 : bodied Tryz.prog 261 := ⟨_, Tryz.func261, by kernel_rfl, by kernel_rfl⟩
theorem bd271 : bodied Tryz.prog 271 := ⟨_, Tryz.func271, by kernel_rfl, by kernel_rfl⟩
theorem bd272 : bodied Tryz.prog 272 := ⟨_, Tryz.func272, by kernel_rfl, by kernel_rfl⟩
theorem bd274 : bodied Tryz.prog 274 := ⟨_, Tryz.func274, by kernel_rfl, by kernel_rfl⟩
theorem bd277 : bodied Tryz.prog 277 := ⟨_, Tryz.func277, by kernel_rfl, by kernel_rfl⟩
end Go.Proofs.YthkkgphjjmhglaaGreatDoor
