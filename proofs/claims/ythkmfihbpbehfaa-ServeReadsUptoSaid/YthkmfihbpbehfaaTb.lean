/-
The table of types of this seat's program, and closed facts on its functions, laid by a small program of ours (wip/tools/gentb.py) out of Lean's own print of the program.
-/
import Derived.Test.YthkmfihbpbehfaaProg
import Derived.Test.YthkmfihbpbehfaaFwB
import Derived.KernelRfl
namespace Go.Proofs.Ythkmfihbpbehfaa
open Go.TR
def tbl : List (Nat × TI) := [
  (3, ⟨(.int .i64), 1, 8, [(Value.int IntKind.i64 0)], false⟩),
  (9, ⟨.string, 1, 16, [(Value.string { data := #[] })], false⟩),
  (28, ⟨(.struct [(2, 0), (26, 1), (26, 2), (2, 3)]), 4, 32, [(Value.int IntKind.i64 0), (Value.int IntKind.u64 0), (Value.int IntKind.u64 0), (Value.int IntKind.i64 0)], true⟩),
  (26, ⟨(.int .u64), 1, 8, [(Value.int IntKind.u64 0)], false⟩),
  (84, ⟨(.slice 9), 1, 24, [(Value.slice none 0 0)], false⟩),
  (29, ⟨(.slice 107), 1, 24, [(Value.slice none 0 0)], false⟩),
  (38, ⟨(.int .i64), 1, 8, [(Value.int IntKind.i64 0)], false⟩),
  (2, ⟨(.int .i64), 1, 8, [(Value.int IntKind.i64 0)], false⟩),
  (32, ⟨(.struct [(9, 0), (29, 1), (30, 2)]), 3, 64, [(Value.string { data := #[] }), (Value.slice none 0 0), (Value.slice none 0 0)], false⟩),
  (25, ⟨(.slice 28), 1, 24, [(Value.slice none 0 0)], false⟩),
  (34, ⟨(.struct [(28, 0), (32, 4)]), 7, 96, [(Value.int IntKind.i64 0), (Value.int IntKind.u64 0), (Value.int IntKind.u64 0), (Value.int IntKind.i64 0), (Value.string { data := #[] }), (Value.slice none 0 0), (Value.slice none 0 0)], false⟩),
  (24, ⟨(.struct [(2, 0), (22, 1)]), 2, 32, [(Value.int IntKind.i64 0), (Value.slice none 0 0)], false⟩),
  (107, ⟨(.struct [(9, 0), (9, 1)]), 2, 32, [(Value.string { data := #[] }), (Value.string { data := #[] })], true⟩),
  (22, ⟨(.slice 36), 1, 24, [(Value.slice none 0 0)], false⟩),
  (36, ⟨(.struct [(3, 0), (3, 1), (2, 2), (2, 3), (25, 4), (34, 5)]), 12, 152, [(Value.int IntKind.i64 0), (Value.int IntKind.i64 0), (Value.int IntKind.i64 0), (Value.int IntKind.i64 0), (Value.slice none 0 0), (Value.int IntKind.i64 0), (Value.int IntKind.u64 0), (Value.int IntKind.u64 0), (Value.int IntKind.i64 0), (Value.string { data := #[] }), (Value.slice none 0 0), (Value.slice none 0 0)], false⟩),
  (30, ⟨(.slice 26), 1, 24, [(Value.slice none 0 0)], false⟩),
  (73, ⟨(.slice 25), 1, 24, [(Value.slice none 0 0)], false⟩),
  (5, ⟨(.int .u8), 1, 1, [(Value.int IntKind.u8 0)], false⟩),
  (190, ⟨(.slice 5), 1, 24, [(Value.slice none 0 0)], false⟩),
  (56, ⟨(.array 2 28), 8, 64, [(Value.int IntKind.i64 0), (Value.int IntKind.u64 0), (Value.int IntKind.u64 0), (Value.int IntKind.i64 0), (Value.int IntKind.i64 0), (Value.int IntKind.u64 0), (Value.int IntKind.u64 0), (Value.int IntKind.i64 0)], false⟩),
  (75, ⟨(.struct [(3, 0), (3, 1), (2, 2)]), 3, 24, [(Value.int IntKind.i64 0), (Value.int IntKind.i64 0), (Value.int IntKind.i64 0)], true⟩),
  (37, ⟨(.slice 3), 1, 24, [(Value.slice none 0 0)], false⟩),
  (227, ⟨(.struct [(225, 0), (190, 1)]), 2, 32, [(Value.pointer none), (Value.slice none 0 0)], false⟩),
  (137, ⟨(.slice 56), 1, 24, [(Value.slice none 0 0)], false⟩),
  (4, ⟨.bool, 1, 1, [(Value.bool false)], false⟩),
  (45, ⟨.other, 1, 8, [Value.nilFunc], false⟩),
  (225, ⟨(.pointer 227), 1, 8, [(Value.pointer none)], false⟩),
  (157, ⟨(.slice 161), 1, 24, [(Value.slice none 0 0)], false⟩),
  (21, ⟨(.int .i32), 1, 4, [(Value.int IntKind.i32 0)], false⟩),
  (161, ⟨(.struct [(4, 0)]), 1, 1, [(Value.bool false)], true⟩),
  (164, ⟨(.slice 84), 1, 24, [(Value.slice none 0 0)], false⟩),
  (220, ⟨.other, 1, 8, [Value.nilFunc], false⟩),
  (235, ⟨(.array 4 26), 4, 32, [(Value.int IntKind.u64 0), (Value.int IntKind.u64 0), (Value.int IntKind.u64 0), (Value.int IntKind.u64 0)], false⟩),
  (222, ⟨(.int .u64), 1, 8, [(Value.int IntKind.u64 0)], false⟩),
  (93, ⟨.other, 1, 8, [Value.nilFunc], false⟩),
  (214, ⟨(.array 8 5), 8, 8, [(Value.int IntKind.u8 0), (Value.int IntKind.u8 0), (Value.int IntKind.u8 0), (Value.int IntKind.u8 0), (Value.int IntKind.u8 0), (Value.int IntKind.u8 0), (Value.int IntKind.u8 0), (Value.int IntKind.u8 0)], false⟩),
  (240, ⟨(.array 16 5), 16, 16, [(Value.int IntKind.u8 0), (Value.int IntKind.u8 0), (Value.int IntKind.u8 0), (Value.int IntKind.u8 0), (Value.int IntKind.u8 0), (Value.int IntKind.u8 0), (Value.int IntKind.u8 0), (Value.int IntKind.u8 0), (Value.int IntKind.u8 0), (Value.int IntKind.u8 0), (Value.int IntKind.u8 0), (Value.int IntKind.u8 0), (Value.int IntKind.u8 0), (Value.int IntKind.u8 0), (Value.int IntKind.u8 0), (Value.int IntKind.u8 0)], false⟩),
  (243, ⟨.other, 1, 8, [(Value.pointer none)], false⟩),
  (71, ⟨.other, 1, 8, [Value.nilFunc], false⟩),
  (131, ⟨.other, 1, 8, [Value.nilFunc], false⟩),
  (201, ⟨.other, 1, 8, [Value.nilFunc], false⟩),
  (203, ⟨.other, 1, 8, [Value.nilFunc], false⟩),
  (230, ⟨.other, 1, 16, [Value.nilIface], false⟩),
  (197, ⟨.other, 1, 8, [Value.nilFunc], false⟩),
  (241, ⟨(.pointer 5), 1, 8, [(Value.pointer none)], false⟩)]
def tb : Tb := lkT tbl
theorem tb3 : TI.ok Try.prog 3 ⟨(.int .i64), 1, 8, [(Value.int IntKind.i64 0)], false⟩ where
  info := ⟨Try.t3, by kernel_rfl, rfl, rfl, _, rfl, rfl⟩
  kind := ⟨(TypeDesc.int IntKind.i64), by kernel_rfl, rfl⟩
  flat := fun h => by cases h
theorem tb9 : TI.ok Try.prog 9 ⟨.string, 1, 16, [(Value.string { data := #[] })], false⟩ where
  info := ⟨Try.t9, by kernel_rfl, rfl, rfl, _, rfl, rfl⟩
  kind := ⟨TypeDesc.string, by kernel_rfl, rfl⟩
  flat := fun h => by cases h
theorem tb28 : TI.ok Try.prog 28 ⟨(.struct [(2, 0), (26, 1), (26, 2), (2, 3)]), 4, 32, [(Value.int IntKind.i64 0), (Value.int IntKind.u64 0), (Value.int IntKind.u64 0), (Value.int IntKind.i64 0)], true⟩ where
  info := ⟨Try.t28, by kernel_rfl, rfl, rfl, _, rfl, rfl⟩
  kind := ⟨(TypeDesc.struct #[{ name := "Epoch", type := 2, offset := 0, embedded := false, tag := "", pkgPath := "", byteOffset := 0 }, { name := "Root", type := 26, offset := 1, embedded := false, tag := "", pkgPath := "", byteOffset := 8 }, { name := "Prev", type := 26, offset := 2, embedded := false, tag := "", pkgPath := "", byteOffset := 16 }, { name := "At", type := 2, offset := 3, embedded := false, tag := "", pkgPath := "", byteOffset := 24 }]), by kernel_rfl, ⟨_, rfl, by rfl, by simp⟩⟩
  flat := fun _ => ⟨by kernel_rfl, by kernel_rfl⟩
theorem tb26 : TI.ok Try.prog 26 ⟨(.int .u64), 1, 8, [(Value.int IntKind.u64 0)], false⟩ where
  info := ⟨Try.t26, by kernel_rfl, rfl, rfl, _, rfl, rfl⟩
  kind := ⟨(TypeDesc.int IntKind.u64), by kernel_rfl, rfl⟩
  flat := fun h => by cases h
theorem tb84 : TI.ok Try.prog 84 ⟨(.slice 9), 1, 24, [(Value.slice none 0 0)], false⟩ where
  info := ⟨Try.t84, by kernel_rfl, rfl, rfl, _, rfl, rfl⟩
  kind := ⟨(TypeDesc.slice 9), by kernel_rfl, rfl⟩
  flat := fun h => by cases h
theorem tb29 : TI.ok Try.prog 29 ⟨(.slice 107), 1, 24, [(Value.slice none 0 0)], false⟩ where
  info := ⟨Try.t29, by kernel_rfl, rfl, rfl, _, rfl, rfl⟩
  kind := ⟨(TypeDesc.slice 107), by kernel_rfl, rfl⟩
  flat := fun h => by cases h
theorem tb38 : TI.ok Try.prog 38 ⟨(.int .i64), 1, 8, [(Value.int IntKind.i64 0)], false⟩ where
  info := ⟨Try.t38, by kernel_rfl, rfl, rfl, _, rfl, rfl⟩
  kind := ⟨(TypeDesc.int IntKind.i64), by kernel_rfl, rfl⟩
  flat := fun h => by cases h
theorem tb2 : TI.ok Try.prog 2 ⟨(.int .i64), 1, 8, [(Value.int IntKind.i64 0)], false⟩ where
  info := ⟨Try.t2, by kernel_rfl, rfl, rfl, _, rfl, rfl⟩
  kind := ⟨(TypeDesc.int IntKind.i64), by kernel_rfl, rfl⟩
  flat := fun h => by cases h
theorem tb32 : TI.ok Try.prog 32 ⟨(.struct [(9, 0), (29, 1), (30, 2)]), 3, 64, [(Value.string { data := #[] }), (Value.slice none 0 0), (Value.slice none 0 0)], false⟩ where
  info := ⟨Try.t32, by kernel_rfl, rfl, rfl, _, rfl, rfl⟩
  kind := ⟨(TypeDesc.struct #[{ name := "Name", type := 9, offset := 0, embedded := false, tag := "", pkgPath := "", byteOffset := 0 }, { name := "Entries", type := 29, offset := 1, embedded := false, tag := "", pkgPath := "", byteOffset := 16 }, { name := "Sides", type := 30, offset := 2, embedded := false, tag := "", pkgPath := "", byteOffset := 40 }]), by kernel_rfl, ⟨_, rfl, by rfl, by simp⟩⟩
  flat := fun h => by cases h
theorem tb25 : TI.ok Try.prog 25 ⟨(.slice 28), 1, 24, [(Value.slice none 0 0)], false⟩ where
  info := ⟨Try.t25, by kernel_rfl, rfl, rfl, _, rfl, rfl⟩
  kind := ⟨(TypeDesc.slice 28), by kernel_rfl, rfl⟩
  flat := fun h => by cases h
theorem tb34 : TI.ok Try.prog 34 ⟨(.struct [(28, 0), (32, 4)]), 7, 96, [(Value.int IntKind.i64 0), (Value.int IntKind.u64 0), (Value.int IntKind.u64 0), (Value.int IntKind.i64 0), (Value.string { data := #[] }), (Value.slice none 0 0), (Value.slice none 0 0)], false⟩ where
  info := ⟨Try.t34, by kernel_rfl, rfl, rfl, _, rfl, rfl⟩
  kind := ⟨(TypeDesc.struct #[{ name := "Head", type := 28, offset := 0, embedded := false, tag := "", pkgPath := "", byteOffset := 0 }, { name := "Proof", type := 32, offset := 4, embedded := false, tag := "", pkgPath := "", byteOffset := 32 }]), by kernel_rfl, ⟨_, rfl, by rfl, by simp⟩⟩
  flat := fun h => by cases h
theorem tb24 : TI.ok Try.prog 24 ⟨(.struct [(2, 0), (22, 1)]), 2, 32, [(Value.int IntKind.i64 0), (Value.slice none 0 0)], false⟩ where
  info := ⟨Try.t24, by kernel_rfl, rfl, rfl, _, rfl, rfl⟩
  kind := ⟨(TypeDesc.struct #[{ name := "Now", type := 2, offset := 0, embedded := false, tag := "", pkgPath := "", byteOffset := 0 }, { name := "Way", type := 22, offset := 1, embedded := false, tag := "", pkgPath := "", byteOffset := 8 }]), by kernel_rfl, ⟨_, rfl, by rfl, by simp⟩⟩
  flat := fun h => by cases h
theorem tb107 : TI.ok Try.prog 107 ⟨(.struct [(9, 0), (9, 1)]), 2, 32, [(Value.string { data := #[] }), (Value.string { data := #[] })], true⟩ where
  info := ⟨Try.t107, by kernel_rfl, rfl, rfl, _, rfl, rfl⟩
  kind := ⟨(TypeDesc.struct #[{ name := "Name", type := 9, offset := 0, embedded := false, tag := "", pkgPath := "", byteOffset := 0 }, { name := "Value", type := 9, offset := 1, embedded := false, tag := "", pkgPath := "", byteOffset := 16 }]), by kernel_rfl, ⟨_, rfl, by rfl, by simp⟩⟩
  flat := fun _ => ⟨by kernel_rfl, by kernel_rfl⟩
theorem tb22 : TI.ok Try.prog 22 ⟨(.slice 36), 1, 24, [(Value.slice none 0 0)], false⟩ where
  info := ⟨Try.t22, by kernel_rfl, rfl, rfl, _, rfl, rfl⟩
  kind := ⟨(TypeDesc.slice 36), by kernel_rfl, rfl⟩
  flat := fun h => by cases h
theorem tb36 : TI.ok Try.prog 36 ⟨(.struct [(3, 0), (3, 1), (2, 2), (2, 3), (25, 4), (34, 5)]), 12, 152, [(Value.int IntKind.i64 0), (Value.int IntKind.i64 0), (Value.int IntKind.i64 0), (Value.int IntKind.i64 0), (Value.slice none 0 0), (Value.int IntKind.i64 0), (Value.int IntKind.u64 0), (Value.int IntKind.u64 0), (Value.int IntKind.i64 0), (Value.string { data := #[] }), (Value.slice none 0 0), (Value.slice none 0 0)], false⟩ where
  info := ⟨Try.t36, by kernel_rfl, rfl, rfl, _, rfl, rfl⟩
  kind := ⟨(TypeDesc.struct #[{ name := "To", type := 3, offset := 0, embedded := false, tag := "", pkgPath := "", byteOffset := 0 }, { name := "From", type := 3, offset := 1, embedded := false, tag := "", pkgPath := "", byteOffset := 8 }, { name := "Since", type := 2, offset := 2, embedded := false, tag := "", pkgPath := "", byteOffset := 16 }, { name := "Due", type := 2, offset := 3, embedded := false, tag := "", pkgPath := "", byteOffset := 24 }, { name := "Heads", type := 25, offset := 4, embedded := false, tag := "", pkgPath := "", byteOffset := 32 }, { name := "Reply", type := 34, offset := 5, embedded := false, tag := "", pkgPath := "", byteOffset := 56 }]), by kernel_rfl, ⟨_, rfl, by rfl, by simp⟩⟩
  flat := fun h => by cases h
theorem tb30 : TI.ok Try.prog 30 ⟨(.slice 26), 1, 24, [(Value.slice none 0 0)], false⟩ where
  info := ⟨Try.t30, by kernel_rfl, rfl, rfl, _, rfl, rfl⟩
  kind := ⟨(TypeDesc.slice 26), by kernel_rfl, rfl⟩
  flat := fun h => by cases h
theorem tb73 : TI.ok Try.prog 73 ⟨(.slice 25), 1, 24, [(Value.slice none 0 0)], false⟩ where
  info := ⟨Try.t73, by kernel_rfl, rfl, rfl, _, rfl, rfl⟩
  kind := ⟨(TypeDesc.slice 25), by kernel_rfl, rfl⟩
  flat := fun h => by cases h
theorem tb5 : TI.ok Try.prog 5 ⟨(.int .u8), 1, 1, [(Value.int IntKind.u8 0)], false⟩ where
  info := ⟨Try.t5, by kernel_rfl, rfl, rfl, _, rfl, rfl⟩
  kind := ⟨(TypeDesc.int IntKind.u8), by kernel_rfl, rfl⟩
  flat := fun h => by cases h
theorem tb190 : TI.ok Try.prog 190 ⟨(.slice 5), 1, 24, [(Value.slice none 0 0)], false⟩ where
  info := ⟨Try.t190, by kernel_rfl, rfl, rfl, _, rfl, rfl⟩
  kind := ⟨(TypeDesc.slice 5), by kernel_rfl, rfl⟩
  flat := fun h => by cases h
theorem tb56 : TI.ok Try.prog 56 ⟨(.array 2 28), 8, 64, [(Value.int IntKind.i64 0), (Value.int IntKind.u64 0), (Value.int IntKind.u64 0), (Value.int IntKind.i64 0), (Value.int IntKind.i64 0), (Value.int IntKind.u64 0), (Value.int IntKind.u64 0), (Value.int IntKind.i64 0)], false⟩ where
  info := ⟨Try.t56, by kernel_rfl, rfl, rfl, _, rfl, rfl⟩
  kind := ⟨(TypeDesc.array 2 28), by kernel_rfl, rfl⟩
  flat := fun h => by cases h
theorem tb75 : TI.ok Try.prog 75 ⟨(.struct [(3, 0), (3, 1), (2, 2)]), 3, 24, [(Value.int IntKind.i64 0), (Value.int IntKind.i64 0), (Value.int IntKind.i64 0)], true⟩ where
  info := ⟨Try.t75, by kernel_rfl, rfl, rfl, _, rfl, rfl⟩
  kind := ⟨(TypeDesc.struct #[{ name := "A", type := 3, offset := 0, embedded := false, tag := "", pkgPath := "", byteOffset := 0 }, { name := "B", type := 3, offset := 1, embedded := false, tag := "", pkgPath := "", byteOffset := 8 }, { name := "Epoch", type := 2, offset := 2, embedded := false, tag := "", pkgPath := "", byteOffset := 16 }]), by kernel_rfl, ⟨_, rfl, by rfl, by simp⟩⟩
  flat := fun _ => ⟨by kernel_rfl, by kernel_rfl⟩
theorem tb37 : TI.ok Try.prog 37 ⟨(.slice 3), 1, 24, [(Value.slice none 0 0)], false⟩ where
  info := ⟨Try.t37, by kernel_rfl, rfl, rfl, _, rfl, rfl⟩
  kind := ⟨(TypeDesc.slice 3), by kernel_rfl, rfl⟩
  flat := fun h => by cases h
theorem tb227 : TI.ok Try.prog 227 ⟨(.struct [(225, 0), (190, 1)]), 2, 32, [(Value.pointer none), (Value.slice none 0 0)], false⟩ where
  info := ⟨Try.t227, by kernel_rfl, rfl, rfl, _, rfl, rfl⟩
  kind := ⟨(TypeDesc.struct #[{ name := "addr", type := 225, offset := 0, embedded := false, tag := "", pkgPath := "strings", byteOffset := 0 }, { name := "buf", type := 190, offset := 1, embedded := false, tag := "", pkgPath := "strings", byteOffset := 8 }]), by kernel_rfl, ⟨_, rfl, by rfl, by simp⟩⟩
  flat := fun h => by cases h
theorem tb137 : TI.ok Try.prog 137 ⟨(.slice 56), 1, 24, [(Value.slice none 0 0)], false⟩ where
  info := ⟨Try.t137, by kernel_rfl, rfl, rfl, _, rfl, rfl⟩
  kind := ⟨(TypeDesc.slice 56), by kernel_rfl, rfl⟩
  flat := fun h => by cases h
theorem tb4 : TI.ok Try.prog 4 ⟨.bool, 1, 1, [(Value.bool false)], false⟩ where
  info := ⟨Try.t4, by kernel_rfl, rfl, rfl, _, rfl, rfl⟩
  kind := ⟨TypeDesc.bool, by kernel_rfl, rfl⟩
  flat := fun h => by cases h
theorem tb45 : TI.ok Try.prog 45 ⟨.other, 1, 8, [Value.nilFunc], false⟩ where
  info := ⟨Try.t45, by kernel_rfl, rfl, rfl, _, rfl, rfl⟩
  kind := ⟨(TypeDesc.func #[36] #[4] false), by kernel_rfl, ⟨(by intro fs h; cases h), (by intro n e h; cases h)⟩⟩
  flat := fun h => by cases h
theorem tb225 : TI.ok Try.prog 225 ⟨(.pointer 227), 1, 8, [(Value.pointer none)], false⟩ where
  info := ⟨Try.t225, by kernel_rfl, rfl, rfl, _, rfl, rfl⟩
  kind := ⟨(TypeDesc.pointer 227), by kernel_rfl, rfl⟩
  flat := fun h => by cases h
theorem tb157 : TI.ok Try.prog 157 ⟨(.slice 161), 1, 24, [(Value.slice none 0 0)], false⟩ where
  info := ⟨Try.t157, by kernel_rfl, rfl, rfl, _, rfl, rfl⟩
  kind := ⟨(TypeDesc.slice 161), by kernel_rfl, rfl⟩
  flat := fun h => by cases h
theorem tb21 : TI.ok Try.prog 21 ⟨(.int .i32), 1, 4, [(Value.int IntKind.i32 0)], false⟩ where
  info := ⟨Try.t21, by kernel_rfl, rfl, rfl, _, rfl, rfl⟩
  kind := ⟨(TypeDesc.int IntKind.i32), by kernel_rfl, rfl⟩
  flat := fun h => by cases h
theorem tb161 : TI.ok Try.prog 161 ⟨(.struct [(4, 0)]), 1, 1, [(Value.bool false)], true⟩ where
  info := ⟨Try.t161, by kernel_rfl, rfl, rfl, _, rfl, rfl⟩
  kind := ⟨(TypeDesc.struct #[{ name := "fresh", type := 4, offset := 0, embedded := false, tag := "", pkgPath := "tallyroll/tallyrollref", byteOffset := 0 }]), by kernel_rfl, ⟨_, rfl, by rfl, by simp⟩⟩
  flat := fun _ => ⟨by kernel_rfl, by kernel_rfl⟩
theorem tb164 : TI.ok Try.prog 164 ⟨(.slice 84), 1, 24, [(Value.slice none 0 0)], false⟩ where
  info := ⟨Try.t164, by kernel_rfl, rfl, rfl, _, rfl, rfl⟩
  kind := ⟨(TypeDesc.slice 84), by kernel_rfl, rfl⟩
  flat := fun h => by cases h
theorem tb220 : TI.ok Try.prog 220 ⟨.other, 1, 8, [Value.nilFunc], false⟩ where
  info := ⟨Try.t220, by kernel_rfl, rfl, rfl, _, rfl, rfl⟩
  kind := ⟨(TypeDesc.func #[21] #[4] false), by kernel_rfl, ⟨(by intro fs h; cases h), (by intro n e h; cases h)⟩⟩
  flat := fun h => by cases h
theorem tb235 : TI.ok Try.prog 235 ⟨(.array 4 26), 4, 32, [(Value.int IntKind.u64 0), (Value.int IntKind.u64 0), (Value.int IntKind.u64 0), (Value.int IntKind.u64 0)], false⟩ where
  info := ⟨Try.t235, by kernel_rfl, rfl, rfl, _, rfl, rfl⟩
  kind := ⟨(TypeDesc.array 4 26), by kernel_rfl, rfl⟩
  flat := fun h => by cases h
theorem tb222 : TI.ok Try.prog 222 ⟨(.int .u64), 1, 8, [(Value.int IntKind.u64 0)], false⟩ where
  info := ⟨Try.t222, by kernel_rfl, rfl, rfl, _, rfl, rfl⟩
  kind := ⟨(TypeDesc.int IntKind.u64), by kernel_rfl, rfl⟩
  flat := fun h => by cases h
theorem tb93 : TI.ok Try.prog 93 ⟨.other, 1, 8, [Value.nilFunc], false⟩ where
  info := ⟨Try.t93, by kernel_rfl, rfl, rfl, _, rfl, rfl⟩
  kind := ⟨(TypeDesc.func #[9] #[4] false), by kernel_rfl, ⟨(by intro fs h; cases h), (by intro n e h; cases h)⟩⟩
  flat := fun h => by cases h
theorem tb214 : TI.ok Try.prog 214 ⟨(.array 8 5), 8, 8, [(Value.int IntKind.u8 0), (Value.int IntKind.u8 0), (Value.int IntKind.u8 0), (Value.int IntKind.u8 0), (Value.int IntKind.u8 0), (Value.int IntKind.u8 0), (Value.int IntKind.u8 0), (Value.int IntKind.u8 0)], false⟩ where
  info := ⟨Try.t214, by kernel_rfl, rfl, rfl, _, rfl, rfl⟩
  kind := ⟨(TypeDesc.array 8 5), by kernel_rfl, rfl⟩
  flat := fun h => by cases h
theorem tb240 : TI.ok Try.prog 240 ⟨(.array 16 5), 16, 16, [(Value.int IntKind.u8 0), (Value.int IntKind.u8 0), (Value.int IntKind.u8 0), (Value.int IntKind.u8 0), (Value.int IntKind.u8 0), (Value.int IntKind.u8 0), (Value.int IntKind.u8 0), (Value.int IntKind.u8 0), (Value.int IntKind.u8 0), (Value.int IntKind.u8 0), (Value.int IntKind.u8 0), (Value.int IntKind.u8 0), (Value.int IntKind.u8 0), (Value.int IntKind.u8 0), (Value.int IntKind.u8 0), (Value.int IntKind.u8 0)], false⟩ where
  info := ⟨Try.t240, by kernel_rfl, rfl, rfl, _, rfl, rfl⟩
  kind := ⟨(TypeDesc.array 16 5), by kernel_rfl, rfl⟩
  flat := fun h => by cases h
theorem tb243 : TI.ok Try.prog 243 ⟨.other, 1, 8, [(Value.pointer none)], false⟩ where
  info := ⟨Try.t243, by kernel_rfl, rfl, rfl, _, rfl, rfl⟩
  kind := ⟨TypeDesc.unsafePointer, by kernel_rfl, ⟨(by intro fs h; cases h), (by intro n e h; cases h)⟩⟩
  flat := fun h => by cases h
theorem tb71 : TI.ok Try.prog 71 ⟨.other, 1, 8, [Value.nilFunc], false⟩ where
  info := ⟨Try.t71, by kernel_rfl, rfl, rfl, _, rfl, rfl⟩
  kind := ⟨(TypeDesc.func #[28] #[4] false), by kernel_rfl, ⟨(by intro fs h; cases h), (by intro n e h; cases h)⟩⟩
  flat := fun h => by cases h
theorem tb131 : TI.ok Try.prog 131 ⟨.other, 1, 8, [Value.nilFunc], false⟩ where
  info := ⟨Try.t131, by kernel_rfl, rfl, rfl, _, rfl, rfl⟩
  kind := ⟨(TypeDesc.func #[3] #[4] false), by kernel_rfl, ⟨(by intro fs h; cases h), (by intro n e h; cases h)⟩⟩
  flat := fun h => by cases h
theorem tb201 : TI.ok Try.prog 201 ⟨.other, 1, 8, [Value.nilFunc], false⟩ where
  info := ⟨Try.t201, by kernel_rfl, rfl, rfl, _, rfl, rfl⟩
  kind := ⟨(TypeDesc.func #[107] #[4] false), by kernel_rfl, ⟨(by intro fs h; cases h), (by intro n e h; cases h)⟩⟩
  flat := fun h => by cases h
theorem tb203 : TI.ok Try.prog 203 ⟨.other, 1, 8, [Value.nilFunc], false⟩ where
  info := ⟨Try.t203, by kernel_rfl, rfl, rfl, _, rfl, rfl⟩
  kind := ⟨(TypeDesc.func #[26] #[4] false), by kernel_rfl, ⟨(by intro fs h; cases h), (by intro n e h; cases h)⟩⟩
  flat := fun h => by cases h
theorem tb230 : TI.ok Try.prog 230 ⟨.other, 1, 16, [Value.nilIface], false⟩ where
  info := ⟨Try.t230, by kernel_rfl, rfl, rfl, _, rfl, rfl⟩
  kind := ⟨(TypeDesc.interface #[("Error", 234)]), by kernel_rfl, ⟨(by intro fs h; cases h), (by intro n e h; cases h)⟩⟩
  flat := fun h => by cases h
theorem tb197 : TI.ok Try.prog 197 ⟨.other, 1, 8, [Value.nilFunc], false⟩ where
  info := ⟨Try.t197, by kernel_rfl, rfl, rfl, _, rfl, rfl⟩
  kind := ⟨(TypeDesc.func #[107, 9] #[3] false), by kernel_rfl, ⟨(by intro fs h; cases h), (by intro n e h; cases h)⟩⟩
  flat := fun h => by cases h
theorem tb241 : TI.ok Try.prog 241 ⟨(.pointer 5), 1, 8, [(Value.pointer none)], false⟩ where
  info := ⟨Try.t241, by kernel_rfl, rfl, rfl, _, rfl, rfl⟩
  kind := ⟨(TypeDesc.pointer 5), by kernel_rfl, rfl⟩
  flat := fun h => by cases h
theorem tbok : TbOK Try.prog tb := lkT_ok ⟨tb3, tb9, tb28, tb26, tb84, tb29, tb38, tb2, tb32, tb25, tb34, tb24, tb107, tb22, tb36, tb30, tb73, tb5, tb190, tb56, tb75, tb37, tb227, tb137, tb4, tb45, tb225, tb157, tb21, tb161, tb164, tb220, tb235, tb222, tb93, tb214, tb240, tb243, tb71, tb131, tb201, tb203, tb230, tb197, tb241, trivial⟩
theorem mixed : Try.prog.follows .mixedOrders = true := by kernel_rfl
theorem bd2 : bodied Try.prog 2 := ⟨_, Try.func2, by kernel_rfl, by kernel_rfl⟩
theorem bd3 : bodied Try.prog 3 := ⟨_, Try.func3, by kernel_rfl, by kernel_rfl⟩
theorem bd4 : bodied Try.prog 4 := ⟨_, Try.func4, by kernel_rfl, by kernel_rfl⟩
theorem bd5 : bodied Try.prog 5 := ⟨_, Try.func5, by kernel_rfl, by kernel_rfl⟩
theorem bd6 : bodied Try.prog 6 := ⟨_, Try.func6, by kernel_rfl, by kernel_rfl⟩
theorem bd7 : bodied Try.prog 7 := ⟨_, Try.func7, by kernel_rfl, by kernel_rfl⟩
theorem bd8 : bodied Try.prog 8 := ⟨_, Try.func8, by kernel_rfl, by kernel_rfl⟩
theorem bd9 : bodied Try.prog 9 := ⟨_, Try.func9, by kernel_rfl, by kernel_rfl⟩
theorem bd10 : bodied Try.prog 10 := ⟨_, Try.func10, by kernel_rfl, by kernel_rfl⟩
theorem bd11 : bodied Try.prog 11 := ⟨_, Try.func11, by kernel_rfl, by kernel_rfl⟩
theorem bd12 : bodied Try.prog 12 := ⟨_, Try.func12, by kernel_rfl, by kernel_rfl⟩
theorem bd13 : bodied Try.prog 13 := ⟨_, Try.func13, by kernel_rfl, by kernel_rfl⟩
theorem bd14 : bodied Try.prog 14 := ⟨_, Try.func14, by kernel_rfl, by kernel_rfl⟩
theorem bd15 : bodied Try.prog 15 := ⟨_, Try.func15, by kernel_rfl, by kernel_rfl⟩
theorem bd16 : bodied Try.prog 16 := ⟨_, Try.func16, by kernel_rfl, by kernel_rfl⟩
theorem bd17 : bodied Try.prog 17 := ⟨_, Try.func17, by kernel_rfl, by kernel_rfl⟩
theorem bd18 : bodied Try.prog 18 := ⟨_, Try.func18, by kernel_rfl, by kernel_rfl⟩
theorem bd19 : bodied Try.prog 19 := ⟨_, Try.func19, by kernel_rfl, by kernel_rfl⟩
theorem bd20 : bodied Try.prog 20 := ⟨_, Try.func20, by kernel_rfl, by kernel_rfl⟩
theorem bd21 : bodied Try.prog 21 := ⟨_, Try.func21, by kernel_rfl, by kernel_rfl⟩
theorem bd22 : bodied Try.prog 22 := ⟨_, Try.func22, by kernel_rfl, by kernel_rfl⟩
theorem bd23 : bodied Try.prog 23 := ⟨_, Try.func23, by kernel_rfl, by kernel_rfl⟩
theorem bd24 : bodied Try.prog 24 := ⟨_, Try.func24, by kernel_rfl, by kernel_rfl⟩
theorem bd25 : bodied Try.prog 25 := ⟨_, Try.func25, by kernel_rfl, by kernel_rfl⟩
theorem bd26 : bodied Try.prog 26 := ⟨_, Try.func26, by kernel_rfl, by kernel_rfl⟩
theorem bd27 : bodied Try.prog 27 := ⟨_, Try.func27, by kernel_rfl, by kernel_rfl⟩
theorem bd28 : bodied Try.prog 28 := ⟨_, Try.func28, by kernel_rfl, by kernel_rfl⟩
theorem bd29 : bodied Try.prog 29 := ⟨_, Try.func29, by kernel_rfl, by kernel_rfl⟩
theorem bd30 : bodied Try.prog 30 := ⟨_, Try.func30, by kernel_rfl, by kernel_rfl⟩
theorem bd31 : bodied Try.prog 31 := ⟨_, Try.func31, by kernel_rfl, by kernel_rfl⟩
theorem bd32 : bodied Try.prog 32 := ⟨_, Try.func32, by kernel_rfl, by kernel_rfl⟩
theorem bd33 : bodied Try.prog 33 := ⟨_, Try.func33, by kernel_rfl, by kernel_rfl⟩
theorem bd34 : bodied Try.prog 34 := ⟨_, Try.func34, by kernel_rfl, by kernel_rfl⟩
theorem bd35 : bodied Try.prog 35 := ⟨_, Try.func35, by kernel_rfl, by kernel_rfl⟩
theorem bd36 : bodied Try.prog 36 := ⟨_, Try.func36, by kernel_rfl, by kernel_rfl⟩
theorem bd37 : bodied Try.prog 37 := ⟨_, Try.func37, by kernel_rfl, by kernel_rfl⟩
theorem bd38 : bodied Try.prog 38 := ⟨_, Try.func38, by kernel_rfl, by kernel_rfl⟩
theorem bd39 : bodied Try.prog 39 := ⟨_, Try.func39, by kernel_rfl, by kernel_rfl⟩
theorem bd40 : bodied Try.prog 40 := ⟨_, Try.func40, by kernel_rfl, by kernel_rfl⟩
theorem bd41 : bodied Try.prog 41 := ⟨_, Try.func41, by kernel_rfl, by kernel_rfl⟩
theorem bd42 : bodied Try.prog 42 := ⟨_, Try.func42, by kernel_rfl, by kernel_rfl⟩
theorem bd43 : bodied Try.prog 43 := ⟨_, Try.func43, by kernel_rfl, by kernel_rfl⟩
theorem bd44 : bodied Try.prog 44 := ⟨_, Try.func44, by kernel_rfl, by kernel_rfl⟩
theorem bd45 : bodied Try.prog 45 := ⟨_, Try.func45, by kernel_rfl, by kernel_rfl⟩
theorem bd46 : bodied Try.prog 46 := ⟨_, Try.func46, by kernel_rfl, by kernel_rfl⟩
theorem bd47 : bodied Try.prog 47 := ⟨_, Try.func47, by kernel_rfl, by kernel_rfl⟩
theorem bd48 : bodied Try.prog 48 := ⟨_, Try.func48, by kernel_rfl, by kernel_rfl⟩
theorem bd49 : bodied Try.prog 49 := ⟨_, Try.func49, by kernel_rfl, by kernel_rfl⟩
theorem bd50 : bodied Try.prog 50 := ⟨_, Try.func50, by kernel_rfl, by kernel_rfl⟩
theorem bd51 : bodied Try.prog 51 := ⟨_, Try.func51, by kernel_rfl, by kernel_rfl⟩
theorem bd52 : bodied Try.prog 52 := ⟨_, Try.func52, by kernel_rfl, by kernel_rfl⟩
theorem bd53 : bodied Try.prog 53 := ⟨_, Try.func53, by kernel_rfl, by kernel_rfl⟩
theorem bd54 : bodied Try.prog 54 := ⟨_, Try.func54, by kernel_rfl, by kernel_rfl⟩
theorem bd55 : bodied Try.prog 55 := ⟨_, Try.func55, by kernel_rfl, by kernel_rfl⟩
theorem bd56 : bodied Try.prog 56 := ⟨_, Try.func56, by kernel_rfl, by kernel_rfl⟩
theorem bd57 : bodied Try.prog 57 := ⟨_, Try.func57, by kernel_rfl, by kernel_rfl⟩
theorem bd58 : bodied Try.prog 58 := ⟨_, Try.func58, by kernel_rfl, by kernel_rfl⟩
theorem bd59 : bodied Try.prog 59 := ⟨_, Try.func59, by kernel_rfl, by kernel_rfl⟩
theorem bd60 : bodied Try.prog 60 := ⟨_, Try.func60, by kernel_rfl, by kernel_rfl⟩
theorem bd61 : bodied Try.prog 61 := ⟨_, Try.func61, by kernel_rfl, by kernel_rfl⟩
theorem bd62 : bodied Try.prog 62 := ⟨_, Try.func62, by kernel_rfl, by kernel_rfl⟩
theorem bd63 : bodied Try.prog 63 := ⟨_, Try.func63, by kernel_rfl, by kernel_rfl⟩
theorem bd64 : bodied Try.prog 64 := ⟨_, Try.func64, by kernel_rfl, by kernel_rfl⟩
theorem bd65 : bodied Try.prog 65 := ⟨_, Try.func65, by kernel_rfl, by kernel_rfl⟩
theorem bd66 : bodied Try.prog 66 := ⟨_, Try.func66, by kernel_rfl, by kernel_rfl⟩
theorem bd67 : bodied Try.prog 67 := ⟨_, Try.func67, by kernel_rfl, by kernel_rfl⟩
theorem bd68 : bodied Try.prog 68 := ⟨_, Try.func68, by kernel_rfl, by kernel_rfl⟩
theorem bd69 : bodied Try.prog 69 := ⟨_, Try.func69, by kernel_rfl, by kernel_rfl⟩
theorem bd70 : bodied Try.prog 70 := ⟨_, Try.func70, by kernel_rfl, by kernel_rfl⟩
theorem bd71 : bodied Try.prog 71 := ⟨_, Try.func71, by kernel_rfl, by kernel_rfl⟩
theorem bd72 : bodied Try.prog 72 := ⟨_, Try.func72, by kernel_rfl, by kernel_rfl⟩
theorem bd73 : bodied Try.prog 73 := ⟨_, Try.func73, by kernel_rfl, by kernel_rfl⟩
theorem bd74 : bodied Try.prog 74 := ⟨_, Try.func74, by kernel_rfl, by kernel_rfl⟩
theorem bd75 : bodied Try.prog 75 := ⟨_, Try.func75, by kernel_rfl, by kernel_rfl⟩
theorem bd76 : bodied Try.prog 76 := ⟨_, Try.func76, by kernel_rfl, by kernel_rfl⟩
theorem bd77 : bodied Try.prog 77 := ⟨_, Try.func77, by kernel_rfl, by kernel_rfl⟩
theorem bd78 : bodied Try.prog 78 := ⟨_, Try.func78, by kernel_rfl, by kernel_rfl⟩
theorem bd79 : bodied Try.prog 79 := ⟨_, Try.func79, by kernel_rfl, by kernel_rfl⟩
theorem bd80 : bodied Try.prog 80 := ⟨_, Try.func80, by kernel_rfl, by kernel_rfl⟩
theorem bd81 : bodied Try.prog 81 := ⟨_, Try.func81, by kernel_rfl, by kernel_rfl⟩
theorem bd82 : bodied Try.prog 82 := ⟨_, Try.func82, by kernel_rfl, by kernel_rfl⟩
theorem bd83 : bodied Try.prog 83 := ⟨_, Try.func83, by kernel_rfl, by kernel_rfl⟩
theorem bd84 : bodied Try.prog 84 := ⟨_, Try.func84, by kernel_rfl, by kernel_rfl⟩
theorem bd85 : bodied Try.prog 85 := ⟨_, Try.func85, by kernel_rfl, by kernel_rfl⟩
theorem bd86 : bodied Try.prog 86 := ⟨_, Try.func86, by kernel_rfl, by kernel_rfl⟩
theorem bd87 : bodied Try.prog 87 := ⟨_, Try.func87, by kernel_rfl, by kernel_rfl⟩
theorem bd88 : bodied Try.prog 88 := ⟨_, Try.func88, by kernel_rfl, by kernel_rfl⟩
theorem bd89 : bodied Try.prog 89 := ⟨_, Try.func89, by kernel_rfl, by kernel_rfl⟩
theorem bd90 : bodied Try.prog 90 := ⟨_, Try.func90, by kernel_rfl, by kernel_rfl⟩
theorem bd91 : bodied Try.prog 91 := ⟨_, Try.func91, by kernel_rfl, by kernel_rfl⟩
theorem bd92 : bodied Try.prog 92 := ⟨_, Try.func92, by kernel_rfl, by kernel_rfl⟩
theorem bd93 : bodied Try.prog 93 := ⟨_, Try.func93, by kernel_rfl, by kernel_rfl⟩
theorem bd94 : bodied Try.prog 94 := ⟨_, Try.func94, by kernel_rfl, by kernel_rfl⟩
theorem bd95 : bodied Try.prog 95 := ⟨_, Try.func95, by kernel_rfl, by kernel_rfl⟩
theorem bd96 : bodied Try.prog 96 := ⟨_, Try.func96, by kernel_rfl, by kernel_rfl⟩
theorem bd97 : bodied Try.prog 97 := ⟨_, Try.func97, by kernel_rfl, by kernel_rfl⟩
theorem bd98 : bodied Try.prog 98 := ⟨_, Try.func98, by kernel_rfl, by kernel_rfl⟩
theorem bd99 : bodied Try.prog 99 := ⟨_, Try.func99, by kernel_rfl, by kernel_rfl⟩
theorem bd100 : bodied Try.prog 100 := ⟨_, Try.func100, by kernel_rfl, by kernel_rfl⟩
theorem bd101 : bodied Try.prog 101 := ⟨_, Try.func101, by kernel_rfl, by kernel_rfl⟩
theorem bd102 : bodied Try.prog 102 := ⟨_, Try.func102, by kernel_rfl, by kernel_rfl⟩
theorem bd103 : bodied Try.prog 103 := ⟨_, Try.func103, by kernel_rfl, by kernel_rfl⟩
theorem bd104 : bodied Try.prog 104 := ⟨_, Try.func104, by kernel_rfl, by kernel_rfl⟩
theorem bd105 : bodied Try.prog 105 := ⟨_, Try.func105, by kernel_rfl, by kernel_rfl⟩
theorem bd106 : bodied Try.prog 106 := ⟨_, Try.func106, by kernel_rfl, by kernel_rfl⟩
theorem bd107 : bodied Try.prog 107 := ⟨_, Try.func107, by kernel_rfl, by kernel_rfl⟩
theorem bd108 : bodied Try.prog 108 := ⟨_, Try.func108, by kernel_rfl, by kernel_rfl⟩
theorem bd109 : bodied Try.prog 109 := ⟨_, Try.func109, by kernel_rfl, by kernel_rfl⟩
theorem bd110 : bodied Try.prog 110 := ⟨_, Try.func110, by kernel_rfl, by kernel_rfl⟩
theorem bd111 : bodied Try.prog 111 := ⟨_, Try.func111, by kernel_rfl, by kernel_rfl⟩
theorem bd112 : bodied Try.prog 112 := ⟨_, Try.func112, by kernel_rfl, by kernel_rfl⟩
theorem bd113 : bodied Try.prog 113 := ⟨_, Try.func113, by kernel_rfl, by kernel_rfl⟩
theorem bd114 : bodied Try.prog 114 := ⟨_, Try.func114, by kernel_rfl, by kernel_rfl⟩
theorem bd115 : bodied Try.prog 115 := ⟨_, Try.func115, by kernel_rfl, by kernel_rfl⟩
theorem bd116 : bodied Try.prog 116 := ⟨_, Try.func116, by kernel_rfl, by kernel_rfl⟩
theorem bd117 : bodied Try.prog 117 := ⟨_, Try.func117, by kernel_rfl, by kernel_rfl⟩
theorem bd118 : bodied Try.prog 118 := ⟨_, Try.func118, by kernel_rfl, by kernel_rfl⟩
theorem bd119 : bodied Try.prog 119 := ⟨_, Try.func119, by kernel_rfl, by kernel_rfl⟩
theorem bd120 : bodied Try.prog 120 := ⟨_, Try.func120, by kernel_rfl, by kernel_rfl⟩
theorem bd121 : bodied Try.prog 121 := ⟨_, Try.func121, by kernel_rfl, by kernel_rfl⟩
theorem bd122 : bodied Try.prog 122 := ⟨_, Try.func122, by kernel_rfl, by kernel_rfl⟩
theorem bd123 : bodied Try.prog 123 := ⟨_, Try.func123, by kernel_rfl, by kernel_rfl⟩
theorem bd124 : bodied Try.prog 124 := ⟨_, Try.func124, by kernel_rfl, by kernel_rfl⟩
theorem bd125 : bodied Try.prog 125 := ⟨_, Try.func125, by kernel_rfl, by kernel_rfl⟩
theorem bd126 : bodied Try.prog 126 := ⟨_, Try.func126, by kernel_rfl, by kernel_rfl⟩
theorem bd127 : bodied Try.prog 127 := ⟨_, Try.func127, by kernel_rfl, by kernel_rfl⟩
theorem bd128 : bodied Try.prog 128 := ⟨_, Try.func128, by kernel_rfl, by kernel_rfl⟩
theorem bd129 : bodied Try.prog 129 := ⟨_, Try.func129, by kernel_rfl, by kernel_rfl⟩
theorem bd130 : bodied Try.prog 130 := ⟨_, Try.func130, by kernel_rfl, by kernel_rfl⟩
theorem bd131 : bodied Try.prog 131 := ⟨_, Try.func131, by kernel_rfl, by kernel_rfl⟩
theorem bd132 : bodied Try.prog 132 := ⟨_, Try.func132, by kernel_rfl, by kernel_rfl⟩
theorem bd133 : bodied Try.prog 133 := ⟨_, Try.func133, by kernel_rfl, by kernel_rfl⟩
theorem bd134 : bodied Try.prog 134 := ⟨_, Try.func134, by kernel_rfl, by kernel_rfl⟩
theorem bd135 : bodied Try.prog 135 := ⟨_, Try.func135, by kernel_rfl, by kernel_rfl⟩
theorem bd136 : bodied Try.prog 136 := ⟨_, Try.func136, by kernel_rfl, by kernel_rfl⟩
theorem bd137 : bodied Try.prog 137 := ⟨_, Try.func137, by kernel_rfl, by kernel_rfl⟩
theorem bd138 : bodied Try.prog 138 := ⟨_, Try.func138, by kernel_rfl, by kernel_rfl⟩
theorem bd139 : bodied Try.prog 139 := ⟨_, Try.func139, by kernel_rfl, by kernel_rfl⟩
theorem bd140 : bodied Try.prog 140 := ⟨_, Try.func140, by kernel_rfl, by kernel_rfl⟩
theorem bd141 : bodied Try.prog 141 := ⟨_, Try.func141, by kernel_rfl, by kernel_rfl⟩
theorem bd142 : bodied Try.prog 142 := ⟨_, Try.func142, by kernel_rfl, by kernel_rfl⟩
theorem bd143 : bodied Try.prog 143 := ⟨_, Try.func143, by kernel_rfl, by kernel_rfl⟩
theorem bd145 : bodied Try.prog 145 := ⟨_, Try.func145, by kernel_rfl, by kernel_rfl⟩
theorem bd146 : bodied Try.prog 146 := ⟨_, Try.func146, by kernel_rfl, by kernel_rfl⟩
theorem bd147 : bodied Try.prog 147 := ⟨_, Try.func147, by kernel_rfl, by kernel_rfl⟩
theorem bd148 : bodied Try.prog 148 := ⟨_, Try.func148, by kernel_rfl, by kernel_rfl⟩
theorem bd149 : bodied Try.prog 149 := ⟨_, Try.func149, by kernel_rfl, by kernel_rfl⟩
theorem bd150 : bodied Try.prog 150 := ⟨_, Try.func150, by kernel_rfl, by kernel_rfl⟩
theorem bd151 : bodied Try.prog 151 := ⟨_, Try.func151, by kernel_rfl, by kernel_rfl⟩
theorem bd152 : bodied Try.prog 152 := ⟨_, Try.func152, by kernel_rfl, by kernel_rfl⟩
theorem bd153 : bodied Try.prog 153 := ⟨_, Try.func153, by kernel_rfl, by kernel_rfl⟩
theorem bd154 : bodied Try.prog 154 := ⟨_, Try.func154, by kernel_rfl, by kernel_rfl⟩
theorem bd155 : bodied Try.prog 155 := ⟨_, Try.func155, by kernel_rfl, by kernel_rfl⟩
theorem bd156 : bodied Try.prog 156 := ⟨_, Try.func156, by kernel_rfl, by kernel_rfl⟩
theorem bd157 : bodied Try.prog 157 := ⟨_, Try.func157, by kernel_rfl, by kernel_rfl⟩
theorem bd158 : bodied Try.prog 158 := ⟨_, Try.func158, by kernel_rfl, by kernel_rfl⟩
theorem bd159 : bodied Try.prog 159 := ⟨_, Try.func159, by kernel_rfl, by kernel_rfl⟩
theorem bd160 : bodied Try.prog 160 := ⟨_, Try.func160, by kernel_rfl, by kernel_rfl⟩
theorem bd161 : bodied Try.prog 161 := ⟨_, Try.func161, by kernel_rfl, by kernel_rfl⟩
theorem bd162 : bodied Try.prog 162 := ⟨_, Try.func162, by kernel_rfl, by kernel_rfl⟩
theorem bd163 : bodied Try.prog 163 := ⟨_, Try.func163, by kernel_rfl, by kernel_rfl⟩
theorem bd164 : bodied Try.prog 164 := ⟨_, Try.func164, by kernel_rfl, by kernel_rfl⟩
theorem bd165 : bodied Try.prog 165 := ⟨_, Try.func165, by kernel_rfl, by kernel_rfl⟩
theorem bd166 : bodied Try.prog 166 := ⟨_, Try.func166, by kernel_rfl, by kernel_rfl⟩
theorem bd167 : bodied Try.prog 167 := ⟨_, Try.func167, by kernel_rfl, by kernel_rfl⟩
theorem bd168 : bodied Try.prog 168 := ⟨_, Try.func168, by kernel_rfl, by kernel_rfl⟩
theorem bd169 : bodied Try.prog 169 := ⟨_, Try.func169, by kernel_rfl, by kernel_rfl⟩
theorem bd170 : bodied Try.prog 170 := ⟨_, Try.func170, by kernel_rfl, by kernel_rfl⟩
theorem bd171 : bodied Try.prog 171 := ⟨_, Try.func171, by kernel_rfl, by kernel_rfl⟩
theorem bd172 : bodied Try.prog 172 := ⟨_, Try.func172, by kernel_rfl, by kernel_rfl⟩
theorem bd173 : bodied Try.prog 173 := ⟨_, Try.func173, by kernel_rfl, by kernel_rfl⟩
theorem bd174 : bodied Try.prog 174 := ⟨_, Try.func174, by kernel_rfl, by kernel_rfl⟩
theorem bd175 : bodied Try.prog 175 := ⟨_, Try.func175, by kernel_rfl, by kernel_rfl⟩
theorem bd176 : bodied Try.prog 176 := ⟨_, Try.func176, by kernel_rfl, by kernel_rfl⟩
theorem bd177 : bodied Try.prog 177 := ⟨_, Try.func177, by kernel_rfl, by kernel_rfl⟩
theorem bd178 : bodied Try.prog 178 := ⟨_, Try.func178, by kernel_rfl, by kernel_rfl⟩
theorem bd179 : bodied Try.prog 179 := ⟨_, Try.func179, by kernel_rfl, by kernel_rfl⟩
theorem bd180 : bodied Try.prog 180 := ⟨_, Try.func180, by kernel_rfl, by kernel_rfl⟩
theorem bd181 : bodied Try.prog 181 := ⟨_, Try.func181, by kernel_rfl, by kernel_rfl⟩
theorem bd182 : bodied Try.prog 182 := ⟨_, Try.func182, by kernel_rfl, by kernel_rfl⟩
theorem bd183 : bodied Try.prog 183 := ⟨_, Try.func183, by kernel_rfl, by kernel_rfl⟩
theorem bd184 : bodied Try.prog 184 := ⟨_, Try.func184, by kernel_rfl, by kernel_rfl⟩
theorem bd185 : bodied Try.prog 185 := ⟨_, Try.func185, by kernel_rfl, by kernel_rfl⟩
theorem bd186 : bodied Try.prog 186 := ⟨_, Try.func186, by kernel_rfl, by kernel_rfl⟩
theorem bd187 : bodied Try.prog 187 := ⟨_, Try.func187, by kernel_rfl, by kernel_rfl⟩
theorem bd188 : bodied Try.prog 188 := ⟨_, Try.func188, by kernel_rfl, by kernel_rfl⟩
theorem bd189 : bodied Try.prog 189 := ⟨_, Try.func189, by kernel_rfl, by kernel_rfl⟩
end Go.Proofs.Ythkmfihbpbehfaa
