/-
The table of types of this seat's program, and closed facts on its functions, laid by a small program of ours (wip/tools/gentb.py) out of Lean's own print of the program.
-/
import Derived.Test.YtaienbnadbadfaaProg
import Derived.Test.YtaienbnadbadfaaFwB
import Derived.KernelRfl
namespace Go.Proofs.Ytaienbnadbadfaa
open Go.TR
def tbl : List (Nat × TI) := [
  (3, ⟨(.int .i64), 1, 8, [(Value.int IntKind.i64 0)], false⟩),
  (42, ⟨(.int .u64), 1, 8, [(Value.int IntKind.u64 0)], false⟩),
  (44, ⟨(.struct [(2, 0), (42, 1), (42, 2), (2, 3)]), 4, 32, [(Value.int IntKind.i64 0), (Value.int IntKind.u64 0), (Value.int IntKind.u64 0), (Value.int IntKind.i64 0)], true⟩),
  (9, ⟨.string, 1, 16, [(Value.string { data := #[] })], false⟩),
  (2, ⟨(.int .i64), 1, 8, [(Value.int IntKind.i64 0)], false⟩),
  (28, ⟨(.struct [(3, 0), (3, 1), (3, 2), (3, 3), (2, 4), (3, 5)]), 6, 48, [(Value.int IntKind.i64 0), (Value.int IntKind.i64 0), (Value.int IntKind.i64 0), (Value.int IntKind.i64 0), (Value.int IntKind.i64 0), (Value.int IntKind.i64 0)], true⟩),
  (22, ⟨(.int .i64), 1, 8, [(Value.int IntKind.i64 0)], false⟩),
  (40, ⟨(.struct [(2, 0), (38, 1)]), 2, 32, [(Value.int IntKind.i64 0), (Value.slice none 0 0)], false⟩),
  (41, ⟨(.slice 44), 1, 24, [(Value.slice none 0 0)], false⟩),
  (64, ⟨(.slice 9), 1, 24, [(Value.slice none 0 0)], false⟩),
  (86, ⟨(.struct [(3, 0), (84, 1)]), 2, 32, [(Value.int IntKind.i64 0), (Value.slice none 0 0)], false⟩),
  (46, ⟨(.slice 42), 1, 24, [(Value.slice none 0 0)], false⟩),
  (38, ⟨(.slice 52), 1, 24, [(Value.slice none 0 0)], false⟩),
  (52, ⟨(.struct [(3, 0), (3, 1), (2, 2), (2, 3), (41, 4), (50, 5)]), 12, 152, [(Value.int IntKind.i64 0), (Value.int IntKind.i64 0), (Value.int IntKind.i64 0), (Value.int IntKind.i64 0), (Value.slice none 0 0), (Value.int IntKind.i64 0), (Value.int IntKind.u64 0), (Value.int IntKind.u64 0), (Value.int IntKind.i64 0), (Value.string { data := #[] }), (Value.slice none 0 0), (Value.slice none 0 0)], false⟩),
  (84, ⟨(.slice 88), 1, 24, [(Value.slice none 0 0)], false⟩),
  (88, ⟨(.struct [(9, 0), (9, 1), (42, 2), (42, 3)]), 4, 48, [(Value.string { data := #[] }), (Value.string { data := #[] }), (Value.int IntKind.u64 0), (Value.int IntKind.u64 0)], true⟩),
  (5, ⟨(.int .u8), 1, 1, [(Value.int IntKind.u8 0)], false⟩),
  (24, ⟨(.slice 3), 1, 24, [(Value.slice none 0 0)], false⟩),
  (167, ⟨(.slice 5), 1, 24, [(Value.slice none 0 0)], false⟩),
  (145, ⟨(.array 2 44), 8, 64, [(Value.int IntKind.i64 0), (Value.int IntKind.u64 0), (Value.int IntKind.u64 0), (Value.int IntKind.i64 0), (Value.int IntKind.i64 0), (Value.int IntKind.u64 0), (Value.int IntKind.u64 0), (Value.int IntKind.i64 0)], false⟩),
  (4, ⟨.bool, 1, 1, [(Value.bool false)], false⟩),
  (45, ⟨(.slice 209), 1, 24, [(Value.slice none 0 0)], false⟩),
  (48, ⟨(.struct [(9, 0), (45, 1), (46, 2)]), 3, 64, [(Value.string { data := #[] }), (Value.slice none 0 0), (Value.slice none 0 0)], false⟩),
  (169, ⟨(.struct [(166, 0), (167, 1)]), 2, 32, [(Value.pointer none), (Value.slice none 0 0)], false⟩),
  (199, ⟨(.slice 145), 1, 24, [(Value.slice none 0 0)], false⟩),
  (50, ⟨(.struct [(44, 0), (48, 4)]), 7, 96, [(Value.int IntKind.i64 0), (Value.int IntKind.u64 0), (Value.int IntKind.u64 0), (Value.int IntKind.i64 0), (Value.string { data := #[] }), (Value.slice none 0 0), (Value.slice none 0 0)], false⟩),
  (118, ⟨(.array 4 42), 4, 32, [(Value.int IntKind.u64 0), (Value.int IntKind.u64 0), (Value.int IntKind.u64 0), (Value.int IntKind.u64 0)], false⟩),
  (217, ⟨(.slice 41), 1, 24, [(Value.slice none 0 0)], false⟩),
  (193, ⟨(.slice 197), 1, 24, [(Value.slice none 0 0)], false⟩),
  (59, ⟨.other, 1, 8, [Value.nilFunc], false⟩),
  (166, ⟨(.pointer 169), 1, 8, [(Value.pointer none)], false⟩),
  (189, ⟨(.slice 4), 1, 24, [(Value.slice none 0 0)], false⟩),
  (197, ⟨(.struct [(4, 0)]), 1, 1, [(Value.bool false)], true⟩),
  (21, ⟨(.int .i32), 1, 4, [(Value.int IntKind.i32 0)], false⟩),
  (182, ⟨(.slice 84), 1, 24, [(Value.slice none 0 0)], false⟩),
  (222, ⟨.other, 1, 8, [Value.nilFunc], false⟩),
  (23, ⟨(.slice 22), 1, 24, [(Value.slice none 0 0)], false⟩),
  (178, ⟨(.array 8 5), 8, 8, [(Value.int IntKind.u8 0), (Value.int IntKind.u8 0), (Value.int IntKind.u8 0), (Value.int IntKind.u8 0), (Value.int IntKind.u8 0), (Value.int IntKind.u8 0), (Value.int IntKind.u8 0), (Value.int IntKind.u8 0)], false⟩),
  (209, ⟨(.struct [(9, 0), (9, 1)]), 2, 32, [(Value.string { data := #[] }), (Value.string { data := #[] })], true⟩),
  (220, ⟨.other, 1, 8, [(Value.pointer none)], false⟩),
  (156, ⟨.other, 1, 8, [Value.nilFunc], false⟩),
  (161, ⟨.other, 1, 8, [Value.nilFunc], false⟩),
  (172, ⟨.other, 1, 16, [Value.nilIface], false⟩),
  (174, ⟨(.int .u64), 1, 8, [(Value.int IntKind.u64 0)], false⟩),
  (181, ⟨.other, 1, 8, [Value.nilFunc], false⟩),
  (212, ⟨(.pointer 5), 1, 8, [(Value.pointer none)], false⟩)]
def tb : Tb := lkT tbl
theorem tb3 : TI.ok Try.prog 3 ⟨(.int .i64), 1, 8, [(Value.int IntKind.i64 0)], false⟩ where
  info := ⟨Try.t3, by kernel_rfl, rfl, rfl, _, rfl, rfl⟩
  kind := ⟨(TypeDesc.int IntKind.i64), by kernel_rfl, rfl⟩
  flat := fun h => by cases h
theorem tb42 : TI.ok Try.prog 42 ⟨(.int .u64), 1, 8, [(Value.int IntKind.u64 0)], false⟩ where
  info := ⟨Try.t42, by kernel_rfl, rfl, rfl, _, rfl, rfl⟩
  kind := ⟨(TypeDesc.int IntKind.u64), by kernel_rfl, rfl⟩
  flat := fun h => by cases h
theorem tb44 : TI.ok Try.prog 44 ⟨(.struct [(2, 0), (42, 1), (42, 2), (2, 3)]), 4, 32, [(Value.int IntKind.i64 0), (Value.int IntKind.u64 0), (Value.int IntKind.u64 0), (Value.int IntKind.i64 0)], true⟩ where
  info := ⟨Try.t44, by kernel_rfl, rfl, rfl, _, rfl, rfl⟩
  kind := ⟨(TypeDesc.struct #[{ name := "Epoch", type := 2, offset := 0, embedded := false, tag := "", pkgPath := "", byteOffset := 0 }, { name := "Root", type := 42, offset := 1, embedded := false, tag := "", pkgPath := "", byteOffset := 8 }, { name := "Prev", type := 42, offset := 2, embedded := false, tag := "", pkgPath := "", byteOffset := 16 }, { name := "At", type := 2, offset := 3, embedded := false, tag := "", pkgPath := "", byteOffset := 24 }]), by kernel_rfl, ⟨_, rfl, by rfl, by simp⟩⟩
  flat := fun _ => ⟨by kernel_rfl, by kernel_rfl⟩
theorem tb9 : TI.ok Try.prog 9 ⟨.string, 1, 16, [(Value.string { data := #[] })], false⟩ where
  info := ⟨Try.t9, by kernel_rfl, rfl, rfl, _, rfl, rfl⟩
  kind := ⟨TypeDesc.string, by kernel_rfl, rfl⟩
  flat := fun h => by cases h
theorem tb2 : TI.ok Try.prog 2 ⟨(.int .i64), 1, 8, [(Value.int IntKind.i64 0)], false⟩ where
  info := ⟨Try.t2, by kernel_rfl, rfl, rfl, _, rfl, rfl⟩
  kind := ⟨(TypeDesc.int IntKind.i64), by kernel_rfl, rfl⟩
  flat := fun h => by cases h
theorem tb28 : TI.ok Try.prog 28 ⟨(.struct [(3, 0), (3, 1), (3, 2), (3, 3), (2, 4), (3, 5)]), 6, 48, [(Value.int IntKind.i64 0), (Value.int IntKind.i64 0), (Value.int IntKind.i64 0), (Value.int IntKind.i64 0), (Value.int IntKind.i64 0), (Value.int IntKind.i64 0)], true⟩ where
  info := ⟨Try.t28, by kernel_rfl, rfl, rfl, _, rfl, rfl⟩
  kind := ⟨(TypeDesc.struct #[{ name := "Least", type := 3, offset := 0, embedded := false, tag := "", pkgPath := "", byteOffset := 0 }, { name := "Most", type := 3, offset := 1, embedded := false, tag := "", pkgPath := "", byteOffset := 8 }, { name := "Lost", type := 3, offset := 2, embedded := false, tag := "", pkgPath := "", byteOffset := 16 }, { name := "Gap", type := 3, offset := 3, embedded := false, tag := "", pkgPath := "", byteOffset := 24 }, { name := "Next", type := 2, offset := 4, embedded := false, tag := "", pkgPath := "", byteOffset := 32 }, { name := "Asked", type := 3, offset := 5, embedded := false, tag := "", pkgPath := "", byteOffset := 40 }]), by kernel_rfl, ⟨_, rfl, by rfl, by simp⟩⟩
  flat := fun _ => ⟨by kernel_rfl, by kernel_rfl⟩
theorem tb22 : TI.ok Try.prog 22 ⟨(.int .i64), 1, 8, [(Value.int IntKind.i64 0)], false⟩ where
  info := ⟨Try.t22, by kernel_rfl, rfl, rfl, _, rfl, rfl⟩
  kind := ⟨(TypeDesc.int IntKind.i64), by kernel_rfl, rfl⟩
  flat := fun h => by cases h
theorem tb40 : TI.ok Try.prog 40 ⟨(.struct [(2, 0), (38, 1)]), 2, 32, [(Value.int IntKind.i64 0), (Value.slice none 0 0)], false⟩ where
  info := ⟨Try.t40, by kernel_rfl, rfl, rfl, _, rfl, rfl⟩
  kind := ⟨(TypeDesc.struct #[{ name := "Now", type := 2, offset := 0, embedded := false, tag := "", pkgPath := "", byteOffset := 0 }, { name := "Way", type := 38, offset := 1, embedded := false, tag := "", pkgPath := "", byteOffset := 8 }]), by kernel_rfl, ⟨_, rfl, by rfl, by simp⟩⟩
  flat := fun h => by cases h
theorem tb41 : TI.ok Try.prog 41 ⟨(.slice 44), 1, 24, [(Value.slice none 0 0)], false⟩ where
  info := ⟨Try.t41, by kernel_rfl, rfl, rfl, _, rfl, rfl⟩
  kind := ⟨(TypeDesc.slice 44), by kernel_rfl, rfl⟩
  flat := fun h => by cases h
theorem tb64 : TI.ok Try.prog 64 ⟨(.slice 9), 1, 24, [(Value.slice none 0 0)], false⟩ where
  info := ⟨Try.t64, by kernel_rfl, rfl, rfl, _, rfl, rfl⟩
  kind := ⟨(TypeDesc.slice 9), by kernel_rfl, rfl⟩
  flat := fun h => by cases h
theorem tb86 : TI.ok Try.prog 86 ⟨(.struct [(3, 0), (84, 1)]), 2, 32, [(Value.int IntKind.i64 0), (Value.slice none 0 0)], false⟩ where
  info := ⟨Try.t86, by kernel_rfl, rfl, rfl, _, rfl, rfl⟩
  kind := ⟨(TypeDesc.struct #[{ name := "Most", type := 3, offset := 0, embedded := false, tag := "", pkgPath := "", byteOffset := 0 }, { name := "Wait", type := 84, offset := 1, embedded := false, tag := "", pkgPath := "", byteOffset := 8 }]), by kernel_rfl, ⟨_, rfl, by rfl, by simp⟩⟩
  flat := fun h => by cases h
theorem tb46 : TI.ok Try.prog 46 ⟨(.slice 42), 1, 24, [(Value.slice none 0 0)], false⟩ where
  info := ⟨Try.t46, by kernel_rfl, rfl, rfl, _, rfl, rfl⟩
  kind := ⟨(TypeDesc.slice 42), by kernel_rfl, rfl⟩
  flat := fun h => by cases h
theorem tb38 : TI.ok Try.prog 38 ⟨(.slice 52), 1, 24, [(Value.slice none 0 0)], false⟩ where
  info := ⟨Try.t38, by kernel_rfl, rfl, rfl, _, rfl, rfl⟩
  kind := ⟨(TypeDesc.slice 52), by kernel_rfl, rfl⟩
  flat := fun h => by cases h
theorem tb52 : TI.ok Try.prog 52 ⟨(.struct [(3, 0), (3, 1), (2, 2), (2, 3), (41, 4), (50, 5)]), 12, 152, [(Value.int IntKind.i64 0), (Value.int IntKind.i64 0), (Value.int IntKind.i64 0), (Value.int IntKind.i64 0), (Value.slice none 0 0), (Value.int IntKind.i64 0), (Value.int IntKind.u64 0), (Value.int IntKind.u64 0), (Value.int IntKind.i64 0), (Value.string { data := #[] }), (Value.slice none 0 0), (Value.slice none 0 0)], false⟩ where
  info := ⟨Try.t52, by kernel_rfl, rfl, rfl, _, rfl, rfl⟩
  kind := ⟨(TypeDesc.struct #[{ name := "To", type := 3, offset := 0, embedded := false, tag := "", pkgPath := "", byteOffset := 0 }, { name := "From", type := 3, offset := 1, embedded := false, tag := "", pkgPath := "", byteOffset := 8 }, { name := "Since", type := 2, offset := 2, embedded := false, tag := "", pkgPath := "", byteOffset := 16 }, { name := "Due", type := 2, offset := 3, embedded := false, tag := "", pkgPath := "", byteOffset := 24 }, { name := "Heads", type := 41, offset := 4, embedded := false, tag := "", pkgPath := "", byteOffset := 32 }, { name := "Reply", type := 50, offset := 5, embedded := false, tag := "", pkgPath := "", byteOffset := 56 }]), by kernel_rfl, ⟨_, rfl, by rfl, by simp⟩⟩
  flat := fun h => by cases h
theorem tb84 : TI.ok Try.prog 84 ⟨(.slice 88), 1, 24, [(Value.slice none 0 0)], false⟩ where
  info := ⟨Try.t84, by kernel_rfl, rfl, rfl, _, rfl, rfl⟩
  kind := ⟨(TypeDesc.slice 88), by kernel_rfl, rfl⟩
  flat := fun h => by cases h
theorem tb88 : TI.ok Try.prog 88 ⟨(.struct [(9, 0), (9, 1), (42, 2), (42, 3)]), 4, 48, [(Value.string { data := #[] }), (Value.string { data := #[] }), (Value.int IntKind.u64 0), (Value.int IntKind.u64 0)], true⟩ where
  info := ⟨Try.t88, by kernel_rfl, rfl, rfl, _, rfl, rfl⟩
  kind := ⟨(TypeDesc.struct #[{ name := "Name", type := 9, offset := 0, embedded := false, tag := "", pkgPath := "", byteOffset := 0 }, { name := "Value", type := 9, offset := 1, embedded := false, tag := "", pkgPath := "", byteOffset := 16 }, { name := "N", type := 42, offset := 2, embedded := false, tag := "", pkgPath := "", byteOffset := 32 }, { name := "Tag", type := 42, offset := 3, embedded := false, tag := "", pkgPath := "", byteOffset := 40 }]), by kernel_rfl, ⟨_, rfl, by rfl, by simp⟩⟩
  flat := fun _ => ⟨by kernel_rfl, by kernel_rfl⟩
theorem tb5 : TI.ok Try.prog 5 ⟨(.int .u8), 1, 1, [(Value.int IntKind.u8 0)], false⟩ where
  info := ⟨Try.t5, by kernel_rfl, rfl, rfl, _, rfl, rfl⟩
  kind := ⟨(TypeDesc.int IntKind.u8), by kernel_rfl, rfl⟩
  flat := fun h => by cases h
theorem tb24 : TI.ok Try.prog 24 ⟨(.slice 3), 1, 24, [(Value.slice none 0 0)], false⟩ where
  info := ⟨Try.t24, by kernel_rfl, rfl, rfl, _, rfl, rfl⟩
  kind := ⟨(TypeDesc.slice 3), by kernel_rfl, rfl⟩
  flat := fun h => by cases h
theorem tb167 : TI.ok Try.prog 167 ⟨(.slice 5), 1, 24, [(Value.slice none 0 0)], false⟩ where
  info := ⟨Try.t167, by kernel_rfl, rfl, rfl, _, rfl, rfl⟩
  kind := ⟨(TypeDesc.slice 5), by kernel_rfl, rfl⟩
  flat := fun h => by cases h
theorem tb145 : TI.ok Try.prog 145 ⟨(.array 2 44), 8, 64, [(Value.int IntKind.i64 0), (Value.int IntKind.u64 0), (Value.int IntKind.u64 0), (Value.int IntKind.i64 0), (Value.int IntKind.i64 0), (Value.int IntKind.u64 0), (Value.int IntKind.u64 0), (Value.int IntKind.i64 0)], false⟩ where
  info := ⟨Try.t145, by kernel_rfl, rfl, rfl, _, rfl, rfl⟩
  kind := ⟨(TypeDesc.array 2 44), by kernel_rfl, rfl⟩
  flat := fun h => by cases h
theorem tb4 : TI.ok Try.prog 4 ⟨.bool, 1, 1, [(Value.bool false)], false⟩ where
  info := ⟨Try.t4, by kernel_rfl, rfl, rfl, _, rfl, rfl⟩
  kind := ⟨TypeDesc.bool, by kernel_rfl, rfl⟩
  flat := fun h => by cases h
theorem tb45 : TI.ok Try.prog 45 ⟨(.slice 209), 1, 24, [(Value.slice none 0 0)], false⟩ where
  info := ⟨Try.t45, by kernel_rfl, rfl, rfl, _, rfl, rfl⟩
  kind := ⟨(TypeDesc.slice 209), by kernel_rfl, rfl⟩
  flat := fun h => by cases h
theorem tb48 : TI.ok Try.prog 48 ⟨(.struct [(9, 0), (45, 1), (46, 2)]), 3, 64, [(Value.string { data := #[] }), (Value.slice none 0 0), (Value.slice none 0 0)], false⟩ where
  info := ⟨Try.t48, by kernel_rfl, rfl, rfl, _, rfl, rfl⟩
  kind := ⟨(TypeDesc.struct #[{ name := "Name", type := 9, offset := 0, embedded := false, tag := "", pkgPath := "", byteOffset := 0 }, { name := "Entries", type := 45, offset := 1, embedded := false, tag := "", pkgPath := "", byteOffset := 16 }, { name := "Sides", type := 46, offset := 2, embedded := false, tag := "", pkgPath := "", byteOffset := 40 }]), by kernel_rfl, ⟨_, rfl, by rfl, by simp⟩⟩
  flat := fun h => by cases h
theorem tb169 : TI.ok Try.prog 169 ⟨(.struct [(166, 0), (167, 1)]), 2, 32, [(Value.pointer none), (Value.slice none 0 0)], false⟩ where
  info := ⟨Try.t169, by kernel_rfl, rfl, rfl, _, rfl, rfl⟩
  kind := ⟨(TypeDesc.struct #[{ name := "addr", type := 166, offset := 0, embedded := false, tag := "", pkgPath := "strings", byteOffset := 0 }, { name := "buf", type := 167, offset := 1, embedded := false, tag := "", pkgPath := "strings", byteOffset := 8 }]), by kernel_rfl, ⟨_, rfl, by rfl, by simp⟩⟩
  flat := fun h => by cases h
theorem tb199 : TI.ok Try.prog 199 ⟨(.slice 145), 1, 24, [(Value.slice none 0 0)], false⟩ where
  info := ⟨Try.t199, by kernel_rfl, rfl, rfl, _, rfl, rfl⟩
  kind := ⟨(TypeDesc.slice 145), by kernel_rfl, rfl⟩
  flat := fun h => by cases h
theorem tb50 : TI.ok Try.prog 50 ⟨(.struct [(44, 0), (48, 4)]), 7, 96, [(Value.int IntKind.i64 0), (Value.int IntKind.u64 0), (Value.int IntKind.u64 0), (Value.int IntKind.i64 0), (Value.string { data := #[] }), (Value.slice none 0 0), (Value.slice none 0 0)], false⟩ where
  info := ⟨Try.t50, by kernel_rfl, rfl, rfl, _, rfl, rfl⟩
  kind := ⟨(TypeDesc.struct #[{ name := "Head", type := 44, offset := 0, embedded := false, tag := "", pkgPath := "", byteOffset := 0 }, { name := "Proof", type := 48, offset := 4, embedded := false, tag := "", pkgPath := "", byteOffset := 32 }]), by kernel_rfl, ⟨_, rfl, by rfl, by simp⟩⟩
  flat := fun h => by cases h
theorem tb118 : TI.ok Try.prog 118 ⟨(.array 4 42), 4, 32, [(Value.int IntKind.u64 0), (Value.int IntKind.u64 0), (Value.int IntKind.u64 0), (Value.int IntKind.u64 0)], false⟩ where
  info := ⟨Try.t118, by kernel_rfl, rfl, rfl, _, rfl, rfl⟩
  kind := ⟨(TypeDesc.array 4 42), by kernel_rfl, rfl⟩
  flat := fun h => by cases h
theorem tb217 : TI.ok Try.prog 217 ⟨(.slice 41), 1, 24, [(Value.slice none 0 0)], false⟩ where
  info := ⟨Try.t217, by kernel_rfl, rfl, rfl, _, rfl, rfl⟩
  kind := ⟨(TypeDesc.slice 41), by kernel_rfl, rfl⟩
  flat := fun h => by cases h
theorem tb193 : TI.ok Try.prog 193 ⟨(.slice 197), 1, 24, [(Value.slice none 0 0)], false⟩ where
  info := ⟨Try.t193, by kernel_rfl, rfl, rfl, _, rfl, rfl⟩
  kind := ⟨(TypeDesc.slice 197), by kernel_rfl, rfl⟩
  flat := fun h => by cases h
theorem tb59 : TI.ok Try.prog 59 ⟨.other, 1, 8, [Value.nilFunc], false⟩ where
  info := ⟨Try.t59, by kernel_rfl, rfl, rfl, _, rfl, rfl⟩
  kind := ⟨(TypeDesc.func #[52] #[4] false), by kernel_rfl, ⟨(by intro fs h; cases h), (by intro n e h; cases h)⟩⟩
  flat := fun h => by cases h
theorem tb166 : TI.ok Try.prog 166 ⟨(.pointer 169), 1, 8, [(Value.pointer none)], false⟩ where
  info := ⟨Try.t166, by kernel_rfl, rfl, rfl, _, rfl, rfl⟩
  kind := ⟨(TypeDesc.pointer 169), by kernel_rfl, rfl⟩
  flat := fun h => by cases h
theorem tb189 : TI.ok Try.prog 189 ⟨(.slice 4), 1, 24, [(Value.slice none 0 0)], false⟩ where
  info := ⟨Try.t189, by kernel_rfl, rfl, rfl, _, rfl, rfl⟩
  kind := ⟨(TypeDesc.slice 4), by kernel_rfl, rfl⟩
  flat := fun h => by cases h
theorem tb197 : TI.ok Try.prog 197 ⟨(.struct [(4, 0)]), 1, 1, [(Value.bool false)], true⟩ where
  info := ⟨Try.t197, by kernel_rfl, rfl, rfl, _, rfl, rfl⟩
  kind := ⟨(TypeDesc.struct #[{ name := "fresh", type := 4, offset := 0, embedded := false, tag := "", pkgPath := "tallyroll/tallyrollref", byteOffset := 0 }]), by kernel_rfl, ⟨_, rfl, by rfl, by simp⟩⟩
  flat := fun _ => ⟨by kernel_rfl, by kernel_rfl⟩
theorem tb21 : TI.ok Try.prog 21 ⟨(.int .i32), 1, 4, [(Value.int IntKind.i32 0)], false⟩ where
  info := ⟨Try.t21, by kernel_rfl, rfl, rfl, _, rfl, rfl⟩
  kind := ⟨(TypeDesc.int IntKind.i32), by kernel_rfl, rfl⟩
  flat := fun h => by cases h
theorem tb182 : TI.ok Try.prog 182 ⟨(.slice 84), 1, 24, [(Value.slice none 0 0)], false⟩ where
  info := ⟨Try.t182, by kernel_rfl, rfl, rfl, _, rfl, rfl⟩
  kind := ⟨(TypeDesc.slice 84), by kernel_rfl, rfl⟩
  flat := fun h => by cases h
theorem tb222 : TI.ok Try.prog 222 ⟨.other, 1, 8, [Value.nilFunc], false⟩ where
  info := ⟨Try.t222, by kernel_rfl, rfl, rfl, _, rfl, rfl⟩
  kind := ⟨(TypeDesc.func #[21] #[4] false), by kernel_rfl, ⟨(by intro fs h; cases h), (by intro n e h; cases h)⟩⟩
  flat := fun h => by cases h
theorem tb23 : TI.ok Try.prog 23 ⟨(.slice 22), 1, 24, [(Value.slice none 0 0)], false⟩ where
  info := ⟨Try.t23, by kernel_rfl, rfl, rfl, _, rfl, rfl⟩
  kind := ⟨(TypeDesc.slice 22), by kernel_rfl, rfl⟩
  flat := fun h => by cases h
theorem tb178 : TI.ok Try.prog 178 ⟨(.array 8 5), 8, 8, [(Value.int IntKind.u8 0), (Value.int IntKind.u8 0), (Value.int IntKind.u8 0), (Value.int IntKind.u8 0), (Value.int IntKind.u8 0), (Value.int IntKind.u8 0), (Value.int IntKind.u8 0), (Value.int IntKind.u8 0)], false⟩ where
  info := ⟨Try.t178, by kernel_rfl, rfl, rfl, _, rfl, rfl⟩
  kind := ⟨(TypeDesc.array 8 5), by kernel_rfl, rfl⟩
  flat := fun h => by cases h
theorem tb209 : TI.ok Try.prog 209 ⟨(.struct [(9, 0), (9, 1)]), 2, 32, [(Value.string { data := #[] }), (Value.string { data := #[] })], true⟩ where
  info := ⟨Try.t209, by kernel_rfl, rfl, rfl, _, rfl, rfl⟩
  kind := ⟨(TypeDesc.struct #[{ name := "Name", type := 9, offset := 0, embedded := false, tag := "", pkgPath := "", byteOffset := 0 }, { name := "Value", type := 9, offset := 1, embedded := false, tag := "", pkgPath := "", byteOffset := 16 }]), by kernel_rfl, ⟨_, rfl, by rfl, by simp⟩⟩
  flat := fun _ => ⟨by kernel_rfl, by kernel_rfl⟩
theorem tb220 : TI.ok Try.prog 220 ⟨.other, 1, 8, [(Value.pointer none)], false⟩ where
  info := ⟨Try.t220, by kernel_rfl, rfl, rfl, _, rfl, rfl⟩
  kind := ⟨TypeDesc.unsafePointer, by kernel_rfl, ⟨(by intro fs h; cases h), (by intro n e h; cases h)⟩⟩
  flat := fun h => by cases h
theorem tb156 : TI.ok Try.prog 156 ⟨.other, 1, 8, [Value.nilFunc], false⟩ where
  info := ⟨Try.t156, by kernel_rfl, rfl, rfl, _, rfl, rfl⟩
  kind := ⟨(TypeDesc.func #[44] #[4] false), by kernel_rfl, ⟨(by intro fs h; cases h), (by intro n e h; cases h)⟩⟩
  flat := fun h => by cases h
theorem tb161 : TI.ok Try.prog 161 ⟨.other, 1, 8, [Value.nilFunc], false⟩ where
  info := ⟨Try.t161, by kernel_rfl, rfl, rfl, _, rfl, rfl⟩
  kind := ⟨(TypeDesc.func #[3] #[4] false), by kernel_rfl, ⟨(by intro fs h; cases h), (by intro n e h; cases h)⟩⟩
  flat := fun h => by cases h
theorem tb172 : TI.ok Try.prog 172 ⟨.other, 1, 16, [Value.nilIface], false⟩ where
  info := ⟨Try.t172, by kernel_rfl, rfl, rfl, _, rfl, rfl⟩
  kind := ⟨(TypeDesc.interface #[("Error", 177)]), by kernel_rfl, ⟨(by intro fs h; cases h), (by intro n e h; cases h)⟩⟩
  flat := fun h => by cases h
theorem tb174 : TI.ok Try.prog 174 ⟨(.int .u64), 1, 8, [(Value.int IntKind.u64 0)], false⟩ where
  info := ⟨Try.t174, by kernel_rfl, rfl, rfl, _, rfl, rfl⟩
  kind := ⟨(TypeDesc.int IntKind.u64), by kernel_rfl, rfl⟩
  flat := fun h => by cases h
theorem tb181 : TI.ok Try.prog 181 ⟨.other, 1, 8, [Value.nilFunc], false⟩ where
  info := ⟨Try.t181, by kernel_rfl, rfl, rfl, _, rfl, rfl⟩
  kind := ⟨(TypeDesc.func #[9] #[4] false), by kernel_rfl, ⟨(by intro fs h; cases h), (by intro n e h; cases h)⟩⟩
  flat := fun h => by cases h
theorem tb212 : TI.ok Try.prog 212 ⟨(.pointer 5), 1, 8, [(Value.pointer none)], false⟩ where
  info := ⟨Try.t212, by kernel_rfl, rfl, rfl, _, rfl, rfl⟩
  kind := ⟨(TypeDesc.pointer 5), by kernel_rfl, rfl⟩
  flat := fun h => by cases h
theorem tbok : TbOK Try.prog tb := lkT_ok ⟨tb3, tb42, tb44, tb9, tb2, tb28, tb22, tb40, tb41, tb64, tb86, tb46, tb38, tb52, tb84, tb88, tb5, tb24, tb167, tb145, tb4, tb45, tb48, tb169, tb199, tb50, tb118, tb217, tb193, tb59, tb166, tb189, tb197, tb21, tb182, tb222, tb23, tb178, tb209, tb220, tb156, tb161, tb172, tb174, tb181, tb212, trivial⟩
theorem mixed : Try.prog.follows .mixedOrders = true := by kernel_rfl
theorem bd2 : bodied Try.prog 2 := ⟨_, Try.func2, by kernel_rfl, by kernel_rfl⟩
theorem bd3 : bodied Try.prog 3 := ⟨_, Try.func3, by kernel_rfl, by kernel_rfl⟩
theorem bd4 : bodied Try.prog 4 := ⟨_, Try.func4, by kernel_rfl, by kernel_rfl⟩
theorem bd5 : bodied Try.prog 5 := ⟨_, Try.func5, by kernel_rfl, by kernel_rfl⟩
theorem bd6 : bodied Try.prog 6 := ⟨_, Try.func6, by kernel_rfl, by kernel_rfl⟩
theorem bd7 : bodied Try.prog 7 := ⟨_, Try.func7, by kernel_rfl, by kernel_rfl⟩
theorem bd8 : bodied Try.prog 8 := ⟨_, Try.func8, by kernel_rfl, by kernel_rfl⟩
theorem bd9 : bodied Try.prog 9 := ⟨_, Try.func9, by kernel_rfl, by kernel_rfl⟩
theorem bd10 : bodied Try.prog 10 := ⟨_, Try.func10, by kernel_rfl, by kernel_rfl⟩
theorem bd11 : bodied Try.prog 11 := ⟨_, Try.func11, by kernel_rfl, by kernel_rfl⟩
theorem bd12 : bodied Try.prog 12 := ⟨_, Try.func12, by kernel_rfl, by kernel_rfl⟩
theorem bd13 : bodied Try.prog 13 := ⟨_, Try.func13, by kernel_rfl, by kernel_rfl⟩
theorem bd14 : bodied Try.prog 14 := ⟨_, Try.func14, by kernel_rfl, by kernel_rfl⟩
theorem bd15 : bodied Try.prog 15 := ⟨_, Try.func15, by kernel_rfl, by kernel_rfl⟩
theorem bd16 : bodied Try.prog 16 := ⟨_, Try.func16, by kernel_rfl, by kernel_rfl⟩
theorem bd17 : bodied Try.prog 17 := ⟨_, Try.func17, by kernel_rfl, by kernel_rfl⟩
theorem bd18 : bodied Try.prog 18 := ⟨_, Try.func18, by kernel_rfl, by kernel_rfl⟩
theorem bd19 : bodied Try.prog 19 := ⟨_, Try.func19, by kernel_rfl, by kernel_rfl⟩
theorem bd20 : bodied Try.prog 20 := ⟨_, Try.func20, by kernel_rfl, by kernel_rfl⟩
theorem bd21 : bodied Try.prog 21 := ⟨_, Try.func21, by kernel_rfl, by kernel_rfl⟩
theorem bd22 : bodied Try.prog 22 := ⟨_, Try.func22, by kernel_rfl, by kernel_rfl⟩
theorem bd23 : bodied Try.prog 23 := ⟨_, Try.func23, by kernel_rfl, by kernel_rfl⟩
theorem bd24 : bodied Try.prog 24 := ⟨_, Try.func24, by kernel_rfl, by kernel_rfl⟩
theorem bd25 : bodied Try.prog 25 := ⟨_, Try.func25, by kernel_rfl, by kernel_rfl⟩
theorem bd26 : bodied Try.prog 26 := ⟨_, Try.func26, by kernel_rfl, by kernel_rfl⟩
theorem bd27 : bodied Try.prog 27 := ⟨_, Try.func27, by kernel_rfl, by kernel_rfl⟩
theorem bd28 : bodied Try.prog 28 := ⟨_, Try.func28, by kernel_rfl, by kernel_rfl⟩
theorem bd29 : bodied Try.prog 29 := ⟨_, Try.func29, by kernel_rfl, by kernel_rfl⟩
theorem bd30 : bodied Try.prog 30 := ⟨_, Try.func30, by kernel_rfl, by kernel_rfl⟩
theorem bd31 : bodied Try.prog 31 := ⟨_, Try.func31, by kernel_rfl, by kernel_rfl⟩
theorem bd32 : bodied Try.prog 32 := ⟨_, Try.func32, by kernel_rfl, by kernel_rfl⟩
theorem bd33 : bodied Try.prog 33 := ⟨_, Try.func33, by kernel_rfl, by kernel_rfl⟩
theorem bd34 : bodied Try.prog 34 := ⟨_, Try.func34, by kernel_rfl, by kernel_rfl⟩
theorem bd35 : bodied Try.prog 35 := ⟨_, Try.func35, by kernel_rfl, by kernel_rfl⟩
theorem bd36 : bodied Try.prog 36 := ⟨_, Try.func36, by kernel_rfl, by kernel_rfl⟩
theorem bd37 : bodied Try.prog 37 := ⟨_, Try.func37, by kernel_rfl, by kernel_rfl⟩
theorem bd38 : bodied Try.prog 38 := ⟨_, Try.func38, by kernel_rfl, by kernel_rfl⟩
theorem bd39 : bodied Try.prog 39 := ⟨_, Try.func39, by kernel_rfl, by kernel_rfl⟩
theorem bd40 : bodied Try.prog 40 := ⟨_, Try.func40, by kernel_rfl, by kernel_rfl⟩
theorem bd41 : bodied Try.prog 41 := ⟨_, Try.func41, by kernel_rfl, by kernel_rfl⟩
theorem bd42 : bodied Try.prog 42 := ⟨_, Try.func42, by kernel_rfl, by kernel_rfl⟩
theorem bd43 : bodied Try.prog 43 := ⟨_, Try.func43, by kernel_rfl, by kernel_rfl⟩
theorem bd44 : bodied Try.prog 44 := ⟨_, Try.func44, by kernel_rfl, by kernel_rfl⟩
theorem bd45 : bodied Try.prog 45 := ⟨_, Try.func45, by kernel_rfl, by kernel_rfl⟩
theorem bd46 : bodied Try.prog 46 := ⟨_, Try.func46, by kernel_rfl, by kernel_rfl⟩
theorem bd47 : bodied Try.prog 47 := ⟨_, Try.func47, by kernel_rfl, by kernel_rfl⟩
theorem bd48 : bodied Try.prog 48 := ⟨_, Try.func48, by kernel_rfl, by kernel_rfl⟩
theorem bd49 : bodied Try.prog 49 := ⟨_, Try.func49, by kernel_rfl, by kernel_rfl⟩
theorem bd50 : bodied Try.prog 50 := ⟨_, Try.func50, by kernel_rfl, by kernel_rfl⟩
theorem bd51 : bodied Try.prog 51 := ⟨_, Try.func51, by kernel_rfl, by kernel_rfl⟩
theorem bd52 : bodied Try.prog 52 := ⟨_, Try.func52, by kernel_rfl, by kernel_rfl⟩
theorem bd53 : bodied Try.prog 53 := ⟨_, Try.func53, by kernel_rfl, by kernel_rfl⟩
theorem bd54 : bodied Try.prog 54 := ⟨_, Try.func54, by kernel_rfl, by kernel_rfl⟩
theorem bd55 : bodied Try.prog 55 := ⟨_, Try.func55, by kernel_rfl, by kernel_rfl⟩
theorem bd56 : bodied Try.prog 56 := ⟨_, Try.func56, by kernel_rfl, by kernel_rfl⟩
theorem bd57 : bodied Try.prog 57 := ⟨_, Try.func57, by kernel_rfl, by kernel_rfl⟩
theorem bd58 : bodied Try.prog 58 := ⟨_, Try.func58, by kernel_rfl, by kernel_rfl⟩
theorem bd59 : bodied Try.prog 59 := ⟨_, Try.func59, by kernel_rfl, by kernel_rfl⟩
theorem bd60 : bodied Try.prog 60 := ⟨_, Try.func60, by kernel_rfl, by kernel_rfl⟩
theorem bd61 : bodied Try.prog 61 := ⟨_, Try.func61, by kernel_rfl, by kernel_rfl⟩
theorem bd62 : bodied Try.prog 62 := ⟨_, Try.func62, by kernel_rfl, by kernel_rfl⟩
theorem bd63 : bodied Try.prog 63 := ⟨_, Try.func63, by kernel_rfl, by kernel_rfl⟩
theorem bd64 : bodied Try.prog 64 := ⟨_, Try.func64, by kernel_rfl, by kernel_rfl⟩
theorem bd65 : bodied Try.prog 65 := ⟨_, Try.func65, by kernel_rfl, by kernel_rfl⟩
theorem bd66 : bodied Try.prog 66 := ⟨_, Try.func66, by kernel_rfl, by kernel_rfl⟩
theorem bd67 : bodied Try.prog 67 := ⟨_, Try.func67, by kernel_rfl, by kernel_rfl⟩
theorem bd68 : bodied Try.prog 68 := ⟨_, Try.func68, by kernel_rfl, by kernel_rfl⟩
theorem bd69 : bodied Try.prog 69 := ⟨_, Try.func69, by kernel_rfl, by kernel_rfl⟩
theorem bd70 : bodied Try.prog 70 := ⟨_, Try.func70, by kernel_rfl, by kernel_rfl⟩
theorem bd71 : bodied Try.prog 71 := ⟨_, Try.func71, by kernel_rfl, by kernel_rfl⟩
theorem bd72 : bodied Try.prog 72 := ⟨_, Try.func72, by kernel_rfl, by kernel_rfl⟩
theorem bd73 : bodied Try.prog 73 := ⟨_, Try.func73, by kernel_rfl, by kernel_rfl⟩
theorem bd74 : bodied Try.prog 74 := ⟨_, Try.func74, by kernel_rfl, by kernel_rfl⟩
theorem bd75 : bodied Try.prog 75 := ⟨_, Try.func75, by kernel_rfl, by kernel_rfl⟩
theorem bd76 : bodied Try.prog 76 := ⟨_, Try.func76, by kernel_rfl, by kernel_rfl⟩
theorem bd77 : bodied Try.prog 77 := ⟨_, Try.func77, by kernel_rfl, by kernel_rfl⟩
theorem bd78 : bodied Try.prog 78 := ⟨_, Try.func78, by kernel_rfl, by kernel_rfl⟩
theorem bd79 : bodied Try.prog 79 := ⟨_, Try.func79, by kernel_rfl, by kernel_rfl⟩
theorem bd80 : bodied Try.prog 80 := ⟨_, Try.func80, by kernel_rfl, by kernel_rfl⟩
theorem bd81 : bodied Try.prog 81 := ⟨_, Try.func81, by kernel_rfl, by kernel_rfl⟩
theorem bd82 : bodied Try.prog 82 := ⟨_, Try.func82, by kernel_rfl, by kernel_rfl⟩
theorem bd83 : bodied Try.prog 83 := ⟨_, Try.func83, by kernel_rfl, by kernel_rfl⟩
theorem bd84 : bodied Try.prog 84 := ⟨_, Try.func84, by kernel_rfl, by kernel_rfl⟩
theorem bd85 : bodied Try.prog 85 := ⟨_, Try.func85, by kernel_rfl, by kernel_rfl⟩
theorem bd86 : bodied Try.prog 86 := ⟨_, Try.func86, by kernel_rfl, by kernel_rfl⟩
theorem bd87 : bodied Try.prog 87 := ⟨_, Try.func87, by kernel_rfl, by kernel_rfl⟩
theorem bd88 : bodied Try.prog 88 := ⟨_, Try.func88, by kernel_rfl, by kernel_rfl⟩
theorem bd89 : bodied Try.prog 89 := ⟨_, Try.func89, by kernel_rfl, by kernel_rfl⟩
theorem bd90 : bodied Try.prog 90 := ⟨_, Try.func90, by kernel_rfl, by kernel_rfl⟩
theorem bd91 : bodied Try.prog 91 := ⟨_, Try.func91, by kernel_rfl, by kernel_rfl⟩
theorem bd92 : bodied Try.prog 92 := ⟨_, Try.func92, by kernel_rfl, by kernel_rfl⟩
theorem bd93 : bodied Try.prog 93 := ⟨_, Try.func93, by kernel_rfl, by kernel_rfl⟩
theorem bd94 : bodied Try.prog 94 := ⟨_, Try.func94, by kernel_rfl, by kernel_rfl⟩
theorem bd95 : bodied Try.prog 95 := ⟨_, Try.func95, by kernel_rfl, by kernel_rfl⟩
theorem bd96 : bodied Try.prog 96 := ⟨_, Try.func96, by kernel_rfl, by kernel_rfl⟩
theorem bd97 : bodied Try.prog 97 := ⟨_, Try.func97, by kernel_rfl, by kernel_rfl⟩
theorem bd98 : bodied Try.prog 98 := ⟨_, Try.func98, by kernel_rfl, by kernel_rfl⟩
theorem bd99 : bodied Try.prog 99 := ⟨_, Try.func99, by kernel_rfl, by kernel_rfl⟩
theorem bd100 : bodied Try.prog 100 := ⟨_, Try.func100, by kernel_rfl, by kernel_rfl⟩
theorem bd101 : bodied Try.prog 101 := ⟨_, Try.func101, by kernel_rfl, by kernel_rfl⟩
theorem bd102 : bodied Try.prog 102 := ⟨_, Try.func102, by kernel_rfl, by kernel_rfl⟩
theorem bd103 : bodied Try.prog 103 := ⟨_, Try.func103, by kernel_rfl, by kernel_rfl⟩
theorem bd104 : bodied Try.prog 104 := ⟨_, Try.func104, by kernel_rfl, by kernel_rfl⟩
theorem bd105 : bodied Try.prog 105 := ⟨_, Try.func105, by kernel_rfl, by kernel_rfl⟩
theorem bd106 : bodied Try.prog 106 := ⟨_, Try.func106, by kernel_rfl, by kernel_rfl⟩
theorem bd107 : bodied Try.prog 107 := ⟨_, Try.func107, by kernel_rfl, by kernel_rfl⟩
theorem bd108 : bodied Try.prog 108 := ⟨_, Try.func108, by kernel_rfl, by kernel_rfl⟩
theorem bd109 : bodied Try.prog 109 := ⟨_, Try.func109, by kernel_rfl, by kernel_rfl⟩
theorem bd110 : bodied Try.prog 110 := ⟨_, Try.func110, by kernel_rfl, by kernel_rfl⟩
theorem bd111 : bodied Try.prog 111 := ⟨_, Try.func111, by kernel_rfl, by kernel_rfl⟩
theorem bd112 : bodied Try.prog 112 := ⟨_, Try.func112, by kernel_rfl, by kernel_rfl⟩
theorem bd113 : bodied Try.prog 113 := ⟨_, Try.func113, by kernel_rfl, by kernel_rfl⟩
theorem bd114 : bodied Try.prog 114 := ⟨_, Try.func114, by kernel_rfl, by kernel_rfl⟩
theorem bd115 : bodied Try.prog 115 := ⟨_, Try.func115, by kernel_rfl, by kernel_rfl⟩
theorem bd116 : bodied Try.prog 116 := ⟨_, Try.func116, by kernel_rfl, by kernel_rfl⟩
theorem bd117 : bodied Try.prog 117 := ⟨_, Try.func117, by kernel_rfl, by kernel_rfl⟩
theorem bd118 : bodied Try.prog 118 := ⟨_, Try.func118, by kernel_rfl, by kernel_rfl⟩
theorem bd119 : bodied Try.prog 119 := ⟨_, Try.func119, by kernel_rfl, by kernel_rfl⟩
theorem bd120 : bodied Try.prog 120 := ⟨_, Try.func120, by kernel_rfl, by kernel_rfl⟩
theorem bd121 : bodied Try.prog 121 := ⟨_, Try.func121, by kernel_rfl, by kernel_rfl⟩
theorem bd122 : bodied Try.prog 122 := ⟨_, Try.func122, by kernel_rfl, by kernel_rfl⟩
theorem bd123 : bodied Try.prog 123 := ⟨_, Try.func123, by kernel_rfl, by kernel_rfl⟩
theorem bd124 : bodied Try.prog 124 := ⟨_, Try.func124, by kernel_rfl, by kernel_rfl⟩
theorem bd125 : bodied Try.prog 125 := ⟨_, Try.func125, by kernel_rfl, by kernel_rfl⟩
theorem bd126 : bodied Try.prog 126 := ⟨_, Try.func126, by kernel_rfl, by kernel_rfl⟩
theorem bd127 : bodied Try.prog 127 := ⟨_, Try.func127, by kernel_rfl, by kernel_rfl⟩
theorem bd128 : bodied Try.prog 128 := ⟨_, Try.func128, by kernel_rfl, by kernel_rfl⟩
theorem bd129 : bodied Try.prog 129 := ⟨_, Try.func129, by kernel_rfl, by kernel_rfl⟩
theorem bd130 : bodied Try.prog 130 := ⟨_, Try.func130, by kernel_rfl, by kernel_rfl⟩
theorem bd131 : bodied Try.prog 131 := ⟨_, Try.func131, by kernel_rfl, by kernel_rfl⟩
theorem bd132 : bodied Try.prog 132 := ⟨_, Try.func132, by kernel_rfl, by kernel_rfl⟩
theorem bd133 : bodied Try.prog 133 := ⟨_, Try.func133, by kernel_rfl, by kernel_rfl⟩
theorem bd134 : bodied Try.prog 134 := ⟨_, Try.func134, by kernel_rfl, by kernel_rfl⟩
theorem bd135 : bodied Try.prog 135 := ⟨_, Try.func135, by kernel_rfl, by kernel_rfl⟩
theorem bd136 : bodied Try.prog 136 := ⟨_, Try.func136, by kernel_rfl, by kernel_rfl⟩
theorem bd137 : bodied Try.prog 137 := ⟨_, Try.func137, by kernel_rfl, by kernel_rfl⟩
theorem bd138 : bodied Try.prog 138 := ⟨_, Try.func138, by kernel_rfl, by kernel_rfl⟩
theorem bd139 : bodied Try.prog 139 := ⟨_, Try.func139, by kernel_rfl, by kernel_rfl⟩
theorem bd140 : bodied Try.prog 140 := ⟨_, Try.func140, by kernel_rfl, by kernel_rfl⟩
theorem bd141 : bodied Try.prog 141 := ⟨_, Try.func141, by kernel_rfl, by kernel_rfl⟩
theorem bd142 : bodied Try.prog 142 := ⟨_, Try.func142, by kernel_rfl, by kernel_rfl⟩
theorem bd143 : bodied Try.prog 143 := ⟨_, Try.func143, by kernel_rfl, by kernel_rfl⟩
theorem bd144 : bodied Try.prog 144 := ⟨_, Try.func144, by kernel_rfl, by kernel_rfl⟩
theorem bd145 : bodied Try.prog 145 := ⟨_, Try.func145, by kernel_rfl, by kernel_rfl⟩
theorem bd146 : bodied Try.prog 146 := ⟨_, Try.func146, by kernel_rfl, by kernel_rfl⟩
theorem bd147 : bodied Try.prog 147 := ⟨_, Try.func147, by kernel_rfl, by kernel_rfl⟩
theorem bd148 : bodied Try.prog 148 := ⟨_, Try.func148, by kernel_rfl, by kernel_rfl⟩
theorem bd149 : bodied Try.prog 149 := ⟨_, Try.func149, by kernel_rfl, by kernel_rfl⟩
theorem bd150 : bodied Try.prog 150 := ⟨_, Try.func150, by kernel_rfl, by kernel_rfl⟩
theorem bd151 : bodied Try.prog 151 := ⟨_, Try.func151, by kernel_rfl, by kernel_rfl⟩
theorem bd152 : bodied Try.prog 152 := ⟨_, Try.func152, by kernel_rfl, by kernel_rfl⟩
theorem bd153 : bodied Try.prog 153 := ⟨_, Try.func153, by kernel_rfl, by kernel_rfl⟩
theorem bd154 : bodied Try.prog 154 := ⟨_, Try.func154, by kernel_rfl, by kernel_rfl⟩
theorem bd155 : bodied Try.prog 155 := ⟨_, Try.func155, by kernel_rfl, by kernel_rfl⟩
theorem bd157 : bodied Try.prog 157 := ⟨_, Try.func157, by kernel_rfl, by kernel_rfl⟩
theorem bd158 : bodied Try.prog 158 := ⟨_, Try.func158, by kernel_rfl, by kernel_rfl⟩
theorem bd159 : bodied Try.prog 159 := ⟨_, Try.func159, by kernel_rfl, by kernel_rfl⟩
theorem bd160 : bodied Try.prog 160 := ⟨_, Try.func160, by kernel_rfl, by kernel_rfl⟩
theorem bd161 : bodied Try.prog 161 := ⟨_, Try.func161, by kernel_rfl, by kernel_rfl⟩
theorem bd162 : bodied Try.prog 162 := ⟨_, Try.func162, by kernel_rfl, by kernel_rfl⟩
theorem bd163 : bodied Try.prog 163 := ⟨_, Try.func163, by kernel_rfl, by kernel_rfl⟩
theorem bd164 : bodied Try.prog 164 := ⟨_, Try.func164, by kernel_rfl, by kernel_rfl⟩
theorem bd165 : bodied Try.prog 165 := ⟨_, Try.func165, by kernel_rfl, by kernel_rfl⟩
theorem bd166 : bodied Try.prog 166 := ⟨_, Try.func166, by kernel_rfl, by kernel_rfl⟩
end Go.Proofs.Ytaienbnadbadfaa
