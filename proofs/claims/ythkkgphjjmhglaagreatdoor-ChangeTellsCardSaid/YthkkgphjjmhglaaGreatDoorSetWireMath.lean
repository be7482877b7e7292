/-
What is said of two numbers: package mark, and its reference.
-/
import Derived.Test.YthkkgphjjmhglaaGreatDoorNum
import Derived.Test.YthkkgphjjmhglaaGreatDoorSetMark2
import Derived.Test.YthkkgphjjmhglaaGreatDoorFwB
/-!
What is said of two numbers: package mark, and its reference.
-/
namespace Go.Proofs.YthkkgphjjmhglaaGreatDoor
set_option linter.unusedVariables false
set_option linter.unusedSimpArgs false
open Go.TR
attribute [local irreducible] vc vcOps seqK blockK loopK retK retG retI loopV Plain CallOK CallIn bodied VS vcAny dropG backK brK loopPK IntKind.wrap
set_option maxRecDepth 100000
theorem said_ok (kind a b : Nat) (hk : kind < 256) (ha : a < 18446744073709551616) (hb : b < 18446744073709551616) (F : Hp) : Plain Tryz.prog F 210 [u8 kind, u64 a, u64 b] (S (two kind a b)) := by
  have hkind : ((kind : Nat) : Int) = (((UInt8.ofNat kind).toNat : Nat) : Int) := by rw [UInt8.toNat_ofNat']; omega
  rw [hkind]
  refine plain_vc (N := 16) (rv := [.tmp 6]) tbok mixed Tryz.func210 rfl rfl rfl rfl rfl ?_
  (refine run ?_; repeat intro b)
  refine s_regiona [] (by kernel_rfl) ?_
  refine s_firsts [0, 3, 6, 4, 7] (f' := 5) (by kernel_rfl) rfl rfl rfl ?_
  (refine run ?_; repeat intro b)
  refine s_plain _ rfl rfl rfl bd232 rfl (wirenum_ok a  F) ?_
  (refine run ?_; repeat intro b)
  refine s_plain _ rfl rfl rfl bd232 rfl (wirenum_ok b  F) ?_
  (refine run ?_; repeat intro b)
  refine s_one 1 (by kernel_rfl) rfl rfl ?_
  (refine run ?_; repeat intro b)
  refine s_br (Hp.sub.refl _) trivial ?_
  refine s_one 2 (by kernel_rfl) rfl rfl ?_
  refine s_strR [UInt8.ofNat kind] rfl rfl rfl rfl (Nat.le_refl 1) rfl ?_
  (refine run ?_; repeat intro b)
  refine s_br (Hp.sub.refl _) trivial ?_
  refine s_firsts [5, 8, 9] (f' := 0) (by kernel_rfl) rfl rfl rfl ?_
  refine s_pureO rfl rfl rfl (by simp only [bl_S, num_length, List.length_cons, List.length_nil]; unfold maxInt; omega) ?_
  (refine run ?_; repeat intro b)
  refine s_pureO rfl rfl rfl (by simp only [bl_S, num_length, List.length_cons, List.length_nil, List.length_append]; unfold maxInt; omega) ?_
  (refine run ?_; repeat intro b)
  refine s_stop (by kernel_rfl) ?_
  (refine run ?_; repeat intro b)
  simp only [tupV, bl_S, two, List.cons_append, List.nil_append, List.append_assoc]
theorem reftwo_ok (kind a b : Nat) (hk : kind < 256) (ha : a < 18446744073709551616) (hb : b < 18446744073709551616) (F : Hp) : Plain Tryz.prog F 147 [u8 kind, u64 a, u64 b] (S (two kind a b)) := by
  have hkind : ((kind : Nat) : Int) = (((UInt8.ofNat kind).toNat : Nat) : Int) := by rw [UInt8.toNat_ofNat']; omega
  rw [hkind]
  refine plain_vc (N := 16) (rv := [.tmp 6]) tbok mixed Tryz.func147 rfl rfl rfl rfl rfl ?_
  (refine run ?_; repeat intro b)
  refine s_regiona [] (by kernel_rfl) ?_
  refine s_firsts [0, 3, 6, 4, 7] (f' := 5) (by kernel_rfl) rfl rfl rfl ?_
  (refine run ?_; repeat intro b)
  refine s_plain _ rfl rfl rfl bd143 rfl (refnum_ok a ha F) ?_
  (refine run ?_; repeat intro b)
  refine s_plain _ rfl rfl rfl bd143 rfl (refnum_ok b hb F) ?_
  (refine run ?_; repeat intro b)
  refine s_one 1 (by kernel_rfl) rfl rfl ?_
  (refine run ?_; repeat intro b)
  refine s_br (Hp.sub.refl _) trivial ?_
  refine s_one 2 (by kernel_rfl) rfl rfl ?_
  refine s_strR [UInt8.ofNat kind] rfl rfl rfl rfl (Nat.le_refl 1) rfl ?_
  (refine run ?_; repeat intro b)
  refine s_br (Hp.sub.refl _) trivial ?_
  refine s_firsts [5, 8, 9] (f' := 0) (by kernel_rfl) rfl rfl rfl ?_
  refine s_pureO rfl rfl rfl (by simp only [bl_S, num_length, List.length_cons, List.length_nil]; unfold maxInt; omega) ?_
  (refine run ?_; repeat intro b)
  refine s_pureO rfl rfl rfl (by simp only [bl_S, num_length, List.length_cons, List.length_nil, List.length_append]; unfold maxInt; omega) ?_
  (refine run ?_; repeat intro b)
  refine s_stop (by kernel_rfl) ?_
  (refine run ?_; repeat intro b)
  simp only [tupV, bl_S, two, List.cons_append, List.nil_append, List.append_assoc]
theorem two_length (kind a b : Nat) : (two kind a b).length = 17 := by
  unfold two
  simp only [List.length_cons, List.length_append, num_length]
theorem marktwo_ok (kind a b : Nat) (hk : kind < 256) (ha : a < 18446744073709551616) (hb : b < 18446744073709551616) (F : Hp) : Plain Tryz.prog F 173 [u8 kind, u64 a, u64 b] (u64 (markN (two kind a b) : Nat)) := by
  refine plain_vc (N := 12) (rv := [.tmp 6]) tbok mixed Tryz.func173 rfl rfl rfl rfl rfl ?_
  (refine run ?_; repeat intro b)
  refine s_plain _ rfl rfl rfl bd210 rfl (said_ok kind a b hk ha hb F) ?_
  (refine run ?_; repeat intro b)
  refine s_plain _ rfl rfl rfl bd171 rfl (markof_ok (two kind a b) (by rw [two_length]; decide) F) ?_
  (refine run ?_; repeat intro b)
  rfl
end Go.Proofs.YthkkgphjjmhglaaGreatDoor
/-!
Heads, plainly: what is wrong with one, what is said of one; a number read out of eight bytes.
-/
namespace Go.Proofs.YthkkgphjjmhglaaGreatDoor
set_option linter.unusedVariables false
set_option linter.unusedSimpArgs false
open Go.TR
/-- A head. -/
structure Head where
  epoch : Int
  root : Nat
  prev : Nat
  at_ : Int
deriving DecidableEq
@[reducible] def Head.v (h : Head) : Value := .agg #[i64 h.epoch, u64 (h.root : Nat), u64 (h.prev : Nat), i64 h.at_]
def Head.none : Head := ⟨0, 0, 0, 0⟩
/-- Its numbers fit the machine's kinds. -/
structure Head.wf (h : Head) : Prop where
  root : h.root < 18446744073709551616
  prev : h.prev < 18446744073709551616
  epoch : -9223372036854775808 ≤ h.epoch ∧ h.epoch ≤ 9223372036854775807
  at_ : -9223372036854775808 ≤ h.at_ ∧ h.at_ ≤ 9223372036854775807
def Head.bad1 (h : Head) : Bool := decide (h.epoch < 0) || decide (1000000 < h.epoch) || decide (MM ≤ h.root) || decide (MM ≤ h.prev) || decide (h.at_ < 0) || decide (1000000000 < h.at_)
def Head.bad2 (h : Head) : Bool := (h.epoch == 0) && !((h.prev : Int) == 0)
/-- What is wrong with a head: an error's number. -/
def Head.fault (h : Head) : Int := if h.bad1 = true then 4 else if h.bad2 = true then 3 else 0
/-- A number of 64 bits with a sign as one without. -/
def toU (n : Int) : Nat := (n % 18446744073709551616).toNat
def Head.said (h : Head) : List UInt8 := 3 :: (num (toU h.epoch) ++ num h.root ++ num h.prev ++ num (toU h.at_))
def Head.mark (h : Head) : Nat := markN h.said
/-- A number out of bytes, the greatest first. -/
def be (l : List UInt8) : Nat := l.foldl (fun n c => 256 * n + c.toNat) 0
/-- What eight bytes from place 1 + 8 i on say. -/
def numAt (s : List UInt8) (i : Nat) : Nat := be ((s.take (9 + 8 * i)).drop (1 + 8 * i))
/-- A number of 64 bits without a sign as one with. -/
def toI (n : Nat) : Int := IntKind.i64.wrap (n : Int)
/-- The head that 33 bytes tell of. -/
def headOf (s : List UInt8) : Head := ⟨toI (numAt s 0), numAt s 1, numAt s 2, toI (numAt s 3)⟩
end Go.Proofs.YthkkgphjjmhglaaGreatDoor
/-!
Parts of a text, plainly: what is put down, what is read.
-/
namespace Go.Proofs.YthkkgphjjmhglaaGreatDoor
set_option linter.unusedVariables false
set_option linter.unusedSimpArgs false
open Go.TR
/-- A part: its length in two bytes, and itself. -/
def part (p : List UInt8) : List UInt8 := UInt8.ofNat (p.length / 256) :: UInt8.ofNat (p.length % 256) :: p
theorem part_length (p : List UInt8) : (part p).length = p.length + 2 := rfl
/-- Parts behind what is there; none, if it is too long. -/
def partsF : List (List UInt8) → List UInt8 → Option (List UInt8)
  | [], o => some o
  | p :: l, o => if 600 < o.length + 2 + p.length then none else partsF l (o ++ part p)
theorem partsF_le : ∀ (l : List (List UInt8)) (o r : List UInt8), o.length ≤ 600 → partsF l o = some r → r.length ≤ 600
  | [], o, r, h, e => by simp only [partsF, Option.some.injEq] at e; subst e; exact h
  | p :: l, o, r, h, e => by
    simp only [partsF] at e
    split at e
    · cases e
    · exact partsF_le l _ r (by rw [List.length_append, part_length]; omega) e
def putE (l : List (List UInt8)) : Int := if 60 < l.length then 2 else match partsF l [] with
  | some _ => 0
  | none => 2
def putO (l : List (List UInt8)) : List UInt8 := if 60 < l.length then [] else match partsF l [] with
  | some o => o
  | none => []
/-- The first part, and what is behind it. -/
def firstO : List UInt8 → Option (List UInt8 × List UInt8)
  | a :: b :: t => if t.length < 256 * a.toNat + b.toNat then none else some (t.take (256 * a.toNat + b.toNat), t.drop (256 * a.toNat + b.toNat))
  | _ => none
/-- All parts. -/
def partsN : Nat → List UInt8 → Option (List (List UInt8))
  | 0, s => match s with
    | [] => some []
    | _ :: _ => none
  | n + 1, s => match s with
    | [] => some []
    | c :: t => match firstO (c :: t) with
      | some (p, r) => (partsN n r).map (p :: ·)
      | none => none
def partsR (s : List UInt8) : Option (List (List UInt8)) := partsN s.length s
def getE (s : List UInt8) : Int := if 600 < s.length then 2 else match partsR s with
  | some l => if l.length ≤ 60 then 0 else 3
  | none => 3
def getL (s : List UInt8) : List (List UInt8) := if 600 < s.length then [] else match partsR s with
  | some l => if l.length ≤ 60 then l else []
  | none => []
def readOk (s : List UInt8) : Bool := match partsR s with
  | some l => decide (l.length ≤ 60)
  | none => false
def readL (s : List UInt8) : List (List UInt8) := match partsR s with
  | some l => l
  | none => []
def firstV (s : List UInt8) : Value := match firstO s with
  | some (p, r) => .tuple #[S p, S r, .bool true]
  | none => .tuple #[S [], S [], .bool false]
def firstE (s : List UInt8) : Int := if 600 < s.length then 2 else match firstO s with
  | some _ => 0
  | none => 3
def firstP (s : List UInt8) : List UInt8 := if 600 < s.length then [] else match firstO s with
  | some (p, _) => p
  | none => []
def firstR (s : List UInt8) : List UInt8 := if 600 < s.length then [] else match firstO s with
  | some (_, r) => r
  | none => []
end Go.Proofs.YthkkgphjjmhglaaGreatDoor
