/-
Eight bytes read as a number: package wire, and the reference.
-/
import Derived.Test.YthkkgphjjmhglaaGreatDoorSetWireMath
import Derived.Test.YthkkgphjjmhglaaGreatDoorFwB
import Derived.Test.YthkkgphjjmhglaaGreatDoorSetRows2
import Derived.Test.YthkkgphjjmhglaaGreatDoorSetFwD
import Derived.Test.YthkkgphjjmhglaaGreatDoorSetIdx
/-!
Eight bytes read as a number: package wire, and the reference.
-/
namespace Go.Proofs.YthkkgphjjmhglaaGreatDoor
set_option linter.unusedVariables false
set_option linter.unusedSimpArgs false
open Go.TR
def readN (l : List UInt8) : Nat := if l.length = 8 then be l else 0
attribute [local irreducible] vc vcOps seqK blockK loopK retK retG retI loopV Plain CallOK CallIn bodied VS vcAny dropG backK brK loopPK IntKind.wrap
set_option maxRecDepth 100000
end Go.Proofs.YthkkgphjjmhglaaGreatDoor
/-!
Package head and its reference: what each function computes.
-/
namespace Go.Proofs.YthkkgphjjmhglaaGreatDoor
set_option linter.unusedVariables false
set_option linter.unusedSimpArgs false
open Go.TR
attribute [local irreducible] vc vcOps seqK blockK loopK retK retG retI loopV Plain CallOK CallIn bodied VS vcAny dropG backK brK loopPK IntKind.wrap
set_option maxRecDepth 100000
/-- What is said of a head that is right; else nothing. -/
def Head.saidO (h : Head) : List UInt8 := if h.fault = 0 then h.said else []
def Head.markO (h : Head) : Nat := if h.fault = 0 then h.mark else 0
/-- The head, or none with an error. -/
def Head.orNone (h : Head) (e : Int) : Head := if e = 0 then h else Head.none
def Head.nextH (h : Head) (root : Nat) (at_ : Int) : Head := ⟨IntKind.i64.wrap (h.epoch + 1), root, h.markO, at_⟩
def Head.nextE (h : Head) (root : Nat) (at_ : Int) : Int := if h.fault ≠ 0 then h.fault else if h.epoch = 1000000 then 7 else if at_ < h.at_ then 4 else (h.nextH root at_).fault
end Go.Proofs.YthkkgphjjmhglaaGreatDoor
/-!
A head read out of bytes.
-/
namespace Go.Proofs.YthkkgphjjmhglaaGreatDoor
set_option linter.unusedVariables false
set_option linter.unusedSimpArgs false
open Go.TR
def numsE (s : List UInt8) : List EV := [.v (u64 (numAt s 0 : Nat)), .v (u64 (numAt s 1 : Nat)), .v (u64 (numAt s 2 : Nat)), .v (u64 (numAt s 3 : Nat))]
def zer4 : List EV := [.v (u64 0), .v (u64 0), .v (u64 0), .v (u64 0)]
def hdr (s : List UInt8) : Bool := decide (s.length = 33) && (s.head? == some 3)
/-- What is read: a head, or none with an error. -/
def readE (s : List UInt8) : Int := if hdr s = true then (if (headOf s).fault = 0 then 0 else 3) else 3
def readH (s : List UInt8) : Head := if readE s = 0 then headOf s else Head.none
attribute [local irreducible] vc vcOps seqK blockK loopK retK retG retI loopV Plain CallOK CallIn bodied VS vcAny dropG backK brK loopPK IntKind.wrap
set_option maxRecDepth 100000
end Go.Proofs.YthkkgphjjmhglaaGreatDoor
/-!
The law of package head: whatever is handed in, each function answers what the reference answers.
-/
namespace Go.Proofs.YthkkgphjjmhglaaGreatDoor
set_option linter.unusedVariables false
set_option linter.unusedSimpArgs false
open Go.TR
attribute [local irreducible] vc vcOps seqK blockK loopK retK retG retI loopV Plain CallOK CallIn bodied VS vcAny dropG backK brK loopPK IntKind.wrap
set_option maxRecDepth 100000
end Go.Proofs.YthkkgphjjmhglaaGreatDoor
/-!
Chains of heads, plainly.
-/
namespace Go.Proofs.YthkkgphjjmhglaaGreatDoor
set_option linter.unusedVariables false
set_option linter.unusedSimpArgs false
open Go.TR
@[reducible] def Head.row (h : Head) : List Value := [i64 h.epoch, u64 (h.root : Nat), u64 (h.prev : Nat), i64 h.at_]
/-- Is the one the next of the other? -/
def links (a b : Head) : Bool := decide (a.fault = 0) && decide (b.fault = 0) && decide (b.epoch = a.epoch + 1) && decide (b.prev = a.mark) && decide (a.at_ ≤ b.at_)
/-- The first that is wrong. -/
def badAt : List Head → Nat → Option (Int × Nat)
  | [], _ => none
  | h :: t, i => if h.fault = 0 then badAt t (i + 1) else some (h.fault, i)
/-- The first that does not follow. -/
def unl : List Head → Nat → Option Nat
  | [], _ => none
  | [_], _ => none
  | a :: b :: t, i => if links a b = true then unl (b :: t) (i + 1) else some i
def unlI (l : List Head) : Int := match unl l 1 with
  | some i => (i : Int)
  | none => -1
def chainT (l : List Head) : Int × Nat := match badAt l 0 with
  | some x => x
  | none => match unl l 1 with
    | some i => (8, i)
    | none => (0, 0)
def chainF (l : List Head) : Int × Nat := if l.length = 0 then (5, 0) else if 40 < l.length then (2, 0) else chainT l
theorem Head.ext' {a b : Head} (h1 : a.epoch = b.epoch) (h2 : a.root = b.root) (h3 : a.prev = b.prev) (h4 : a.at_ = b.at_) : a = b := by
  cases a; cases b; simp_all
/-- The head of an epoch. -/
def headOfE (l : List Head) (n : Int) : Option Head := l.find? fun h => decide (h.epoch = n)
def orN : Option Head → Head
  | some h => h
  | none => Head.none
end Go.Proofs.YthkkgphjjmhglaaGreatDoor
/-!
slices.IndexFunc and DeleteFunc of heads, on a row of the call's own.
-/
namespace Go.Proofs.YthkkgphjjmhglaaGreatDoor
set_option linter.unusedVariables false
set_option linter.unusedSimpArgs false
open Go.TR
theorem flat_at {α : Type} {f : α → List Value} {k : Nat} (hk : ∀ a, (f a).length = k) {l : List α} {j : Nat} (h : j < l.length) : (((l.flatMap f).map EV.v).take (0 + j * k + k)).drop (0 + j * k) = (f l[j]).map EV.v := by
  rw [Nat.zero_add, ← List.map_take, ← List.map_drop]
  congr 1
  have e1 : l = l.take j ++ l[j] :: l.drop (j + 1) := by rw [← List.drop_eq_getElem_cons h, List.take_append_drop]
  have e2 : l.flatMap f = (l.take j).flatMap f ++ (f l[j] ++ (l.drop (j + 1)).flatMap f) := by
    rw [← List.flatMap_cons, ← List.flatMap_append, ← e1]
  have e3 : ((l.take j).flatMap f).length = j * k := by rw [flat_len hk, List.length_take, Nat.min_eq_left (by omega)]
  rw [e2, List.drop_take, List.drop_append, e3, Nat.sub_self, List.drop_eq_nil_of_le (by omega), List.nil_append, List.drop_zero, Nat.add_sub_cancel_left, List.take_append, hk, Nat.sub_self, List.take_zero, List.append_nil, List.take_of_length_le (by rw [hk]; exact Nat.le_refl _)]
theorem flat_set {α : Type} {f : α → List Value} {k : Nat} (hk : ∀ a, (f a).length = k) {l : List α} {i : Nat} {x : α} (h : i < l.length) : ((l.flatMap f).map EV.v).take (0 + i * k) ++ (f x).map EV.v ++ ((l.flatMap f).map EV.v).drop (0 + i * k + k) = ((l.set i x).flatMap f).map EV.v := by
  rw [Nat.zero_add, ← List.map_take, ← List.map_drop, ← List.map_append, ← List.map_append]
  congr 1
  rw [← flat_take hk, ← Nat.succ_mul, ← flat_drop hk, List.set_eq_take_append_cons_drop, if_pos h, List.flatMap_append, List.flatMap_cons, List.append_assoc]
attribute [local irreducible] vc vcOps seqK blockK loopK retK retG retI loopV Plain CallOK CallIn bodied VS vcAny dropG backK brK loopPK IntKind.wrap
set_option maxRecDepth 100000
set_option maxHeartbeats 4000000
end Go.Proofs.YthkkgphjjmhglaaGreatDoor
