/-
slices.IndexFunc and DeleteFunc of heads, on a row of the call's own.
-/
import Derived.Test.YthkkgphjjmhglaaGreatDoorSetChain
import Derived.Test.YthkkgphjjmhglaaGreatDoorSetIdx
import Derived.Test.YthkkgphjjmhglaaGreatDoorSetFwL
namespace Go.Proofs.YthkkgphjjmhglaaGreatDoor
set_option linter.unusedVariables false
set_option linter.unusedSimpArgs false
open Go.TR
theorem flat_at {α : Type} {f : α → List Value} {k : Nat} (hk : ∀ a, (f a).length = k) {l : List α} {j : Nat} (h : j < l.length) : (((l.flatMap f).map EV.v).take (0 + j * k + k)).drop (0 + j * k) = (f l[j]).map EV.v := by
  rw [Nat.zero_add, ← List.map_take, ← List.map_drop]
  congr 1
  have e1 : l = l.take j ++ l[j] :: l.drop (j + 1) := by rw [← List.drop_eq_getElem_cons h, List.take_append_drop]
  have e2 : l.flatMap f = (l.take j).flatMap f ++ (f l[j] ++ (l.drop (j + 1)).flatMap f) := by
    rw [← List.flatMap_cons, ← List.flatMap_append, ← e1]
  have e3 : ((l.take j).flatMap f).length = j * k := by rw [flat_len hk, List.length_take, Nat.min_eq_left (by omega)]
  rw [e2, List.drop_take, List.drop_append, e3, Nat.sub_self, List.drop_eq_nil_of_le (by omega), List.nil_append, List.drop_zero, Nat.add_sub_cancel_left, List.take_append, hk, Nat.sub_self, List.take_zero, List.append_nil, List.take_of_length_le (by rw [hk]; exact Nat.le_refl _)]
theorem flat_set {α : Type} {f : α → List Value} {k : Nat} (hk : ∀ a, (f a).length = k) {l : List α} {i : Nat} {x : α} (h : i < l.length) : ((l.flatMap f).map EV.v).take (0 + i * k) ++ (f x).map EV.v ++ ((l.flatMap f).map EV.v).drop (0 + i * k + k) = ((l.set i x).flatMap f).map EV.v := by
  rw [Nat.zero_add, ← List.map_take, ← List.map_drop, ← List.map_append, ← List.map_append]
  congr 1
  rw [← flat_take hk, ← Nat.succ_mul, ← flat_drop hk, List.set_eq_take_append_cons_drop, if_pos h, List.flatMap_append, List.flatMap_cons, List.append_assoc]
attribute [local irreducible] vc vcOps seqK blockK loopK retK retG retI loopV Plain CallOK CallIn bodied VS vcAny dropG backK brK loopPK IntKind.wrap
set_option maxRecDepth 100000
set_option maxHeartbeats 4000000
end Go.Proofs.YthkkgphjjmhglaaGreatDoor
