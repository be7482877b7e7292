/-
Chains of heads, plainly.
-/
import Derived.Test.YtbhlpnbidmnbkaaDoorSetHeadLaw
import Derived.Test.YtbhlpnbidmnbkaaDoorSetRows2
import Derived.Test.YtbhlpnbidmnbkaaDoorFwC
import Derived.Test.YtbhlpnbidmnbkaaDoorSetIdx
import Derived.Test.YtbhlpnbidmnbkaaDoorFwD
/-!
Chains of heads, plainly.
-/
namespace Go.Proofs.YtbhlpnbidmnbkaaDoor
set_option linter.unusedVariables false
set_option linter.unusedSimpArgs false
open Go.TR
@[reducible] def Head.row (h : Head) : List Value := [i64 h.epoch, u64 (h.root : Nat), u64 (h.prev : Nat), i64 h.at_]
theorem head_row (h : Head) : h.row.length = 4 := rfl
theorem head_one (l : List Head) : ∀ x ∈ l.flatMap Head.row, one (.v x) = true := fun x hx => by
  obtain ⟨a, _, ha⟩ := List.mem_flatMap.1 hx
  simp only [Head.row, List.mem_cons, List.not_mem_nil, or_false] at ha
  rcases ha with rfl | rfl | rfl | rfl <;> rfl
/-- Is the one the next of the other? -/
def links (a b : Head) : Bool := decide (a.fault = 0) && decide (b.fault = 0) && decide (b.epoch = a.epoch + 1) && decide (b.prev = a.mark) && decide (a.at_ ≤ b.at_)
/-- The first that is wrong. -/
def badAt : List Head → Nat → Option (Int × Nat)
  | [], _ => none
  | h :: t, i => if h.fault = 0 then badAt t (i + 1) else some (h.fault, i)
/-- The first that does not follow. -/
def unl : List Head → Nat → Option Nat
  | [], _ => none
  | [_], _ => none
  | a :: b :: t, i => if links a b = true then unl (b :: t) (i + 1) else some i
def unlI (l : List Head) : Int := match unl l 1 with
  | some i => (i : Int)
  | none => -1
def chainT (l : List Head) : Int × Nat := match badAt l 0 with
  | some x => x
  | none => match unl l 1 with
    | some i => (8, i)
    | none => (0, 0)
def chainF (l : List Head) : Int × Nat := if l.length = 0 then (5, 0) else if 40 < l.length then (2, 0) else chainT l
theorem chainT_bad {l : List Head} {x : Int × Nat} (h : badAt l 0 = some x) : chainT l = x := by unfold chainT; rw [h]
theorem chainT_unl {l : List Head} {i : Nat} (h : badAt l 0 = none) (h2 : unl l 1 = some i) : chainT l = (8, i) := by unfold chainT; rw [h, h2]
theorem chainT_ok {l : List Head} (h : badAt l 0 = none) (h2 : unl l 1 = none) : chainT l = (0, 0) := by unfold chainT; rw [h, h2]
theorem badAt_drop {l : List Head} {j : Nat} (hj : j < l.length) : badAt (l.drop j) j = if l[j].fault = 0 then badAt (l.drop (j + 1)) (j + 1) else some (l[j].fault, j) := by
  rw [List.drop_eq_getElem_cons hj]
  rfl
theorem unl_drop {l : List Head} {j : Nat} (hj : j + 1 < l.length) : unl (l.drop j) (j + 1) = if links l[j] l[j + 1] = true then unl (l.drop (j + 1)) (j + 2) else some (j + 1) := by
  rw [List.drop_eq_getElem_cons (i := j) (by omega), List.drop_eq_getElem_cons (i := j + 1) hj]
  rfl
theorem unl_end {l : List Head} {j i : Nat} (hj : l.length ≤ j + 1) : unl (l.drop j) i = none := by
  have : (l.drop j).length ≤ 1 := by rw [List.length_drop]; omega
  match h : l.drop j with
  | [] => rfl
  | [_] => rfl
  | _ :: _ :: _ => rw [h] at this; simp at this
theorem badAt_none : ∀ {l : List Head} {i : Nat}, badAt l i = none → ∀ h ∈ l, h.fault = 0
  | [], _, _ => by simp
  | a :: l, i, h => fun x hx => by
    unfold badAt at h
    split at h
    · rename_i h0
      rcases List.mem_cons.1 hx with rfl | hx
      · exact h0
      · exact badAt_none h x hx
    · cases h
theorem Head.ext' {a b : Head} (h1 : a.epoch = b.epoch) (h2 : a.root = b.root) (h3 : a.prev = b.prev) (h4 : a.at_ = b.at_) : a = b := by
  cases a; cases b; simp_all
/-- The next of the one, and the other: what head.Next answers. -/
theorem links_next {a b : Head} (hw : a.wf) (ha : a.fault = 0) (hb : b.fault = 0) : (decide (a.nextE b.root b.at_ ≠ 0) || decide ((a.nextH b.root b.at_).orNone (a.nextE b.root b.at_) ≠ b)) = !links a b := by
  obtain ⟨g1, g2, g3, g4, g5, g6, g7⟩ := Head.ok_of ha
  obtain ⟨f1, f2, f3, f4, f5, f6, f7⟩ := Head.ok_of hb
  have hwr : IntKind.i64.wrap (a.epoch + 1) = a.epoch + 1 := wrap_i64 (by omega) (by omega)
  have hm : a.markO = a.mark := by unfold Head.markO; rw [if_pos ha]
  unfold links
  rw [decide_eq_true ha, decide_eq_true hb]
  by_cases h1 : a.epoch = 1000000
  · have : a.nextE b.root b.at_ ≠ 0 := by unfold Head.nextE; rw [if_neg (by simpa using ha), if_pos h1]; decide
    rw [decide_eq_true this]
    have : ¬ b.epoch = a.epoch + 1 := by omega
    simp [this]
  · have hn := nextE_alt (root := b.root) (at_ := b.at_) hw ha h1
    by_cases h2 : b.at_ < a.at_
    · rw [if_pos (.inr (.inl h2))] at hn
      rw [hn]
      have : ¬ a.at_ ≤ b.at_ := by omega
      simp [this]
    · rw [if_neg (by omega)] at hn
      rw [hn]
      have h3 : a.at_ ≤ b.at_ := by omega
      unfold Head.orNone Head.nextH
      rw [hwr, hm]
      by_cases h4 : b.epoch = a.epoch + 1
      · by_cases h5 : b.prev = a.mark
        · have : (⟨a.epoch + 1, b.root, a.mark, b.at_⟩ : Head) = b := Head.ext' h4.symm rfl h5.symm rfl
          simp [this, h3, h4, h5]
        · have : (⟨a.epoch + 1, b.root, a.mark, b.at_⟩ : Head) ≠ b := fun e => h5 (by rw [← e])
          simp [this, h5]
      · have : (⟨a.epoch + 1, b.root, a.mark, b.at_⟩ : Head) ≠ b := fun e => h4 (by rw [← e])
        simp [this, h4]
theorem badAt_ne : ∀ {l : List Head} {i : Nat} {x : Int × Nat}, badAt l i = some x → x.1 ≠ 0 := by
  intro l
  induction l with
  | nil => intro i x h; cases h
  | cons a l ih =>
    intro i x h
    unfold badAt at h
    split at h
    · exact ih h
    · rename_i h0
      cases h
      exact h0
theorem chainF_zero {l : List Head} (h : (chainF l).1 = 0) : 0 < l.length ∧ l.length ≤ 40 ∧ (∀ x ∈ l, x.fault = 0) ∧ unl l 1 = none ∧ chainF l = (0, 0) := by
  unfold chainF at h ⊢
  split at h
  · cases h
  · rename_i h1
    split at h
    · cases h
    · rename_i h2
      rw [if_neg h1, if_neg h2]
      cases hb : badAt l 0 with
      | some x =>
        rw [chainT_bad hb] at h
        exact absurd h (badAt_ne hb)
      | none =>
        cases hu : unl l 1 with
        | some i =>
          rw [chainT_unl hb hu] at h
          cases h
        | none => exact ⟨by omega, by omega, badAt_none hb, rfl, chainT_ok hb hu⟩
/-- The head of an epoch. -/
def headOfE (l : List Head) (n : Int) : Option Head := l.find? fun h => decide (h.epoch = n)
def orN : Option Head → Head
  | some h => h
  | none => Head.none
/-- In a chain the epochs rise by one. -/
theorem unl_epoch : ∀ {l : List Head} {i : Nat}, unl l i = none → ∀ (j : Nat) (h : j < l.length), l[j].epoch = (l[0]'(by omega)).epoch + (j : Int)
  | [], _, _, j, h => by simp at h
  | [a], _, _, j, h => by
    have : j = 0 := by simp at h; omega
    subst this
    simp
  | a :: b :: t, i, hu, 0, h => by simp
  | a :: b :: t, i, hu, j + 1, h => by
    unfold unl at hu
    split at hu
    · rename_i hl
      have := unl_epoch hu j (by simpa using h)
      simp only [List.getElem_cons_succ, List.getElem_cons_zero] at this ⊢
      rw [this]
      unfold links at hl
      simp only [Bool.and_eq_true, decide_eq_true_eq] at hl
      rw [hl.1.1.2]
      omega
    · cases hu
end Go.Proofs.YtbhlpnbidmnbkaaDoor
/-!
slices.IndexFunc and DeleteFunc of heads, on a row of the call's own.
-/
namespace Go.Proofs.YtbhlpnbidmnbkaaDoor
set_option linter.unusedVariables false
set_option linter.unusedSimpArgs false
open Go.TR
theorem flat_at {α : Type} {f : α → List Value} {k : Nat} (hk : ∀ a, (f a).length = k) {l : List α} {j : Nat} (h : j < l.length) : (((l.flatMap f).map EV.v).take (0 + j * k + k)).drop (0 + j * k) = (f l[j]).map EV.v := by
  rw [Nat.zero_add, ← List.map_take, ← List.map_drop]
  congr 1
  have e1 : l = l.take j ++ l[j] :: l.drop (j + 1) := by rw [← List.drop_eq_getElem_cons h, List.take_append_drop]
  have e2 : l.flatMap f = (l.take j).flatMap f ++ (f l[j] ++ (l.drop (j + 1)).flatMap f) := by
    rw [← List.flatMap_cons, ← List.flatMap_append, ← e1]
  have e3 : ((l.take j).flatMap f).length = j * k := by rw [flat_len hk, List.length_take, Nat.min_eq_left (by omega)]
  rw [e2, List.drop_take, List.drop_append, e3, Nat.sub_self, List.drop_eq_nil_of_le (by omega), List.nil_append, List.drop_zero, Nat.add_sub_cancel_left, List.take_append, hk, Nat.sub_self, List.take_zero, List.append_nil, List.take_of_length_le (by rw [hk]; exact Nat.le_refl _)]
theorem flat_set {α : Type} {f : α → List Value} {k : Nat} (hk : ∀ a, (f a).length = k) {l : List α} {i : Nat} {x : α} (h : i < l.length) : ((l.flatMap f).map EV.v).take (0 + i * k) ++ (f x).map EV.v ++ ((l.flatMap f).map EV.v).drop (0 + i * k + k) = ((l.set i x).flatMap f).map EV.v := by
  rw [Nat.zero_add, ← List.map_take, ← List.map_drop, ← List.map_append, ← List.map_append]
  congr 1
  rw [← flat_take hk, ← Nat.succ_mul, ← flat_drop hk, List.set_eq_take_append_cons_drop, if_pos h, List.flatMap_append, List.flatMap_cons, List.append_assoc]
attribute [local irreducible] vc vcOps seqK blockK loopK retK retG retI loopV Plain CallOK CallIn bodied VS vcAny dropG backK brK loopPK IntKind.wrap
set_option maxRecDepth 100000
set_option maxHeartbeats 4000000
end Go.Proofs.YtbhlpnbidmnbkaaDoor
