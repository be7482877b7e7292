/-
Package tag and its reference: the walks.
-/
import Derived.Test.YtbhlpnbidmnbkaaDoorSetBits
import Derived.Test.YtbhlpnbidmnbkaaDoorWireGet
import Derived.Test.YtbhlpnbidmnbkaaDoorSetHeadMath
import Derived.Test.YtbhlpnbidmnbkaaDoorPathMath
import Derived.Test.YtbhlpnbidmnbkaaDoorBase
/-!
Package tag and its reference: the walks.
-/
namespace Go.Proofs.YtbhlpnbidmnbkaaDoor
set_option linter.unusedVariables false
set_option linter.unusedSimpArgs false
open Go.TR
def tagN (key : Nat) (s : List UInt8) : Nat := markN (num key ++ s ++ num key)
def askSaid (name value : List UInt8) (n : Nat) : List UInt8 := num n ++ partsOut [name, value]
theorem put_two (a b : List UInt8) : putO [a, b] = partsOut [a, b] := by
  unfold putO partsOut
  rw [if_neg (by simp)]
  cases partsF [a, b] [] <;> rfl
theorem partsOut_len (l : List (List UInt8)) : (partsOut l).length ≤ 600 := by
  unfold partsOut
  cases h : partsF l [] with
  | none => simp
  | some o => exact partsF_le l [] o (by simp) h
theorem askSaid_len (name value : List UInt8) (n : Nat) : (askSaid name value n).length ≤ 608 := by
  unfold askSaid
  have := partsOut_len [name, value]
  simp only [List.length_append, num_length]
  omega
attribute [local irreducible] vc vcOps seqK blockK loopK retK retG retI loopV Plain CallOK CallIn bodied VS vcAny dropG backK brK loopPK IntKind.wrap
set_option maxRecDepth 100000
/-- What Ask answers. -/
def askOf (key : Nat) (name value : List UInt8) (n : Nat) : Ask := if askFault name value = 0 then ⟨name, value, n, tagN key (askSaid name value n)⟩ else Ask.none
def tagHolds (key : Nat) (a : Ask) : Bool := (askFault a.name a.value == 0) && (((tagN key (askSaid a.name a.value a.n) : Nat) : Int) == (a.tag : Nat))
end Go.Proofs.YtbhlpnbidmnbkaaDoor
/-!
Proofs of a name, plainly.
-/
namespace Go.Proofs.YtbhlpnbidmnbkaaDoor
set_option linter.unusedVariables false
set_option linter.unusedSimpArgs false
open Go.TR
@[reducible] def mu (n : Nat) : Value := u64 (n : Nat)
/-- A proof of what a name stands for. -/
structure Prf where
  name : List UInt8
  ents : List Entry
  sides : List Nat
structure Prf.wf (p : Prf) : Prop where
  name : p.name.length ≤ 4611686018427387904
  ents : p.ents.length ≤ 4611686018427387904
  each : ∀ x ∈ p.ents, x.wf
  sides : p.sides.length ≤ 4611686018427387904
  side : ∀ x ∈ p.sides, x < 18446744073709551616
/-- Where a proof lies. -/
structure Lay where
  e : Option Addr
  ce : Nat
  s : Option Addr
  cs : Nat
@[reducible] def Prf.v (p : Prf) (a : Lay) : Value := .agg #[S p.name, .slice a.e p.ents.length a.ce, .slice a.s p.sides.length a.cs]
structure Prf.at (F : Hp) (p : Prf) (a : Lay) : Prop where
  ents : Frow F a.e (p.ents.flatMap Entry.row)
  sides : Frow F a.s (p.sides.map mu)
theorem Prf.at_sub {F F' : Hp} (h : F.sub F') {p : Prf} {a : Lay} (k : Prf.at F p a) : Prf.at F' p a := ⟨frow_sub h k.ents, frow_sub h k.sides⟩
/-- What is wrong with a proof. -/
def prfFault (p : Prf) : Int :=
  if goodName p.name = true then
    if bookFault p.ents ≠ 0 then bookFault p.ents
    else if (p.ents.any fun x => !decide (pathN x.name = pathN p.name)) = true then 3
    else if p.sides.length ≠ 16 then 3
    else if (p.sides.any fun m => decide (MM ≤ m)) = true then 3
    else 0
  else 3
theorem bookG_cases : ∀ {p : Option (List UInt8)} {l : List Entry}, bookG p l = 0 ∨ bookG p l = 2 ∨ bookG p l = 3
  | _, [] => .inl rfl
  | p, x :: t => by
    unfold bookG
    split
    · unfold askFault
      split
      · split <;> simp
      · simp
    · split
      · simp
      · exact bookG_cases
theorem bookFault_cases (l : List Entry) : bookFault l = 0 ∨ bookFault l = 2 ∨ bookFault l = 3 := by
  unfold bookFault
  split
  · simp
  · exact bookG_cases
theorem prfFault_cases (p : Prf) : prfFault p = 0 ∨ prfFault p = 2 ∨ prfFault p = 3 := by
  unfold prfFault
  split
  · split
    · exact bookFault_cases _
    · split
      · simp
      · split
        · simp
        · split <;> simp
  · simp
theorem prfFault_zero {p : Prf} (h : prfFault p = 0) : goodName p.name = true ∧ bookFault p.ents = 0 ∧ (∀ x ∈ p.ents, pathN x.name = pathN p.name) ∧ p.sides.length = 16 ∧ ∀ m ∈ p.sides, m < MM := by
  unfold prfFault at h
  split at h
  · rename_i h1
    split at h
    · rename_i h2; exact absurd h h2
    · rename_i h2
      split at h
      · cases h
      · rename_i h3
        split at h
        · cases h
        · rename_i h4
          split at h
          · cases h
          · rename_i h5
            refine ⟨h1, by simpa using h2, fun x hx => ?_, by omega, fun m hm => ?_⟩
            · simp only [List.any_eq_true, not_exists, not_and, Bool.not_eq_true', Bool.not_eq_false, decide_eq_false_iff_not, Decidable.not_not] at h3
              exact h3 x hx
            · simp only [List.any_eq_true, not_exists, not_and, decide_eq_true_eq] at h5
              have := h5 m hm
              omega
  · cases h
def entE (x : Entry) : List UInt8 := partsOut [x.name, x.value]
/-- What is said of entries of one path. -/
def leafN (l : List Entry) : List UInt8 := if l.length = 0 then [0] else 1 :: l.flatMap entE
theorem leafN_len : ∀ l : List Entry, (l.flatMap entE).length ≤ 600 * l.length
  | [] => by simp
  | x :: t => by
    have := leafN_len t
    have := partsOut_len [x.name, x.value]
    have e : entE x = partsOut [x.name, x.value] := rfl
    rw [List.flatMap_cons, List.length_append, List.length_cons, e]
    omega
def noneM : Nat := markN [0]
/-- What is said of two marks, in a book. -/
def nodeN (a b : Nat) : List UInt8 := if a = noneM ∧ b = noneM then [0] else two 2 a b
theorem nodeN_len (a b : Nat) : (nodeN a b).length ≤ 17 := by
  unfold nodeN
  split
  · decide
  · rw [two_length]; exact Nat.le_refl _
/-- What is said on the way up. -/
def sayF (p : Prf) : Nat → List UInt8
  | 0 => leafN p.ents
  | k + 1 => if (pathN p.name).getD (15 - k) 0 = 48 then nodeN (markN (sayF p k)) (p.sides.getD k 0) else nodeN (p.sides.getD k 0) (markN (sayF p k))
theorem sayF_len {p : Prf} (h : p.ents.length ≤ 24) : ∀ k, (sayF p k).length ≤ 20000
  | 0 => by
    show (leafN p.ents).length ≤ 20000
    have := leafN_len p.ents
    unfold leafN
    split
    · decide
    · rw [List.length_cons]; omega
  | k + 1 => by
    have h1 := nodeN_len (markN (sayF p k)) (p.sides.getD k 0)
    have h2 := nodeN_len (p.sides.getD k 0) (markN (sayF p k))
    unfold sayF
    split <;> omega
def sayL (p : Prf) (k : Nat) : List (List UInt8) := (List.range k).map (sayF p)
theorem sayL_succ (p : Prf) (k : Nat) : sayL p (k + 1) = sayL p k ++ [sayF p k] := by
  unfold sayL
  rw [List.range_succ, List.map_append]
  rfl
theorem sayL_len (p : Prf) (k : Nat) : (sayL p k).length = k := by unfold sayL; rw [List.length_map, List.length_range]
def saidO (p : Prf) : List (List UInt8) := if prfFault p = 0 then sayL p 17 else []
/-- The mark on top of a proof. -/
def prfRoot (p : Prf) : Nat := markN (sayF p 16)
def rootO (p : Prf) : Nat := if prfFault p = 0 then prfRoot p else 0
/-- A step of the way is a nought or a one. -/
theorem path_bit (s : List UInt8) (k : Nat) (hk : k < 16) : (pathN s).getD k 0 = 48 ∨ (pathN s).getD k 0 = 49 := by
  have h : (pathN s).getD k 0 = bitB (markN s / 2 ^ (15 - k)) := by
    unfold pathN
    rw [List.getD_eq_getElem?_getD, List.getElem?_eq_getElem (by rw [bitsN_len]; exact hk), bitsN_get 16 _ k hk]
    rfl
  rw [h]
  unfold bitB
  rcases Nat.mod_two_eq_zero_or_one (markN s / 2 ^ (15 - k)) with h | h <;> rw [h] <;> decide
end Go.Proofs.YtbhlpnbidmnbkaaDoor
/-!
Rows of things of several cells.
-/
namespace Go.Proofs.YtbhlpnbidmnbkaaDoor
set_option linter.unusedVariables false
set_option linter.unusedSimpArgs false
open Go.TR
theorem flat_len {α : Type} {f : α → List Value} {k : Nat} (hk : ∀ a, (f a).length = k) : ∀ (l : List α), (l.flatMap f).length = l.length * k
  | [] => by simp
  | a :: l => by rw [List.flatMap_cons, List.length_append, hk, flat_len hk l, List.length_cons, Nat.succ_mul]; omega
theorem flat_get {α : Type} {f : α → List Value} {k : Nat} (hk : ∀ a, (f a).length = k) : ∀ (l : List α) (j i : Nat) (h : j < l.length), i < k → (l.flatMap f)[j * k + i]? = (f l[j])[i]?
  | [], j, i, h, _ => by simp at h
  | a :: l, 0, i, h, hi => by
    rw [List.flatMap_cons, Nat.zero_mul, Nat.zero_add, List.getElem?_append_left (by rw [hk]; exact hi)]
    rfl
  | a :: l, j + 1, i, h, hi => by
    rw [List.flatMap_cons, List.getElem?_append_right (by rw [hk, Nat.succ_mul]; omega), hk]
    have := flat_get hk l j i (by simpa using h) hi
    rw [show (j + 1) * k + i - k = j * k + i by rw [Nat.succ_mul]; omega, this]
    rfl
theorem flat_take {α : Type} {f : α → List Value} {k : Nat} (hk : ∀ a, (f a).length = k) : ∀ (l : List α) (n : Nat), (l.take n).flatMap f = (l.flatMap f).take (n * k)
  | [], n => by simp
  | a :: l, 0 => by simp
  | a :: l, n + 1 => by
    rw [List.take_succ_cons, List.flatMap_cons, List.flatMap_cons, flat_take hk l n, List.take_append, hk, List.take_of_length_le (l := f a) (by rw [hk, Nat.succ_mul]; omega)]
    congr 2
    rw [Nat.succ_mul]; omega
theorem flat_drop {α : Type} {f : α → List Value} {k : Nat} (hk : ∀ a, (f a).length = k) : ∀ (l : List α) (n : Nat), (l.drop n).flatMap f = (l.flatMap f).drop (n * k)
  | [], n => by simp
  | a :: l, 0 => by simp
  | a :: l, n + 1 => by
    rw [List.drop_succ_cons, List.flatMap_cons, flat_drop hk l n, List.drop_append, hk, List.drop_eq_nil_of_le («as» := f a) (by rw [hk, Nat.succ_mul]; omega), List.nil_append]
    congr 1
    rw [Nat.succ_mul]; omega
/-- The cells of one thing of a row. -/
theorem frow_agg {α : Type} {f : α → List Value} {k : Nat} (hk : ∀ a, (f a).length = k) (hk0 : 0 < k) {F : Hp} {p : Option Addr} {l : List α} (h : Frow F p (l.flatMap f)) (j : Nat) (hj : j < l.length) :
    (padd p (j * k)).isSome = true ∧ ∀ i, i < k → Pcell F (padd (padd p (j * k)) i) = (f l[j])[i]? := by
  have hl := flat_len hk l
  have hm : (j + 1) * k ≤ l.length * k := Nat.mul_le_mul_right _ hj
  rw [Nat.succ_mul] at hm
  refine ⟨?_, fun i hi => ?_⟩
  · have := frow_some h (j := j * k) (by omega)
    cases p with
    | none => cases this
    | some a => rfl
  · have e := flat_get hk l j i hj hi
    have hi' : i < (f l[j]).length := by rw [hk]; exact hi
    rw [List.getElem?_eq_getElem hi'] at e ⊢
    rw [padd_padd]
    exact h _ _ e
theorem slb_zero {p : Option Addr} {c k : Nat} : slBase p 0 c k = p := by
  unfold slBase
  split
  · rfl
  · cases p with
    | none => rfl
    | some ad => simp [Addr.add]
/-- A part of a row. -/
theorem frow_flat_take {α : Type} {f : α → List Value} {k : Nat} (hk : ∀ a, (f a).length = k) {F : Hp} {p : Option Addr} {l : List α} (h : Frow F p (l.flatMap f)) (n : Nat) : Frow F p ((l.take n).flatMap f) := by
  rw [flat_take hk]; exact frow_take h _
theorem frow_flat_drop {α : Type} {f : α → List Value} {k : Nat} (hk : ∀ a, (f a).length = k) {F : Hp} {p : Option Addr} {l : List α} (h : Frow F p (l.flatMap f)) (n c : Nat) (hn : n ≤ l.length) (hc : l.length ≤ c) : Frow F (slBase p n c k) ((l.drop n).flatMap f) := by
  unfold slBase
  split
  · rename_i h1
    rw [List.drop_eq_nil_of_le (by omega)]
    exact frow_nil _ _
  · rw [flat_drop hk]
    exact frow_drop h _
end Go.Proofs.YtbhlpnbidmnbkaaDoor
