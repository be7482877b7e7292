/-
Package wire and its reference: the first part, all parts; parts put down by the reference.
-/
import Derived.Test.YthkkgphjjmhglaaGreatDoorWirePut
import Derived.Test.YthkkgphjjmhglaaGreatDoorNum
import Derived.Test.YthkkgphjjmhglaaGreatDoorSetBits
import Derived.Test.YthkkgphjjmhglaaGreatDoorSetWireMath
import Derived.Test.YthkkgphjjmhglaaGreatDoorPathMath
import Derived.Test.YthkkgphjjmhglaaGreatDoorBase
/-!
Package wire and its reference: the first part, all parts; parts put down by the reference.
-/
namespace Go.Proofs.YthkkgphjjmhglaaGreatDoor
set_option linter.unusedVariables false
set_option linter.unusedSimpArgs false
open Go.TR
attribute [local irreducible] vc vcOps seqK blockK loopK retK retG retI loopV Plain CallOK CallIn bodied VS vcAny dropG backK brK loopPK IntKind.wrap
set_option maxRecDepth 100000
def partsOk (l : List (List UInt8)) : Bool := match partsF l [] with
  | some _ => decide (l.length ≤ 60)
  | none => false
def partsOut (l : List (List UInt8)) : List UInt8 := match partsF l [] with
  | some o => o
  | none => []
theorem hi2_val (n : Nat) (h : n ≤ 600) : IntKind.u8.wrap (IntKind.i64.wrap ((n : Int).tdiv 256)) = (((UInt8.ofNat (n / 256)).toNat : Nat) : Int) := by
  have e : (n : Int).tdiv 256 = ((n / 256 : Nat) : Int) := (Int.ofNat_tdiv n 256).symm
  rw [e, UInt8.toNat_ofNat']
  have : n / 256 ≤ 600 := by omega
  generalize n / 256 = q at *
  rw [wrap_i64 (by omega) (by omega), u8w]
  omega
theorem lo2_val (n : Nat) : IntKind.u8.wrap ((n : Int).tmod 256) = (((UInt8.ofNat (n % 256)).toNat : Nat) : Int) := by
  have e : (n : Int).tmod 256 = ((n % 256 : Nat) : Int) := Int.ofNat_tmod n 256 ▸ rfl
  rw [e, u8w, UInt8.toNat_ofNat']
  omega
set_option maxHeartbeats 1000000 in
theorem parts_ok (l : List (List UInt8)) (hl : l.length ≤ 4611686018427387904) {p : Option Addr} {c : Nat} {F : Hp} (hf : Frow F p (l.map S)) : Plain Tryz.prog F 141 [.slice p l.length c] (pair (S (partsOut l)) (.bool (partsOk l))) := by
  refine plain_vc (N := 38) (rv := [.tmp 2, .tmp 3]) tbok mixed Tryz.func141 rfl rfl rfl rfl rfl ?_
  (refine run ?_; repeat intro b)
  refine s_loopP (fun q : Nat × List UInt8 => q.1 ≤ l.length ∧ partsF l [] = partsF (l.drop q.1) q.2 ∧ q.2.length ≤ 600)
    (fun q => ⟨[(0, .v (.slice p l.length c)), (4, .v (S q.2)), (7, .v (.slice p l.length c)), (8, .v (i64 (l.length : Nat))), (9, .v (i64 (q.1 : Nat)))], F, [], 0⟩) (fun q => l.length - q.1) (0, []) ⟨Nat.zero_le _, rfl, by decide⟩ (VS.keepN [0, 4, 7, 8, 9] rfl rfl) ?_
  rintro ⟨k, o⟩ ⟨hk, hp, ho⟩
  dsimp only at hk hp ho ⊢
  (refine run ?_; repeat intro b)
  refine s_if _ rfl (fun h3 => ?_) (fun h3 => ?_)
  · have hlt : k < l.length := by simpa using h3
    have hdrop : l.drop k = l[k] :: l.drop (k + 1) := List.drop_eq_getElem_cons hlt
    have hgo : ¬ 600 < o.length + 2 + l[k].length → partsF l [] = partsF (l.drop (k + 1)) (o ++ part l[k]) := fun h => by
      rw [hp, hdrop, partsF, if_neg h]
    have hno : 600 < o.length + 2 + l[k].length → partsF l [] = none := fun h => by
      rw [hp, hdrop, partsF, if_pos h]
    have hbad : 600 < o.length + 2 + l[k].length → partsOut l = [] ∧ partsOk l = false := fun h => by
      unfold partsOut partsOk
      rw [hno h]
      exact ⟨rfl, rfl⟩
    generalize hq : l[k] = q at *
    have hld : Pcell F (padd p (((k : Nat) : Int).toNat * 1)) = some (S q) := by
      have := frow_get hf (j := k) (by simpa using hlt)
      simpa [hq] using this
    have hsz : p.isSome = true := frow_some hf (j := k) (by simpa using hlt)
    (refine run ?_; repeat intro b)
    refine s_pureO rfl rfl rfl ⟨by omega, by omega, hsz⟩ ?_
    refine s_load (S q) rfl rfl rfl rfl hld ?_
    (refine run ?_; repeat intro b)
    refine s_if (decide (600 < q.length)) ?_ (fun h4 => ?_) (fun h4 => ?_)
    · refine congrArg (fun b => some (EV.v (.bool b))) ?_
      rw [decide_eq_decide, bl_S]; omega
    · obtain ⟨e1, e2⟩ := hbad (by have : 600 < q.length := by simpa using h4
                                  omega)
      (refine run ?_; repeat intro b)
      rw [e1, e2]
      rfl
    · have h5 : q.length ≤ 600 := by simpa using h4
      (refine run ?_; repeat intro b)
      rw [bl_S, hi2_val _ h5, lo2_val]
      refine s_strR [UInt8.ofNat (q.length / 256), UInt8.ofNat (q.length % 256)] rfl rfl rfl rfl (Nat.le_refl 2) rfl ?_
      (refine run ?_; repeat intro b)
      refine s_pureO rfl rfl rfl (by rw [bl_S, bl_S]; unfold maxInt; simp only [List.length_cons, List.length_nil]; omega) ?_
      (refine run ?_; repeat intro b)
      refine s_pureO rfl rfl rfl (by rw [bl_S, bl_S, bl_S, bl_S]; unfold maxInt; simp only [List.length_cons, List.length_nil, List.length_append]; omega) ?_
      (refine run ?_; repeat intro b)
      have hpart : bl (mkB o) ++ bl (mkB (bl (mkB [UInt8.ofNat (q.length / 256), UInt8.ofNat (q.length % 256)]) ++ bl (mkB q))) = o ++ part q := rfl
      rw [hpart]
      refine s_if (decide (600 < o.length + 2 + q.length)) ?_ (fun h6 => ?_) (fun h6 => ?_)
      · refine congrArg (fun b => some (EV.v (.bool b))) ?_
        rw [decide_eq_decide, bl_S, List.length_append, part_length]; omega
      · obtain ⟨e1, e2⟩ := hbad (by simpa using h6)
        (refine run ?_; repeat intro b)
        rw [e1, e2]
        rfl
      · have h7 : ¬ 600 < o.length + 2 + q.length := by simpa using h6
        (refine run ?_; repeat intro b)
        rw [wrap_succ (by omega)]
        exact s_loopPq (k + 1, o ++ part q) 0 [] [0, 4, 7, 8, 9] [] ⟨hlt, hgo h7, by simp only [List.length_append, part_length]; omega⟩ (by simp only; omega) (Nat.min_le_left _ _) trivial rfl rfl rfl rfl rfl rfl rfl
  · have hge : k = l.length := by
      have : ¬ k < l.length := by simpa using h3
      omega
    subst hge
    rw [List.drop_length] at hp
    simp only [partsF] at hp
    (refine run ?_; repeat intro b)
    simp only [tupV, partsOut, partsOk, hp]
    have e : decide ((l.length : Int) ≤ 60) = decide (l.length ≤ 60) := by rw [decide_eq_decide]; omega
    rw [e]
end Go.Proofs.YthkkgphjjmhglaaGreatDoor
/-!
Package tag and its reference: the walks.
-/
namespace Go.Proofs.YthkkgphjjmhglaaGreatDoor
set_option linter.unusedVariables false
set_option linter.unusedSimpArgs false
open Go.TR
def tagN (key : Nat) (s : List UInt8) : Nat := markN (num key ++ s ++ num key)
def askSaid (name value : List UInt8) (n : Nat) : List UInt8 := num n ++ partsOut [name, value]
theorem put_two (a b : List UInt8) : putO [a, b] = partsOut [a, b] := by
  unfold putO partsOut
  rw [if_neg (by simp)]
  cases partsF [a, b] [] <;> rfl
theorem partsOut_len (l : List (List UInt8)) : (partsOut l).length ≤ 600 := by
  unfold partsOut
  cases h : partsF l [] with
  | none => simp
  | some o => exact partsF_le l [] o (by simp) h
attribute [local irreducible] vc vcOps seqK blockK loopK retK retG retI loopV Plain CallOK CallIn bodied VS vcAny dropG backK brK loopPK IntKind.wrap
set_option maxRecDepth 100000
/-- What Ask answers. -/
def askOf (key : Nat) (name value : List UInt8) (n : Nat) : Ask := if askFault name value = 0 then ⟨name, value, n, tagN key (askSaid name value n)⟩ else Ask.none
def tagHolds (key : Nat) (a : Ask) : Bool := (askFault a.name a.value == 0) && (((tagN key (askSaid a.name a.value a.n) : Nat) : Int) == (a.tag : Nat))
end Go.Proofs.YthkkgphjjmhglaaGreatDoor
/-!
Proofs of a name, plainly.
-/
namespace Go.Proofs.YthkkgphjjmhglaaGreatDoor
set_option linter.unusedVariables false
set_option linter.unusedSimpArgs false
open Go.TR
@[reducible] def mu (n : Nat) : Value := u64 (n : Nat)
/-- A proof of what a name stands for. -/
structure Prf where
  name : List UInt8
  ents : List Entry
  sides : List Nat
structure Prf.wf (p : Prf) : Prop where
  name : p.name.length ≤ 4611686018427387904
  ents : p.ents.length ≤ 4611686018427387904
  each : ∀ x ∈ p.ents, x.wf
  sides : p.sides.length ≤ 4611686018427387904
  side : ∀ x ∈ p.sides, x < 18446744073709551616
/-- Where a proof lies. -/
structure Lay where
  e : Option Addr
  ce : Nat
  s : Option Addr
  cs : Nat
@[reducible] def Prf.v (p : Prf) (a : Lay) : Value := .agg #[S p.name, .slice a.e p.ents.length a.ce, .slice a.s p.sides.length a.cs]
structure Prf.at (F : Hp) (p : Prf) (a : Lay) : Prop where
  ents : Frow F a.e (p.ents.flatMap Entry.row)
  sides : Frow F a.s (p.sides.map mu)
/-- What is wrong with a proof. -/
def prfFault (p : Prf) : Int :=
  if goodName p.name = true then
    if bookFault p.ents ≠ 0 then bookFault p.ents
    else if (p.ents.any fun x => !decide (pathN x.name = pathN p.name)) = true then 3
    else if p.sides.length ≠ 16 then 3
    else if (p.sides.any fun m => decide (MM ≤ m)) = true then 3
    else 0
  else 3
theorem bookG_cases : ∀ {p : Option (List UInt8)} {l : List Entry}, bookG p l = 0 ∨ bookG p l = 2 ∨ bookG p l = 3
  | _, [] => .inl rfl
  | p, x :: t => by
    unfold bookG
    split
    · unfold askFault
      split
      · split <;> simp
      · simp
    · split
      · simp
      · exact bookG_cases
theorem bookFault_cases (l : List Entry) : bookFault l = 0 ∨ bookFault l = 2 ∨ bookFault l = 3 := by
  unfold bookFault
  split
  · simp
  · exact bookG_cases
def entE (x : Entry) : List UInt8 := partsOut [x.name, x.value]
/-- What is said of entries of one path. -/
def leafN (l : List Entry) : List UInt8 := if l.length = 0 then [0] else 1 :: l.flatMap entE
theorem leafN_len : ∀ l : List Entry, (l.flatMap entE).length ≤ 600 * l.length
  | [] => by simp
  | x :: t => by
    have := leafN_len t
    have := partsOut_len [x.name, x.value]
    have e : entE x = partsOut [x.name, x.value] := rfl
    rw [List.flatMap_cons, List.length_append, List.length_cons, e]
    omega
def noneM : Nat := markN [0]
/-- What is said of two marks, in a book. -/
def nodeN (a b : Nat) : List UInt8 := if a = noneM ∧ b = noneM then [0] else two 2 a b
theorem nodeN_len (a b : Nat) : (nodeN a b).length ≤ 17 := by
  unfold nodeN
  split
  · decide
  · rw [two_length]; exact Nat.le_refl _
/-- What is said on the way up. -/
def sayF (p : Prf) : Nat → List UInt8
  | 0 => leafN p.ents
  | k + 1 => if (pathN p.name).getD (15 - k) 0 = 48 then nodeN (markN (sayF p k)) (p.sides.getD k 0) else nodeN (p.sides.getD k 0) (markN (sayF p k))
def sayL (p : Prf) (k : Nat) : List (List UInt8) := (List.range k).map (sayF p)
def saidO (p : Prf) : List (List UInt8) := if prfFault p = 0 then sayL p 17 else []
/-- The mark on top of a proof. -/
def prfRoot (p : Prf) : Nat := markN (sayF p 16)
def rootO (p : Prf) : Nat := if prfFault p = 0 then prfRoot p else 0
end Go.Proofs.YthkkgphjjmhglaaGreatDoor
/-!
Rows of things of several cells.
-/
namespace Go.Proofs.YthkkgphjjmhglaaGreatDoor
set_option linter.unusedVariables false
set_option linter.unusedSimpArgs false
open Go.TR
theorem flat_len {α : Type} {f : α → List Value} {k : Nat} (hk : ∀ a, (f a).length = k) : ∀ (l : List α), (l.flatMap f).length = l.length * k
  | [] => by simp
  | a :: l => by rw [List.flatMap_cons, List.length_append, hk, flat_len hk l, List.length_cons, Nat.succ_mul]; omega
theorem flat_get {α : Type} {f : α → List Value} {k : Nat} (hk : ∀ a, (f a).length = k) : ∀ (l : List α) (j i : Nat) (h : j < l.length), i < k → (l.flatMap f)[j * k + i]? = (f l[j])[i]?
  | [], j, i, h, _ => by simp at h
  | a :: l, 0, i, h, hi => by
    rw [List.flatMap_cons, Nat.zero_mul, Nat.zero_add, List.getElem?_append_left (by rw [hk]; exact hi)]
    rfl
  | a :: l, j + 1, i, h, hi => by
    rw [List.flatMap_cons, List.getElem?_append_right (by rw [hk, Nat.succ_mul]; omega), hk]
    have := flat_get hk l j i (by simpa using h) hi
    rw [show (j + 1) * k + i - k = j * k + i by rw [Nat.succ_mul]; omega, this]
    rfl
theorem flat_take {α : Type} {f : α → List Value} {k : Nat} (hk : ∀ a, (f a).length = k) : ∀ (l : List α) (n : Nat), (l.take n).flatMap f = (l.flatMap f).take (n * k)
  | [], n => by simp
  | a :: l, 0 => by simp
  | a :: l, n + 1 => by
    rw [List.take_succ_cons, List.flatMap_cons, List.flatMap_cons, flat_take hk l n, List.take_append, hk, List.take_of_length_le (l := f a) (by rw [hk, Nat.succ_mul]; omega)]
    congr 2
    rw [Nat.succ_mul]; omega
theorem flat_drop {α : Type} {f : α → List Value} {k : Nat} (hk : ∀ a, (f a).length = k) : ∀ (l : List α) (n : Nat), (l.drop n).flatMap f = (l.flatMap f).drop (n * k)
  | [], n => by simp
  | a :: l, 0 => by simp
  | a :: l, n + 1 => by
    rw [List.drop_succ_cons, List.flatMap_cons, flat_drop hk l n, List.drop_append, hk, List.drop_eq_nil_of_le («as» := f a) (by rw [hk, Nat.succ_mul]; omega), List.nil_append]
    congr 1
    rw [Nat.succ_mul]; omega
/-- The cells of one thing of a row. -/
theorem frow_agg {α : Type} {f : α → List Value} {k : Nat} (hk : ∀ a, (f a).length = k) (hk0 : 0 < k) {F : Hp} {p : Option Addr} {l : List α} (h : Frow F p (l.flatMap f)) (j : Nat) (hj : j < l.length) :
    (padd p (j * k)).isSome = true ∧ ∀ i, i < k → Pcell F (padd (padd p (j * k)) i) = (f l[j])[i]? := by
  have hl := flat_len hk l
  have hm : (j + 1) * k ≤ l.length * k := Nat.mul_le_mul_right _ hj
  rw [Nat.succ_mul] at hm
  refine ⟨?_, fun i hi => ?_⟩
  · have := frow_some h (j := j * k) (by omega)
    cases p with
    | none => cases this
    | some a => rfl
  · have e := flat_get hk l j i hj hi
    have hi' : i < (f l[j]).length := by rw [hk]; exact hi
    rw [List.getElem?_eq_getElem hi'] at e ⊢
    rw [padd_padd]
    exact h _ _ e
end Go.Proofs.YthkkgphjjmhglaaGreatDoor
