/-
Package wire and its reference: the first part, all parts; parts put down by the reference.
-/
import Derived.Test.YthkkgphjjmhglaaGreatDoorWirePut
import Derived.Test.YthkkgphjjmhglaaGreatDoorSetMark
import Derived.Test.YthkkgphjjmhglaaGreatDoorSetQueue
import Derived.Test.YthkkgphjjmhglaaGreatDoorSetReadNum
import Derived.Test.YthkkgphjjmhglaaGreatDoorSetOrdMath
import Derived.Test.YthkkgphjjmhglaaGreatDoorSetRows2
/-!
Package wire and its reference: the first part, all parts; parts put down by the reference.
-/
namespace Go.Proofs.YthkkgphjjmhglaaGreatDoor
set_option linter.unusedVariables false
set_option linter.unusedSimpArgs false
open Go.TR
attribute [local irreducible] vc vcOps seqK blockK loopK retK retG retI loopV Plain CallOK CallIn bodied VS vcAny dropG backK brK loopPK IntKind.wrap
set_option maxRecDepth 100000
def partsOk (l : List (List UInt8)) : Bool := match partsF l [] with
  | some _ => decide (l.length ≤ 60)
  | none => false
def partsOut (l : List (List UInt8)) : List UInt8 := match partsF l [] with
  | some o => o
  | none => []
theorem hi2_val (n : Nat) (h : n ≤ 600) : IntKind.u8.wrap (IntKind.i64.wrap ((n : Int).tdiv 256)) = (((UInt8.ofNat (n / 256)).toNat : Nat) : Int) := by
  have e : (n : Int).tdiv 256 = ((n / 256 : Nat) : Int) := (Int.ofNat_tdiv n 256).symm
  rw [e, UInt8.toNat_ofNat']
  have : n / 256 ≤ 600 := by omega
  generalize n / 256 = q at *
  rw [wrap_i64 (by omega) (by omega), u8w]
  omega
theorem lo2_val (n : Nat) : IntKind.u8.wrap ((n : Int).tmod 256) = (((UInt8.ofNat (n % 256)).toNat : Nat) : Int) := by
  have e : (n : Int).tmod 256 = ((n % 256 : Nat) : Int) := Int.ofNat_tmod n 256 ▸ rfl
  rw [e, u8w, UInt8.toNat_ofNat']
  omega
set_option maxHeartbeats 1000000 in
theorem parts_ok (l : List (List UInt8)) (hl : l.length ≤ 4611686018427387904) {p : Option Addr} {c : Nat} {F : Hp} (hf : Frow F p (l.map S)) : Plain Tryz.prog F 141 [.slice p l.length c] (pair (S (partsOut l)) (.bool (partsOk l))) := by
  refine plain_vc (N := 38) (rv := [.tmp 2, .tmp 3]) tbok mixed Tryz.func141 rfl rfl rfl rfl rfl ?_
  (refine run ?_; repeat intro b)
  refine s_loopP (fun q : Nat × List UInt8 => q.1 ≤ l.length ∧ partsF l [] = partsF (l.drop q.1) q.2 ∧ q.2.length ≤ 600)
    (fun q => ⟨[(0, .v (.slice p l.length c)), (4, .v (S q.2)), (7, .v (.slice p l.length c)), (8, .v (i64 (l.length : Nat))), (9, .v (i64 (q.1 : Nat)))], F, [], 0⟩) (fun q => l.length - q.1) (0, []) ⟨Nat.zero_le _, rfl, by decide⟩ (VS.keepN [0, 4, 7, 8, 9] rfl rfl) ?_
  rintro ⟨k, o⟩ ⟨hk, hp, ho⟩
  dsimp only at hk hp ho ⊢
  (refine run ?_; repeat intro b)
  refine s_if _ rfl (fun h3 => ?_) (fun h3 => ?_)
  · have hlt : k < l.length := by simpa using h3
    have hdrop : l.drop k = l[k] :: l.drop (k + 1) := List.drop_eq_getElem_cons hlt
    have hgo : ¬ 600 < o.length + 2 + l[k].length → partsF l [] = partsF (l.drop (k + 1)) (o ++ part l[k]) := fun h => by
      rw [hp, hdrop, partsF, if_neg h]
    have hno : 600 < o.length + 2 + l[k].length → partsF l [] = none := fun h => by
      rw [hp, hdrop, partsF, if_pos h]
    have hbad : 600 < o.length + 2 + l[k].length → partsOut l = [] ∧ partsOk l = false := fun h => by
      unfold partsOut partsOk
      rw [hno h]
      exact ⟨rfl, rfl⟩
    generalize hq : l[k] = q at *
    have hld : Pcell F (padd p (((k : Nat) : Int).toNat * 1)) = some (S q) := by
      have := frow_get hf (j := k) (by simpa using hlt)
      simpa [hq] using this
    have hsz : p.isSome = true := frow_some hf (j := k) (by simpa using hlt)
    (refine run ?_; repeat intro b)
    refine s_pureO rfl rfl rfl ⟨by omega, by omega, hsz⟩ ?_
    refine s_load (S q) rfl rfl rfl rfl hld ?_
    (refine run ?_; repeat intro b)
    refine s_if (decide (600 < q.length)) ?_ (fun h4 => ?_) (fun h4 => ?_)
    · refine congrArg (fun b => some (EV.v (.bool b))) ?_
      rw [decide_eq_decide, bl_S]; omega
    · obtain ⟨e1, e2⟩ := hbad (by have : 600 < q.length := by simpa using h4
                                  omega)
      (refine run ?_; repeat intro b)
      rw [e1, e2]
      rfl
    · have h5 : q.length ≤ 600 := by simpa using h4
      (refine run ?_; repeat intro b)
      rw [bl_S, hi2_val _ h5, lo2_val]
      refine s_strR [UInt8.ofNat (q.length / 256), UInt8.ofNat (q.length % 256)] rfl rfl rfl rfl (Nat.le_refl 2) rfl ?_
      (refine run ?_; repeat intro b)
      refine s_pureO rfl rfl rfl (by rw [bl_S, bl_S]; unfold maxInt; simp only [List.length_cons, List.length_nil]; omega) ?_
      (refine run ?_; repeat intro b)
      refine s_pureO rfl rfl rfl (by rw [bl_S, bl_S, bl_S, bl_S]; unfold maxInt; simp only [List.length_cons, List.length_nil, List.length_append]; omega) ?_
      (refine run ?_; repeat intro b)
      have hpart : bl (mkB o) ++ bl (mkB (bl (mkB [UInt8.ofNat (q.length / 256), UInt8.ofNat (q.length % 256)]) ++ bl (mkB q))) = o ++ part q := rfl
      rw [hpart]
      refine s_if (decide (600 < o.length + 2 + q.length)) ?_ (fun h6 => ?_) (fun h6 => ?_)
      · refine congrArg (fun b => some (EV.v (.bool b))) ?_
        rw [decide_eq_decide, bl_S, List.length_append, part_length]; omega
      · obtain ⟨e1, e2⟩ := hbad (by simpa using h6)
        (refine run ?_; repeat intro b)
        rw [e1, e2]
        rfl
      · have h7 : ¬ 600 < o.length + 2 + q.length := by simpa using h6
        (refine run ?_; repeat intro b)
        rw [wrap_succ (by omega)]
        exact s_loopPq (k + 1, o ++ part q) 0 [] [0, 4, 7, 8, 9] [] ⟨hlt, hgo h7, by simp only [List.length_append, part_length]; omega⟩ (by simp only; omega) (Nat.min_le_left _ _) trivial rfl rfl rfl rfl rfl rfl rfl
  · have hge : k = l.length := by
      have : ¬ k < l.length := by simpa using h3
      omega
    subst hge
    rw [List.drop_length] at hp
    simp only [partsF] at hp
    (refine run ?_; repeat intro b)
    simp only [tupV, partsOut, partsOk, hp]
    have e : decide ((l.length : Int) ≤ 60) = decide (l.length ≤ 60) := by rw [decide_eq_decide]; omega
    rw [e]
end Go.Proofs.YthkkgphjjmhglaaGreatDoor
/-!
Package tag and its reference: the walks.
-/
namespace Go.Proofs.YthkkgphjjmhglaaGreatDoor
set_option linter.unusedVariables false
set_option linter.unusedSimpArgs false
open Go.TR
def tagN (key : Nat) (s : List UInt8) : Nat := markN (num key ++ s ++ num key)
def askSaid (name value : List UInt8) (n : Nat) : List UInt8 := num n ++ partsOut [name, value]
theorem put_two (a b : List UInt8) : putO [a, b] = partsOut [a, b] := by
  unfold putO partsOut
  rw [if_neg (by simp)]
  cases partsF [a, b] [] <;> rfl
theorem partsOut_len (l : List (List UInt8)) : (partsOut l).length ≤ 600 := by
  unfold partsOut
  cases h : partsF l [] with
  | none => simp
  | some o => exact partsF_le l [] o (by simp) h
attribute [local irreducible] vc vcOps seqK blockK loopK retK retG retI loopV Plain CallOK CallIn bodied VS vcAny dropG backK brK loopPK IntKind.wrap
set_option maxRecDepth 100000
/-- What Ask answers. -/
def askOf (key : Nat) (name value : List UInt8) (n : Nat) : Ask := if askFault name value = 0 then ⟨name, value, n, tagN key (askSaid name value n)⟩ else Ask.none
def tagHolds (key : Nat) (a : Ask) : Bool := (askFault a.name a.value == 0) && (((tagN key (askSaid a.name a.value a.n) : Nat) : Int) == (a.tag : Nat))
end Go.Proofs.YthkkgphjjmhglaaGreatDoor
/-!
Proofs of a name, plainly.
-/
namespace Go.Proofs.YthkkgphjjmhglaaGreatDoor
set_option linter.unusedVariables false
set_option linter.unusedSimpArgs false
open Go.TR
@[reducible] def mu (n : Nat) : Value := u64 (n : Nat)
/-- A proof of what a name stands for. -/
structure Prf where
  name : List UInt8
  ents : List Entry
  sides : List Nat
structure Prf.wf (p : Prf) : Prop where
  name : p.name.length ≤ 4611686018427387904
  ents : p.ents.length ≤ 4611686018427387904
  each : ∀ x ∈ p.ents, x.wf
  sides : p.sides.length ≤ 4611686018427387904
  side : ∀ x ∈ p.sides, x < 18446744073709551616
/-- Where a proof lies. -/
structure Lay where
  e : Option Addr
  ce : Nat
  s : Option Addr
  cs : Nat
@[reducible] def Prf.v (p : Prf) (a : Lay) : Value := .agg #[S p.name, .slice a.e p.ents.length a.ce, .slice a.s p.sides.length a.cs]
structure Prf.at (F : Hp) (p : Prf) (a : Lay) : Prop where
  ents : Frow F a.e (p.ents.flatMap Entry.row)
  sides : Frow F a.s (p.sides.map mu)
theorem Prf.at_sub {F F' : Hp} (h : F.sub F') {p : Prf} {a : Lay} (k : Prf.at F p a) : Prf.at F' p a := ⟨frow_sub h k.ents, frow_sub h k.sides⟩
/-- What is wrong with a proof. -/
def prfFault (p : Prf) : Int :=
  if goodName p.name = true then
    if bookFault p.ents ≠ 0 then bookFault p.ents
    else if (p.ents.any fun x => !decide (pathN x.name = pathN p.name)) = true then 3
    else if p.sides.length ≠ 16 then 3
    else if (p.sides.any fun m => decide (MM ≤ m)) = true then 3
    else 0
  else 3
theorem bookG_cases : ∀ {p : Option (List UInt8)} {l : List Entry}, bookG p l = 0 ∨ bookG p l = 2 ∨ bookG p l = 3
  | _, [] => .inl rfl
  | p, x :: t => by
    unfold bookG
    split
    · unfold askFault
      split
      · split <;> simp
      · simp
    · split
      · simp
      · exact bookG_cases
theorem bookFault_cases (l : List Entry) : bookFault l = 0 ∨ bookFault l = 2 ∨ bookFault l = 3 := by
  unfold bookFault
  split
  · simp
  · exact bookG_cases
theorem prfFault_zero {p : Prf} (h : prfFault p = 0) : goodName p.name = true ∧ bookFault p.ents = 0 ∧ (∀ x ∈ p.ents, pathN x.name = pathN p.name) ∧ p.sides.length = 16 ∧ ∀ m ∈ p.sides, m < MM := by
  unfold prfFault at h
  split at h
  · rename_i h1
    split at h
    · rename_i h2; exact absurd h h2
    · rename_i h2
      split at h
      · cases h
      · rename_i h3
        split at h
        · cases h
        · rename_i h4
          split at h
          · cases h
          · rename_i h5
            refine ⟨h1, by simpa using h2, fun x hx => ?_, by omega, fun m hm => ?_⟩
            · simp only [List.any_eq_true, not_exists, not_and, Bool.not_eq_true', Bool.not_eq_false, decide_eq_false_iff_not, Decidable.not_not] at h3
              exact h3 x hx
            · simp only [List.any_eq_true, not_exists, not_and, decide_eq_true_eq] at h5
              have := h5 m hm
              omega
  · cases h
def entE (x : Entry) : List UInt8 := partsOut [x.name, x.value]
/-- What is said of entries of one path. -/
def leafN (l : List Entry) : List UInt8 := if l.length = 0 then [0] else 1 :: l.flatMap entE
theorem leafN_len : ∀ l : List Entry, (l.flatMap entE).length ≤ 600 * l.length
  | [] => by simp
  | x :: t => by
    have := leafN_len t
    have := partsOut_len [x.name, x.value]
    have e : entE x = partsOut [x.name, x.value] := rfl
    rw [List.flatMap_cons, List.length_append, List.length_cons, e]
    omega
def noneM : Nat := markN [0]
/-- What is said of two marks, in a book. -/
def nodeN (a b : Nat) : List UInt8 := if a = noneM ∧ b = noneM then [0] else two 2 a b
theorem nodeN_len (a b : Nat) : (nodeN a b).length ≤ 17 := by
  unfold nodeN
  split
  · decide
  · rw [two_length]; exact Nat.le_refl _
/-- What is said on the way up. -/
def sayF (p : Prf) : Nat → List UInt8
  | 0 => leafN p.ents
  | k + 1 => if (pathN p.name).getD (15 - k) 0 = 48 then nodeN (markN (sayF p k)) (p.sides.getD k 0) else nodeN (p.sides.getD k 0) (markN (sayF p k))
theorem sayF_len {p : Prf} (h : p.ents.length ≤ 24) : ∀ k, (sayF p k).length ≤ 20000
  | 0 => by
    show (leafN p.ents).length ≤ 20000
    have := leafN_len p.ents
    unfold leafN
    split
    · decide
    · rw [List.length_cons]; omega
  | k + 1 => by
    have h1 := nodeN_len (markN (sayF p k)) (p.sides.getD k 0)
    have h2 := nodeN_len (p.sides.getD k 0) (markN (sayF p k))
    unfold sayF
    split <;> omega
def sayL (p : Prf) (k : Nat) : List (List UInt8) := (List.range k).map (sayF p)
theorem sayL_succ (p : Prf) (k : Nat) : sayL p (k + 1) = sayL p k ++ [sayF p k] := by
  unfold sayL
  rw [List.range_succ, List.map_append]
  rfl
theorem sayL_len (p : Prf) (k : Nat) : (sayL p k).length = k := by unfold sayL; rw [List.length_map, List.length_range]
def saidO (p : Prf) : List (List UInt8) := if prfFault p = 0 then sayL p 17 else []
/-- The mark on top of a proof. -/
def prfRoot (p : Prf) : Nat := markN (sayF p 16)
def rootO (p : Prf) : Nat := if prfFault p = 0 then prfRoot p else 0
/-- A step of the way is a nought or a one. -/
theorem path_bit (s : List UInt8) (k : Nat) (hk : k < 16) : (pathN s).getD k 0 = 48 ∨ (pathN s).getD k 0 = 49 := by
  have h : (pathN s).getD k 0 = bitB (markN s / 2 ^ (15 - k)) := by
    unfold pathN
    rw [List.getD_eq_getElem?_getD, List.getElem?_eq_getElem (by rw [bitsN_len]; exact hk), bitsN_get 16 _ k hk]
    rfl
  rw [h]
  unfold bitB
  rcases Nat.mod_two_eq_zero_or_one (markN s / 2 ^ (15 - k)) with h | h <;> rw [h] <;> decide
end Go.Proofs.YthkkgphjjmhglaaGreatDoor
/-!
slices.IndexFunc and ContainsFunc at the element types of one cell.
-/
namespace Go.Proofs.YthkkgphjjmhglaaGreatDoor
set_option linter.unusedVariables false
set_option linter.unusedSimpArgs false
open Go.TR
/-- Where the first element is that is told apart; -1. -/
def idxP {α : Type} (q : α → Bool) (l : List α) : Int := if l.any q = true then ((l.findIdx q : Nat) : Int) else -1
theorem idxP_none {α : Type} {q : α → Bool} {l : List α} (h : l.any q = false) : idxP q l = -1 := by unfold idxP; rw [h]; rfl
theorem idxP_found {α : Type} {q : α → Bool} {l : List α} {k : Nat} (hk : k < l.length) (hany : (l.take k).any q = false) (h : q l[k] = true) : idxP q l = (k : Int) := by
  have h1 : l.any q = true := List.any_eq_true.2 ⟨l[k], List.getElem_mem hk, h⟩
  have h2 : l.findIdx q = k := by
    rw [List.findIdx_eq hk]
    refine ⟨h, fun j hj => ?_⟩
    rw [List.any_eq_false] at hany
    have hm : l[j] ∈ l.take k := by
      have : (l.take k)[j]'(by rw [List.length_take]; omega) = l[j] := List.getElem_take
      rw [← this]
      exact List.getElem_mem _
    simpa using hany _ hm
  unfold idxP
  rw [if_pos h1, h2]
theorem idxP_neg {α : Type} (q : α → Bool) (l : List α) : decide (0 ≤ idxP q l) = l.any q := by
  unfold idxP
  cases h : l.any q with
  | true => simp
  | false => simp
attribute [local irreducible] vc vcOps seqK blockK loopK retK retG retI loopV Plain CallOK CallIn bodied VS vcAny dropG backK brK loopPK IntKind.wrap
set_option maxRecDepth 100000
end Go.Proofs.YthkkgphjjmhglaaGreatDoor
