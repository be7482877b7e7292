/-
What the reference says of a proof; the mark on top: the walks.
-/
import Derived.Test.YtbhlpnbidmnbkaaDoorProofSay
/-!
What the reference says of a proof; the mark on top: the walks.
-/
namespace Go.Proofs.YtbhlpnbidmnbkaaDoor
set_option linter.unusedVariables false
set_option linter.unusedSimpArgs false
open Go.TR
theorem sayF_step (p : Prf) (k : Nat) : sayF p (k + 1) = if (pathN p.name).getD (15 - k) 0 = 48 then nodeN (markN (sayF p k)) (p.sides.getD k 0) else nodeN (p.sides.getD k 0) (markN (sayF p k)) := rfl
attribute [local irreducible] ahead orderN pathN wayN goodName bookFault markN partsOut two sayF
attribute [local irreducible] vc vcOps seqK blockK loopK retK retG retI loopV Plain CallOK CallIn bodied VS vcAny dropG backK brK loopPK IntKind.wrap
set_option maxRecDepth 100000
theorem sayL_get (p : Prf) {k n : Nat} (h : k < n) : ((sayL p n).map S).map EV.v = ((sayL p n).map S).map EV.v ∧ (((sayL p n).map S).map EV.v)[k]? = some (EV.v (S (sayF p k))) := by
  refine ⟨rfl, ?_⟩
  rw [List.getElem?_map, List.getElem?_map]
  unfold sayL
  rw [List.getElem?_map, List.getElem?_range h]
  rfl
end Go.Proofs.YtbhlpnbidmnbkaaDoor
/-!
Texts that clash: plainly, and the walks.
-/
namespace Go.Proofs.YtbhlpnbidmnbkaaDoor
set_option linter.unusedVariables false
set_option linter.unusedSimpArgs false
open Go.TR
/-- From a place on downwards. -/
def clashK (a b : List (List UInt8)) : Nat → List UInt8 × List UInt8 × Int
  | 0 => ([], [], 5)
  | k + 1 => if a.getD k [] = b.getD k [] then clashK a b k else if markN (a.getD k []) = markN (b.getD k []) then (a.getD k [], b.getD k [], 0) else ([], [], 5)
def clashT (a b : List (List UInt8)) : List UInt8 × List UInt8 × Int :=
  if a.length = 0 ∨ a.length ≠ b.length then ([], [], 3) else if markN (a.getD (a.length - 1) []) ≠ markN (b.getD (b.length - 1) []) then ([], [], 8) else clashK a b a.length
theorem clashK_step (a b : List (List UInt8)) (k : Nat) : clashK a b (k + 1) = if a.getD k [] = b.getD k [] then clashK a b k else if markN (a.getD k []) = markN (b.getD k []) then (a.getD k [], b.getD k [], 0) else ([], [], 5) := rfl
@[reducible] def clV (x : List UInt8 × List UInt8 × Int) : Value := triple (S x.1) (S x.2.1) (i64 x.2.2)
theorem get_str {F : Hp} {p : Option Addr} {l : List (List UInt8)} (hf : Frow F p (l.map S)) {k : Nat} (h : k < l.length) : Pcell F (padd p k) = some (S (l.getD k [])) := by
  have := frow_get hf (j := k) (by rw [List.length_map]; exact h)
  rw [List.getElem_map] at this
  rw [List.getD_eq_getElem?_getD, List.getElem?_eq_getElem h]
  exact this
theorem getD_le {l : List (List UInt8)} (h : ∀ s ∈ l, s.length ≤ 4611686018427387904) (k : Nat) : (l.getD k []).length ≤ 4611686018427387904 := by
  rw [List.getD_eq_getElem?_getD]
  by_cases hk : k < l.length
  · rw [List.getElem?_eq_getElem hk]; exact h _ (List.getElem_mem hk)
  · rw [List.getElem?_eq_none (by omega)]; exact Nat.zero_le _
attribute [local irreducible] markN clashK pathN goodName sayF prfFault
attribute [local irreducible] vc vcOps seqK blockK loopK retK retG retI loopV Plain CallOK CallIn bodied VS vcAny dropG backK brK loopPK IntKind.wrap
set_option maxRecDepth 100000
def refclE (p q : Prf) : Int := if prfFault p ≠ 0 then prfFault p else if prfFault q ≠ 0 then prfFault q else if p.name ≠ q.name then 3 else 0
def clashP (p q : Prf) : List UInt8 × List UInt8 × Int := if refclE p q ≠ 0 then ([], [], refclE p q) else clashT (sayL p 17) (sayL q 17)
theorem sayL_le {p : Prf} (h : prfFault p = 0) (n : Nat) : ∀ s ∈ sayL p n, s.length ≤ 4611686018427387904 := fun s hs => by
  obtain ⟨_, z2, _⟩ := prfFault_zero h
  obtain ⟨y1, _⟩ := bookFault_zero z2
  unfold sayL at hs
  obtain ⟨k, _, rfl⟩ := List.mem_map.1 hs
  have := sayF_len y1 k
  omega
end Go.Proofs.YtbhlpnbidmnbkaaDoor
