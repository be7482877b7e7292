/-
The law of package roll's Root, In and IsIn: whatever is handed in, each answers what the reference answers.
-/
import Derived.Test.YthkmfihbpbehfaaRollMade
import Derived.Test.YthkmfihbpbehfaaEqs
namespace Go.Proofs.Ythkmfihbpbehfaa
set_option linter.unusedVariables false
set_option linter.unusedSimpArgs false
open Go.TR
theorem isInB_eq {r : Nat} {n i : Int} {text : List UInt8} {l : List Nat} (h : isInE n i text = 0) : isInB r n i text l = (rmOk n.toNat i.toNat l && ((rmN n.toNat i.toNat text l : Nat) : Int) == (r : Nat)) := by
  have hb : isInBad n i = false := by
    unfold isInE at h
    split at h
    · cases h
    · rename_i h1
      simpa using h1
  unfold isInBad at hb
  simp only [Bool.or_eq_false_iff, decide_eq_false_iff_not] at hb
  obtain ⟨g1, g2⟩ := madeF_rights n.toNat n.toNat i.toNat (oneN text) l (by omega) (Nat.le_refl _)
  unfold isInB
  rw [if_pos h]
  have e : (madeF n.toNat n.toNat i.toNat (oneN text) l).2 = rmOk n.toNat i.toNat l := by
    unfold rmOk
    rw [Bool.eq_iff_iff, g1, decide_eq_true_eq]
  rw [e]
  cases hok : rmOk n.toNat i.toNat l with
  | false => rfl
  | true =>
    have h2 : l.length = (rights n.toNat n.toNat i.toNat).length := of_decide_eq_true hok
    rw [g2 h2]
    unfold rmN
    rw [if_pos hok]
theorem eq_nus (l : List Nat) {n : Nat} {p1 p2 : Option Addr} {c1 c2 : Nat} {F : Hp} (hn : n = l.length) (h1 : Frow F p1 (l.map nu)) (h2 : Frow F p2 (l.map nu)) (hl : l.length ≤ 9223372036854775806) : Plain Try.prog F 43 [.slice p1 n c1, .slice p2 n c2] (.bool true) := by
  have e : l.map nu = (l.map (fun n : Nat => (n : Int))).map u64 := by rw [List.map_map]; rfl
  rw [e] at h1 h2
  have := eq_u64 (l.map (fun n : Nat => (n : Int))) (l.map (fun n : Nat => (n : Int))) h1 h2 (by rw [List.length_map]; exact hl) (c1 := c1) (c2 := c2)
  rw [List.length_map, ← hn] at this
  simpa using this
attribute [local irreducible] vc vcOps seqK blockK loopK retK retG retI loopV Plain CallOK CallIn bodied VS vcAny dropG backK brK loopPK IntKind.wrap
set_option maxRecDepth 100000
end Go.Proofs.Ythkmfihbpbehfaa
