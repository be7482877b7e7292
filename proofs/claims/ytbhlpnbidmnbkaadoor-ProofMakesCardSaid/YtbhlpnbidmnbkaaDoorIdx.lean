/-
slices.IndexFunc and ContainsFunc at the element types of one cell.
-/
import Derived.Test.YtbhlpnbidmnbkaaDoorBase
namespace Go.Proofs.YtbhlpnbidmnbkaaDoor
set_option linter.unusedVariables false
set_option linter.unusedSimpArgs false
open Go.TR
/-- Where the first element is that is told apart; -1. -/
def idxP {α : Type} (q : α → Bool) (l : List α) : Int := if l.any q = true then ((l.findIdx q : Nat) : Int) else -1
theorem idxP_none {α : Type} {q : α → Bool} {l : List α} (h : l.any q = false) : idxP q l = -1 := by unfold idxP; rw [h]; rfl
theorem idxP_found {α : Type} {q : α → Bool} {l : List α} {k : Nat} (hk : k < l.length) (hany : (l.take k).any q = false) (h : q l[k] = true) : idxP q l = (k : Int) := by
  have h1 : l.any q = true := List.any_eq_true.2 ⟨l[k], List.getElem_mem hk, h⟩
  have h2 : l.findIdx q = k := by
    rw [List.findIdx_eq hk]
    refine ⟨h, fun j hj => ?_⟩
    rw [List.any_eq_false] at hany
    have hm : l[j] ∈ l.take k := by
      have : (l.take k)[j]'(by rw [List.length_take]; omega) = l[j] := List.getElem_take
      rw [← this]
      exact List.getElem_mem _
    simpa using hany _ hm
  unfold idxP
  rw [if_pos h1, h2]
theorem idxP_neg {α : Type} (q : α → Bool) (l : List α) : decide (0 ≤ idxP q l) = l.any q := by
  unfold idxP
  cases h : l.any q with
  | true => simp
  | false => simp
attribute [local irreducible] vc vcOps seqK blockK loopK retK retG retI loopV Plain CallOK CallIn bodied VS vcAny dropG backK brK loopPK IntKind.wrap
set_option maxRecDepth 100000
/-- slices.IndexFunc, ContainsFunc: elements of one cell. -/
theorem strs_idx (q : (List UInt8) → Bool) (g : Nat) (lb : Array Value) (hb : bodied Tryd.prog g) (l : List (List UInt8)) {p : Option Addr} {c : Nat} {F : Hp} (hf : Frow F p (l.map S)) (hl : l.length ≤ 4611686018427387904) (hp : ∀ x ∈ l, Plain Tryd.prog F g (S x :: lb.toList) (.bool (q x))) :
    Plain Tryd.prog F 57 [.slice p l.length c, .func (.func g) #[] lb] (i64 (idxP q l)) := by
  refine plain_vc (N := 19) (rv := [.tmp 4]) tbok mixed Tryd.func57 rfl rfl rfl rfl rfl ?_
  (refine run ?_; repeat intro b)
  refine s_loopP (fun k : Nat => k ≤ l.length ∧ (l.take k).any q = false) (fun k => ⟨[(0, .v (.slice p l.length c)), (1, .v (.func (.func g) #[] lb)), (7, .v (i64 (l.length : Nat))), (8, .v (i64 (k : Nat)))], F, [], 0⟩) (fun k => l.length - k) 0 ⟨Nat.zero_le _, rfl⟩ (VS.keepN [0, 1, 7, 8] rfl rfl) ?_
  rintro k ⟨hk, hany⟩
  (refine run ?_; repeat intro b)
  refine s_if _ rfl (fun h => ?_) (fun h => ?_)
  · have hlt : k < l.length := by simpa using h
    (refine run ?_; repeat intro b)
    refine s_pureO rfl rfl rfl ⟨by omega, by omega, frow_some hf (j := k) (by simpa using hlt)⟩ ?_
    refine s_load (S l[k]) rfl rfl rfl rfl (by have := frow_get hf (j := k) (by simpa using hlt); simpa using this) ?_
    (refine run ?_; repeat intro b)
    refine s_plain _ rfl rfl (by rw [forceL_eq]; rfl) hb rfl (hp l[k] (List.getElem_mem hlt)) ?_
    (refine run ?_; repeat intro b)
    refine s_if _ rfl (fun h2 => ?_) (fun h2 => ?_)
    · (refine run ?_; repeat intro b)
      rw [idxP_found hlt hany h2]
      rfl
    · (refine run ?_; repeat intro b)
      rw [wrap_succ (by omega)]
      refine s_loopPn (k + 1) ⟨hlt, ?_⟩ (by omega) (VS.keepN [0, 1, 7, 8] rfl rfl)
      rw [List.take_succ_eq_append_getElem hlt, List.any_append, hany]
      simp [h2]
  · have hge : k = l.length := by
      have : ¬ k < l.length := by simpa using h
      omega
    subst hge
    rw [List.take_length] at hany
    (refine run ?_; repeat intro b)
    rw [idxP_none hany]
    rfl
theorem strs_has (q : (List UInt8) → Bool) (g : Nat) (lb : Array Value) (hb : bodied Tryd.prog g) (l : List (List UInt8)) {p : Option Addr} {c : Nat} {F : Hp} (hf : Frow F p (l.map S)) (hl : l.length ≤ 4611686018427387904) (hp : ∀ x ∈ l, Plain Tryd.prog F g (S x :: lb.toList) (.bool (q x))) :
    Plain Tryd.prog F 25 [.slice p l.length c, .func (.func g) #[] lb] (.bool (l.any q)) := by
  refine plain_vc (N := 9) (rv := [.tmp 4]) tbok mixed Tryd.func25 rfl rfl rfl rfl rfl ?_
  (refine run ?_; repeat intro b)
  refine s_plain _ rfl rfl rfl bd57 rfl (strs_idx q g lb hb l hf hl hp) ?_
  (refine run ?_; repeat intro b)
  rw [idxP_neg]
  rfl
end Go.Proofs.YtbhlpnbidmnbkaaDoor
