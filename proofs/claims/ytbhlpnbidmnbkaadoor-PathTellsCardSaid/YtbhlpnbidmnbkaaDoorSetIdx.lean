/-
A path's bits, and how far two paths go alike, plainly.
-/
import Derived.Test.YtbhlpnbidmnbkaaDoorBase
/-!
A path's bits, and how far two paths go alike, plainly.
-/
namespace Go.Proofs.YtbhlpnbidmnbkaaDoor
set_option linter.unusedVariables false
set_option linter.unusedSimpArgs false
open Go.TR
/-- How far two texts are alike. -/
def commonN : List UInt8 → List UInt8 → Nat
  | a :: s, b :: t => if a = b then commonN s t + 1 else 0
  | _, _ => 0
theorem commonN_nil (q : List UInt8) : commonN [] q = 0 := by cases q <;> rfl
theorem commonN_nil2 (p : List UInt8) : commonN p [] = 0 := by cases p <;> rfl
theorem commonN_le : ∀ p q : List UInt8, commonN p q ≤ p.length ∧ commonN p q ≤ q.length
  | [], q => by rw [commonN_nil]; exact ⟨Nat.zero_le _, Nat.zero_le _⟩
  | p, [] => by rw [commonN_nil2]; exact ⟨Nat.zero_le _, Nat.zero_le _⟩
  | a :: s, b :: t => by
    have h := commonN_le s t
    unfold commonN
    simp only [List.length_cons]
    split <;> omega
theorem common_stop : ∀ {p q : List UInt8} {n : Nat}, n ≤ p.length → n ≤ q.length → p.take n = q.take n → (n = p.length ∨ n = q.length ∨ ∃ (h1 : n < p.length) (h2 : n < q.length), p[n] ≠ q[n]) → commonN p q = n
  | [], q, n, h1, _, _, _ => by rw [commonN_nil]; simp at h1; omega
  | p, [], n, _, h2, _, _ => by rw [commonN_nil2]; simp at h2; omega
  | a :: s, b :: t, 0, _, _, _, h => by
    rcases h with h | h | ⟨h1, h2, h⟩
    · simp at h
    · simp at h
    · unfold commonN
      exact if_neg (by simpa using h)
  | a :: s, b :: t, n + 1, h1, h2, ht, h => by
    simp only [List.take_succ_cons, List.cons.injEq] at ht
    obtain ⟨rfl, ht⟩ := ht
    unfold commonN
    rw [if_pos rfl, common_stop (by simpa using h1) (by simpa using h2) ht]
    rcases h with h | h | ⟨h1, h2, h⟩
    · exact .inl (by simpa using h)
    · exact .inr (.inl (by simpa using h))
    · exact .inr (.inr ⟨by simpa using h1, by simpa using h2, by simpa using h⟩)
theorem common_take : ∀ {p q : List UInt8}, p.take (commonN p q) = q.take (commonN p q)
  | [], q => by rw [commonN_nil]; rfl
  | p, [] => by rw [commonN_nil2]; simp
  | a :: s, b :: t => by
    unfold commonN
    split
    · rename_i h
      subst h
      rw [List.take_succ_cons, List.take_succ_cons, common_take]
    · rfl
theorem common_ne : ∀ {p q : List UInt8} {n : Nat} (h1 : n < p.length) (h2 : n < q.length), commonN p q = n → p[n] ≠ q[n]
  | a :: s, b :: t, 0, _, _, h => by
    unfold commonN at h
    split at h
    · omega
    · simpa
  | a :: s, b :: t, n + 1, h1, h2, h => by
    unfold commonN at h
    split at h
    · have := common_ne (p := s) (q := t) (n := n) (by simpa using h1) (by simpa using h2) (by omega)
      simpa using this
    · omega
/-- How far the first k bytes are alike, byte by byte. -/
theorem common_step {p q : List UInt8} {k : Nat} (h1 : k < p.length) (h2 : k < q.length) : min (commonN p q) (k + 1) = if min (commonN p q) k = k ∧ p[k] = q[k] then k + 1 else min (commonN p q) k := by
  by_cases hk : k < commonN p q
  · have e : p[k] = q[k] := by
      have := common_take (p := p) (q := q)
      have a1 : (p.take (commonN p q))[k]? = some p[k] := by rw [List.getElem?_take, if_pos hk, List.getElem?_eq_getElem h1]
      have a2 : (q.take (commonN p q))[k]? = some q[k] := by rw [List.getElem?_take, if_pos hk, List.getElem?_eq_getElem h2]
      rw [this, a2] at a1
      exact (Option.some.inj a1).symm
    rw [if_pos ⟨by omega, e⟩]
    omega
  · by_cases he : commonN p q = k
    · have := common_ne h1 h2 he
      rw [if_neg (fun h => this h.2)]
      omega
    · rw [if_neg (fun h => by omega)]
      omega
end Go.Proofs.YtbhlpnbidmnbkaaDoor
/-!
slices.IndexFunc and ContainsFunc at the element types of one cell.
-/
namespace Go.Proofs.YtbhlpnbidmnbkaaDoor
set_option linter.unusedVariables false
set_option linter.unusedSimpArgs false
open Go.TR
/-- Where the first element is that is told apart; -1. -/
def idxP {α : Type} (q : α → Bool) (l : List α) : Int := if l.any q = true then ((l.findIdx q : Nat) : Int) else -1
theorem idxP_none {α : Type} {q : α → Bool} {l : List α} (h : l.any q = false) : idxP q l = -1 := by unfold idxP; rw [h]; rfl
theorem idxP_found {α : Type} {q : α → Bool} {l : List α} {k : Nat} (hk : k < l.length) (hany : (l.take k).any q = false) (h : q l[k] = true) : idxP q l = (k : Int) := by
  have h1 : l.any q = true := List.any_eq_true.2 ⟨l[k], List.getElem_mem hk, h⟩
  have h2 : l.findIdx q = k := by
    rw [List.findIdx_eq hk]
    refine ⟨h, fun j hj => ?_⟩
    rw [List.any_eq_false] at hany
    have hm : l[j] ∈ l.take k := by
      have : (l.take k)[j]'(by rw [List.length_take]; omega) = l[j] := List.getElem_take
      rw [← this]
      exact List.getElem_mem _
    simpa using hany _ hm
  unfold idxP
  rw [if_pos h1, h2]
theorem idxP_neg {α : Type} (q : α → Bool) (l : List α) : decide (0 ≤ idxP q l) = l.any q := by
  unfold idxP
  cases h : l.any q with
  | true => simp
  | false => simp
attribute [local irreducible] vc vcOps seqK blockK loopK retK retG retI loopV Plain CallOK CallIn bodied VS vcAny dropG backK brK loopPK IntKind.wrap
set_option maxRecDepth 100000
/-- slices.IndexFunc, ContainsFunc: elements of one cell. -/
theorem strs_idx (q : (List UInt8) → Bool) (g : Nat) (lb : Array Value) (hb : bodied Tryd.prog g) (l : List (List UInt8)) {p : Option Addr} {c : Nat} {F : Hp} (hf : Frow F p (l.map S)) (hl : l.length ≤ 4611686018427387904) (hp : ∀ x ∈ l, Plain Tryd.prog F g (S x :: lb.toList) (.bool (q x))) :
    Plain Tryd.prog F 57 [.slice p l.length c, .func (.func g) #[] lb] (i64 (idxP q l)) := by
  refine plain_vc (N := 19) (rv := [.tmp 4]) tbok mixed Tryd.func57 rfl rfl rfl rfl rfl ?_
  (refine run ?_; repeat intro b)
  refine s_loopP (fun k : Nat => k ≤ l.length ∧ (l.take k).any q = false) (fun k => ⟨[(0, .v (.slice p l.length c)), (1, .v (.func (.func g) #[] lb)), (7, .v (i64 (l.length : Nat))), (8, .v (i64 (k : Nat)))], F, [], 0⟩) (fun k => l.length - k) 0 ⟨Nat.zero_le _, rfl⟩ (VS.keepN [0, 1, 7, 8] rfl rfl) ?_
  rintro k ⟨hk, hany⟩
  (refine run ?_; repeat intro b)
  refine s_if _ rfl (fun h => ?_) (fun h => ?_)
  · have hlt : k < l.length := by simpa using h
    (refine run ?_; repeat intro b)
    refine s_pureO rfl rfl rfl ⟨by omega, by omega, frow_some hf (j := k) (by simpa using hlt)⟩ ?_
    refine s_load (S l[k]) rfl rfl rfl rfl (by have := frow_get hf (j := k) (by simpa using hlt); simpa using this) ?_
    (refine run ?_; repeat intro b)
    refine s_plain _ rfl rfl (by rw [forceL_eq]; rfl) hb rfl (hp l[k] (List.getElem_mem hlt)) ?_
    (refine run ?_; repeat intro b)
    refine s_if _ rfl (fun h2 => ?_) (fun h2 => ?_)
    · (refine run ?_; repeat intro b)
      rw [idxP_found hlt hany h2]
      rfl
    · (refine run ?_; repeat intro b)
      rw [wrap_succ (by omega)]
      refine s_loopPn (k + 1) ⟨hlt, ?_⟩ (by omega) (VS.keepN [0, 1, 7, 8] rfl rfl)
      rw [List.take_succ_eq_append_getElem hlt, List.any_append, hany]
      simp [h2]
  · have hge : k = l.length := by
      have : ¬ k < l.length := by simpa using h
      omega
    subst hge
    rw [List.take_length] at hany
    (refine run ?_; repeat intro b)
    rw [idxP_none hany]
    rfl
theorem strs_has (q : (List UInt8) → Bool) (g : Nat) (lb : Array Value) (hb : bodied Tryd.prog g) (l : List (List UInt8)) {p : Option Addr} {c : Nat} {F : Hp} (hf : Frow F p (l.map S)) (hl : l.length ≤ 4611686018427387904) (hp : ∀ x ∈ l, Plain Tryd.prog F g (S x :: lb.toList) (.bool (q x))) :
    Plain Tryd.prog F 25 [.slice p l.length c, .func (.func g) #[] lb] (.bool (l.any q)) := by
  refine plain_vc (N := 9) (rv := [.tmp 4]) tbok mixed Tryd.func25 rfl rfl rfl rfl rfl ?_
  (refine run ?_; repeat intro b)
  refine s_plain _ rfl rfl rfl bd57 rfl (strs_idx q g lb hb l hf hl hp) ?_
  (refine run ?_; repeat intro b)
  rw [idxP_neg]
  rfl
end Go.Proofs.YtbhlpnbidmnbkaaDoor
