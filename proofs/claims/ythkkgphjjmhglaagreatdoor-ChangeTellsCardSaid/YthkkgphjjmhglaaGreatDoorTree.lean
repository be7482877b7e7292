/-
Package tree: find, Get; the reference's Stands: the walks.
-/
import Derived.Test.YthkkgphjjmhglaaGreatDoorProof
import Derived.Test.YthkkgphjjmhglaaGreatDoorTreeMath
namespace Go.Proofs.YthkkgphjjmhglaaGreatDoor
set_option linter.unusedVariables false
set_option linter.unusedSimpArgs false
open Go.TR
def findE (l : List Entry) (n : List UInt8) : Int := if bookFault l ≠ 0 then bookFault l else if goodName n = true then 0 else 3
def findN (l : List Entry) (n : List UInt8) : Nat := if findE l n = 0 then lbN l n else 0
def findB (l : List Entry) (n : List UInt8) : Bool := decide (findE l n = 0) && hasN l n
theorem findE_zero {l : List Entry} {n : List UInt8} (h : findE l n = 0) : bookFault l = 0 ∧ goodName n = true := by
  unfold findE at h
  split at h
  · rename_i h1; exact absurd h h1
  · rename_i h1
    split at h
    · rename_i h2; exact ⟨by simpa using h1, h2⟩
    · cases h
theorem mid_val (i j : Nat) (h : i + j ≤ 100) : IntKind.i64.wrap ((IntKind.u64.wrap (IntKind.i64.wrap ((i : Int) + (j : Int)))).fdiv (2 ^ min (1 : Int).toNat IntKind.u64.bits)) = (((i + j) / 2 : Nat) : Int) := by
  have e1 : IntKind.i64.wrap ((i : Int) + (j : Int)) = ((i + j : Nat) : Int) := by rw [wrap_i64 (by omega) (by omega)]; omega
  have e2 : IntKind.u64.wrap ((i + j : Nat) : Int) = ((i + j : Nat) : Int) := by rw [u64w]; omega
  have e3 : (2 ^ min (1 : Int).toNat IntKind.u64.bits : Int) = ((2 : Nat) : Int) := rfl
  rw [e1, e2, e3, ← Int.ofNat_fdiv, wrap_i64 (by omega) (by omega)]
theorem lb_order {l : List Entry} (hb : Book l) (hg : ∀ x ∈ l, goodName x.name = true) {n : List UInt8} (hn : goodName n = true) {k : Nat} (hk : k < l.length) : decide (orderN l[k].name n < 0) = decide (k < lbN l n) := by
  rw [orderN_good (hg _ (List.getElem_mem hk)) hn]
  by_cases h : k < lbN l n
  · rw [if_pos (lb_lt h), decide_eq_true h]
    rfl
  · rw [if_neg (by rw [lb_ge hb (by omega) hk]; decide), decide_eq_false h]
    split <;> rfl
theorem lb_has {l : List Entry} (hb : Book l) (hg : ∀ x ∈ l, goodName x.name = true) {n : List UInt8} (hn : goodName n = true) : hasN l n = (decide (lbN l n < l.length) && (orderN (l.getD (lbN l n) ⟨[], []⟩).name n == 0)) := by
  rw [Bool.eq_iff_iff, has_iff hb, Bool.and_eq_true, decide_eq_true_eq, beq_iff_eq]
  constructor
  · rintro ⟨h, e⟩
    rw [List.getD_eq_getElem?_getD, List.getElem?_eq_getElem h]
    refine ⟨h, ?_⟩
    show orderN l[lbN l n].name n = 0
    rw [orderN_good (hg _ (List.getElem_mem h)) hn, e, if_neg (by rw [ahead_irr]; decide), if_pos rfl]
  · rintro ⟨h, e⟩
    rw [List.getD_eq_getElem?_getD, List.getElem?_eq_getElem h] at e
    refine ⟨h, ?_⟩
    have e : orderN l[lbN l n].name n = 0 := e
    rw [orderN_good (hg _ (List.getElem_mem h)) hn, if_neg (by rw [lb_ge hb (Nat.le_refl _) h]; decide)] at e
    split at e
    · assumption
    · cases e
attribute [local irreducible] ahead orderN pathN wayN goodName bookFault markN lbN hasN
attribute [local irreducible] vc vcOps seqK blockK loopK retK retG retI loopV Plain CallOK CallIn bodied VS vcAny dropG backK brK loopPK IntKind.wrap
set_option maxRecDepth 100000
theorem find1_ok (x : Entry) (n : List UInt8) (hx : x.wf) (hn : n.length ≤ 4611686018427387904) (F : Hp) : Plain Tryz.prog F 151 [x.v, S n] (i64 (orderN x.name n)) := by
  refine plain_vc (N := 9) (rv := [.tmp 4]) tbok mixed Tryz.func151 rfl rfl rfl rfl rfl ?_
  (refine run ?_; repeat intro b)
  refine s_plain _ rfl rfl rfl bd128 rfl (order_ok x.name n hx.name hn F) ?_
  (refine run ?_; repeat intro b)
  rfl
set_option maxHeartbeats 2000000 in
theorem bsearch_ok (l : List Entry) (n : List UInt8) (h0 : bookFault l = 0) (hn : goodName n = true) (hw : ∀ x ∈ l, x.wf) {p : Option Addr} {c : Nat} {F : Hp} (hf : Frow F p (l.flatMap Entry.row)) : Plain Tryz.prog F 150 [.slice p l.length c, S n, .func (.func 151) #[] #[]] (pair (i64 (lbN l n : Nat)) (.bool (hasN l n))) := by
  obtain ⟨h24, hgood, _⟩ := bookFault_zero h0
  have hb := book_of h0
  have hg : ∀ x ∈ l, goodName x.name = true := fun x hx => (hgood x hx).1
  have hlb := lb_le l n
  have hord := fun k hk => lb_order (k := k) hb hg hn hk
  have hhas := lb_has hb hg hn
  have hnl := goodName_len hn
  refine plain_vc (N := 49) (rv := [.tmp 6, .tmp 7]) tbok mixed Tryz.func150 rfl rfl rfl rfl rfl ?_
  (refine run ?_; repeat intro b)
  refine s_loopP (fun q : Nat × Nat => q.1 ≤ lbN l n ∧ lbN l n ≤ q.2 ∧ q.2 ≤ l.length) (fun q => ⟨[(0, .v (.slice p l.length c)), (1, .v (S n)), (2, .v (.func (.func 151) #[] #[])), (8, .v (i64 (l.length : Nat))), (9, .v (i64 (q.1 : Nat))), (10, .v (i64 (q.2 : Nat)))], F, [], 0⟩) (fun q => q.2 - q.1) (0, l.length) ⟨Nat.zero_le _, hlb, Nat.le_refl _⟩ (VS.keepN [0, 1, 2, 8, 9, 10] rfl rfl) ?_
  rintro ⟨i, j⟩ ⟨h1, h2, h3⟩
  dsimp only at h1 h2 h3 ⊢
  by_cases hlt : i < j
  · obtain ⟨k, hk⟩ : ∃ k, k = (i + j) / 2 := ⟨_, rfl⟩
    have hm := mid_val i j (by omega)
    rw [← hk] at hm
    have hkl : k < l.length := by omega
    obtain ⟨o1, o2⟩ := frow_agg entry_row (by decide) hf k hkl
    have wx := hw l[k] (List.getElem_mem hkl)
    have hok := hord k hkl
    generalize l[k] = x at o2 wx hok
    (refine run ?_; repeat intro b)
    refine s_if true (by rw [← decide_eq_true (p := ((i : Nat) : Int) < ((j : Nat) : Int)) (by omega)]; rfl) (fun _ => ?_) (fun h => by cases h)
    (refine run ?_; repeat intro b)
    rw [hm]
    refine s_pureO rfl rfl rfl ⟨by omega, by omega, frow_some hf (j := k * 2) (by rw [flat_len entry_row]; omega)⟩ ?_
    refine s_loadA x.row rfl rfl rfl rfl rfl (by rw [Int.toNat_natCast]; exact o1) (by rw [Int.toNat_natCast]; exact o2) ?_
    (refine run ?_; repeat intro b)
    refine s_plain _ rfl rfl rfl bd151 rfl (find1_ok x n wx (by omega) F) ?_
    (refine run ?_; repeat intro b)
    refine s_if (decide (k < lbN l n)) (congrArg (fun b => some (EV.v (.bool b))) hok) (fun h => ?_) (fun h => ?_)
    · have h := of_decide_eq_true h
      (refine run ?_; repeat intro b)
      rw [wrap_succ (by omega)]
      exact s_loopPn (k + 1, j) ⟨by simp only; omega, h2, h3⟩ (by simp only; omega) (VS.keepN [0, 1, 2, 8, 9, 10] rfl rfl)
    · have h := of_decide_eq_false h
      (refine run ?_; repeat intro b)
      exact s_loopPn (i, k) ⟨h1, by simp only; omega, by simp only; omega⟩ (by simp only; omega) (VS.keepN [0, 1, 2, 8, 9, 10] rfl rfl)
  · obtain rfl : i = j := by omega
    obtain rfl : i = lbN l n := by omega
    have hx : ∃ x : Entry, x.wf ∧ x = l.getD (lbN l n) ⟨[], []⟩ ∧ (lbN l n < l.length → (padd p (lbN l n * 2)).isSome = true ∧ ∀ i, i < 2 → Pcell F (padd (padd p (lbN l n * 2)) i) = x.row[i]?) := by
      by_cases h : lbN l n < l.length
      · obtain ⟨o1, o2⟩ := frow_agg entry_row (by decide) hf (lbN l n) h
        have e : l.getD (lbN l n) ⟨[], []⟩ = l[lbN l n] := by rw [List.getD_eq_getElem?_getD, List.getElem?_eq_getElem h]; rfl
        exact ⟨l[lbN l n], hw _ (List.getElem_mem h), e.symm, fun _ => ⟨o1, o2⟩⟩
      · refine ⟨⟨[], []⟩, ⟨Nat.zero_le _, Nat.zero_le _⟩, ?_, fun h' => absurd h' h⟩
        rw [List.getD_eq_getElem?_getD, List.getElem?_eq_none (by omega)]
        rfl
    obtain ⟨x, wx, hxe, hxg⟩ := hx
    rw [← hxe] at hhas
    have hdk : decide (((lbN l n : Nat) : Int) < ((l.length : Nat) : Int)) = true → lbN l n < l.length := fun h => by have := of_decide_eq_true h; omega
    generalize lbN l n = m at *
    (refine run ?_; repeat intro b)
    refine s_if false (by rw [← decide_eq_false (p := ((m : Nat) : Int) < ((m : Nat) : Int)) (by omega)]; rfl) (fun h => by cases h) (fun _ => ?_)
    (refine run ?_; repeat intro b)
    refine s_gpureO rfl rfl rfl rfl rfl (fun hg => ⟨by omega, by have := hdk hg.1; omega, frow_some hf (j := m * 2) (by rw [flat_len entry_row]; have := hdk hg.1; omega)⟩) ?_
    (refine run ?_; repeat intro b)
    refine s_gloadA x.row rfl rfl rfl rfl rfl rfl rfl (fun hg => by rw [Int.toNat_natCast]; exact hxg (hdk hg.1)) ?_
    (refine run ?_; repeat intro b)
    refine s_gplain _ rfl rfl rfl rfl bd151 rfl rfl (fun _ => find1_ok x n wx (by omega) F) ?_
    (refine run ?_; repeat intro b)
    rw [hhas]
    have e : decide (((m : Nat) : Int) < ((l.length : Nat) : Int)) = decide (m < l.length) := by rw [decide_eq_decide]; omega
    simp only [tupV, bpick_and, e]
theorem treefind_ok (l : List Entry) (n : List UInt8) (hl : l.length ≤ 4611686018427387904) (hw : ∀ x ∈ l, x.wf) (hn : n.length ≤ 4611686018427387904) {p : Option Addr} {c : Nat} {F : Hp} (hf : Frow F p (l.flatMap Entry.row)) : Plain Tryz.prog F 114 [.slice p l.length c, S n] (triple (i64 (findN l n : Nat)) (.bool (findB l n)) (i64 (findE l n))) := by
  refine plain_vc (N := 26) (rv := [.tmp 4, .tmp 5, .tmp 6]) tbok mixed Tryz.func114 rfl rfl rfl rfl rfl ?_
  (refine run ?_; repeat intro b)
  refine s_plain _ rfl rfl rfl bd82 rfl (treecheck_ok l hl hw hf) ?_
  (refine run ?_; repeat intro b)
  refine s_if (decide (bookFault l ≠ 0)) ?_ (fun h => ?_) (fun h => ?_)
  · refine congrArg (fun b => some (EV.v (.bool b))) ?_
    rw [Bool.eq_iff_iff]; simp
  · have h := of_decide_eq_true h
    have e : findE l n = bookFault l := by unfold findE; rw [if_pos h]
    have e2 : findN l n = 0 := by unfold findN; rw [e, if_neg h]
    have e3 : findB l n = false := by unfold findB; rw [e, decide_eq_false h]; rfl
    rw [e, e2, e3]
    (refine run ?_; repeat intro b)
    rfl
  · have h0 : bookFault l = 0 := by simpa using h
    have e : findE l n = if goodName n = true then 0 else 3 := by unfold findE; rw [if_neg (by simpa using h0)]
    (refine run ?_; repeat intro b)
    refine s_plain _ rfl rfl rfl bd129 rfl (name_ok n hn F) ?_
    cases hg : goodName n with
    | false =>
      rw [hg] at e
      have e1 : findE l n = 3 := e
      have e2 : findN l n = 0 := by unfold findN; rw [e1]; rfl
      have e3 : findB l n = false := by unfold findB; rw [e1]; rfl
      rw [e1, e2, e3]
      (refine run ?_; repeat intro b)
      rfl
    | true =>
      rw [hg] at e
      have e1 : findE l n = 0 := e
      have e2 : findN l n = lbN l n := by unfold findN; rw [e1]; rfl
      have e3 : findB l n = hasN l n := by unfold findB; rw [e1]; rfl
      rw [e1, e2, e3]
      (refine run ?_; repeat intro b)
      refine s_plain _ rfl rfl rfl bd150 rfl (bsearch_ok l n h0 hg hw hf) ?_
      (refine run ?_; repeat intro b)
      rfl
def getV (l : List Entry) (n : List UInt8) : List UInt8 := if findB l n = true then (l.getD (lbN l n) ⟨[], []⟩).value else []
theorem treeget_ok (l : List Entry) (n : List UInt8) (hl : l.length ≤ 4611686018427387904) (hw : ∀ x ∈ l, x.wf) (hn : n.length ≤ 4611686018427387904) {p : Option Addr} {c : Nat} {F : Hp} (hf : Frow F p (l.flatMap Entry.row)) : Plain Tryz.prog F 103 [.slice p l.length c, S n] (triple (S (getV l n)) (.bool (findB l n)) (i64 (findE l n))) := by
  refine plain_vc (N := 26) (rv := [.tmp 4, .tmp 5, .tmp 6]) tbok mixed Tryz.func103 rfl rfl rfl rfl rfl ?_
  (refine run ?_; repeat intro b)
  refine s_plain _ rfl rfl rfl bd114 rfl (treefind_ok l n hl hw hn hf) ?_
  cases hb : findB l n with
  | false =>
    have e : getV l n = [] := by unfold getV; rw [hb]; rfl
    rw [e]
    (refine run ?_; repeat intro b)
    rfl
  | true =>
    have h0 : findE l n = 0 := by
      unfold findB at hb
      simp at hb
      exact hb.1
    obtain ⟨h1, h2⟩ := findE_zero h0
    have hh : hasN l n = true := by
      unfold findB at hb
      simp at hb
      exact hb.2
    obtain ⟨hlt, _⟩ := (has_iff (book_of h1) n).1 hh
    have e : getV l n = (l.getD (lbN l n) ⟨[], []⟩).value := by unfold getV; rw [hb]; rfl
    have e2 : findN l n = lbN l n := by unfold findN; rw [h0]; rfl
    obtain ⟨o1, o2⟩ := frow_agg entry_row (by decide) hf (lbN l n) hlt
    rw [e, e2, h0, List.getD_eq_getElem?_getD, List.getElem?_eq_getElem hlt, Option.getD_some]
    generalize lbN l n = m at *
    generalize l[m] = x at o2
    (refine run ?_; repeat intro b)
    refine s_pureO rfl rfl rfl ⟨by omega, by omega, frow_some hf (j := m * 2) (by rw [flat_len entry_row]; omega)⟩ ?_
    (refine run ?_; repeat intro b)
    refine s_pureO rfl rfl rfl (by rw [Int.toNat_natCast]; exact o1) ?_
    refine s_load (S x.value) rfl rfl rfl rfl (by rw [Int.toNat_natCast]; exact o2 1 (by decide)) ?_
    (refine run ?_; repeat intro b)
    rfl
theorem refstands_ok (l : List Entry) (n : List UInt8) (hl : l.length ≤ 4611686018427387904) {p : Option Addr} {c : Nat} {F : Hp} (hf : Frow F p (l.flatMap Entry.row)) : Plain Tryz.prog F 11 [.slice p l.length c, S n] (pair (S ((standsO l n).getD [])) (.bool (standsO l n).isSome)) := by
  refine plain_vc (N := 21) (rv := [.tmp 4, .tmp 5]) tbok mixed Tryz.func11 rfl rfl rfl rfl rfl ?_
  (refine run ?_; repeat intro b)
  refine s_loopP (fun k : Nat => k ≤ l.length ∧ standsO l n = standsO (l.drop k) n) (fun k => ⟨[(1, .v (S n)), (8, .v (.slice p l.length c)), (9, .v (i64 (l.length : Nat))), (10, .v (i64 (k : Nat)))], F, [], 0⟩) (fun k => l.length - k) 0 ⟨Nat.zero_le _, rfl⟩ (VS.keepN [1, 8, 9, 10] rfl rfl) ?_
  rintro k ⟨hk, hu⟩
  by_cases hlt : k < l.length
  · obtain ⟨o1, o2⟩ := frow_agg entry_row (by decide) hf k hlt
    have hst : standsO (l.drop k) n = if l[k].name = n then some l[k].value else standsO (l.drop (k + 1)) n := by
      rw [List.drop_eq_getElem_cons hlt]
      unfold standsO
      rw [List.find?_cons]
      by_cases h : l[k].name = n <;> simp [h]
    rw [hst] at hu
    generalize l[k] = x at o2 hu
    (refine run ?_; repeat intro b)
    refine s_if true (by rw [← decide_eq_true (p := ((k : Nat) : Int) < ((l.length : Nat) : Int)) (by omega)]; rfl) (fun _ => ?_) (fun h => by cases h)
    (refine run ?_; repeat intro b)
    refine s_pureO rfl rfl rfl ⟨by omega, by omega, frow_some hf (j := k * 2) (by rw [flat_len entry_row]; omega)⟩ ?_
    refine s_loadA x.row rfl rfl rfl rfl rfl (by rw [Int.toNat_natCast]; exact o1) (by rw [Int.toNat_natCast]; exact o2) ?_
    (refine run ?_; repeat intro b)
    refine s_if (decide (x.name = n)) rfl (fun h => ?_) (fun h => ?_)
    · rw [if_pos (of_decide_eq_true h)] at hu
      rw [hu]
      (refine run ?_; repeat intro b)
      rfl
    · rw [if_neg (of_decide_eq_false h)] at hu
      (refine run ?_; repeat intro b)
      rw [wrap_succ (by omega)]
      exact s_loopPc (k + 1) [0] [1, 8, 9, 10] ⟨hlt, hu⟩ (by omega) rfl rfl rfl rfl trivial rfl
  · have hge : k = l.length := by omega
    subst hge
    rw [List.drop_length] at hu
    rw [hu]
    (refine run ?_; repeat intro b)
    refine s_if false (by rw [← decide_eq_false (p := ((l.length : Nat) : Int) < ((l.length : Nat) : Int)) (by omega)]; rfl) (fun h => by cases h) (fun _ => ?_)
    (refine run ?_; repeat intro b)
    rfl
end Go.Proofs.YthkkgphjjmhglaaGreatDoor
