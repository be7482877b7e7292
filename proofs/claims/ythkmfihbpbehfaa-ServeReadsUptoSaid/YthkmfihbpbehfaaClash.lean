/-
Texts that clash: plainly, and the walks.
-/
import Derived.Test.YthkmfihbpbehfaaProofRef
namespace Go.Proofs.Ythkmfihbpbehfaa
set_option linter.unusedVariables false
set_option linter.unusedSimpArgs false
open Go.TR
/-- From a place on downwards. -/
def clashK (a b : List (List UInt8)) : Nat → List UInt8 × List UInt8 × Int
  | 0 => ([], [], 5)
  | k + 1 => if a.getD k [] = b.getD k [] then clashK a b k else if markN (a.getD k []) = markN (b.getD k []) then (a.getD k [], b.getD k [], 0) else ([], [], 5)
def clashT (a b : List (List UInt8)) : List UInt8 × List UInt8 × Int :=
  if a.length = 0 ∨ a.length ≠ b.length then ([], [], 3) else if markN (a.getD (a.length - 1) []) ≠ markN (b.getD (b.length - 1) []) then ([], [], 8) else clashK a b a.length
theorem clashK_step (a b : List (List UInt8)) (k : Nat) : clashK a b (k + 1) = if a.getD k [] = b.getD k [] then clashK a b k else if markN (a.getD k []) = markN (b.getD k []) then (a.getD k [], b.getD k [], 0) else ([], [], 5) := rfl
@[reducible] def clV (x : List UInt8 × List UInt8 × Int) : Value := triple (S x.1) (S x.2.1) (i64 x.2.2)
theorem get_str {F : Hp} {p : Option Addr} {l : List (List UInt8)} (hf : Frow F p (l.map S)) {k : Nat} (h : k < l.length) : Pcell F (padd p k) = some (S (l.getD k [])) := by
  have := frow_get hf (j := k) (by rw [List.length_map]; exact h)
  rw [List.getElem_map] at this
  rw [List.getD_eq_getElem?_getD, List.getElem?_eq_getElem h]
  exact this
theorem getD_le {l : List (List UInt8)} (h : ∀ s ∈ l, s.length ≤ 4611686018427387904) (k : Nat) : (l.getD k []).length ≤ 4611686018427387904 := by
  rw [List.getD_eq_getElem?_getD]
  by_cases hk : k < l.length
  · rw [List.getElem?_eq_getElem hk]; exact h _ (List.getElem_mem hk)
  · rw [List.getElem?_eq_none (by omega)]; exact Nat.zero_le _
attribute [local irreducible] markN clashK pathN goodName sayF prfFault
attribute [local irreducible] vc vcOps seqK blockK loopK retK retG retI loopV Plain CallOK CallIn bodied VS vcAny dropG backK brK loopPK IntKind.wrap
set_option maxRecDepth 100000
set_option maxHeartbeats 4000000 in
theorem clashtexts_ok (a b : List (List UInt8)) (ha : a.length ≤ 4611686018427387904) (hb : b.length ≤ 4611686018427387904) (sa : ∀ s ∈ a, s.length ≤ 4611686018427387904) (sb : ∀ s ∈ b, s.length ≤ 4611686018427387904) {pa pb : Option Addr} {ca cb : Nat} {F : Hp} (hfa : Frow F pa (a.map S)) (hfb : Frow F pb (b.map S)) : Plain Try.prog F 45 [.slice pa a.length ca, .slice pb b.length cb] (clV (clashT a b)) := by
  refine plain_vc (N := 66) (rv := [.tmp 4, .tmp 5, .tmp 6]) tbok mixed Try.func45 rfl rfl rfl rfl rfl ?_
  (refine run ?_; repeat intro b)
  refine s_if (decide (a.length = 0 ∨ a.length ≠ b.length)) ?_ (fun h => ?_) (fun h => ?_)
  · refine congrArg (fun b => some (EV.v (.bool b))) ?_
    rw [bpick_or, Bool.eq_iff_iff]
    simp only [Bool.or_eq_true, beq_iff_eq, bne_iff_ne, decide_eq_true_eq]
    omega
  · have e : clashT a b = ([], [], 3) := by unfold clashT; rw [if_pos (of_decide_eq_true h)]
    rw [e]
    (refine run ?_; repeat intro b)
    rfl
  · have h' := of_decide_eq_false h
    have h0 : 0 < a.length := by omega
    have hl : a.length = b.length := by omega
    have e : clashT a b = if markN (a.getD (a.length - 1) []) ≠ markN (b.getD (b.length - 1) []) then ([], [], 8) else clashK a b a.length := by unfold clashT; rw [if_neg h']
    rw [e]
    have ew : IntKind.i64.wrap ((a.length : Int) - 1) = ((a.length - 1 : Nat) : Int) := by rw [wrap_i64 (by omega) (by omega)]; omega
    have g1 := get_str hfa (k := a.length - 1) (by omega)
    have g2 := get_str hfb (k := a.length - 1) (by omega)
    rw [← hl]
    (refine run ?_; repeat intro b)
    refine s_regiond (by kernel_rfl) ?_
    (refine run ?_; repeat intro b)
    rw [ew]
    refine s_pureO rfl rfl rfl ⟨by omega, by omega, frow_some hfa (j := a.length - 1) (by rw [List.length_map]; omega)⟩ ?_
    refine s_load (S (a.getD (a.length - 1) [])) rfl rfl rfl rfl (by rw [Int.toNat_natCast, Nat.mul_one]; exact g1) ?_
    (refine run ?_; repeat intro b)
    refine s_plain _ rfl rfl rfl bd103 rfl (markof_ok _ (getD_le sa _) F) ?_
    (refine run ?_; repeat intro b)
    rw [ew]
    refine s_pureO rfl rfl rfl ⟨by omega, by omega, frow_some hfb (j := a.length - 1) (by rw [List.length_map]; omega)⟩ ?_
    refine s_load (S (b.getD (a.length - 1) [])) rfl rfl rfl rfl (by rw [Int.toNat_natCast, Nat.mul_one]; exact g2) ?_
    (refine run ?_; repeat intro b)
    refine s_plain _ rfl rfl rfl bd103 rfl (markof_ok _ (getD_le sb _) F) ?_
    generalize markN (a.getD (a.length - 1) []) = x
    generalize markN (b.getD (a.length - 1) []) = y
    (refine run ?_; repeat intro b)
    refine s_if (decide (x ≠ y)) ?_ (fun h => ?_) (fun h => ?_)
    · refine congrArg (fun b => some (EV.v (.bool b))) ?_
      rw [Bool.eq_iff_iff]
      simp
      omega
    · rw [if_pos (of_decide_eq_true h)]
      (refine run ?_; repeat intro b)
      rfl
    · rw [if_neg (of_decide_eq_false h)]
      (refine run ?_; repeat intro b)
      have ew2 : IntKind.i64.wrap ((a.length : Int) - 1) = (a.length : Int) - 1 := wrap_i64 (by omega) (by omega)
      rw [ew2]
      refine s_loopP (fun k : Nat => k ≤ a.length ∧ clashK a b a.length = clashK a b k) (fun k => ⟨[(0, .v (.slice pa a.length ca)), (1, .v (.slice pb a.length cb)), (8, .v (i64 ((k : Int) - 1)))], F, [], 0⟩) (fun k => k) a.length ⟨Nat.le_refl _, rfl⟩ (VS.keepN [0, 1, 8] rfl rfl) ?_
      rintro k ⟨hk, hu⟩
      cases k with
      | zero =>
        have e5 : clashK a b 0 = ([], [], 5) := by unfold clashK; rfl
        rw [hu, e5]
        (refine run ?_; repeat intro b)
        rfl
      | succ j =>
        have ej : ((j + 1 : Nat) : Int) - 1 = (j : Int) := by omega
        have q1 := get_str hfa (k := j) (by omega)
        have q2 := get_str hfb (k := j) (by omega)
        have l1 := getD_le sa j
        have l2 := getD_le sb j
        rw [clashK_step] at hu
        rw [ej]
        generalize a.getD j [] = s at hu q1 l1
        generalize b.getD j [] = t at hu q2 l2
        (refine run ?_; repeat intro b)
        refine s_regiond (by kernel_rfl) ?_
        (refine run ?_; repeat intro b)
        refine s_pureO rfl rfl rfl ⟨by omega, by omega, frow_some hfa (j := j) (by rw [List.length_map]; omega)⟩ ?_
        refine s_load (S s) rfl rfl rfl rfl (by rw [Int.toNat_natCast, Nat.mul_one]; exact q1) ?_
        (refine run ?_; repeat intro b)
        refine s_pureO rfl rfl rfl ⟨by omega, by omega, frow_some hfb (j := j) (by rw [List.length_map]; omega)⟩ ?_
        refine s_load (S t) rfl rfl rfl rfl (by rw [Int.toNat_natCast, Nat.mul_one]; exact q2) ?_
        (refine run ?_; repeat intro b)
        refine s_if (decide (s = t)) rfl (fun h => ?_) (fun h => ?_)
        · rw [if_pos (of_decide_eq_true h)] at hu
          (refine run ?_; repeat intro b)
          have ew3 : IntKind.i64.wrap ((j : Int) - 1) = (j : Int) - 1 := wrap_i64 (by omega) (by omega)
          rw [ew3]
          exact s_loopPn j ⟨by omega, hu⟩ (by omega) (VS.keepN [0, 1, 8] rfl rfl)
        · rw [if_neg (of_decide_eq_false h)] at hu
          (refine run ?_; repeat intro b)
          refine s_regiond (by kernel_rfl) ?_
          (refine run ?_; repeat intro b)
          refine s_pureO rfl rfl rfl ⟨by omega, by omega, frow_some hfa (j := j) (by rw [List.length_map]; omega)⟩ ?_
          refine s_load (S s) rfl rfl rfl rfl (by rw [Int.toNat_natCast, Nat.mul_one]; exact q1) ?_
          (refine run ?_; repeat intro b)
          refine s_pureO rfl rfl rfl ⟨by omega, by omega, frow_some hfb (j := j) (by rw [List.length_map]; omega)⟩ ?_
          refine s_load (S t) rfl rfl rfl rfl (by rw [Int.toNat_natCast, Nat.mul_one]; exact q2) ?_
          (refine run ?_; repeat intro b)
          refine s_plain _ rfl rfl rfl bd104 rfl (alike_ok s t l1 l2 F) ?_
          have hne : (!decide (s = t)) = true := by simpa using h
          rw [hne]
          generalize markN s = x at hu
          generalize markN t = y at hu
          (refine run ?_; repeat intro b)
          refine s_if (decide (x = y)) ?_ (fun h => ?_) (fun h => ?_)
          · refine congrArg (fun b => some (EV.v (.bool b))) ?_
            rw [Bool.eq_iff_iff]
            simp
            omega
          · rw [if_pos (of_decide_eq_true h)] at hu
            rw [hu]
            (refine run ?_; repeat intro b)
            refine s_regiond (by kernel_rfl) ?_
            (refine run ?_; repeat intro b)
            refine s_pureO rfl rfl rfl ⟨by omega, by omega, frow_some hfa (j := j) (by rw [List.length_map]; omega)⟩ ?_
            refine s_load (S s) rfl rfl rfl rfl (by rw [Int.toNat_natCast, Nat.mul_one]; exact q1) ?_
            (refine run ?_; repeat intro b)
            refine s_pureO rfl rfl rfl ⟨by omega, by omega, frow_some hfb (j := j) (by rw [List.length_map]; omega)⟩ ?_
            refine s_load (S t) rfl rfl rfl rfl (by rw [Int.toNat_natCast, Nat.mul_one]; exact q2) ?_
            (refine run ?_; repeat intro b)
            rfl
          · rw [if_neg (of_decide_eq_false h)] at hu
            rw [hu]
            (refine run ?_; repeat intro b)
            rfl
set_option maxHeartbeats 4000000 in
theorem refclash_ok (a b : List (List UInt8)) (ha : a.length ≤ 4611686018427387904) (hb : b.length ≤ 4611686018427387904) (sa : ∀ s ∈ a, s.length ≤ 4611686018427387904) (sb : ∀ s ∈ b, s.length ≤ 4611686018427387904) {pa pb : Option Addr} {ca cb : Nat} {F : Hp} (hfa : Frow F pa (a.map S)) (hfb : Frow F pb (b.map S)) : Plain Try.prog F 50 [.slice pa a.length ca, .slice pb b.length cb] (clV (clashT a b)) := by
  refine plain_vc (N := 70) (rv := [.tmp 4, .tmp 5, .tmp 6]) tbok mixed Try.func50 rfl rfl rfl rfl rfl ?_
  (refine run ?_; repeat intro b)
  refine s_if (decide (a.length = 0 ∨ a.length ≠ b.length)) ?_ (fun h => ?_) (fun h => ?_)
  · refine congrArg (fun b => some (EV.v (.bool b))) ?_
    rw [bpick_or, Bool.eq_iff_iff]
    simp only [Bool.or_eq_true, beq_iff_eq, bne_iff_ne, decide_eq_true_eq]
    omega
  · have e : clashT a b = ([], [], 3) := by unfold clashT; rw [if_pos (of_decide_eq_true h)]
    rw [e]
    (refine run ?_; repeat intro b)
    rfl
  · have h' := of_decide_eq_false h
    have h0 : 0 < a.length := by omega
    have hl : a.length = b.length := by omega
    have e : clashT a b = if markN (a.getD (a.length - 1) []) ≠ markN (b.getD (b.length - 1) []) then ([], [], 8) else clashK a b a.length := by unfold clashT; rw [if_neg h']
    rw [e]
    have ew : IntKind.i64.wrap ((a.length : Int) - 1) = ((a.length - 1 : Nat) : Int) := by rw [wrap_i64 (by omega) (by omega)]; omega
    have g1 := get_str hfa (k := a.length - 1) (by omega)
    have g2 := get_str hfb (k := a.length - 1) (by omega)
    rw [← hl]
    (refine run ?_; repeat intro b)
    refine s_regiond (by kernel_rfl) ?_
    (refine run ?_; repeat intro b)
    rw [ew]
    refine s_pureO rfl rfl rfl ⟨by omega, by omega, frow_some hfa (j := a.length - 1) (by rw [List.length_map]; omega)⟩ ?_
    refine s_load (S (a.getD (a.length - 1) [])) rfl rfl rfl rfl (by rw [Int.toNat_natCast, Nat.mul_one]; exact g1) ?_
    (refine run ?_; repeat intro b)
    refine s_plain _ rfl rfl rfl bd89 rfl (refmark_ok _ (getD_le sa _) F) ?_
    (refine run ?_; repeat intro b)
    rw [ew]
    refine s_pureO rfl rfl rfl ⟨by omega, by omega, frow_some hfb (j := a.length - 1) (by rw [List.length_map]; omega)⟩ ?_
    refine s_load (S (b.getD (a.length - 1) [])) rfl rfl rfl rfl (by rw [Int.toNat_natCast, Nat.mul_one]; exact g2) ?_
    (refine run ?_; repeat intro b)
    refine s_plain _ rfl rfl rfl bd89 rfl (refmark_ok _ (getD_le sb _) F) ?_
    generalize markN (a.getD (a.length - 1) []) = x
    generalize markN (b.getD (a.length - 1) []) = y
    (refine run ?_; repeat intro b)
    refine s_if (decide (x ≠ y)) ?_ (fun h => ?_) (fun h => ?_)
    · refine congrArg (fun b => some (EV.v (.bool b))) ?_
      rw [Bool.eq_iff_iff]
      simp
      omega
    · rw [if_pos (of_decide_eq_true h)]
      (refine run ?_; repeat intro b)
      rfl
    · rw [if_neg (of_decide_eq_false h)]
      (refine run ?_; repeat intro b)
      refine s_loopP (fun i : Nat => i ≤ a.length ∧ clashK a b a.length = clashK a b (a.length - i)) (fun i => ⟨[(0, .v (.slice pa a.length ca)), (1, .v (.slice pb a.length cb)), (7, .v (i64 (a.length : Nat))), (33, .v (i64 (a.length : Nat))), (34, .v (i64 (i : Nat)))], F, [], 0⟩) (fun i => a.length - i) 0 ⟨Nat.zero_le _, rfl⟩ (VS.keepN [0, 1, 7, 33, 34] rfl rfl) ?_
      rintro i ⟨hi, hu⟩
      by_cases hlt : i < a.length
      · obtain ⟨j, hj⟩ : ∃ j, j = a.length - 1 - i := ⟨_, rfl⟩
        have ej : IntKind.i64.wrap (((a.length - 1 : Nat) : Int) - (i : Int)) = (j : Int) := by rw [wrap_i64 (by omega) (by omega)]; omega
        have q1 := get_str hfa (k := j) (by omega)
        have q2 := get_str hfb (k := j) (by omega)
        have l1 := getD_le sa j
        have l2 := getD_le sb j
        have e1 : a.length - i = j + 1 := by omega
        have e2 : a.length - (i + 1) = j := by omega
        rw [e1, clashK_step] at hu
        generalize a.getD j [] = s at hu q1 l1
        generalize b.getD j [] = t at hu q2 l2
        (refine run ?_; repeat intro b)
        refine s_if true (by rw [← decide_eq_true (p := ((i : Nat) : Int) < ((a.length : Nat) : Int)) (by omega)]; rfl) (fun _ => ?_) (fun h => by cases h)
        (refine run ?_; repeat intro b)
        rw [ew, ej]
        refine s_regiond (by kernel_rfl) ?_
        (refine run ?_; repeat intro b)
        refine s_pureO rfl rfl rfl ⟨by omega, by omega, frow_some hfa (j := j) (by rw [List.length_map]; omega)⟩ ?_
        refine s_load (S s) rfl rfl rfl rfl (by rw [Int.toNat_natCast, Nat.mul_one]; exact q1) ?_
        (refine run ?_; repeat intro b)
        refine s_pureO rfl rfl rfl ⟨by omega, by omega, frow_some hfb (j := j) (by rw [List.length_map]; omega)⟩ ?_
        refine s_load (S t) rfl rfl rfl rfl (by rw [Int.toNat_natCast, Nat.mul_one]; exact q2) ?_
        (refine run ?_; repeat intro b)
        refine s_if (!decide (s = t)) rfl (fun h => ?_) (fun h => ?_)
        · rw [if_neg (by simpa using h)] at hu
          (refine run ?_; repeat intro b)
          refine s_regiond (by kernel_rfl) ?_
          (refine run ?_; repeat intro b)
          refine s_pureO rfl rfl rfl ⟨by omega, by omega, frow_some hfa (j := j) (by rw [List.length_map]; omega)⟩ ?_
          refine s_load (S s) rfl rfl rfl rfl (by rw [Int.toNat_natCast, Nat.mul_one]; exact q1) ?_
          (refine run ?_; repeat intro b)
          refine s_plain _ rfl rfl rfl bd89 rfl (refmark_ok s l1 F) ?_
          (refine run ?_; repeat intro b)
          refine s_pureO rfl rfl rfl ⟨by omega, by omega, frow_some hfb (j := j) (by rw [List.length_map]; omega)⟩ ?_
          refine s_load (S t) rfl rfl rfl rfl (by rw [Int.toNat_natCast, Nat.mul_one]; exact q2) ?_
          (refine run ?_; repeat intro b)
          refine s_plain _ rfl rfl rfl bd89 rfl (refmark_ok t l2 F) ?_
          generalize markN s = x at hu
          generalize markN t = y at hu
          (refine run ?_; repeat intro b)
          refine s_if (decide (x ≠ y)) ?_ (fun h => ?_) (fun h => ?_)
          · refine congrArg (fun b => some (EV.v (.bool b))) ?_
            rw [Bool.eq_iff_iff]
            simp
            omega
          · rw [if_neg (of_decide_eq_true h)] at hu
            rw [hu]
            (refine run ?_; repeat intro b)
            rfl
          · rw [if_pos (by simpa using h)] at hu
            rw [hu]
            (refine run ?_; repeat intro b)
            refine s_regiond (by kernel_rfl) ?_
            (refine run ?_; repeat intro b)
            refine s_pureO rfl rfl rfl ⟨by omega, by omega, frow_some hfa (j := j) (by rw [List.length_map]; omega)⟩ ?_
            refine s_load (S s) rfl rfl rfl rfl (by rw [Int.toNat_natCast, Nat.mul_one]; exact q1) ?_
            (refine run ?_; repeat intro b)
            refine s_pureO rfl rfl rfl ⟨by omega, by omega, frow_some hfb (j := j) (by rw [List.length_map]; omega)⟩ ?_
            refine s_load (S t) rfl rfl rfl rfl (by rw [Int.toNat_natCast, Nat.mul_one]; exact q2) ?_
            (refine run ?_; repeat intro b)
            rfl
        · rw [if_pos (by simpa using h)] at hu
          (refine run ?_; repeat intro b)
          rw [wrap_succ (by omega)]
          exact s_loopPn (i + 1) ⟨by omega, by rw [e2]; exact hu⟩ (by omega) (VS.keepN [0, 1, 7, 33, 34] rfl rfl)
      · have hge : i = a.length := by omega
        subst hge
        have e5 : clashK a b 0 = ([], [], 5) := by unfold clashK; rfl
        rw [Nat.sub_self, e5] at hu
        rw [hu]
        (refine run ?_; repeat intro b)
        refine s_if false (by rw [← decide_eq_false (p := ((a.length : Nat) : Int) < ((a.length : Nat) : Int)) (by omega)]; rfl) (fun h => by cases h) (fun _ => ?_)
        (refine run ?_; repeat intro b)
        rfl
def refclE (p q : Prf) : Int := if prfFault p ≠ 0 then prfFault p else if prfFault q ≠ 0 then prfFault q else if p.name ≠ q.name then 3 else 0
def clashP (p q : Prf) : List UInt8 × List UInt8 × Int := if refclE p q ≠ 0 then ([], [], refclE p q) else clashT (sayL p 17) (sayL q 17)
theorem sayL_le {p : Prf} (h : prfFault p = 0) (n : Nat) : ∀ s ∈ sayL p n, s.length ≤ 4611686018427387904 := fun s hs => by
  obtain ⟨_, z2, _⟩ := prfFault_zero h
  obtain ⟨y1, _⟩ := bookFault_zero z2
  unfold sayL at hs
  obtain ⟨k, _, rfl⟩ := List.mem_map.1 hs
  have := sayF_len y1 k
  omega
theorem clash17_ok {p q : Prf} (hp : prfFault p = 0) (hq : prfFault q = 0) {pa pb : Option Addr} {ca cb : Nat} {F : Hp} (hfa : Frow F pa ((sayL p 17).map S)) (hfb : Frow F pb ((sayL q 17).map S)) : Plain Try.prog F 45 [.slice pa 17 ca, .slice pb 17 cb] (clV (clashT (sayL p 17) (sayL q 17))) := by
  have := clashtexts_ok (sayL p 17) (sayL q 17) (by rw [sayL_len]; decide) (by rw [sayL_len]; decide) (sayL_le hp 17) (sayL_le hq 17) (ca := ca) (cb := cb) hfa hfb
  rw [sayL_len, sayL_len] at this
  exact this
theorem refclash17_ok {p q : Prf} (hp : prfFault p = 0) (hq : prfFault q = 0) {pa pb : Option Addr} {ca cb : Nat} {F : Hp} (hfa : Frow F pa ((sayL p 17).map S)) (hfb : Frow F pb ((sayL q 17).map S)) : Plain Try.prog F 50 [.slice pa 17 ca, .slice pb 17 cb] (clV (clashT (sayL p 17) (sayL q 17))) := by
  have := refclash_ok (sayL p 17) (sayL q 17) (by rw [sayL_len]; decide) (by rw [sayL_len]; decide) (sayL_le hp 17) (sayL_le hq 17) (ca := ca) (cb := cb) hfa hfb
  rw [sayL_len, sayL_len] at this
  exact this
set_option maxHeartbeats 4000000 in
theorem clashproofs_ok (p q : Prf) (la lb : Lay) (hp : p.wf) (hq : q.wf) {F : Hp} (hf : p.at F la) (hg : q.at F lb) : Plain Try.prog F 46 [p.v la, q.v lb] (clV (clashP p q)) := by
  refine plain_vc (N := 37) (rv := [.tmp 4, .tmp 5, .tmp 6]) tbok mixed Try.func46 rfl rfl rfl rfl rfl ?_
  (refine run ?_; repeat intro b)
  refine s_callF rfl rfl rfl bd63 rfl (proofsaid_ok p la hp hf) ?_
  rintro _ F1 hF1 ⟨p1, c1, rfl, hc1, hg1⟩
  (refine run ?_; repeat intro b)
  refine s_if (decide (prfFault p ≠ 0)) ?_ (fun h => ?_) (fun h => ?_)
  · refine congrArg (fun b => some (EV.v (.bool b))) ?_
    rw [Bool.eq_iff_iff]; simp
  · have h1 := of_decide_eq_true h
    have e : clashP p q = ([], [], prfFault p) := by unfold clashP refclE; rw [if_pos h1, if_pos h1]
    rw [e]
    (refine run ?_; repeat intro b)
    rfl
  · have h1 : prfFault p = 0 := by simpa using h
    rw [h1]
    (refine run ?_; repeat intro b)
    refine s_callF rfl rfl rfl bd63 rfl (proofsaid_ok q lb hq (Prf.at_sub hF1 hg)) ?_
    rintro _ F2 hF2 ⟨p2, c2, rfl, hc2, hg2⟩
    (refine run ?_; repeat intro b)
    refine s_if (decide (prfFault q ≠ 0)) ?_ (fun h => ?_) (fun h => ?_)
    · refine congrArg (fun b => some (EV.v (.bool b))) ?_
      rw [Bool.eq_iff_iff]; simp
    · have h2 := of_decide_eq_true h
      have e : clashP p q = ([], [], prfFault q) := by
        have : refclE p q = prfFault q := by unfold refclE; rw [if_neg (by simpa using h1), if_pos h2]
        unfold clashP
        rw [this, if_pos h2]
      rw [e]
      (refine run ?_; repeat intro b)
      rfl
    · have h2 : prfFault q = 0 := by simpa using h
      rw [h2]
      have e1 : saidO p = sayL p 17 := by unfold saidO; rw [if_pos h1]
      have e2 : saidO q = sayL q 17 := by unfold saidO; rw [if_pos h2]
      rw [e1] at hg1
      rw [e2] at hg2
      rw [e1, e2, sayL_len, sayL_len]
      (refine run ?_; repeat intro b)
      refine s_if (!decide (p.name = q.name)) rfl (fun h => ?_) (fun h => ?_)
      · have e : clashP p q = ([], [], 3) := by
          have : refclE p q = 3 := by unfold refclE; rw [if_neg (by simpa using h1), if_neg (by simpa using h2), if_pos (by simpa using h)]
          unfold clashP
          rw [this]
          rfl
        rw [e]
        (refine run ?_; repeat intro b)
        rfl
      · have e : clashP p q = clashT (sayL p 17) (sayL q 17) := by
          have : refclE p q = 0 := by unfold refclE; rw [if_neg (by simpa using h1), if_neg (by simpa using h2), if_neg (by simpa using h)]
          unfold clashP
          rw [this]
          rfl
        rw [e]
        (refine run ?_; repeat intro b)
        refine s_plain _ rfl rfl rfl bd45 rfl (clash17_ok h1 h2 (frow_sub hF2 hg1) hg2) ?_
        (refine run ?_; repeat intro b)
        rfl
end Go.Proofs.Ythkmfihbpbehfaa
