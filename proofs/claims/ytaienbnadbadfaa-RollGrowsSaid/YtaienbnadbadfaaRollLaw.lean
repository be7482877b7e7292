/-
The law of package roll's Root, In and IsIn: whatever is handed in, each answers what the reference answers.
-/
import Derived.Test.YtaienbnadbadfaaRollMade
import Derived.Test.YtaienbnadbadfaaEqs
namespace Go.Proofs.Ytaienbnadbadfaa
set_option linter.unusedVariables false
set_option linter.unusedSimpArgs false
open Go.TR
theorem isInB_eq {r : Nat} {n i : Int} {text : List UInt8} {l : List Nat} (h : isInE n i text = 0) : isInB r n i text l = (rmOk n.toNat i.toNat l && ((rmN n.toNat i.toNat text l : Nat) : Int) == (r : Nat)) := by
  have hb : isInBad n i = false := by
    unfold isInE at h
    split at h
    · cases h
    · rename_i h1
      simpa using h1
  unfold isInBad at hb
  simp only [Bool.or_eq_false_iff, decide_eq_false_iff_not] at hb
  obtain ⟨g1, g2⟩ := madeF_rights n.toNat n.toNat i.toNat (oneN text) l (by omega) (Nat.le_refl _)
  unfold isInB
  rw [if_pos h]
  have e : (madeF n.toNat n.toNat i.toNat (oneN text) l).2 = rmOk n.toNat i.toNat l := by
    unfold rmOk
    rw [Bool.eq_iff_iff, g1, decide_eq_true_eq]
  rw [e]
  cases hok : rmOk n.toNat i.toNat l with
  | false => rfl
  | true =>
    have h2 : l.length = (rights n.toNat n.toNat i.toNat).length := of_decide_eq_true hok
    rw [g2 h2]
    unfold rmN
    rw [if_pos hok]
theorem eq_nus (l : List Nat) {n : Nat} {p1 p2 : Option Addr} {c1 c2 : Nat} {F : Hp} (hn : n = l.length) (h1 : Frow F p1 (l.map nu)) (h2 : Frow F p2 (l.map nu)) (hl : l.length ≤ 9223372036854775806) : Plain Try.prog F 85 [.slice p1 n c1, .slice p2 n c2] (.bool true) := by
  have e : l.map nu = (l.map (fun n : Nat => (n : Int))).map u64 := by rw [List.map_map]; rfl
  rw [e] at h1 h2
  have := eq_u64 (l.map (fun n : Nat => (n : Int))) (l.map (fun n : Nat => (n : Int))) h1 h2 (by rw [List.length_map]; exact hl) (c1 := c1) (c2 := c2)
  rw [List.length_map, ← hn] at this
  simpa using this
attribute [local irreducible] vc vcOps seqK blockK loopK retK retG retI loopV Plain CallOK CallIn bodied VS vcAny dropG backK brK loopPK IntKind.wrap
set_option maxRecDepth 100000
set_option maxHeartbeats 4000000 in
theorem roll_tells (l : List (List UInt8)) (p : Option Addr) (c : Nat) (i : Int) (root : Nat) (n : Int) (text : List UInt8) (pl : List Nat) (pp : Option Addr) (pc : Nat) {F : Hp} (hl : l.length ≤ 4611686018427387904) (hc : l.length ≤ c) (hf : Frow F p (l.map S)) (hroot : root < 18446744073709551616) (ht : text.length ≤ 4611686018427387904)
    (hpl : pl.length ≤ 4611686018427387904) (hpc : pl.length ≤ pc) (hx : ∀ x ∈ pl, x < 18446744073709551616) (hpf : Frow F pp (pl.map nu)) :
    Plain Try.prog F 11 [.slice p l.length c, i64 i, u64 root, i64 n, S text, .slice pp pl.length pc] (.bool true) := by
  refine plain_vc (N := 165) (rv := [.tmp 12]) tbok mixed Try.func11 rfl rfl rfl rfl rfl ?_
  have hRoot := Root_ok l hf hl hc
  have hIn := In_ok l i hf hl hc
  have hRef : ∀ F', F.sub F' → Plain Try.prog F' 83 [.slice p l.length c] (i64 (rollFault l)) := fun F' h => reffault_roll_ok l (frow_sub h hf) hl
  obtain ⟨R, hR⟩ : ∃ R : Nat, R = (if rollFault l = 0 then rootN l else 0) := ⟨_, rfl⟩
  obtain ⟨E, hE⟩ : ∃ E, E = inE l i := ⟨_, rfl⟩
  obtain ⟨L, hL⟩ : ∃ L, L = inL l i := ⟨_, rfl⟩
  obtain ⟨B, hB⟩ : ∃ B, B = rollFault l := ⟨_, rfl⟩
  have hcase : (B = 0 ∧ E = 0) ∨ (B = 0 ∧ E = 4) ∨ (B = 2 ∧ E = 2) ∨ (B = 5 ∧ E = 5) := by
    rw [hB, hE]
    unfold inE
    rcases rollFault_cases l with h | h | h
    · rw [h]
      by_cases h2 : inBad l i = true
      · exact .inr (.inl ⟨rfl, by rw [if_pos rfl, if_pos h2]⟩)
      · exact .inl ⟨rfl, by rw [if_pos rfl, if_neg h2]⟩
    · rw [h]; exact .inr (.inr (.inl ⟨rfl, rfl⟩))
    · rw [h]; exact .inr (.inr (.inr ⟨rfl, rfl⟩))
  rw [← hR] at hRoot
  rw [← hB] at hRoot hRef
  rw [← hL, ← hE] at hIn
  (refine run ?_; repeat intro b)
  refine s_plain _ rfl rfl rfl bd80 rfl hRoot ?_
  (refine run ?_; repeat intro b)
  refine s_callF rfl rfl rfl bd81 rfl hIn ?_
  rintro _ F1 hF1 ⟨pa, ca, rfl, hga⟩
  (refine run ?_; repeat intro b)
  refine s_plain _ rfl rfl rfl bd82 rfl (isIn_ok root n i text pl hx hpl hpc (frow_sub hF1 hpf)) ?_
  (refine run ?_; repeat intro b)
  refine s_plain _ rfl rfl rfl bd83 rfl (hRef F1 hF1) ?_
  rcases hcase with ⟨rfl, rfl⟩ | ⟨rfl, rfl⟩ | ⟨rfl, rfl⟩ | ⟨rfl, rfl⟩
  · obtain ⟨h1, h2, h3⟩ := inE_zero hE.symm
    obtain ⟨h4, h5, h6⟩ := rollFault_zero h1
    rw [if_pos h1] at hR
    have hL2 : L = inN l i.toNat := by rw [hL]; unfold inL; rw [if_pos hE.symm]
    have hbad : inBad l i = false := by unfold inBad; simp; omega
    subst hR hL2
    (refine run ?_; repeat intro b)
    refine s_if false ?_ (fun h => by cases h) (fun _ => ?_)
    · refine congrArg (fun b => some (EV.v (.bool b))) ?_
      rw [← hbad, bpick_or]
      rfl
    (refine run ?_; repeat intro b)
    have hm := refrollmark_ok l (frow_sub hF1 hf) h5 h6 l.length 0 l.length (by omega) (by omega) (Nat.le_refl _) (c := c)
    rw [cut_all] at hm
    refine s_plain _ rfl rfl rfl bd84 rfl hm ?_
    (refine run ?_; repeat intro b)
    refine s_if false ?_ (fun h => by cases h) (fun _ => ?_)
    · refine congrArg (fun b => some (EV.v (.bool b))) ?_
      simp [bpick]
    (refine run ?_; repeat intro b)
    have hri := refrollin_ok l i.toNat (frow_sub hF1 hf) h5 h6 (by omega) (c := c)
    rw [Int.toNat_of_nonneg h2] at hri
    refine s_callF rfl rfl rfl bd86 rfl hri ?_
    rintro _ F2 hF2 ⟨pb, cb, rfl, hgb⟩
    (refine run ?_; repeat intro b)
    refine s_plain _ rfl rfl rfl bd85 rfl (eq_nus _ rfl (frow_sub hF2 hga) hgb (by have := inN_len (l := l) i.toNat; omega)) ?_
    (refine run ?_; repeat intro b)
    refine s_if (isInBad n i) ?_ (fun h => ?_) (fun h => ?_)
    · refine congrArg (fun b => some (EV.v (.bool b))) ?_
      rw [bpick_or, bpick_or, bpick_or]
      rfl
    · have e1 : isInE n i text = 4 := by unfold isInE; rw [if_pos h]
      have e2 : isInB root n i text pl = false := by unfold isInB; rw [e1]; rfl
      (refine run ?_; repeat intro b)
      rw [e1, e2]
      rfl
    · have hb : 1 ≤ n ∧ n ≤ 40 ∧ 0 ≤ i ∧ i < n := by
        unfold isInBad at h
        simp only [Bool.or_eq_false_iff, decide_eq_false_iff_not] at h
        omega
      (refine run ?_; repeat intro b)
      refine s_if (decide (40 < text.length)) ?_ (fun h2 => ?_) (fun h2 => ?_)
      · refine congrArg (fun b => some (EV.v (.bool b))) ?_
        rw [decide_eq_decide, bl_S]; omega
      · have h3 : 40 < text.length := of_decide_eq_true h2
        have e1 : isInE n i text = 2 := by unfold isInE; rw [h, if_neg (by decide), if_pos h3]
        have e2 : isInB root n i text pl = false := by unfold isInB; rw [e1]; rfl
        (refine run ?_; repeat intro b)
        rw [e1, e2]
        rfl
      · have h3 : ¬ 40 < text.length := of_decide_eq_false h2
        have e1 : isInE n i text = 0 := by unfold isInE; rw [h, if_neg (by decide), if_neg h3]
        have e2 := isInB_eq (r := root) (l := pl) e1
        have hr := refrollmade_ok n.toNat i.toNat text pl (by omega) (by omega) (by omega) (by omega) hx hpl (frow_sub (hF1.trans hF2) hpf) (c := pc)
        rw [Int.toNat_of_nonneg (by omega : 0 ≤ n), Int.toNat_of_nonneg hb.2.2.1] at hr
        (refine run ?_; repeat intro b)
        refine s_plain _ rfl rfl rfl bd87 rfl hr ?_
        (refine run ?_; repeat intro b)
        rw [e1, e2]
        simp only [tupV, bpick_and]
        simp
  · have h1 : rollFault l = 0 := hB.symm
    have hL2 : L = [] := by rw [hL]; unfold inL; rw [← hE]; rfl
    have hbad : inBad l i = true := by
      unfold inE at hE
      rw [if_pos h1] at hE
      by_cases h : inBad l i = true
      · exact h
      · rw [if_neg h] at hE; cases hE
    obtain ⟨h4, h5, h6⟩ := rollFault_zero h1
    rw [if_pos h1] at hR
    subst hR hL2
    (refine run ?_; repeat intro b)
    refine s_if true ?_ (fun _ => ?_) (fun h => by cases h)
    · refine congrArg (fun b => some (EV.v (.bool b))) ?_
      rw [bpick_or]
      exact hbad
    (refine run ?_; repeat intro b)
    have hm := refrollmark_ok l (frow_sub hF1 hf) h5 h6 l.length 0 l.length (by omega) (by omega) (Nat.le_refl _) (c := c)
    rw [cut_all] at hm
    refine s_plain _ rfl rfl rfl bd84 rfl hm ?_
    (refine run ?_; repeat intro b)
    refine s_if false ?_ (fun h => by cases h) (fun _ => ?_)
    · refine congrArg (fun b => some (EV.v (.bool b))) ?_
      simp [bpick]
    (refine run ?_; repeat intro b)
    refine s_if (isInBad n i) ?_ (fun h => ?_) (fun h => ?_)
    · refine congrArg (fun b => some (EV.v (.bool b))) ?_
      rw [bpick_or, bpick_or, bpick_or]
      rfl
    · have e1 : isInE n i text = 4 := by unfold isInE; rw [if_pos h]
      have e2 : isInB root n i text pl = false := by unfold isInB; rw [e1]; rfl
      (refine run ?_; repeat intro b)
      rw [e1, e2]
      rfl
    · have hb : 1 ≤ n ∧ n ≤ 40 ∧ 0 ≤ i ∧ i < n := by
        unfold isInBad at h
        simp only [Bool.or_eq_false_iff, decide_eq_false_iff_not] at h
        omega
      (refine run ?_; repeat intro b)
      refine s_if (decide (40 < text.length)) ?_ (fun h2 => ?_) (fun h2 => ?_)
      · refine congrArg (fun b => some (EV.v (.bool b))) ?_
        rw [decide_eq_decide, bl_S]; omega
      · have h3 : 40 < text.length := of_decide_eq_true h2
        have e1 : isInE n i text = 2 := by unfold isInE; rw [h, if_neg (by decide), if_pos h3]
        have e2 : isInB root n i text pl = false := by unfold isInB; rw [e1]; rfl
        (refine run ?_; repeat intro b)
        rw [e1, e2]
        rfl
      · have h3 : ¬ 40 < text.length := of_decide_eq_false h2
        have e1 : isInE n i text = 0 := by unfold isInE; rw [h, if_neg (by decide), if_neg h3]
        have e2 := isInB_eq (r := root) (l := pl) e1
        have hr := refrollmade_ok n.toNat i.toNat text pl (by omega) (by omega) (by omega) (by omega) hx hpl (frow_sub hF1 hpf) (c := pc)
        rw [Int.toNat_of_nonneg (by omega : 0 ≤ n), Int.toNat_of_nonneg hb.2.2.1] at hr
        (refine run ?_; repeat intro b)
        refine s_plain _ rfl rfl rfl bd87 rfl hr ?_
        (refine run ?_; repeat intro b)
        rw [e1, e2]
        simp only [tupV, bpick_and]
        simp
  · have h1 : rollFault l = 2 := hB.symm
    have hL2 : L = [] := by rw [hL]; unfold inL; rw [← hE]; rfl
    rw [if_neg (by rw [h1]; decide)] at hR
    subst hR hL2
    (refine run ?_; repeat intro b)
    refine s_if (isInBad n i) ?_ (fun h => ?_) (fun h => ?_)
    · refine congrArg (fun b => some (EV.v (.bool b))) ?_
      rw [bpick_or, bpick_or, bpick_or]
      rfl
    · have e1 : isInE n i text = 4 := by unfold isInE; rw [if_pos h]
      have e2 : isInB root n i text pl = false := by unfold isInB; rw [e1]; rfl
      (refine run ?_; repeat intro b)
      rw [e1, e2]
      rfl
    · have hb : 1 ≤ n ∧ n ≤ 40 ∧ 0 ≤ i ∧ i < n := by
        unfold isInBad at h
        simp only [Bool.or_eq_false_iff, decide_eq_false_iff_not] at h
        omega
      (refine run ?_; repeat intro b)
      refine s_if (decide (40 < text.length)) ?_ (fun h2 => ?_) (fun h2 => ?_)
      · refine congrArg (fun b => some (EV.v (.bool b))) ?_
        rw [decide_eq_decide, bl_S]; omega
      · have h3 : 40 < text.length := of_decide_eq_true h2
        have e1 : isInE n i text = 2 := by unfold isInE; rw [h, if_neg (by decide), if_pos h3]
        have e2 : isInB root n i text pl = false := by unfold isInB; rw [e1]; rfl
        (refine run ?_; repeat intro b)
        rw [e1, e2]
        rfl
      · have h3 : ¬ 40 < text.length := of_decide_eq_false h2
        have e1 : isInE n i text = 0 := by unfold isInE; rw [h, if_neg (by decide), if_neg h3]
        have e2 := isInB_eq (r := root) (l := pl) e1
        have hr := refrollmade_ok n.toNat i.toNat text pl (by omega) (by omega) (by omega) (by omega) hx hpl (frow_sub hF1 hpf) (c := pc)
        rw [Int.toNat_of_nonneg (by omega : 0 ≤ n), Int.toNat_of_nonneg hb.2.2.1] at hr
        (refine run ?_; repeat intro b)
        refine s_plain _ rfl rfl rfl bd87 rfl hr ?_
        (refine run ?_; repeat intro b)
        rw [e1, e2]
        simp only [tupV, bpick_and]
        simp
  · have h1 : rollFault l = 5 := hB.symm
    have hL2 : L = [] := by rw [hL]; unfold inL; rw [← hE]; rfl
    rw [if_neg (by rw [h1]; decide)] at hR
    subst hR hL2
    (refine run ?_; repeat intro b)
    refine s_if (isInBad n i) ?_ (fun h => ?_) (fun h => ?_)
    · refine congrArg (fun b => some (EV.v (.bool b))) ?_
      rw [bpick_or, bpick_or, bpick_or]
      rfl
    · have e1 : isInE n i text = 4 := by unfold isInE; rw [if_pos h]
      have e2 : isInB root n i text pl = false := by unfold isInB; rw [e1]; rfl
      (refine run ?_; repeat intro b)
      rw [e1, e2]
      rfl
    · have hb : 1 ≤ n ∧ n ≤ 40 ∧ 0 ≤ i ∧ i < n := by
        unfold isInBad at h
        simp only [Bool.or_eq_false_iff, decide_eq_false_iff_not] at h
        omega
      (refine run ?_; repeat intro b)
      refine s_if (decide (40 < text.length)) ?_ (fun h2 => ?_) (fun h2 => ?_)
      · refine congrArg (fun b => some (EV.v (.bool b))) ?_
        rw [decide_eq_decide, bl_S]; omega
      · have h3 : 40 < text.length := of_decide_eq_true h2
        have e1 : isInE n i text = 2 := by unfold isInE; rw [h, if_neg (by decide), if_pos h3]
        have e2 : isInB root n i text pl = false := by unfold isInB; rw [e1]; rfl
        (refine run ?_; repeat intro b)
        rw [e1, e2]
        rfl
      · have h3 : ¬ 40 < text.length := of_decide_eq_false h2
        have e1 : isInE n i text = 0 := by unfold isInE; rw [h, if_neg (by decide), if_neg h3]
        have e2 := isInB_eq (r := root) (l := pl) e1
        have hr := refrollmade_ok n.toNat i.toNat text pl (by omega) (by omega) (by omega) (by omega) hx hpl (frow_sub hF1 hpf) (c := pc)
        rw [Int.toNat_of_nonneg (by omega : 0 ≤ n), Int.toNat_of_nonneg hb.2.2.1] at hr
        (refine run ?_; repeat intro b)
        refine s_plain _ rfl rfl rfl bd87 rfl hr ?_
        (refine run ?_; repeat intro b)
        rw [e1, e2]
        simp only [tupV, bpick_and]
        simp
end Go.Proofs.Ytaienbnadbadfaa
