/-
The reference's RollGrown; and that it is what IsGrown answers.
-/
import Derived.Test.YtaienbnadbadfaaGrowRef
namespace Go.Proofs.Ytaienbnadbadfaa
set_option linter.unusedVariables false
set_option linter.unusedSimpArgs false
open Go.TR
instance (W : Bool) (p : List Nat) (k : Nat) : Decidable (okG W p k) := by unfold okG; infer_instance
def grownB (a b : Nat) (T : List Bool) (p : List Nat) : Bool := decide (okG (allB T) p T.length) && ((((foldG (startG a (allB T) p) ((restG (allB T) p).zip T.reverse)).1 : Nat) : Int) == (a : Nat)) && ((((foldG (startG a (allB T) p) ((restG (allB T) p).zip T.reverse)).2 : Nat) : Int) == (b : Nat))
theorem isGB_eq {a b : Nat} {m n : Int} {l : List Nat} (h : isGBad m n = false) : isGB a m b n l = grownB a b (gturns n.toNat n.toNat m.toNat) l := by
  have hb : 1 ≤ n ∧ n ≤ 40 ∧ 1 ≤ m ∧ m ≤ n := by
    have h' := h
    unfold isGBad at h'
    simp only [Bool.or_eq_false_iff, decide_eq_false_iff_not] at h'
    omega
  obtain ⟨g1, g2⟩ := bothF_fold n.toNat a m.toNat n.toNat true l (by omega) (by omega) (Nat.le_refl _)
  rw [Bool.true_and] at g1 g2
  unfold isGB grownB
  rw [if_neg (by rw [h]; decide)]
  generalize gturns n.toNat n.toNat m.toNat = T at g1 g2 ⊢
  cases hok : (bothF n.toNat a m.toNat n.toNat true l).2.2 with
  | false =>
    rw [decide_eq_false (fun h2 => by rw [g1.2 h2] at hok; cases hok)]
    rfl
  | true =>
    rw [decide_eq_true (g1.1 hok), ← g2 hok]
theorem foldG_lt (q : Nat × Nat) (l : List (Nat × Bool)) (h1 : q.1 < 18446744073709551616) (h2 : q.2 < 18446744073709551616) : (foldG q l).1 < 18446744073709551616 ∧ (foldG q l).2 < 18446744073709551616 := by
  rcases List.eq_nil_or_concat l with rfl | ⟨r, x, rfl⟩
  · exact ⟨h1, h2⟩
  · rw [List.concat_eq_append, foldG_snoc]
    have := foldG_lt q r h1 h2
    unfold stepG
    split
    · exact ⟨this.1, MM_u64 (twoN_lt _ _)⟩
    · exact ⟨MM_u64 (twoN_lt _ _), MM_u64 (twoN_lt _ _)⟩
termination_by l.length
decreasing_by subst_vars; simp
theorem frow_nus_tail {F : Hp} {p : Option Addr} {x : Nat} {l : List Nat} {c : Nat} (h : Frow F p ((x :: l).map nu)) (hc : l.length < c) : Frow F (slBase p 1 c 1) (l.map nu) := by
  unfold slBase
  split
  · have : l = [] := List.eq_nil_of_length_eq_zero (by omega)
    subst this
    exact frow_nil _ _
  · have := frow_drop h 1
    exact this
theorem back_cell {F : Hp} {p : Option Addr} {T : List Bool} (h : Frow F p (T.map Value.bool)) (j : Nat) (hj : j < T.length) : (padd p ((j : Int).toNat * 1)).isSome = true ∧ Pcell F (padd (padd p ((j : Int).toNat * 1)) 0) = some (.bool T[j]) := by
  obtain ⟨h1, h2⟩ := gt_cell h j hj T[j] rfl
  exact ⟨h1, h2 0 (by decide)⟩
attribute [local irreducible] vc vcOps seqK blockK loopK retK retG retI loopV Plain CallOK CallIn bodied VS vcAny dropG backK brK loopPK IntKind.wrap
set_option maxRecDepth 100000
set_option maxHeartbeats 4000000 in
theorem refgrown_ok (a m b n : Nat) (l : List Nat) {p : Option Addr} {c : Nat} {F : Hp} (hm : 1 ≤ m) (hmn : m ≤ n) (hn : n ≤ 40) (ha : a < 18446744073709551616) (hx : ∀ x ∈ l, x < 18446744073709551616) (hl : l.length ≤ 4611686018427387904) (hc : l.length ≤ c) (hf : Frow F p (l.map nu)) :
    Plain Try.prog F 91 [u64 (a : Nat), i64 (m : Nat), u64 (b : Nat), i64 (n : Nat), .slice p l.length c] (.bool (grownB a b (gturns n n m) l)) := by
  refine plain_vc (N := 80) (rv := [.tmp 10]) tbok mixed Try.func91 rfl rfl rfl rfl rfl ?_
  obtain ⟨T, hT⟩ : ∃ T, T = gturns n n m := ⟨_, rfl⟩
  have hg := growth_ok n m (F := F) hm hmn hn
  rw [← hT] at hg
  have hTl : T.length ≤ 40 := by rw [hT]; have := gturns_len n n m; omega
  rw [← hT]
  clear hT
  (refine run ?_; repeat intro b)
  refine s_callF rfl rfl rfl bd136 rfl hg ?_
  rintro _ F1 hF1 ⟨pT, cT, rfl, hfT⟩
  have hf1 := frow_sub hF1 hf
  cases hW : allB T with
  | true =>
    have hres : grownB a b T l = (decide (l.length = T.length) && ((((foldG (a, a) (l.zip T.reverse)).1 : Nat) : Int) == (a : Nat)) && ((((foldG (a, a) (l.zip T.reverse)).2 : Nat) : Int) == (b : Nat))) := by unfold grownB; rw [hW]; rfl
    rw [hres]
    clear hres
    (refine run ?_; repeat intro b)
    refine s_if (decide (l.length ≠ T.length)) ?_ (fun h9 => ?_) (fun h9 => ?_)
    · refine congrArg (fun b => some (EV.v (.bool b))) ?_
      rw [Bool.eq_iff_iff]
      simp only [bne_iff_ne, decide_eq_true_eq, ne_eq, List.length_cons]
      omega
    · have h10 : decide (l.length = T.length) = false := decide_eq_false (of_decide_eq_true h9)
      rw [h10]
      (refine run ?_; repeat intro b)
      rfl
    · have h9' : l.length = T.length := by simpa using h9
      rw [decide_eq_true h9', Bool.true_and]
      have hzl : (l.zip T.reverse).length = l.length := by rw [List.length_zip, List.length_reverse]; omega
      (refine run ?_; repeat intro b)
      refine s_loopP (fun j : Nat => j ≤ l.length) (fun j => ⟨[(0, .v (u64 (a : Nat))), (2, .v (u64 (b : Nat))), (4, (EV.v (.slice p l.length c))), (11, .v (.slice pT T.length cT)), (13, .v (u64 ((foldG (a, a) ((l.zip T.reverse).take j)).1 : Nat))), (14, .v (u64 ((foldG (a, a) ((l.zip T.reverse).take j)).2 : Nat))), (43, (EV.v (.slice p l.length c))), (44, .v (i64 (l.length : Nat))), (45, .v (i64 (j : Nat)))], F1, [], 0⟩) (fun j => l.length - j) 0 (Nat.zero_le _) (VS.keepN [0, 2, 4, 11, 13, 14, 43, 44, 45] rfl rfl) ?_
      intro j hj
      by_cases hlt : j < l.length
      · have ew1 : IntKind.i64.wrap (IntKind.i64.wrap ((T.length : Int) - 1) - (j : Int)) = ((T.length - 1 - j : Nat) : Int) := by
          rw [wrap_i64 (n := (T.length : Int) - 1) (by omega) (by omega), wrap_i64 (by omega) (by omega)]; omega
        have hjr : T.length - 1 - j < T.length := by omega
        have hrev : T.reverse[j]'(by rw [List.length_reverse]; omega) = T[T.length - 1 - j] := by rw [List.getElem_reverse]
        have hzj : (l.zip T.reverse)[j]'(by omega) = (l[j], T[T.length - 1 - j]) := by rw [List.getElem_zip, hrev]
        have hstep : foldG (a, a) ((l.zip T.reverse).take (j + 1)) = stepG (foldG (a, a) ((l.zip T.reverse).take j)) (l[j], T[T.length - 1 - j]) := by
          rw [List.take_succ_eq_append_getElem (by omega), hzj, foldG_snoc]
        obtain ⟨hq1, hq2⟩ := foldG_lt (a, a) ((l.zip T.reverse).take j) ha ha
        obtain ⟨hb1, hb2⟩ := back_cell hfT _ hjr
        have hxj := hx l[j] (List.getElem_mem hlt)
        generalize foldG (a, a) ((l.zip T.reverse).take j) = r at hstep hq1 hq2 ⊢
        obtain ⟨r1, r2⟩ := r
        (refine run ?_; repeat intro b)
        refine s_if true (by rw [← decide_eq_true (p := ((j : Nat) : Int) < ((l.length : Nat) : Int)) (by omega)]; rfl) (fun _ => ?_) (fun h => by cases h)
        (refine run ?_; repeat intro b)
        refine s_pureO rfl rfl rfl ⟨by omega, by omega, frow_some hf1 (j := j) (by simpa using hlt)⟩ ?_
        refine s_load (u64 (l[j] : Nat)) rfl rfl rfl rfl (by have := frow_get hf1 (j := j) (by simpa using hlt); simpa using this) ?_
        (refine run ?_; repeat intro b)
        rw [ew1]
        refine s_pureO rfl rfl rfl ⟨by omega, by omega, frow_some hfT (j := T.length - 1 - j) (by simpa using hjr)⟩ ?_
        (refine run ?_; repeat intro b)
        refine s_pureO rfl rfl rfl hb1 ?_
        refine s_load (.bool T[T.length - 1 - j]) rfl rfl rfl rfl hb2 ?_
        (refine run ?_; repeat intro b)
        refine s_if _ rfl (fun h12 => ?_) (fun h12 => ?_)
        · rw [h12] at hstep
          (refine run ?_; repeat intro b)
          refine s_plain _ rfl rfl rfl bd61 rfl (reftwo_ok 5 _ _ (by decide) hq2 hxj F1) ?_
          refine s_plain _ rfl rfl rfl bd58 rfl (refmark_ok (two 5 _ _) (by rw [two_length]; decide) F1) ?_
          (refine run ?_; repeat intro b)
          rw [wrap_succ (by omega)]
          exact s_loopPn (j + 1) hlt (by omega) (VS.keepN [0, 2, 4, 11, 13, 14, 43, 44, 45] rfl (by rw [hstep]; rfl))
        · rw [h12] at hstep
          (refine run ?_; repeat intro b)
          refine s_plain _ rfl rfl rfl bd61 rfl (reftwo_ok 5 _ _ (by decide) hxj hq1 F1) ?_
          refine s_plain _ rfl rfl rfl bd58 rfl (refmark_ok (two 5 _ _) (by rw [two_length]; decide) F1) ?_
          (refine run ?_; repeat intro b)
          refine s_plain _ rfl rfl rfl bd61 rfl (reftwo_ok 5 _ _ (by decide) hxj hq2 F1) ?_
          refine s_plain _ rfl rfl rfl bd58 rfl (refmark_ok (two 5 _ _) (by rw [two_length]; decide) F1) ?_
          (refine run ?_; repeat intro b)
          rw [wrap_succ (by omega)]
          exact s_loopPn (j + 1) hlt (by omega) (VS.keepN [0, 2, 4, 11, 13, 14, 43, 44, 45] rfl (by rw [hstep]; rfl))
      · have hge : j = l.length := by omega
        subst hge
        rw [List.take_of_length_le (by omega)]
        (refine run ?_; repeat intro b)
        refine s_if false (by rw [← decide_eq_false (p := ((l.length : Nat) : Int) < ((l.length : Nat) : Int)) (by omega)]; rfl) (fun h => by cases h) (fun _ => ?_)
        (refine run ?_; repeat intro b)
        rw [bpick_and]
        rfl
  | false =>
    (refine run ?_; repeat intro b)
    refine s_if (decide (l.length = 0)) ?_ (fun h => ?_) (fun h => ?_)
    · refine congrArg (fun b => some (EV.v (.bool b))) ?_
      rw [Bool.eq_iff_iff]
      simp only [beq_iff_eq, decide_eq_true_eq]
      omega
    · have h5 : l = [] := List.eq_nil_of_length_eq_zero (of_decide_eq_true h)
      subst h5
      have hres : grownB a b T [] = false := by
        unfold grownB
        rw [hW, decide_eq_false (by unfold okG; simp)]
        rfl
      rw [hres]
      (refine run ?_; repeat intro b)
      rfl
    · obtain ⟨y, q, rfl⟩ : ∃ y q, l = y :: q := by
        cases l with
        | nil => exact absurd rfl (of_decide_eq_false h)
        | cons y q => exact ⟨y, q, rfl⟩
      have hres : grownB a b T (y :: q) = (decide (q.length = T.length) && ((((foldG (y, y) (q.zip T.reverse)).1 : Nat) : Int) == (a : Nat)) && ((((foldG (y, y) (q.zip T.reverse)).2 : Nat) : Int) == (b : Nat))) := by
        unfold grownB
        rw [hW]
        have : decide (okG false (y :: q) T.length) = decide (q.length = T.length) := by
          rw [decide_eq_decide]; unfold okG; simp
        rw [this]
        rfl
      rw [hres]
      clear hres
      have hy := hx y List.mem_cons_self
      have hql : q.length ≤ 4611686018427387904 := by simp only [List.length_cons] at hl; omega
      have hqc : q.length < c := by simp only [List.length_cons] at hc; omega
      have hqx : ∀ x ∈ q, x < 18446744073709551616 := fun x h => hx x (List.mem_cons_of_mem _ h)
      have hqf := frow_nus_tail hf1 hqc
      have hp0 := frow_some hf1 (j := 0) (by simp)
      have hld : Pcell F1 (padd p (Int.toNat 0 * 1)) = some (u64 (y : Nat)) := frow_get hf1 (j := 0) (by simp)
      (refine run ?_; repeat intro b)
      refine s_regiond (by kernel_rfl) ?_
      (refine run ?_; repeat intro b)
      refine s_pureO rfl rfl rfl ⟨by omega, by simp, hp0⟩ ?_
      refine s_load (u64 (y : Nat)) rfl rfl rfl rfl hld ?_
      (refine run ?_; repeat intro b)
      refine s_pureO rfl rfl rfl ⟨by omega, by simp, hp0⟩ ?_
      refine s_load (u64 (y : Nat)) rfl rfl rfl rfl hld ?_
      (refine run ?_; repeat intro b)
      refine s_pureO rfl rfl rfl ⟨by omega, by simp only [List.length_cons] <;> omega, hc⟩ ?_
      (refine run ?_; repeat intro b)
      refine s_if (decide (q.length ≠ T.length)) ?_ (fun h9 => ?_) (fun h9 => ?_)
      · refine congrArg (fun b => some (EV.v (.bool b))) ?_
        rw [Bool.eq_iff_iff]
        simp only [bne_iff_ne, decide_eq_true_eq, ne_eq, List.length_cons]
        omega
      · have h10 : decide (q.length = T.length) = false := decide_eq_false (of_decide_eq_true h9)
        rw [h10]
        (refine run ?_; repeat intro b)
        rfl
      · have h9' : q.length = T.length := by simpa using h9
        rw [decide_eq_true h9', Bool.true_and]
        have hzl : (q.zip T.reverse).length = q.length := by rw [List.length_zip, List.length_reverse]; omega
        (refine run ?_; repeat intro b)
        refine s_loopP (fun j : Nat => j ≤ q.length) (fun j => ⟨[(0, .v (u64 (a : Nat))), (2, .v (u64 (b : Nat))), (4, (EV.v (.slice (slBase p 1 c 1) q.length (c - 1)))), (11, .v (.slice pT T.length cT)), (13, .v (u64 ((foldG (y, y) ((q.zip T.reverse).take j)).1 : Nat))), (14, .v (u64 ((foldG (y, y) ((q.zip T.reverse).take j)).2 : Nat))), (43, (EV.v (.slice (slBase p 1 c 1) q.length (c - 1)))), (44, .v (i64 (q.length : Nat))), (45, .v (i64 (j : Nat)))], F1, [], 0⟩) (fun j => q.length - j) 0 (Nat.zero_le _) (VS.keepN [0, 2, 4, 11, 13, 14, 43, 44, 45] rfl rfl) ?_
        intro j hj
        by_cases hlt : j < q.length
        · have ew1 : IntKind.i64.wrap (IntKind.i64.wrap ((T.length : Int) - 1) - (j : Int)) = ((T.length - 1 - j : Nat) : Int) := by
            rw [wrap_i64 (n := (T.length : Int) - 1) (by omega) (by omega), wrap_i64 (by omega) (by omega)]; omega
          have hjr : T.length - 1 - j < T.length := by omega
          have hrev : T.reverse[j]'(by rw [List.length_reverse]; omega) = T[T.length - 1 - j] := by rw [List.getElem_reverse]
          have hzj : (q.zip T.reverse)[j]'(by omega) = (q[j], T[T.length - 1 - j]) := by rw [List.getElem_zip, hrev]
          have hstep : foldG (y, y) ((q.zip T.reverse).take (j + 1)) = stepG (foldG (y, y) ((q.zip T.reverse).take j)) (q[j], T[T.length - 1 - j]) := by
            rw [List.take_succ_eq_append_getElem (by omega), hzj, foldG_snoc]
          obtain ⟨hq1, hq2⟩ := foldG_lt (y, y) ((q.zip T.reverse).take j) hy hy
          obtain ⟨hb1, hb2⟩ := back_cell hfT _ hjr
          have hxj := hqx q[j] (List.getElem_mem hlt)
          generalize foldG (y, y) ((q.zip T.reverse).take j) = r at hstep hq1 hq2 ⊢
          obtain ⟨r1, r2⟩ := r
          (refine run ?_; repeat intro b)
          refine s_if true (by rw [← decide_eq_true (p := ((j : Nat) : Int) < ((q.length : Nat) : Int)) (by omega)]; rfl) (fun _ => ?_) (fun h => by cases h)
          (refine run ?_; repeat intro b)
          refine s_pureO rfl rfl rfl ⟨by omega, by omega, frow_some hqf (j := j) (by simpa using hlt)⟩ ?_
          refine s_load (u64 (q[j] : Nat)) rfl rfl rfl rfl (by have := frow_get hqf (j := j) (by simpa using hlt); simpa using this) ?_
          (refine run ?_; repeat intro b)
          rw [ew1]
          refine s_pureO rfl rfl rfl ⟨by omega, by omega, frow_some hfT (j := T.length - 1 - j) (by simpa using hjr)⟩ ?_
          (refine run ?_; repeat intro b)
          refine s_pureO rfl rfl rfl hb1 ?_
          refine s_load (.bool T[T.length - 1 - j]) rfl rfl rfl rfl hb2 ?_
          (refine run ?_; repeat intro b)
          refine s_if _ rfl (fun h12 => ?_) (fun h12 => ?_)
          · rw [h12] at hstep
            (refine run ?_; repeat intro b)
            refine s_plain _ rfl rfl rfl bd61 rfl (reftwo_ok 5 _ _ (by decide) hq2 hxj F1) ?_
            refine s_plain _ rfl rfl rfl bd58 rfl (refmark_ok (two 5 _ _) (by rw [two_length]; decide) F1) ?_
            (refine run ?_; repeat intro b)
            rw [wrap_succ (by omega)]
            exact s_loopPn (j + 1) hlt (by omega) (VS.keepN [0, 2, 4, 11, 13, 14, 43, 44, 45] rfl (by rw [hstep]; rfl))
          · rw [h12] at hstep
            (refine run ?_; repeat intro b)
            refine s_plain _ rfl rfl rfl bd61 rfl (reftwo_ok 5 _ _ (by decide) hxj hq1 F1) ?_
            refine s_plain _ rfl rfl rfl bd58 rfl (refmark_ok (two 5 _ _) (by rw [two_length]; decide) F1) ?_
            (refine run ?_; repeat intro b)
            refine s_plain _ rfl rfl rfl bd61 rfl (reftwo_ok 5 _ _ (by decide) hxj hq2 F1) ?_
            refine s_plain _ rfl rfl rfl bd58 rfl (refmark_ok (two 5 _ _) (by rw [two_length]; decide) F1) ?_
            (refine run ?_; repeat intro b)
            rw [wrap_succ (by omega)]
            exact s_loopPn (j + 1) hlt (by omega) (VS.keepN [0, 2, 4, 11, 13, 14, 43, 44, 45] rfl (by rw [hstep]; rfl))
        · have hge : j = q.length := by omega
          subst hge
          rw [List.take_of_length_le (by omega)]
          (refine run ?_; repeat intro b)
          refine s_if false (by rw [← decide_eq_false (p := ((q.length : Nat) : Int) < ((q.length : Nat) : Int)) (by omega)]; rfl) (fun h => by cases h) (fun _ => ?_)
          (refine run ?_; repeat intro b)
          rw [bpick_and]
          rfl
end Go.Proofs.Ytaienbnadbadfaa
