/-
The reference's ClerkFault: the walk.
-/
import Derived.Test.YthkkgphjjmhglaaGreatDoorSetClerk4
import Derived.Test.YthkkgphjjmhglaaGreatDoorClerkR1
namespace Go.Proofs.YthkkgphjjmhglaaGreatDoor
set_option linter.unusedVariables false
set_option linter.unusedSimpArgs false
open Go.TR
theorem moreL_nil : moreL [] = [] := rfl
theorem spanB_or (c : Clerk) : (((((decide (c.batch < 1) || decide (30 < c.batch)) || decide (c.every < 1)) || decide (1000 < c.every)) || decide (c.now < 0)) || decide (1000000000 < c.now)) = spanB c := rfl
attribute [local irreducible] vc vcOps seqK blockK loopK retK retG retI loopV Plain CallOK CallIn bodied VS vcAny dropG backK brK loopPK IntKind.wrap
attribute [local irreducible] bookFault lvlN rootsF lastB lastH clerkF queueFault chainF booksF namesN
set_option maxRecDepth 100000
set_option maxHeartbeats 4000000
theorem clerkfault_ok (c : Clerk) (a : CLay) (hw : c.wf) {F : Hp} (ha : c.at F a) : Plain Tryz.prog F 12 [c.v a] (i64 (clerkF c)) := by
  have hhl := hw.hlen
  obtain ⟨bs, hb, hfb, hbs⟩ := ha.b
  refine plain_vc (N := 107) (rv := [.tmp 2]) tbok mixed Tryz.func12 rfl rfl rfl rfl rfl ?_
  (refine run ?_; repeat intro b)
  refine s_plain _ rfl rfl rfl bd49 rfl (refqueue_ok c.queue hw.queue ha.w) ?_
  (refine run ?_; repeat intro b)
  refine s_if (decide (queueFault c.queue ≠ 0)) ?_ (fun h0 => ?_) (fun h0 => ?_)
  · refine congrArg (fun b => some (EV.v (.bool b))) ?_
    rw [Bool.eq_iff_iff]; simp
  · have e : clerkF c = queueFault c.queue := by unfold clerkF; rw [if_pos (of_decide_eq_true h0)]
    rw [e]
    (refine run ?_; repeat intro b)
    rfl
  have h0 : queueFault c.queue = 0 := by have := of_decide_eq_false h0; omega
  (refine run ?_; repeat intro b)
  refine s_if (spanB c) ?_ (fun h1 => ?_) (fun h1 => ?_)
  · refine congrArg (fun b => some (EV.v (.bool b))) ?_
    rw [bpick_or, bpick_or, bpick_or, bpick_or, bpick_or]
    exact spanB_or c
  · have e : clerkF c = 4 := by unfold clerkF; rw [if_neg (by rw [h0]; decide), if_pos h1]
    rw [e]
    (refine run ?_; repeat intro b)
    rfl
  (refine run ?_; repeat intro b)
  refine s_plain _ rfl rfl rfl bd50 rfl (refchain_ok c.heads (by omega) hw.heads ha.h) ?_
  (refine run ?_; repeat intro b)
  refine s_if (decide ((chainF c.heads).1 ≠ 0)) ?_ (fun h2 => ?_) (fun h2 => ?_)
  · refine congrArg (fun b => some (EV.v (.bool b))) ?_
    rw [Bool.eq_iff_iff]; simp
  · have e : clerkF c = (chainF c.heads).1 := by unfold clerkF; rw [if_neg (by rw [h0]; decide), h1, if_neg (by decide), if_pos (of_decide_eq_true h2)]
    rw [e]
    (refine run ?_; repeat intro b)
    rfl
  have h2 : (chainF c.heads).1 = 0 := by have := of_decide_eq_false h2; omega
  have hz := chain_pos h2
  have hlh := lastH_get hz
  have eH0 : (c.heads.getD 0 Head.none).epoch = c.heads[0].epoch := by simp [List.getD, hz]
  have eF : formB c = (!(c.heads[0].epoch == 0) || (decide (c.books.length ≠ c.heads.length) || decide (c.now < c.heads[c.heads.length - 1].at_))) := by
    unfold formB
    rw [eH0, hlh, Bool.or_assoc]
    congr 1
    rw [Bool.eq_iff_iff]; simp
  obtain ⟨o1, o2⟩ := frow_agg head_row (by decide) ha.h 0 hz
  obtain ⟨o3, o4⟩ := frow_agg head_row (by decide) ha.h (c.heads.length - 1) (by omega)
  have ew : IntKind.i64.wrap (((c.heads.length : Nat) : Int) - 1) = ((c.heads.length - 1 : Nat) : Int) := by rw [wrap_i64 (by omega) (by omega)]; omega
  have hB : booksF c = if formB c = true then 3 else rootsF c.heads c.books := by unfold booksF; rfl
  have hC : booksF c ≠ 0 → clerkF c = booksF c := fun h3 => by unfold clerkF; rw [if_neg (by rw [h0]; decide), h1, if_neg (by decide), if_neg (by rw [h2]; decide), if_pos h3]
  rw [eF] at hB
  generalize c.heads[0] = ha0 at *
  generalize c.heads[c.heads.length - 1] = hl0 at *
  (refine run ?_; repeat intro b)
  refine s_regiond (by kernel_rfl) ?_
  (refine run ?_; repeat intro b)
  refine s_pureO rfl rfl rfl ⟨by omega, by omega, frow_some ha.h (j := 0) (by rw [flat_len head_row]; omega)⟩ ?_
  (refine run ?_; repeat intro b)
  refine s_pureO rfl rfl rfl o1 ?_
  (refine run ?_; repeat intro b)
  refine s_load (i64 ha0.epoch) rfl rfl rfl rfl (o2 0 (by decide)) ?_
  (refine run ?_; repeat intro b)
  rw [ew]
  refine s_gpureO rfl rfl rfl rfl rfl (fun _ => ⟨by omega, by omega, frow_some ha.h (j := (c.heads.length - 1) * 4) (by rw [flat_len head_row]; omega)⟩) ?_
  (refine run ?_; repeat intro b)
  refine s_gpureO rfl rfl rfl rfl rfl (fun _ => by rw [Int.toNat_natCast]; exact o3) ?_
  (refine run ?_; repeat intro b)
  refine s_gload (i64 hl0.at_) rfl rfl rfl rfl rfl rfl (fun _ => by rw [Int.toNat_natCast]; exact o4 3 (by decide)) ?_
  (refine run ?_; repeat intro b)
  refine s_if (formB c) ?_ (fun h => ?_) (fun h => ?_)
  · refine congrArg (fun b => some (EV.v (.bool b))) ?_
    rw [bpick_or, bpick_or, eF, Bool.or_assoc]
    congr 1
    congr 1
    rw [Bool.eq_iff_iff]; simp; omega
  · rw [eF] at h
    rw [if_pos h] at hB
    rw [hC (by rw [hB]; decide), hB]
    (refine run ?_; repeat intro b)
    rfl
  rw [eF] at h
  rw [if_neg (by rw [h]; decide)] at hB
  have hlen : c.books.length = c.heads.length := by
    simp only [Bool.or_eq_false_iff, decide_eq_false_iff_not, ne_eq, Classical.not_not] at h
    exact h.2.1
  (refine run ?_; repeat intro b)
  refine s_loopP (fun k : Nat => k ≤ c.books.length ∧ rootsF (c.heads.drop k) (c.books.drop k) = rootsF c.heads c.books) (fun k => ⟨[(1, .loc 0 0), (82, .v (.slice a.b c.books.length a.cb)), (83, .v (i64 (c.books.length : Nat))), (84, .v (i64 (k : Nat)))], F, [(0, ⟨some b, [.v (i64 c.queue.most), .v (.slice a.w c.queue.wait.length a.cw), .v (i64 c.batch), .v (i64 c.every), .v (i64 c.now), .v (.slice a.h c.heads.length a.ch), .v (.slice a.b c.books.length a.cb)], 28, 7⟩)], 1⟩) (fun k => c.books.length - k) 0 ⟨Nat.zero_le _, rfl⟩ (VS.keepN [1, 82, 83, 84] rfl rfl) ?_
  rintro k ⟨hk, hr⟩
  by_cases hlt : k < c.books.length
  · have hst := rootsF_drop (hs := c.heads) (bs := c.books) (k := k) (by omega) hlt
    rw [hr] at hst
    obtain ⟨⟨ps, ls, cs⟩, k1, k2, k3⟩ := bk_get hb hlt
    have kc := bk_cell hfb k1
    have hat := hbs _ k3
    have hwl := hw.books c.books[k] (List.getElem_mem hlt)
    obtain ⟨o5, o6⟩ := frow_agg head_row (by decide) ha.h k (by omega)
    simp only at k2 hat
    rw [← k2] at hst hwl
    generalize c.heads[k]'(by omega) = hk0 at *
    (refine run ?_; repeat intro b)
    refine s_if true (by rw [← decide_eq_true (p := ((k : Nat) : Int) < ((c.books.length : Nat) : Int)) (by omega)]; rfl) (fun _ => ?_) (fun h => by cases h)
    (refine run ?_; repeat intro b)
    refine s_pureO rfl rfl rfl ⟨by omega, by omega, frow_some hfb (j := k) (by rw [List.length_map, bks_len hb]; omega)⟩ ?_
    refine s_load (Bk.v (ps, ls, cs)) rfl rfl rfl rfl (by rw [Int.toNat_natCast, Nat.mul_one]; exact kc) ?_
    (refine run ?_; repeat intro b)
    refine s_plain _ rfl rfl rfl bd30 rfl (bookfault_ok ls (by omega) hwl.2 hat.2) ?_
    (refine run ?_; repeat intro b)
    refine s_if (decide (bookFault ls ≠ 0)) ?_ (fun g => ?_) (fun g => ?_)
    · refine congrArg (fun b => some (EV.v (.bool b))) ?_
      rw [Bool.eq_iff_iff]; simp
    · rw [if_pos (of_decide_eq_true g)] at hst
      rw [hC (by rw [hB, hst]; exact of_decide_eq_true g), hB, hst]
      (refine run ?_; repeat intro b)
      rfl
    have f0 : bookFault ls = 0 := by have := of_decide_eq_false g; omega
    rw [f0, if_neg (by decide)] at hst
    (refine run ?_; repeat intro b)
    refine s_regiond (by kernel_rfl) ?_
    (refine run ?_; repeat intro b)
    refine s_plain _ rfl rfl rfl bd51 rfl (prefixmark_ok ls [] (bookFault_zero f0).1 hwl.2 hat.2) ?_
    (refine run ?_; repeat intro b)
    refine s_pureO rfl rfl rfl ⟨by omega, by omega, frow_some ha.h (j := k * 4) (by rw [flat_len head_row]; omega)⟩ ?_
    (refine run ?_; repeat intro b)
    refine s_pureO rfl rfl rfl (by rw [Int.toNat_natCast]; exact o5) ?_
    (refine run ?_; repeat intro b)
    refine s_load (u64 (hk0.root : Nat)) rfl rfl rfl rfl (by rw [Int.toNat_natCast]; exact o6 1 (by decide)) ?_
    (refine run ?_; repeat intro b)
    refine s_if (decide (lvlN ls [] ≠ hk0.root)) ?_ (fun g => ?_) (fun g => ?_)
    · refine congrArg (fun b => some (EV.v (.bool b))) ?_
      rw [Bool.eq_iff_iff]; simp; omega
    · rw [if_pos (of_decide_eq_true g)] at hst
      rw [hC (by rw [hB, hst]; decide), hB, hst]
      (refine run ?_; repeat intro b)
      rfl
    · rw [if_neg (of_decide_eq_false g)] at hst
      (refine run ?_; repeat intro b)
      rw [wrap_succ (by omega)]
      exact s_loopPn (k + 1) ⟨hlt, hst.symm⟩ (by omega) (VS.keepN [1, 82, 83, 84] rfl rfl)
  · have hge : k = c.books.length := by omega
    have hzz : rootsF c.heads c.books = 0 := by
      rw [← hr, hge, List.drop_length, rootsF_nil]
    rw [hzz] at hB
    obtain ⟨hS, hb0⟩ := pre_small h0 h2 hB
    rw [clerkF_names h0 h1 h2 hB]
    (refine run ?_; repeat intro b)
    refine s_if false (by rw [← decide_eq_false (p := ((k : Nat) : Int) < ((c.books.length : Nat) : Int)) (by omega)]; rfl) (fun h => by cases h) (fun _ => ?_)
    (refine run ?_; repeat intro b)
    have hno := namesof_ok c a [] hw hb0 (by rw [moreL_nil]; exact names_len hS hb0 [] (Nat.zero_le _)) (Nat.zero_le _) ha
    rw [moreL_nil] at hno
    refine s_plain _ rfl rfl rfl bd52 rfl hno ?_
    (refine run ?_; repeat intro b)
    refine s_if (decide (24 < namesN c [])) ?_ (fun h4 => ?_) (fun h4 => ?_)
    · refine congrArg (fun b => some (EV.v (.bool b))) ?_
      rw [decide_eq_decide]; omega
    · rw [if_pos (of_decide_eq_true h4)]
      (refine run ?_; repeat intro b)
      rfl
    · rw [if_neg (of_decide_eq_false h4)]
      (refine run ?_; repeat intro b)
      rfl
end Go.Proofs.YthkkgphjjmhglaaGreatDoor
