/-
The law of package queue: whatever is handed in, each call answers what the reference answers.
-/
import Derived.Test.YtaienbnadbadfaaQueue4
import Derived.Test.YtaienbnadbadfaaConcatAsk
namespace Go.Proofs.Ytaienbnadbadfaa
set_option linter.unusedVariables false
set_option linter.unusedSimpArgs false
open Go.TR
theorem samequeue_nil {p1 p2 : Option Addr} {c1 c2 : Nat} {F : Hp} : Plain Try.prog F 52 [.agg #[i64 0, .slice p1 0 c1], .agg #[i64 0, .slice p2 0 c2]] (.bool true) := by
  have := samequeue_ok Queue.nil Queue.nil (p1 := p1) (p2 := p2) (c1 := c1) (c2 := c2) (F := F) (frow_nil _ _) (frow_nil _ _) (by decide)
  rw [decide_eq_true rfl] at this
  exact this
theorem samequeue_self (q : Queue) {p1 p2 : Option Addr} {c1 c2 n : Nat} {F : Hp} (hn : n = q.wait.length) (h1 : Frow F p1 (q.wait.flatMap Ask.cells)) (h2 : Frow F p2 (q.wait.flatMap Ask.cells)) (hl : q.wait.length ≤ 1000) : Plain Try.prog F 52 [qv q.most p1 q.wait.length c1, qv q.most p2 n c2] (.bool true) := by
  subst hn
  have := samequeue_ok q q (c1 := c1) (c2 := c2) h1 h2 (by omega)
  rw [decide_eq_true rfl] at this
  exact this
theorem sameasks_self (l : List Ask) {p1 p2 : Option Addr} {c1 c2 n : Nat} {F : Hp} (hn : n = l.length) (h1 : Frow F p1 (l.flatMap Ask.cells)) (h2 : Frow F p2 (l.flatMap Ask.cells)) (hl : l.length ≤ 1000) : Plain Try.prog F 55 [.slice p1 l.length c1, .slice p2 n c2] (.bool true) := by
  subst hn
  have := sameasks_ok l l (c1 := c1) (c2 := c2) h1 h2 (by omega)
  rw [decide_eq_true rfl] at this
  exact this
attribute [local irreducible] vc vcOps seqK blockK loopK retK retG retI loopV Plain CallOK CallIn bodied VS vcAny dropG backK brK loopPK IntKind.wrap
set_option maxRecDepth 100000
set_option maxHeartbeats 4000000 in
theorem queue_tells (q : Queue) (a : Ask) (n ahead batch every : Int) {p : Option Addr} {c : Nat} {F : Hp} (hw : q.wf) (hc : q.wait.length ≤ c) (hf : Frow F p (q.wait.flatMap Ask.cells)) (ha : a.wf) :
    Plain Try.prog F 7 [qv q.most p q.wait.length c, a.v, i64 n, i64 ahead, i64 batch, i64 every] (.bool true) := by
  refine plain_vc (N := 222) (rv := [.tmp 12]) tbok mixed Try.func7 rfl rfl rfl rfl rfl ?_
  (refine run ?_; repeat intro b)
  rename_i b0
  refine s_callF rfl rfl rfl bd47 rfl (queueput_ok q a hw ha hf) ?_
  rintro _ F1 hF1 ⟨p1, c1, rfl, hf1⟩
  (refine run ?_; repeat intro b)
  rename_i b1
  refine s_callF rfl rfl rfl bd48 rfl (queuetake_ok q n hw hc (frow_sub hF1 hf)) ?_
  rintro _ F2 hF2 ⟨p2, c2, p3, c3, rfl, hf2, hf3⟩
  have hfq := frow_sub (hF1.trans hF2) hf
  have hf1' := frow_sub hF2 hf1
  (refine run ?_; repeat intro b)
  rename_i b2
  refine s_plain _ rfl rfl rfl bd49 rfl (queuewait_ok ahead batch every F2) ?_
  (refine run ?_; repeat intro b)
  rename_i b3
  have hchk := queuecheck_ok q hw (c := c) hfq
  have href := refqueue_ok q hw (c := c) hfq
  refine s_join (β := Unit) (fun _ => True) (fun _ => ⟨[(2, .v (i64 n)), (6, .loc 0 0), (7, .loc 1 0), (13, .loc 2 0), (14, .v (i64 (putK q a))), (15, .v (i64 (putE q a))), (16, .loc 3 0), (17, .v (.slice p3 (takeL q n).length c3)), (18, .v (i64 (takeE q n))), (21, .loc 4 0)], F2, [(4, ⟨some b, [.v (i64 0), .v (.slice none 0 0)], 86, 2⟩), (3, ⟨some b3, [.v (i64 (takeQ q n).most), .v (.slice p2 (takeQ q n).wait.length c2)], 86, 2⟩), (2, ⟨some b2, [.v (i64 (putQ q a).most), .v (.slice p1 (putQ q a).wait.length c1)], 86, 2⟩), (1, ⟨some b1, [.v (S a.name), .v (S a.value), .v (u64 (a.n : Nat)), .v (u64 (a.tag : Nat))], 88, 4⟩), (0, ⟨some b0, [.v (i64 q.most), .v (.slice p q.wait.length c)], 86, 2⟩)], 5⟩) rfl (fun _ _ => ?_) (fun KK2 kn kr ke => ?_)
  · -- behind the waiting
    (refine run ?_; repeat intro b)
    refine s_plain _ rfl rfl rfl bd50 rfl href ?_
    (refine run ?_; repeat intro b)
    refine s_plain _ rfl rfl rfl bd51 rfl hchk ?_
    (refine run ?_; repeat intro b)
    refine s_if false ?_ (fun h => by cases h) (fun _ => ?_)
    · exact congrArg (fun b => some (EV.v (.bool b))) (bne_self_eq_false _)
    by_cases hB : queueFault q = 0
    · obtain ⟨g1, g2, g3⟩ := queueFault_zero hB
      rw [hB]
      (refine run ?_; repeat intro b)
      refine s_plain _ rfl rfl rfl bd53 rfl (askfault_ok a.name a.value ha.name F2) ?_
      (refine run ?_; repeat intro b)
      refine s_join (β := Unit) (fun _ => True) (fun _ => ⟨[(2, .v (i64 n)), (6, .loc 0 0), (7, .loc 1 0), (13, .loc 2 0), (14, .v (i64 (putK q a))), (15, .v (i64 (putE q a))), (16, .loc 3 0), (17, .v (.slice p3 (takeL q n).length c3)), (18, .v (i64 (takeE q n))), (21, .loc 4 0), (25, .v (i64 (putE q a)))], F2, [(4, ⟨some b, [.v (i64 0), .v (.slice none 0 0)], 86, 2⟩), (3, ⟨some b3, [.v (i64 (takeQ q n).most), .v (.slice p2 (takeQ q n).wait.length c2)], 86, 2⟩), (2, ⟨some b2, [.v (i64 (putQ q a).most), .v (.slice p1 (putQ q a).wait.length c1)], 86, 2⟩), (1, ⟨some b1, [.v (S a.name), .v (S a.value), .v (u64 (a.n : Nat)), .v (u64 (a.tag : Nat))], 88, 4⟩), (0, ⟨some b0, [.v (i64 q.most), .v (.slice p q.wait.length c)], 86, 2⟩)], 5⟩) rfl (fun _ _ => ?_) (fun KK2 kn kr ke => ?_)
      · -- what Put answers is known
        (refine run ?_; repeat intro b)
        refine s_join (β := Hp × Nat) (fun F3 => F2.sub F3.1) (fun F3 => ⟨[(2, .v (i64 n)), (6, .loc 0 0), (16, .loc 3 0), (17, .v (.slice p3 (takeL q n).length c3)), (18, .v (i64 (takeE q n))), (21, .loc 4 0)], F3.1, [(4, ⟨some b, [.v (i64 0), .v (.slice none 0 0)], 86, 2⟩), (3, ⟨some b3, [.v (i64 (takeQ q n).most), .v (.slice p2 (takeQ q n).wait.length c2)], 86, 2⟩), (0, ⟨some b0, [.v (i64 q.most), .v (.slice p q.wait.length c)], 86, 2⟩)], F3.2⟩) rfl (fun F3 hF3 => ?_) (fun KK2 kn kr ke => ?_)
        · -- Take
          obtain ⟨F3, nx3⟩ := F3
          simp only at hF3 ⊢
          have hf3' := frow_sub hF3 hf3
          have hf2' := frow_sub hF3 hf2
          have hfq' := frow_sub hF3 hfq
          (refine run ?_; repeat intro b)
          by_cases hn : n < 0
          · have e1 : takeE q n = 4 := by unfold takeE; rw [if_pos hB, if_pos hn]
            have e2 : takeQ q n = Queue.nil := by unfold takeQ; rw [e1]; rfl
            have e3 : takeL q n = [] := by unfold takeL; rw [e1]; rfl
            rw [e1, e2, e3]
            refine s_if true ?_ (fun _ => ?_) (fun h => by cases h)
            · exact congrArg (fun b => some (EV.v (.bool b))) (decide_eq_true hn)
            (refine run ?_; repeat intro b)
            refine s_plain _ rfl rfl rfl bd52 rfl samequeue_nil ?_
            (refine run ?_; repeat intro b)
            rfl
          · have e1 : takeE q n = 0 := by unfold takeE; rw [if_pos hB, if_neg hn]
            have e2 : takeQ q n = ⟨q.most, q.wait.drop (takeM q n)⟩ := by unfold takeQ; rw [if_pos e1]
            have e3 : takeL q n = q.wait.take (takeM q n) := by unfold takeL; rw [if_pos e1]
            rw [e2] at hf2'
            rw [e3] at hf3'
            rw [e1, e2, e3]
            refine s_if false ?_ (fun h => by cases h) (fun _ => ?_)
            · exact congrArg (fun b => some (EV.v (.bool b))) (decide_eq_false hn)
            have hmin : (if ((q.wait.length : Nat) : Int) < n then ((q.wait.length : Nat) : Int) else n) = ((takeM q n : Nat) : Int) := by
              unfold takeM
              split <;> omega
            have hm : takeM q n ≤ q.wait.length := by unfold takeM; omega
            have hl1 : (q.wait.drop (takeM q n)).length = q.wait.length - takeM q n := List.length_drop
            have hl2 : (q.wait.take (takeM q n)).length = takeM q n := by rw [List.length_take]; omega
            have f1 := frow_flat_drop ask_cells hfq' (takeM q n) c hm hc
            have f2 : Frow F3 (slBase p 0 c 4) ((q.wait.take (takeM q n)).flatMap Ask.cells) := by
              rw [slb_zero]
              exact frow_flat_take ask_cells hfq' _
            (refine run ?_; repeat intro b)
            rw [hmin]
            refine s_regiond (by kernel_rfl) ?_
            (refine run ?_; repeat intro b)
            refine s_pureO rfl rfl rfl ⟨by omega, by omega⟩ ?_
            rw [Int.toNat_natCast]
            (refine run ?_; repeat intro b)
            refine s_plain _ rfl rfl rfl bd55 rfl (sameasks_self (q.wait.take (takeM q n)) hl2.symm hf3' f2 (by omega)) ?_
            (refine run ?_; repeat intro b)
            refine s_pureO rfl rfl rfl ⟨by omega, by omega, hc⟩ ?_
            rw [Int.toNat_natCast]
            (refine run ?_; repeat intro b)
            refine s_plain _ rfl rfl rfl bd52 rfl (samequeue_self ⟨q.most, q.wait.drop (takeM q n)⟩ hl1.symm hf2' f1 (by simp only <;> omega)) ?_
            (refine run ?_; repeat intro b)
            rfl
        · by_cases hP : putE q a = 0
          · have e2 : putQ q a = ⟨q.most, q.wait ++ [a]⟩ := by unfold putQ; rw [if_pos hP]
            have e3 : putK q a = (q.wait.length : Int) := by unfold putK; rw [if_pos hP]
            rw [e2] at hf1'
            rw [hP, e2, e3]
            (refine run ?_; repeat intro b)
            refine s_regiona [0, 1, 2] (by kernel_rfl) ?_
            refine s_firsts [0, 1, 2, 3, 4, 5, 6, 7, 8, 9] (f' := 13) (by kernel_rfl) rfl rfl rfl ?_
            (refine run ?_; repeat intro b)
            have hne : (((q.wait.length : Nat) : Int) != ((q.wait.length : Nat) : Int)) = false := bne_self_eq_false _
            rw [hne]
            refine s_firsts [10, 11, 12, 13, 14, 15] (f' := 7) (by kernel_rfl) rfl rfl rfl ?_
            (refine run ?_; repeat intro b)
            refine s_one 16 (by kernel_rfl) rfl rfl ?_
            (refine run ?_; repeat intro b)
            refine s_br (Hp.sub.refl _) ⟨⟨rfl, rfl, rfl, trivial⟩, ⟨rfl, rfl, rfl, rfl, rfl, trivial⟩, ⟨rfl, rfl, rfl, trivial⟩, trivial⟩ ?_
            refine s_one 17 (by kernel_rfl) rfl rfl ?_
            (refine run ?_; repeat intro b)
            refine s_br (Hp.sub.refl _) ⟨⟨rfl, rfl, rfl, trivial⟩, ⟨rfl, rfl, rfl, rfl, rfl, trivial⟩, ⟨rfl, rfl, rfl, trivial⟩, trivial⟩ ?_
            refine s_one 18 (by kernel_rfl) rfl rfl ?_
            refine s_known rfl rfl rfl ?_
            refine s_shift (VS.freeze 5 [2, 6, 7, 13, 14, 15, 16, 17, 18, 21, 168, 169, 171, 176] rfl rfl rfl rfl fun F3 hs3 hf3q => VS.freeze 6 [2, 6, 7, 13, 14, 15, 16, 17, 18, 21, 168, 169, 171, 176] rfl rfl rfl rfl fun F4 hs4 hf4q => VS.id ?_)
            refine s_callF rfl rfl rfl bd54 rfl (asks_concat q.wait [a] (by simp) (by simp only [List.length_singleton] <;> omega) hf4q (frow_sub (hs3.trans hs4) hfq) (frow_sub hs4 hf3q)) ?_
            rintro _ F5 hF5 ⟨p4, c4, rfl, hc4, hf4⟩
            (refine run ?_; repeat intro b)
            refine s_br ((hs3.trans hs4).trans hF5) ⟨⟨rfl, rfl, rfl, trivial⟩, ⟨rfl, rfl, rfl, rfl, rfl, trivial⟩, ⟨rfl, rfl, rfl, trivial⟩, trivial⟩ ?_
            refine s_firsts [19, 20, 21, 22] (f' := 0) (by kernel_rfl) rfl rfl rfl ?_
            (refine run ?_; repeat intro b)
            refine s_plain _ rfl rfl rfl bd52 rfl (samequeue_self ⟨q.most, q.wait ++ [a]⟩ rfl (frow_sub ((hs3.trans hs4).trans hF5) hf1') hf4 (by simp only [List.length_append, List.length_singleton] <;> omega)) ?_
            (refine run ?_; repeat intro b)
            refine s_stop (by kernel_rfl) ?_
            (refine run ?_; repeat intro b)
            exact kn _ (VS.dropR [1, 2] rfl (VS.keepN [2, 6, 16, 17, 18, 21] rfl ⟨(F5, _), (hs3.trans hs4).trans hF5, rfl⟩))
          · have e2 : putQ q a = Queue.nil := by unfold putQ; rw [if_neg hP]
            have e3 : putK q a = 0 := by unfold putK; rw [if_neg hP]
            rw [e2, e3]
            generalize putE q a = e at hP
            refine s_if true ?_ (fun _ => ?_) (fun h => by cases h)
            · exact congrArg (fun b => some (EV.v (.bool b))) (by rw [bne_iff_ne]; exact hP)
            (refine run ?_; repeat intro b)
            refine s_plain _ rfl rfl rfl bd52 rfl samequeue_nil ?_
            (refine run ?_; repeat intro b)
            refine s_if false ?_ (fun h => by cases h) (fun _ => ?_)
            · exact congrArg (fun b => some (EV.v (.bool b))) (bne_self_eq_false _)
            (refine run ?_; repeat intro b)
            exact kn _ (VS.dropR [1, 2] rfl (VS.keepN [2, 6, 16, 17, 18, 21] rfl ⟨(F2, _), Hp.sub.refl _, rfl⟩))
      · by_cases hC : askFault a.name a.value = 0
        · by_cases hL : (q.wait.length : Int) = q.most
          · have e1 : putE q a = 7 := by unfold putE; rw [if_pos hB, if_pos hC, if_pos hL]
            rw [hC, e1]
            (refine run ?_; repeat intro b)
            refine s_if true ?_ (fun _ => ?_) (fun h => by cases h)
            · refine congrArg (fun b => some (EV.v (.bool b))) ?_
              show (((q.wait.length : Nat) : Int) == q.most) = true
              rw [beq_iff_eq]; exact hL
            (refine run ?_; repeat intro b)
            exact kn _ (VS.keepN [2, 6, 7, 13, 14, 15, 16, 17, 18, 21, 25] rfl ⟨(), trivial, by rw [e1]⟩)
          · have e1 : putE q a = 0 := by unfold putE; rw [if_pos hB, if_pos hC, if_neg hL]
            rw [hC, e1]
            (refine run ?_; repeat intro b)
            refine s_if false ?_ (fun h => by cases h) (fun _ => ?_)
            · refine congrArg (fun b => some (EV.v (.bool b))) ?_
              show (((q.wait.length : Nat) : Int) == q.most) = false
              rw [beq_eq_false_iff_ne]; exact hL
            (refine run ?_; repeat intro b)
            exact kn _ (VS.keepN [2, 6, 7, 13, 14, 15, 16, 17, 18, 21, 25] rfl ⟨(), trivial, by rw [e1]⟩)
        · have e1 : putE q a = askFault a.name a.value := by unfold putE; rw [if_pos hB, if_neg hC]
          rw [e1]
          generalize askFault a.name a.value = e at hC e1
          refine s_if false ?_ (fun h => by cases h) (fun _ => ?_)
          · refine congrArg (fun b => some (EV.v (.bool b))) ?_
            rw [bpick_and, beq_eq_false_iff_ne.2 hC]; rfl
          (refine run ?_; repeat intro b)
          exact kn _ (VS.keepN [2, 6, 7, 13, 14, 15, 16, 17, 18, 21, 25] rfl ⟨(), trivial, by rw [e1]⟩)
    · have e1 : putE q a = queueFault q := by unfold putE; rw [if_neg hB]
      have e2 : putQ q a = Queue.nil := by unfold putQ; rw [e1, if_neg hB]
      have e3 : putK q a = 0 := by unfold putK; rw [e1, if_neg hB]
      have e4 : takeE q n = queueFault q := by unfold takeE; rw [if_neg hB]
      have e5 : takeQ q n = Queue.nil := by unfold takeQ; rw [e4, if_neg hB]
      have e6 : takeL q n = [] := by unfold takeL; rw [e4, if_neg hB]
      rw [e1, e2, e3, e4, e5, e6]
      generalize queueFault q = e at hB
      (refine run ?_; repeat intro b)
      refine s_if true ?_ (fun _ => ?_) (fun h => by cases h)
      · exact congrArg (fun b => some (EV.v (.bool b))) (by rw [bne_iff_ne]; exact hB)
      (refine run ?_; repeat intro b)
      refine s_plain _ rfl rfl rfl bd52 rfl samequeue_nil ?_
      (refine run ?_; repeat intro b)
      refine s_gplain _ rfl rfl rfl rfl bd52 rfl rfl (fun _ => samequeue_nil) ?_
      (refine run ?_; repeat intro b)
      simp [tupV, bpick]
  · refine s_if (waitBad ahead batch every) ?_ (fun h => ?_) (fun h => ?_)
    · refine congrArg (fun b => some (EV.v (.bool b))) ?_
      rw [bpick_or, bpick_or, bpick_or, bpick_or, bpick_or]
      rfl
    · have h1 : waitE ahead batch every = 4 := by unfold waitE; rw [if_pos h]
      have h2 : waitN ahead batch every = 0 := by unfold waitN; rw [if_pos h]
      rw [h1, h2]
      (refine run ?_; repeat intro b)
      exact kn _ (VS.keepN [2, 6, 7, 13, 14, 15, 16, 17, 18, 21] rfl ⟨(), trivial, rfl⟩)
    · obtain ⟨w1, w2, w3, w4, w5, w6⟩ := waitBad_false h
      have h1 : waitE ahead batch every = 0 := by unfold waitE; rw [h]; rfl
      have h2 : waitN ahead batch every = (ahead / batch + 1) * every := by unfold waitN; rw [h]; rfl
      have hdm := Int.emod_add_mul_ediv ahead batch
      have hm0 := Int.emod_nonneg ahead (show batch ≠ 0 by omega)
      have hm1 := Int.emod_lt_of_pos ahead (show 0 < batch by omega)
      have hq1 : 0 ≤ ahead / batch := Int.ediv_nonneg w1 (by omega)
      have hq2 : ahead / batch ≤ 30 := Int.le_trans (Int.ediv_le_self _ w1) w2
      rw [h1, h2]
      generalize ahead / batch = d at hdm hq1 hq2
      generalize ahead % batch = r at hdm hm0 hm1
      (refine run ?_; repeat intro b)
      refine s_loopP (fun j : Nat => (j : Int) ≤ d) (fun j => ⟨[(2, .v (i64 n)), (4, .v (i64 batch)), (5, .v (i64 every)), (6, .loc 0 0), (7, .loc 1 0), (13, .loc 2 0), (14, .v (i64 (putK q a))), (15, .v (i64 (putE q a))), (16, .loc 3 0), (17, .v (.slice p3 (takeL q n).length c3)), (18, .v (i64 (takeE q n))), (19, .v (i64 ((d + 1) * every))), (20, .v (i64 0)), (21, .loc 4 0), (22, .v (i64 (((j : Int) + 1) * every))), (23, .v (i64 (r + batch * (d - (j : Int)))))], F2, [(4, ⟨some b, [.v (i64 0), .v (.slice none 0 0)], 86, 2⟩), (3, ⟨some b3, [.v (i64 (takeQ q n).most), .v (.slice p2 (takeQ q n).wait.length c2)], 86, 2⟩), (2, ⟨some b2, [.v (i64 (putQ q a).most), .v (.slice p1 (putQ q a).wait.length c1)], 86, 2⟩), (1, ⟨some b1, [.v (S a.name), .v (S a.value), .v (u64 (a.n : Nat)), .v (u64 (a.tag : Nat))], 88, 4⟩), (0, ⟨some b0, [.v (i64 q.most), .v (.slice p q.wait.length c)], 86, 2⟩)], 5⟩) (fun j => d.toNat - j) 0 hq1 (VS.keepN [2, 4, 5, 6, 7, 13, 14, 15, 16, 17, 18, 19, 20, 21, 22, 23] rfl (by rw [← hdm]; simp)) ?_
      intro j hj
      have b1 : 0 ≤ ((j : Int) + 1) * every := Int.mul_nonneg (by omega) (by omega)
      have b2 : ((j : Int) + 1) * every ≤ 31 * 1000 := Int.mul_le_mul (by omega) w6 (by omega) (by omega)
      have b3 : 0 ≤ batch * (d - (j : Int)) := Int.mul_nonneg (by omega) (by omega)
      have b4 : batch * (d - (j : Int)) ≤ 30 * 30 := Int.mul_le_mul w4 (by omega) (by omega) (by omega)
      by_cases hlt : (j : Int) < d
      · have b5 : batch ≤ batch * (d - (j : Int)) := by
          have := Int.mul_le_mul_of_nonneg_left (show (1 : Int) ≤ d - (j : Int) by omega) (show 0 ≤ batch by omega)
          rw [Int.mul_one] at this
          exact this
        have e1 : IntKind.i64.wrap (((j : Int) + 1) * every + every) = (((j + 1 : Nat) : Int) + 1) * every := by
          show _ = (((j : Int) + 1) + 1) * every
          rw [wrap_i64 (by omega) (by omega), Int.add_mul ((j : Int) + 1) 1 every, Int.one_mul]
        have e2 : IntKind.i64.wrap (r + batch * (d - (j : Int)) - batch) = r + batch * (d - ((j + 1 : Nat) : Int)) := by
          have : d - ((j + 1 : Nat) : Int) = (d - (j : Int)) - 1 := by omega
          rw [wrap_i64 (by omega) (by omega), this, Int.mul_sub batch (d - (j : Int)) 1, Int.mul_one]
          omega
        (refine run ?_; repeat intro b)
        refine s_if true ?_ (fun _ => ?_) (fun h => by cases h)
        · exact congrArg (fun b => some (EV.v (.bool b))) (decide_eq_true (by omega))
        (refine run ?_; repeat intro b)
        rw [e1, e2]
        exact s_loopPn (j + 1) (by omega) (by omega) (VS.keepN [2, 4, 5, 6, 7, 13, 14, 15, 16, 17, 18, 19, 20, 21, 22, 23] rfl rfl)
      · obtain rfl : d = (j : Int) := by omega
        have e0 : batch * ((j : Int) - (j : Int)) = 0 := by rw [Int.sub_self, Int.mul_zero]
        (refine run ?_; repeat intro b)
        refine s_if false ?_ (fun h => by cases h) (fun _ => ?_)
        · exact congrArg (fun b => some (EV.v (.bool b))) (decide_eq_false (by omega))
        (refine run ?_; repeat intro b)
        refine s_if false ?_ (fun h => by cases h) (fun _ => ?_)
        · refine congrArg (fun b => some (EV.v (.bool b))) ?_
          simp [bpick]
        (refine run ?_; repeat intro b)
        exact kn _ (VS.keepN [2, 6, 7, 13, 14, 15, 16, 17, 18, 21] rfl ⟨(), trivial, rfl⟩)
end Go.Proofs.Ytaienbnadbadfaa
