/-
Package clerk: Ask, Book, New: the walks.
-/
import Derived.Test.YthkkgphjjmhglaaGreatDoorSetClerk3
import Derived.Test.YthkkgphjjmhglaaGreatDoorQueue3
import Derived.Test.YthkkgphjjmhglaaGreatDoorSetClerkTick
/-!
Package clerk: Ask, Book, New: the walks.
-/
namespace Go.Proofs.YthkkgphjjmhglaaGreatDoor
set_option linter.unusedVariables false
set_option linter.unusedSimpArgs false
open Go.TR
theorem askE_split {c : Clerk} {a : Ask} (h0 : clerkF c = 0) : askE c a = if askFault a.name a.value ≠ 0 then askFault a.name a.value else if closedB c = true then 9 else if (c.queue.wait.length : Int) = c.queue.most ∨ 24 < namesN c [a.name] then 7 else 0 := by
  unfold askE
  rw [if_neg (by rw [h0]; decide)]
theorem askC_bad {c : Clerk} {a : Ask} (h : askE c a ≠ 0) : askC c a = Clerk.none ∧ askT c a = 0 := by
  unfold askC askT
  rw [if_neg h, if_neg h]
  exact ⟨rfl, rfl⟩
theorem askC_good {c : Clerk} {a : Ask} (h : askE c a = 0) : askC c a = { c with queue := ⟨c.queue.most, c.queue.wait ++ [a]⟩ } ∧ askT c a = c.now - c.now % c.every + ((c.queue.wait.length : Int) / c.batch + 1) * c.every := by
  unfold askC askT
  rw [if_pos h, if_pos h]
  exact ⟨rfl, rfl⟩
theorem askFault_two (n v : List UInt8) : askFault n v = 0 ∨ askFault n v = 2 ∨ askFault n v = 3 := by
  unfold askFault
  split
  · split
    · exact .inr (.inl rfl)
    · exact .inl rfl
  · exact .inr (.inr rfl)
theorem tmod_pos {a b : Int} (h : 0 ≤ a) : a.tmod b = a % b := Int.tmod_eq_emod_of_nonneg h
theorem bookFault_nil : bookFault [] = 0 := by unfold bookFault; rfl
attribute [local irreducible] vc vcOps seqK blockK loopK retK retG retI loopV Plain CallOK CallIn bodied VS vcAny dropG backK brK loopPK IntKind.wrap
attribute [local irreducible] bookFault lvlN rootsF lastB lastH clerkF queueFault chainF booksF namesN askFault closedB
set_option maxRecDepth 100000
set_option maxHeartbeats 4000000
theorem clerkask_ok (c : Clerk) (l : CLay) (x : Ask) (hw : c.wf) (hx : x.wf) {F : Hp} (ha : c.at F l) : CallF Tryz.prog F 18 [c.v l, x.v] (fun y F' => ∃ l', y = triple ((askC c x).v l') (i64 (askT c x)) (i64 (askE c x)) ∧ (askC c x).at F' l') := by
  refine CallOK.drop (call_vc (N := 76) (rv := [.cell 4 28, .tmp 5, .tmp 6]) tbok mixed Tryz.func18 rfl rfl rfl rfl rfl ?_)
  (refine run ?_; repeat intro b)
  refine s_plain _ rfl rfl rfl bd23 rfl (clerkcheck_ok c l hw ha) ?_
  (refine run ?_; repeat intro b)
  refine s_if (decide (clerkF c ≠ 0)) ?_ (fun h0 => ?_) (fun h0 => ?_)
  · refine congrArg (fun b => some (EV.v (.bool b))) ?_
    rw [Bool.eq_iff_iff]; simp
  · have h0 := of_decide_eq_true h0
    have e : askE c x = clerkF c := by unfold askE; rw [if_pos h0]
    obtain ⟨e1, e2⟩ := askC_bad (c := c) (a := x) (by rw [e]; exact h0)
    rw [e, e1, e2]
    (refine run ?_; repeat intro b)
    exact s_retG (VS.id ⟨_, rfl, CLay.nil, rfl, Clerk.at_none _⟩)
  have h0 : clerkF c = 0 := by have := of_decide_eq_false h0; omega
  have hG := clerkF_zero h0
  have hS := hG.small
  obtain ⟨q1, q2, q3, _⟩ := queue_zero hG.queue
  obtain ⟨t1, t2, t3, t4, t5, t6⟩ := hG.times
  have hlen := hG.lens
  have hsp := askE_split (a := x) h0
  have hqe : qputE c.queue x = if askFault x.name x.value = 0 then (if (c.queue.wait.length : Int) = c.queue.most then 7 else 0) else askFault x.name x.value := by unfold qputE; rw [if_pos hG.queue]
  (refine run ?_; repeat intro b)
  refine s_callF rfl rfl rfl bd59 rfl (queueput_ok c.queue x hw.queue hx ha.w) ?_
  rintro _ F1 hF1 ⟨pq, cq, rfl, hq, hcq⟩
  rcases askFault_two x.name x.value with f0 | f0
  · rw [f0, if_neg (by decide)] at hsp
    rw [if_pos f0] at hqe
    by_cases hfull : (c.queue.wait.length : Int) = c.queue.most
    · rw [if_pos hfull] at hqe
      rw [if_pos (Or.inl hfull)] at hsp
      rw [hqe]
      (refine run ?_; repeat intro b)
      refine s_plain _ rfl rfl rfl bd60 rfl (closed_ok c l F1) ?_
      (refine run ?_; repeat intro b)
      refine s_if (closedB c) rfl (fun h1 => ?_) (fun h1 => ?_)
      · rw [if_pos h1] at hsp
        obtain ⟨e1, e2⟩ := askC_bad (c := c) (a := x) (by rw [hsp]; decide)
        rw [hsp, e1, e2]
        (refine run ?_; repeat intro b)
        exact s_retG (VS.id ⟨_, rfl, CLay.nil, rfl, Clerk.at_none _⟩)
      · rw [if_neg (by rw [h1]; decide)] at hsp
        obtain ⟨e1, e2⟩ := askC_bad (c := c) (a := x) (by rw [hsp]; decide)
        rw [hsp, e1, e2]
        (refine run ?_; repeat intro b)
        exact s_retG (VS.id ⟨_, rfl, CLay.nil, rfl, Clerk.at_none _⟩)
    · rw [if_neg hfull] at hqe
      have eQ : qputQ c.queue x = ⟨c.queue.most, c.queue.wait ++ [x]⟩ := by unfold qputQ; rw [if_pos hqe]
      have eK : qputK c.queue x = (c.queue.wait.length : Int) := by unfold qputK; rw [if_pos hqe]
      rw [hqe, eQ, eK]
      rw [eQ] at hq hcq
      (refine run ?_; repeat intro b)
      refine s_plain _ rfl rfl rfl bd60 rfl (closed_ok c l F1) ?_
      (refine run ?_; repeat intro b)
      refine s_if (closedB c) rfl (fun h1 => ?_) (fun h1 => ?_)
      · rw [if_pos h1] at hsp
        obtain ⟨e1, e2⟩ := askC_bad (c := c) (a := x) (by rw [hsp]; decide)
        rw [hsp, e1, e2]
        (refine run ?_; repeat intro b)
        exact s_retG (VS.id ⟨_, rfl, CLay.nil, rfl, Clerk.at_none _⟩)
      rw [if_neg (by rw [h1]; decide)] at hsp
      (refine run ?_; repeat intro b)
      refine s_shift (VS.freeze 4 [2, 3, 4, 8, 9, 10, 43, 44, 47] rfl rfl rfl rfl fun F2 hs2 hf2 => VS.id ?_)
      have hF2 := hF1.trans hs2
      (refine run ?_; repeat intro b)
      refine s_plain _ rfl rfl rfl bd61 rfl (names_at c l [x.name] hw hS (by omega) (Nat.le_refl 1) (fun s hs => by rw [List.mem_singleton.1 hs]; exact hx.name) (Clerk.at_sub hF2 ha) hf2) ?_
      (refine run ?_; repeat intro b)
      refine s_if (decide (24 < namesN c [x.name])) ?_ (fun h2 => ?_) (fun h2 => ?_)
      · refine congrArg (fun b => some (EV.v (.bool b))) ?_
        rw [decide_eq_decide]; omega
      · rw [if_pos (Or.inr (of_decide_eq_true h2))] at hsp
        obtain ⟨e1, e2⟩ := askC_bad (c := c) (a := x) (by rw [hsp]; decide)
        rw [hsp, e1, e2]
        (refine run ?_; repeat intro b)
        exact s_retG (VS.id ⟨_, rfl, CLay.nil, rfl, Clerk.at_none _⟩)
      have h2 := of_decide_eq_false h2
      rw [if_neg (by omega)] at hsp
      obtain ⟨e1, e2⟩ := askC_good (c := c) (a := x) hsp
      rw [hsp, e1, e2]
      (refine run ?_; repeat intro b)
      refine s_callF rfl rfl rfl bd62 rfl (ccopied_ok c l hw hS (Clerk.at_sub hF2 ha)) ?_
      rintro _ F3 hF3 ⟨l', rfl, ha', hcb'⟩
      (refine run ?_; repeat intro b)
      refine s_plain _ rfl rfl rfl bd63 rfl (queuewait_ok (c.queue.wait.length : Int) c.batch c.every F3) ?_
      have hwb : waitBad (c.queue.wait.length : Int) c.batch c.every = false := by
        unfold waitBad
        simp only [Bool.or_eq_false_iff, decide_eq_false_iff_not]
        omega
      have hwe : waitE (c.queue.wait.length : Int) c.batch c.every = 0 := by unfold waitE; rw [hwb]; rfl
      have hwn : waitN (c.queue.wait.length : Int) c.batch c.every = ((c.queue.wait.length : Int) / c.batch + 1) * c.every := by unfold waitN; rw [hwb]; rfl
      have hd1 : 0 ≤ (c.queue.wait.length : Int) / c.batch := Int.ediv_nonneg (by omega) (by omega)
      have hd2 : (c.queue.wait.length : Int) / c.batch ≤ 30 := Int.le_trans (Int.ediv_le_self _ (by omega)) (by omega)
      have hm1 : 0 ≤ ((c.queue.wait.length : Int) / c.batch + 1) * c.every := Int.mul_nonneg (by omega) (by omega)
      have hm2 : ((c.queue.wait.length : Int) / c.batch + 1) * c.every ≤ 31 * 1000 := Int.mul_le_mul (by omega) t4 (by omega) (by omega)
      have hr1 := Int.emod_nonneg c.now (by omega : c.every ≠ 0)
      have hr2 := Int.emod_lt_of_pos c.now (by omega : 0 < c.every)
      rw [hwe, hwn]
      generalize ((c.queue.wait.length : Int) / c.batch + 1) * c.every = W at *
      (refine run ?_; repeat intro b)
      refine s_regiona [0] (by kernel_rfl) ?_
      refine s_firsts [0, 1, 2, 3, 4, 5, 6, 7, 8, 9, 10] (f' := 3) (by kernel_rfl) rfl rfl rfl ?_
      (refine run ?_; repeat intro b)
      refine s_pureO rfl rfl rfl (by omega) ?_
      rw [tmod_pos t5]
      (refine run ?_; repeat intro b)
      rw [wrap_i64 (n := c.now - c.now % c.every) (by omega) (by omega), wrap_i64 (n := c.now - c.now % c.every + W) (by omega) (by omega)]
      (refine run ?_; repeat intro b)
      refine s_one 11 (by kernel_rfl) rfl rfl ?_
      (refine run ?_; repeat intro b)
      refine s_br (Hp.sub.refl _) ⟨⟨rfl, rfl, rfl, rfl, rfl, rfl, rfl, rfl, trivial⟩, trivial⟩ ?_
      refine s_firsts [12, 13] (f' := 0) (by kernel_rfl) rfl rfl rfl ?_
      (refine run ?_; repeat intro b)
      refine s_stop (by kernel_rfl) ?_
      (refine run ?_; repeat intro b)
      exact s_retG (VS.id ⟨_, rfl, ⟨pq, cq, l'.h, l'.ch, l'.b, l'.cb⟩, rfl, frow_sub (hs2.trans hF3) hq, hcq, ha'.h, ha'.ch, ha'.cb, ha'.b⟩)
  · have hne : askFault x.name x.value ≠ 0 := by omega
    rw [if_pos hne] at hsp
    rw [if_neg hne] at hqe
    obtain ⟨e1, e2⟩ := askC_bad (c := c) (a := x) (by rw [hsp]; exact hne)
    rw [hqe, hsp, e1, e2]
    rcases f0 with f0 | f0
    · rw [f0]
      (refine run ?_; repeat intro b)
      exact s_retG (VS.id ⟨_, rfl, CLay.nil, rfl, Clerk.at_none _⟩)
    · rw [f0]
      (refine run ?_; repeat intro b)
      exact s_retG (VS.id ⟨_, rfl, CLay.nil, rfl, Clerk.at_none _⟩)
theorem clerkbook_ok (c : Clerk) (l : CLay) (n : Int) (hw : c.wf) (hn : -9223372036854775808 ≤ n ∧ n ≤ 9223372036854775807) {F : Hp} (ha : c.at F l) : CallF Tryz.prog F 20 [c.v l, i64 n] (fun y F' => ∃ p' c', y = pair (.slice p' (bookO c n).length c') (i64 (bookE c n)) ∧ Frow F' p' ((bookO c n).flatMap Entry.row)) := by
  refine CallOK.drop (call_vc (N := 27) (rv := [.tmp 4, .tmp 5]) tbok mixed Tryz.func20 rfl rfl rfl rfl rfl ?_)
  have hB : bookE c n ≠ 0 → bookO c n = [] := fun h => by unfold bookO; rw [if_neg h]
  (refine run ?_; repeat intro b)
  refine s_plain _ rfl rfl rfl bd23 rfl (clerkcheck_ok c l hw ha) ?_
  (refine run ?_; repeat intro b)
  refine s_if (decide (clerkF c ≠ 0)) ?_ (fun h0 => ?_) (fun h0 => ?_)
  · refine congrArg (fun b => some (EV.v (.bool b))) ?_
    rw [Bool.eq_iff_iff]; simp
  · have h0 := of_decide_eq_true h0
    have e : bookE c n = clerkF c := by unfold bookE; rw [if_pos h0]
    rw [hB (by rw [e]; exact h0), e]
    (refine run ?_; repeat intro b)
    exact s_retG (VS.id ⟨_, rfl, none, 0, rfl, frow_nil _ _⟩)
  have h0 : clerkF c = 0 := by have := of_decide_eq_false h0; omega
  have hG := clerkF_zero h0
  have hlen := hG.lens
  have e : bookE c n = if n < 0 ∨ (c.books.length : Int) ≤ n then 4 else 0 := by unfold bookE; rw [if_neg (by rw [h0]; decide)]
  (refine run ?_; repeat intro b)
  refine s_if (decide (n < 0 ∨ (c.books.length : Int) ≤ n)) ?_ (fun h1 => ?_) (fun h1 => ?_)
  · refine congrArg (fun b => some (EV.v (.bool b))) ?_
    rw [bpick_or, Bool.eq_iff_iff]; simp
  · rw [if_pos (of_decide_eq_true h1)] at e
    rw [hB (by rw [e]; decide), e]
    (refine run ?_; repeat intro b)
    exact s_retG (VS.id ⟨_, rfl, none, 0, rfl, frow_nil _ _⟩)
  have h1 := of_decide_eq_false h1
  rw [if_neg h1] at e
  obtain ⟨k, rfl⟩ : ∃ k : Nat, n = (k : Int) := ⟨n.toNat, by omega⟩
  have hk : k < c.books.length := by omega
  have eO : bookO c (k : Int) = c.books[k] := by
    unfold bookO
    rw [if_pos e, Int.toNat_natCast]
    simp [List.getD, hk]
  obtain ⟨bs, hb, hfb, hbs⟩ := ha.b
  have hbl := bks_len hb
  obtain ⟨⟨ps, ls, cs⟩, k1, k2, k3⟩ := bk_get hb hk
  have kc := bk_cell hfb k1
  have hat := hbs _ k3
  have h24 := hG.small.each c.books[k] (List.getElem_mem hk)
  simp only at k2 hat
  rw [e, eO, ← k2]
  rw [← k2] at h24
  (refine run ?_; repeat intro b)
  refine s_pureO rfl rfl rfl ⟨by omega, by omega, frow_some hfb (j := k) (by rw [List.length_map, hbl]; omega)⟩ ?_
  refine s_load (Bk.v (ps, ls, cs)) rfl rfl rfl rfl (by rw [Int.toNat_natCast, Nat.mul_one]; exact kc) ?_
  (refine run ?_; repeat intro b)
  refine s_callF rfl rfl rfl bd31 rfl (CallOK.frz (fun h => by rw [List.eq_nil_of_length_eq_zero h]; rfl) (clone_entry (ls.flatMap Entry.row) ls.length (flat_len entry_row _) hat.2 (entry_one _) (by omega))) ?_
  rintro _ G2 hG2 ⟨p2, c2, rfl, hc2, hf2⟩
  (refine run ?_; repeat intro b)
  exact s_retG (VS.id ⟨_, rfl, p2, c2, rfl, hf2⟩)
theorem newBad_eq (most batch every : Int) : (((!(decide (1 ≤ most) && decide (most ≤ 30))) || (!(decide (1 ≤ batch) && decide (batch ≤ 30)))) || (!(decide (1 ≤ every) && decide (every ≤ 1000)))) = newBad most batch every := by
  unfold newBad
  rw [Bool.eq_iff_iff]
  simp only [Bool.or_eq_true, Bool.not_eq_true', Bool.and_eq_false_iff, decide_eq_false_iff_not, decide_eq_true_eq]
  omega
theorem clerknew_ok (most batch every : Int) {F : Hp} : CallF Tryz.prog F 17 [i64 most, i64 batch, i64 every] (fun y F' => ∃ l', y = pair ((newC most batch every).v l') (i64 (newE most batch every)) ∧ (newC most batch every).at F' l') := by
  refine CallOK.drop (call_vc (N := 43) (rv := [.cell 6 28, .tmp 7]) tbok mixed Tryz.func17 rfl rfl rfl rfl rfl ?_)
  (refine run ?_; repeat intro b)
  refine s_plain _ rfl rfl rfl bd56 rfl (span_ok most 30 F) ?_
  (refine run ?_; repeat intro b)
  refine s_gplain _ rfl rfl rfl rfl bd56 rfl rfl (fun _ => span_ok batch 30 F) ?_
  (refine run ?_; repeat intro b)
  refine s_gplain _ rfl rfl rfl rfl bd56 rfl rfl (fun _ => span_ok every 1000 F) ?_
  (refine run ?_; repeat intro b)
  refine s_if (newBad most batch every) ?_ (fun h1 => ?_) (fun h1 => ?_)
  · refine congrArg (fun b => some (EV.v (.bool b))) ?_
    rw [bpick_or, bpick_or, ← newBad_eq]
  · have e1 : newC most batch every = Clerk.none := by unfold newC; rw [if_pos h1]
    have e2 : newE most batch every = 4 := by unfold newE; rw [if_pos h1]
    rw [e1, e2]
    (refine run ?_; repeat intro b)
    exact s_retG (VS.id ⟨_, rfl, CLay.nil, rfl, Clerk.at_none _⟩)
  have e1 : newC most batch every = ⟨⟨most, []⟩, batch, every, 0, [⟨0, lvlN [] [], 0, 0⟩], [[]]⟩ := by unfold newC; rw [if_neg (by rw [h1]; decide)]
  have e2 : newE most batch every = 0 := by unfold newE; rw [if_neg (by rw [h1]; decide)]
  rw [e1, e2]
  have r0 := treeroot_ok [] (Nat.zero_le _) (fun x hx => by cases hx) (c := 0) (frow_nil F none)
  obtain ⟨r1, r2⟩ := at_good bookFault_nil goodPre_nil
  rw [r1, r2] at r0
  have hlt := lvlN_MM [] []
  have hf0 : (⟨0, lvlN [] [], 0, 0⟩ : Head).fault = 0 := Head.fault_zero (by decide) (by decide) hlt (by decide) (by decide) (by decide) (fun _ => rfl)
  have hh := headfirst_ok (lvlN [] []) 0 F
  rw [hf0] at hh
  (refine run ?_; repeat intro b)
  refine s_plain _ rfl rfl rfl bd57 rfl r0 ?_
  (refine run ?_; repeat intro b)
  refine s_plain _ rfl rfl rfl bd58 rfl hh ?_
  (refine run ?_; repeat intro b)
  rename_i bA bB
  revert b; intro bC
  refine s_retG ?_
  refine VS.freeze 3 [6, 7] rfl rfl rfl rfl fun F1 hs1 hf1 => ?_
  refine VS.freeze 2 [6, 7] rfl rfl rfl rfl fun F2 hs2 hf2 => VS.id ⟨_, rfl, ⟨none, 0, some ⟨bB, 0, none⟩, 1, some ⟨bC, 0, none⟩, 1⟩, rfl, frow_nil _ _, Nat.le_refl _, hf2, Nat.le_refl _, Nat.le_refl _, [(none, [], 0)], rfl, frow_sub hs2 hf1, fun s hs => ?_⟩
  rw [List.mem_singleton.1 hs]
  exact ⟨trivial, frow_nil _ _⟩
end Go.Proofs.YthkkgphjjmhglaaGreatDoor
/-!
When an ask is had at the latest: from tick to tick. Plainly.
-/
namespace Go.Proofs.YthkkgphjjmhglaaGreatDoor
set_option linter.unusedVariables false
set_option linter.unusedSimpArgs false
open Go.TR
/-- The clock behind j rounds. -/
def tmN (now every : Int) (j : Nat) : Int := if j = 0 then now else (now / every + (j : Int)) * every
theorem tm_div {now every : Int} (he : 1 ≤ every) (j : Nat) : tmN now every j / every = now / every + (j : Int) := by
  unfold tmN
  split
  · rename_i h; subst h; simp
  · exact Int.mul_ediv_cancel _ (by omega)
theorem tm_succ {now every : Int} (j : Nat) : tmN now every (j + 1) = (now / every + (j : Int) + 1) * every := by
  unfold tmN
  rw [if_neg (by omega)]
  congr 1
  omega
theorem tm_le {now every : Int} (he : 1 ≤ every) (h0 : 0 ≤ now) (j : Nat) : tmN now every j < tmN now every (j + 1) ∧ tmN now every (j + 1) ≤ tmN now every j + every := by
  have h1 := tm_div (now := now) he j
  have h2 := Int.emod_add_mul_ediv (tmN now every j) every
  have h3 := Int.emod_nonneg (tmN now every j) (by omega : every ≠ 0)
  have h4 := Int.emod_lt_of_pos (tmN now every j) (by omega : 0 < every)
  rw [h1] at h2
  rw [tm_succ]
  have h5 : (now / every + (j : Int) + 1) * every = every * (now / every + (j : Int)) + every := by
    rw [Int.add_mul, Int.one_mul, Int.mul_comm]
  omega
/-- Between two ticks no number is divided. -/
theorem tm_mid {now every x : Int} (he : 1 ≤ every) {j : Nat} (h1 : tmN now every j < x) (h2 : x ≤ tmN now every (j + 1)) : x % every = 0 ↔ x = tmN now every (j + 1) := by
  have e1 := tm_div (now := now) he j
  have e2 := Int.emod_add_mul_ediv (tmN now every j) every
  have e3 := Int.emod_nonneg (tmN now every j) (by omega : every ≠ 0)
  rw [e1] at e2
  rw [tm_succ] at h2 ⊢
  have h5 : (now / every + (j : Int) + 1) * every = every * (now / every + (j : Int)) + every := by
    rw [Int.add_mul, Int.one_mul, Int.mul_comm]
  constructor
  · intro h
    have h6 := Int.emod_add_mul_ediv x every
    rw [h] at h6
    have h7 : every * (now / every + (j : Int)) < every * (x / every) := by omega
    have h8 := Int.lt_of_mul_lt_mul_left h7 (by omega)
    have h9 : every * (now / every + (j : Int) + 1) ≤ every * (x / every) := Int.mul_le_mul_of_nonneg_left (by omega) (by omega)
    rw [Int.mul_comm (now / every + (j : Int) + 1)] at h2 ⊢
    omega
  · rintro rfl
    exact Int.mul_emod_left _ _
theorem tm_last {now every w batch : Int} (h0 : 0 ≤ now) (he : 1 ≤ every) (hb : 1 ≤ batch) (hw : 0 ≤ w) {j : Nat} (h1 : (j : Int) * batch ≤ w) (h2 : w < (j : Int) * batch + batch) : tmN now every (j + 1) = now - now % every + (w / batch + 1) * every := by
  have e1 : w / batch = (j : Int) := by
    rw [Int.ediv_eq_iff_of_pos (by omega)]
    exact ⟨h1, h2⟩
  have e2 := Int.emod_add_mul_ediv now every
  rw [tm_succ, e1]
  have h5 : (now / every + (j : Int) + 1) * every = every * (now / every) + ((j : Int) + 1) * every := by
    rw [Int.add_assoc, Int.add_mul, Int.mul_comm (now / every)]
  omega
end Go.Proofs.YthkkgphjjmhglaaGreatDoor
