/-
Package clerk: Tick: the walk.
-/
import Derived.Test.YthkkgphjjmhglaaGreatDoorSetClerkTime
namespace Go.Proofs.YthkkgphjjmhglaaGreatDoor
set_option linter.unusedVariables false
set_option linter.unusedSimpArgs false
open Go.TR
theorem sets_wf {l : List Entry} (hl : ∀ x ∈ l, x.wf) {asks : List Ask} (ha : ∀ a ∈ asks, a.wf) (hs : ∀ (k : Nat) (hk : k < asks.length), setE (setsL l (asks.take k)) asks[k].name asks[k].value = 0) : ∀ k, k ≤ asks.length → ∀ x ∈ setsL l (asks.take k), x.wf
  | 0, _, x, hx => hl x hx
  | k + 1, hk, x, hx => by
    rw [setsL_succ l (by omega : k < asks.length)] at hx
    rcases (set_fault (hs k (by omega))).2 x hx with rfl | hx
    · have := ha _ (List.getElem_mem (by omega : k < asks.length))
      exact ⟨this.name, this.value⟩
    · exact sets_wf hl ha hs k (by omega) x hx
theorem sets_small {l : List Entry} (hl : l.length ≤ 24) {asks : List Ask} (hs : ∀ (k : Nat) (hk : k < asks.length), setE (setsL l (asks.take k)) asks[k].name asks[k].value = 0) : ∀ k, k ≤ asks.length → (setsL l (asks.take k)).length ≤ 24
  | 0, _ => hl
  | k + 1, hk => by
    rw [setsL_succ l (by omega : k < asks.length)]
    exact (bookFault_zero (set_fault (hs k (by omega))).1).1
theorem take_min {α : Type} (l : List α) (n : Nat) : l.take (min n l.length) = l.take n ∧ l.drop (min n l.length) = l.drop n := by
  by_cases h : n ≤ l.length
  · rw [Nat.min_eq_left h]; exact ⟨rfl, rfl⟩
  · rw [Nat.min_eq_right (by omega), List.take_length, List.drop_length, List.take_of_length_le (by omega), List.drop_eq_nil_of_le (by omega)]; exact ⟨rfl, rfl⟩
theorem take_clerk {c : Clerk} (hG : Good c) : takeE c.queue c.batch = 0 ∧ takeQ c.queue c.batch = ⟨c.queue.most, c.queue.wait.drop c.batch.toNat⟩ ∧ takeL c.queue c.batch = takenL c := by
  have := hG.times
  have e : takeE c.queue c.batch = 0 := by unfold takeE; rw [if_pos hG.queue, if_neg (by omega)]
  refine ⟨e, ?_, ?_⟩
  · unfold takeQ takeM
    rw [if_pos e, (take_min _ _).2]
  · unfold takeL takeM takenL
    rw [if_pos e, (take_min _ _).1]
theorem tick_bad {c : Clerk} (h : clerkF c ≠ 0) : tickC c = Clerk.none ∧ tickB c = false := by
  unfold tickC tickB
  rw [if_pos h, decide_eq_false h]
  exact ⟨rfl, rfl⟩
theorem tick_closed {c : Clerk} (h : clerkF c = 0) (h1 : closedB c = true) : tickC c = c ∧ tickB c = false := by
  unfold tickC tickB dueB
  rw [if_neg (by rw [h]; decide), if_pos h1, h1]
  exact ⟨rfl, by simp⟩
theorem tick_wait {c : Clerk} (h : clerkF c = 0) (h1 : closedB c = false) (h2 : (c.now + 1) % c.every ≠ 0) : tickC c = { c with now := c.now + 1 } ∧ tickB c = false := by
  have hd : dueB c = false := by unfold dueB; rw [h1, decide_eq_false h2]; rfl
  unfold tickC tickB
  rw [if_neg (by rw [h]; decide), h1, hd]
  exact ⟨rfl, by simp⟩
theorem tick_due {c : Clerk} (h : clerkF c = 0) (h1 : closedB c = false) (h2 : (c.now + 1) % c.every = 0) : tickC c = ⟨⟨c.queue.most, c.queue.wait.drop c.batch.toNat⟩, c.batch, c.every, c.now + 1, c.heads ++ [nextHd c], c.books ++ [nextB c]⟩ ∧ tickB c = true := by
  have hd : dueB c = true := by unfold dueB; rw [h1, decide_eq_true h2]; rfl
  unfold tickC tickB
  rw [if_neg (by rw [h]; decide), h1, hd, h]
  exact ⟨rfl, by simp⟩
theorem lastB_now (c : Clerk) (n : Int) : lastB { c with now := n } = lastB c := rfl
theorem nextB_def (c : Clerk) : nextB c = setsL (lastB c) (takenL c) := rfl
theorem setsL_zero (l : List Entry) (a : List Ask) : setsL l (a.take 0) = l := rfl
theorem nextHd_def (c : Clerk) : nextHd c = ⟨(lastH c.heads).epoch + 1, lvlN (nextB c) [], (lastH c.heads).mark, c.now + 1⟩ := rfl
attribute [local irreducible] vc vcOps seqK blockK loopK retK retG retI loopV Plain CallOK CallIn bodied VS vcAny dropG backK brK loopPK IntKind.wrap
attribute [local irreducible] bookFault lvlN rootsF lastB lastH clerkF queueFault chainF booksF namesN askFault closedB setsL takenL nextB nextHd setL setE
set_option maxRecDepth 100000
set_option maxHeartbeats 4000000
theorem clerktick_ok (c : Clerk) (l : CLay) (hw : c.wf) {F : Hp} (ha : c.at F l) : CallF Tryz.prog F 19 [c.v l] (fun y F' => ∃ l', y = triple ((tickC c).v l') (.bool (tickB c)) (i64 (clerkF c)) ∧ (tickC c).at F' l') := by
  refine CallOK.drop (call_vc (N := 88) (rv := [.cell 2 28, .tmp 3, .tmp 4]) tbok mixed Tryz.func19 rfl rfl rfl rfl rfl ?_)
  (refine run ?_; repeat intro b)
  rename_i bY
  revert b; intro bX
  refine s_plain _ rfl rfl rfl bd23 rfl (clerkcheck_ok c l hw ha) ?_
  (refine run ?_; repeat intro b)
  refine s_if (decide (clerkF c ≠ 0)) ?_ (fun h0 => ?_) (fun h0 => ?_)
  · refine congrArg (fun b => some (EV.v (.bool b))) ?_
    rw [Bool.eq_iff_iff]; simp
  · obtain ⟨e1, e2⟩ := tick_bad (of_decide_eq_true h0)
    rw [e1, e2]
    (refine run ?_; repeat intro b)
    exact s_retG (VS.id ⟨_, rfl, CLay.nil, rfl, Clerk.at_none _⟩)
  have h0 : clerkF c = 0 := by have := of_decide_eq_false h0; omega
  have hG := clerkF_zero h0
  have hS := hG.small
  obtain ⟨q1, q2, q3, _⟩ := queue_zero hG.queue
  obtain ⟨t1, t2, t3, t4, t5, t6⟩ := hG.times
  have hlen := hG.lens
  rw [h0]
  (refine run ?_; repeat intro b)
  refine s_callF rfl rfl rfl bd62 rfl (ccopied_ok c l hw hS ha) ?_
  rintro _ F1 hF1 ⟨l1, rfl, ha1, hcb1⟩
  (refine run ?_; repeat intro b)
  refine s_plain _ rfl rfl rfl bd60 rfl (closed_ok c l1 F1) ?_
  (refine run ?_; repeat intro b)
  refine s_if (closedB c) rfl (fun h1 => ?_) (fun h1 => ?_)
  · obtain ⟨e1, e2⟩ := tick_closed h0 h1
    rw [e1, e2]
    (refine run ?_; repeat intro b)
    exact s_retG (VS.id ⟨_, rfl, l1, rfl, ha1⟩)
  (refine run ?_; repeat intro b)
  rw [wrap_i64 (n := c.now + 1) (by omega) (by omega)]
  (refine run ?_; repeat intro b)
  refine s_pureO rfl rfl rfl (by omega) ?_
  rw [tmod_pos (by omega)]
  (refine run ?_; repeat intro b)
  refine s_if (decide ((c.now + 1) % c.every ≠ 0)) ?_ (fun h2 => ?_) (fun h2 => ?_)
  · refine congrArg (fun b => some (EV.v (.bool b))) ?_
    rw [Bool.eq_iff_iff]; simp
  · obtain ⟨e1, e2⟩ := tick_wait h0 h1 (of_decide_eq_true h2)
    rw [e1, e2]
    (refine run ?_; repeat intro b)
    exact s_retG (VS.id ⟨_, rfl, l1, rfl, ha1.w, ha1.cw, ha1.h, ha1.ch, ha1.cb, ha1.b⟩)
  have h2 : (c.now + 1) % c.every = 0 := by have := of_decide_eq_false h2; omega
  obtain ⟨e1, e2⟩ := tick_due h0 h1 h2
  obtain ⟨k1, k2, k3⟩ := take_clerk hG
  obtain ⟨g1, g2, g3⟩ := hG.sets
  obtain ⟨bs, hb, hfb, hbs⟩ := ha1.b
  have hsm := hG.last
  have hlw := (hw.books _ (lastB_mem (c := c) (by omega))).2
  have h24 := (bookFault_zero hG.last).1
  have haw : ∀ a ∈ takenL c, a.wf := fun a h => hw.queue.wait a (by unfold takenL at h; exact List.mem_of_mem_take h)
  have hsw := sets_wf hlw haw g3
  have hss := sets_small h24 g3
  have htl : (takenL c).length ≤ 30 := by unfold takenL; rw [List.length_take]; omega
  rw [e1, e2]
  (refine run ?_; repeat intro b)
  refine s_callF rfl rfl rfl bd64 rfl (queuetake_ok c.queue c.batch hw.queue ha1.cw ha1.w) ?_
  rintro _ F2 hF2 ⟨pq, cq, pa, ca, rfl, hfq, hfa, hcq⟩
  rw [k1, k2, k3]
  rw [k2] at hfq hcq
  rw [k3] at hfa
  (refine run ?_; repeat intro b)
  obtain ⟨⟨ps, ls, cs⟩, s1, s2, s3⟩ := last_ok { c with now := c.now + 1 } l1 bs (show 0 < c.books.length by omega) hw.blen hb (frow_sub hF2 hfb)
  have hat := Bk.at_sub hF2 (hbs _ s1)
  rw [lastB_now] at s2
  simp only at s2 hat
  subst s2
  refine s_plain _ rfl rfl rfl bd65 rfl s3 ?_
  (refine run ?_; repeat intro b)
  refine s_callF rfl rfl rfl bd31 rfl (CallOK.frz (fun h => by rw [List.eq_nil_of_length_eq_zero h]; rfl) (clone_entry ((lastB c).flatMap Entry.row) (lastB c).length (flat_len entry_row _) hat.2 (entry_one _) (by omega))) ?_
  rintro _ F3 hF3 ⟨p3, c3, rfl, hc3, hf3⟩
  have hfa3 := frow_sub hF3 hfa
  (refine run ?_; repeat intro b)
  revert b; intro bR
  rw [show (lastB c).length = (setsL (lastB c) ((takenL c).take 0)).length from by rw [setsL_zero]]
  refine s_loopP (fun q : Nat × (Option Addr × Nat) × Hp => q.1 ≤ (takenL c).length ∧ F3.sub q.2.2 ∧ Frow q.2.2 q.2.1.1 ((setsL (lastB c) ((takenL c).take q.1)).flatMap Entry.row))
    (fun q => ⟨[(1, .loc 0 0), (2, .loc 1 0), (6, .loc 2 0), (9, .v (.slice q.2.1.1 (setsL (lastB c) ((takenL c).take q.1)).length q.2.1.2)), (48, .v (.slice pa (takenL c).length ca)), (49, .v (i64 ((takenL c).length : Nat))), (50, .v (i64 (q.1 : Nat)))], q.2.2,
      [(2, ⟨some bR, [.v (i64 c.queue.most), .v (.slice pq (c.queue.wait.drop c.batch.toNat).length cq)], 24, 2⟩),
       (1, ⟨some bX, [.v (i64 0), .v (.slice none 0 0), .v (i64 0), .v (i64 0), .v (i64 0), .v (.slice none 0 0), .v (.slice none 0 0)], 28, 7⟩),
       (0, ⟨some bY, [.v (i64 c.queue.most), .v (.slice l1.w c.queue.wait.length l1.cw), .v (i64 c.batch), .v (i64 c.every), .v (i64 (c.now + 1)), .v (.slice l1.h c.heads.length l1.ch), .v (.slice l1.b c.books.length l1.cb)], 28, 7⟩)], 3⟩)
    (fun q => (takenL c).length - q.1) (0, (p3, c3), F3) ⟨Nat.zero_le _, fun _ _ h => h, by dsimp only; rw [setsL_zero]; exact hf3⟩ (VS.keepN [1, 2, 6, 9, 48, 49, 50] rfl rfl) ?_
  rintro ⟨k, ⟨p4, c4⟩, G⟩ ⟨hk, hG3, hf4⟩
  dsimp only at hk hG3 hf4 ⊢
  have hfa4 := frow_sub hG3 hfa3
  by_cases hlt : k < (takenL c).length
  · obtain ⟨o1, o2⟩ := frow_agg ask_cells (by decide) hfa4 k hlt
    have e0 := g3 k hlt
    have w0 := hsw k hk
    have l0 := hss k hk
    have wa := haw _ (List.getElem_mem hlt)
    have st := setsL_succ (lastB c) hlt
    generalize (takenL c)[k] = ak at *
    have hset := treeset_ok (setsL (lastB c) ((takenL c).take k)) ak.name ak.value (by omega) w0 wa.name (c := c4) hf4
    have eo : setO (setsL (lastB c) ((takenL c).take k)) ak.name ak.value = setsL (lastB c) ((takenL c).take (k + 1)) := by unfold setO; rw [if_pos e0, st]
    rw [e0, eo] at hset
    (refine run ?_; repeat intro b)
    refine s_if true (by rw [← decide_eq_true (p := ((k : Nat) : Int) < (((takenL c).length : Nat) : Int)) (by omega)]; rfl) (fun _ => ?_) (fun h => by cases h)
    (refine run ?_; repeat intro b)
    refine s_pureO rfl rfl rfl ⟨by omega, by omega, frow_some hfa4 (j := k * 4) (by rw [flat_len ask_cells]; omega)⟩ ?_
    refine s_loadA ak.cells rfl rfl rfl rfl rfl (by rw [Int.toNat_natCast]; exact o1) (by rw [Int.toNat_natCast]; exact o2) ?_
    (refine run ?_; repeat intro b)
    refine s_callF rfl rfl rfl bd66 rfl hset ?_
    rintro _ G2 hG2 ⟨p5, c5, rfl, hf5⟩
    (refine run ?_; repeat intro b)
    rw [wrap_succ (by omega)]
    exact s_loopPc (k + 1, (p5, c5), G2) [3] [1, 2, 6, 9, 48, 49, 50] ⟨hlt, hG3.trans hG2, hf5⟩ (by simp only; omega) rfl rfl rfl rfl ⟨⟨(show 2 < 3 by decide), fun e he => vals_lt [_, _] e he⟩, ⟨(show 1 < 3 by decide), fun e he => vals_lt [_, _, _, _, _, _, _] e he⟩, ⟨(show 0 < 3 by decide), fun e he => vals_lt [_, _, _, _, _, _, _] e he⟩, trivial⟩ rfl
  · have hge : k = (takenL c).length := by omega
    rw [hge, List.take_length, ← nextB_def] at hf4
    have hl4 := hss k hk
    have hw4 := hsw k hk
    rw [hge, List.take_length, ← nextB_def] at hl4 hw4
    rw [hge, List.take_length, ← nextB_def]
    have r0 := treeroot_ok (nextB c) (by omega) hw4 (c := c4) hf4
    obtain ⟨r1, r2⟩ := at_good g1 goodPre_nil
    rw [r1, r2] at r0
    (refine run ?_; repeat intro b)
    refine s_if false (by rw [← decide_eq_false (p := (((takenL c).length : Nat) : Int) < (((takenL c).length : Nat) : Int)) (by omega)]; rfl) (fun h => by cases h) (fun _ => ?_)
    (refine run ?_; repeat intro b)
    refine s_plain _ rfl rfl rfl bd57 rfl r0 ?_
    (refine run ?_; repeat intro b)
    have hfbG := frow_sub (hF2.trans (hF3.trans hG3)) hfb
    have hbl := bks_len hb
    obtain ⟨hn1, hn2, hn3, hn4⟩ := hG.next h1 (root := lvlN (nextB c) []) (lvlN_MM _ _)
    rw [← nextHd_def] at hn4
    rw [hcb1]
    refine s_regiona [2] (by kernel_rfl) ?_
    refine s_firsts [0, 1, 3] (f' := 7) (by kernel_rfl) rfl rfl rfl ?_
    (refine run ?_; repeat intro b)
    refine s_two 2 4 (by kernel_rfl) rfl rfl rfl ?_ ?_
    · (refine run ?_; repeat intro b)
      refine s_br (Hp.sub.refl _) ⟨⟨rfl, rfl, rfl, trivial⟩, trivial⟩ ?_
      refine s_firsts [6] (f' := 5) (by kernel_rfl) rfl rfl rfl ?_
      (refine run ?_; repeat intro b)
      refine s_one 4 (by kernel_rfl) rfl rfl ?_
      (refine run ?_; repeat intro b)
      refine s_br (Hp.sub.refl _) ⟨⟨rfl, rfl, rfl, trivial⟩, trivial⟩ ?_
      refine s_one 5 (by kernel_rfl) rfl rfl ?_
      refine s_appV (bs.map Bk.v) rfl rfl rfl rfl rfl rfl (by rw [List.length_map, hbl]; exact (Nat.mul_one _).symm) hfbG (src_row rfl rfl) (fun e he => by rw [List.mem_singleton.1 he]; exact ⟨rfl, _, rfl⟩) (by show _ * 24 ≤ _; omega) (fun h => by cases h) (fun _ b2 c2 hc2 => ?_)
      (refine run ?_; repeat intro b)
      refine s_br (Hp.sub.refl _) ⟨⟨rfl, rfl, rfl, trivial⟩, trivial⟩ ?_
      refine s_one 7 (by kernel_rfl) rfl rfl ?_
      (refine run ?_; repeat intro b)
      refine s_br (Hp.sub.refl _) ⟨⟨rfl, rfl, rfl, trivial⟩, trivial⟩ ?_
      refine s_firsts [8] (f' := 1) (by kernel_rfl) rfl rfl rfl ?_
      (refine run ?_; repeat intro b)
      refine s_one 9 (by kernel_rfl) rfl rfl ?_
      (refine run ?_; repeat intro b)
      refine s_br (Hp.sub.refl _) ⟨⟨rfl, rfl, rfl, trivial⟩, trivial⟩ ?_
      refine s_stop (by kernel_rfl) ?_
      (refine run ?_; repeat intro b)
      have hcells : (bs.map Bk.v).map EV.v ++ [EV.v (Bk.v (p4, nextB c, c4))] = ((bs ++ [(p4, nextB c, c4)]).map Bk.v).map EV.v := by simp
      refine s_shift (VS.freeze 4 [1, 2, 12, 79, 80, 82] rfl ((congrArg (allV _) hcells).trans (allV_map_v _)) rfl rfl fun G5 hs5 hf5 => VS.id ?_)
      (refine run ?_; repeat intro b)
      have hl5 := frow_sub (hF2.trans (hF3.trans (hG3.trans hs5))) ha1.h
      have hgr := chaingrow_ok c.heads (lvlN (nextB c) []) (c.now + 1) (by omega) hw.heads (c := l1.ch) hl5
      rw [hn3, hn4] at hgr
      refine s_callF rfl rfl rfl bd67 rfl hgr ?_
      rintro _ G6 hG6 ⟨p6, c6, rfl, hc6, hf6⟩
      (refine run ?_; repeat intro b)
      refine s_retG (VS.id ⟨_, rfl, ⟨pq, cq, p6, c6, some ⟨b2, 0, none⟩, c2⟩, ?_, frow_sub (hF3.trans (hG3.trans (hs5.trans hG6))) hfq, hcq, hf6, hc6, by rw [List.length_append]; exact hc2, bs ++ [(p4, nextB c, c4)], by rw [List.map_append, hb]; rfl, frow_sub hG6 hf5, fun s hs => ?_⟩)
      · simp only [Clerk.v, List.length_append]; rfl
      rcases List.mem_append.1 hs with hs | hs
      · exact Bk.at_sub (hF2.trans (hF3.trans (hG3.trans (hs5.trans hG6)))) (hbs s hs)
      · rw [List.mem_singleton.1 hs]; exact ⟨trivial, frow_sub (hs5.trans hG6) hf4⟩
    · (refine run ?_; repeat intro b)
      refine s_br (Hp.sub.refl _) ⟨⟨rfl, rfl, rfl, trivial⟩, trivial⟩ ?_
      refine s_one 2 (by kernel_rfl) rfl rfl ?_
      (refine run ?_; repeat intro b)
      refine s_br (Hp.sub.refl _) ⟨⟨rfl, rfl, rfl, trivial⟩, trivial⟩ ?_
      refine s_firsts [6] (f' := 4) (by kernel_rfl) rfl rfl rfl ?_
      (refine run ?_; repeat intro b)
      refine s_one 5 (by kernel_rfl) rfl rfl ?_
      refine s_appV (bs.map Bk.v) rfl rfl rfl rfl rfl rfl (by rw [List.length_map, hbl]; exact (Nat.mul_one _).symm) hfbG (src_row rfl rfl) (fun e he => by rw [List.mem_singleton.1 he]; exact ⟨rfl, _, rfl⟩) (by show _ * 24 ≤ _; omega) (fun h => by cases h) (fun _ b2 c2 hc2 => ?_)
      (refine run ?_; repeat intro b)
      refine s_br (Hp.sub.refl _) ⟨⟨rfl, rfl, rfl, trivial⟩, trivial⟩ ?_
      refine s_one 7 (by kernel_rfl) rfl rfl ?_
      (refine run ?_; repeat intro b)
      refine s_br (Hp.sub.refl _) ⟨⟨rfl, rfl, rfl, trivial⟩, trivial⟩ ?_
      refine s_firsts [8] (f' := 1) (by kernel_rfl) rfl rfl rfl ?_
      (refine run ?_; repeat intro b)
      refine s_one 9 (by kernel_rfl) rfl rfl ?_
      (refine run ?_; repeat intro b)
      refine s_br (Hp.sub.refl _) ⟨⟨rfl, rfl, rfl, trivial⟩, trivial⟩ ?_
      refine s_stop (by kernel_rfl) ?_
      (refine run ?_; repeat intro b)
      have hcells : (bs.map Bk.v).map EV.v ++ [EV.v (Bk.v (p4, nextB c, c4))] = ((bs ++ [(p4, nextB c, c4)]).map Bk.v).map EV.v := by simp
      refine s_shift (VS.freeze 4 [1, 2, 12, 79, 80, 82] rfl ((congrArg (allV _) hcells).trans (allV_map_v _)) rfl rfl fun G5 hs5 hf5 => VS.id ?_)
      (refine run ?_; repeat intro b)
      have hl5 := frow_sub (hF2.trans (hF3.trans (hG3.trans hs5))) ha1.h
      have hgr := chaingrow_ok c.heads (lvlN (nextB c) []) (c.now + 1) (by omega) hw.heads (c := l1.ch) hl5
      rw [hn3, hn4] at hgr
      refine s_callF rfl rfl rfl bd67 rfl hgr ?_
      rintro _ G6 hG6 ⟨p6, c6, rfl, hc6, hf6⟩
      (refine run ?_; repeat intro b)
      refine s_retG (VS.id ⟨_, rfl, ⟨pq, cq, p6, c6, some ⟨b2, 0, none⟩, c2⟩, ?_, frow_sub (hF3.trans (hG3.trans (hs5.trans hG6))) hfq, hcq, hf6, hc6, by rw [List.length_append]; exact hc2, bs ++ [(p4, nextB c, c4)], by rw [List.map_append, hb]; rfl, frow_sub hG6 hf5, fun s hs => ?_⟩)
      · simp only [Clerk.v, List.length_append]; rfl
      rcases List.mem_append.1 hs with hs | hs
      · exact Bk.at_sub (hF2.trans (hF3.trans (hG3.trans (hs5.trans hG6)))) (hbs s hs)
      · rw [List.mem_singleton.1 hs]; exact ⟨trivial, frow_sub (hs5.trans hG6) hf4⟩
end Go.Proofs.YthkkgphjjmhglaaGreatDoor
