/-
ClerkTells: the law's walk.
-/
import Derived.Test.YthkkgphjjmhglaaGreatDoorSetClerkR2
import Derived.Test.YthkkgphjjmhglaaGreatDoorClerkR5
import Derived.Test.YthkkgphjjmhglaaGreatDoorSetClerkSame
import Derived.Test.YthkkgphjjmhglaaGreatDoorSetProofTell
namespace Go.Proofs.YthkkgphjjmhglaaGreatDoor
set_option linter.unusedVariables false
set_option linter.unusedSimpArgs false
open Go.TR
theorem lvlN_nil : lvlN [] [] = markN [0] := lvlN_none rfl
theorem newBad_or (most batch every : Int) : (((((decide (most < 1) || decide (30 < most)) || decide (batch < 1)) || decide (30 < batch)) || decide (every < 1)) || decide (1000 < every)) = newBad most batch every := rfl
theorem bookE_zero {c : Clerk} (h : clerkF c = 0) (n : Int) : bookE c n = if n < 0 ∨ (c.books.length : Int) ≤ n then 4 else 0 := by unfold bookE; rw [if_neg (by rw [h]; decide)]
theorem ask_bad {c : Clerk} (h : clerkF c ≠ 0) (x : Ask) : askE c x = clerkF c ∧ askC c x = Clerk.none ∧ askT c x = 0 := by
  have e : askE c x = clerkF c := by unfold askE; rw [if_pos h]
  exact ⟨e, askC_bad (by rw [e]; exact h)⟩
theorem book_bad {c : Clerk} (h : clerkF c ≠ 0) (n : Int) : bookE c n = clerkF c ∧ bookO c n = [] := by
  have e : bookE c n = clerkF c := by unfold bookE; rw [if_pos h]
  exact ⟨e, by unfold bookO; rw [if_neg (by rw [e]; exact h)]⟩
attribute [local irreducible] vc vcOps seqK blockK loopK retK retG retI loopV Plain CallOK CallIn bodied VS vcAny dropG backK brK loopPK IntKind.wrap
attribute [local irreducible] bookFault lvlN rootsF lastB lastH clerkF queueFault chainF booksF namesN askFault closedB newC newE newBad askC askE askT tickC tickB bookO bookE markN
set_option maxRecDepth 100000
set_option maxHeartbeats 4000000
theorem clerk_tells (c : Clerk) (a : CLay) (x : Ask) (most batch every epoch : Int) (hw : c.wf) (hx : x.wf) (he : -9223372036854775808 ≤ epoch ∧ epoch ≤ 9223372036854775807) {F : Hp} (ha : c.at F a) :
    Plain Tryz.prog F 4 [i64 most, i64 batch, i64 every, c.v a, x.v, i64 epoch] (.bool true) := by
  have hbl := hw.blen
  refine plain_vc (N := 213) (rv := [.tmp 12]) tbok mixed Tryz.func4 rfl rfl rfl rfl rfl ?_
  (refine run ?_; repeat intro b)
  rename_i bC
  revert b; intro bX
  refine s_callF rfl rfl rfl bd17 rfl (clerknew_ok most batch every) ?_
  rintro _ F1 hF1 ⟨l1, rfl, a1⟩
  (refine run ?_; repeat intro b)
  revert b; intro b2
  refine s_callF rfl rfl rfl bd18 rfl (clerkask_ok c a x hw hx (Clerk.at_sub hF1 ha)) ?_
  rintro _ F2 hF2 ⟨l2, rfl, a2⟩
  (refine run ?_; repeat intro b)
  revert b; intro b3
  refine s_callF rfl rfl rfl bd19 rfl (clerktick_ok c a hw (Clerk.at_sub (hF1.trans hF2) ha)) ?_
  rintro _ F3 hF3 ⟨l3, rfl, a3⟩
  (refine run ?_; repeat intro b)
  revert b; intro b4
  refine s_callF rfl rfl rfl bd20 rfl (clerkbook_ok c a epoch hw he (Clerk.at_sub (hF1.trans (hF2.trans hF3)) ha)) ?_
  rintro _ F4 hF4 ⟨p4, c4, rfl, f4⟩
  have hF24 := hF3.trans hF4
  have hF14 := hF2.trans hF24
  have hF04 := hF1.trans hF14
  have at1 := Clerk.at_sub hF14 a1
  (refine run ?_; repeat intro b)
  revert b; intro b5
  refine s_join (β := Hp) (fun G => F4.sub G) (fun G => ⟨[(5, .v (i64 epoch)), (9, .loc 0 0), (10, .loc 1 0), (15, .loc 3 0), (16, .v (i64 (askT c x))), (17, .v (i64 (askE c x))), (18, .loc 4 0), (19, .v (.bool (tickB c))), (20, .v (i64 (clerkF c))), (21, .v (.slice p4 (bookO c epoch).length c4)), (22, .v (i64 (bookE c epoch))), (23, .loc 5 0)], G,
    [(5, ⟨some b5, [.v (i64 0), .v (.slice none 0 0), .v (i64 0), .v (i64 0), .v (i64 0), .v (.slice none 0 0), .v (.slice none 0 0)], 28, 7⟩), (4, ⟨some b4, [.v (i64 (tickC c).queue.most), .v (.slice l3.w (tickC c).queue.wait.length l3.cw), .v (i64 (tickC c).batch), .v (i64 (tickC c).every), .v (i64 (tickC c).now), .v (.slice l3.h (tickC c).heads.length l3.ch), .v (.slice l3.b (tickC c).books.length l3.cb)], 28, 7⟩), (3, ⟨some b3, [.v (i64 (askC c x).queue.most), .v (.slice l2.w (askC c x).queue.wait.length l2.cw), .v (i64 (askC c x).batch), .v (i64 (askC c x).every), .v (i64 (askC c x).now), .v (.slice l2.h (askC c x).heads.length l2.ch), .v (.slice l2.b (askC c x).books.length l2.cb)], 28, 7⟩), (1, ⟨some bX, [.v (S x.name), .v (S x.value), .v (u64 (x.n : Nat)), .v (u64 (x.tag : Nat))], 55, 4⟩), (0, ⟨some bC, [.v (i64 c.queue.most), .v (.slice a.w c.queue.wait.length a.cw), .v (i64 c.batch), .v (i64 c.every), .v (i64 c.now), .v (.slice a.h c.heads.length a.ch), .v (.slice a.b c.books.length a.cb)], 28, 7⟩)], 8⟩) rfl (fun G hG => ?_) (fun KK2 kn kr ke => ?_)
  · have haG := Clerk.at_sub (hF04.trans hG) ha
    have a2G := Clerk.at_sub (hF24.trans hG) a2
    have a3G := Clerk.at_sub (hF4.trans hG) a3
    have f4G := frow_sub hG f4
    (refine run ?_; repeat intro b)
    refine s_plain _ rfl rfl rfl bd12 rfl (clerkfault_ok c a hw haG) ?_
    (refine run ?_; repeat intro b)
    refine s_plain _ rfl rfl rfl bd23 rfl (clerkcheck_ok c a hw haG) ?_
    (refine run ?_; repeat intro b)
    refine s_if false ?_ (fun h => by cases h) (fun _ => ?_)
    · refine congrArg (fun b => some (EV.v (.bool b))) ?_
      rw [bne_self_eq_false]
    (refine run ?_; repeat intro b)
    refine s_if (decide (clerkF c ≠ 0)) ?_ (fun h0 => ?_) (fun h0 => ?_)
    · refine congrArg (fun b => some (EV.v (.bool b))) ?_
      rw [Bool.eq_iff_iff]; simp
    · have h0 := of_decide_eq_true h0
      obtain ⟨e1, e2, e3⟩ := ask_bad h0 x
      obtain ⟨e4, e5⟩ := tick_bad h0
      obtain ⟨e6, e7⟩ := book_bad h0 epoch
      rw [e2] at a2G
      rw [e4] at a3G
      rw [e1, e2, e3, e4, e5, e6, e7]
      (refine run ?_; repeat intro b)
      refine s_plain _ rfl rfl rfl bd21 rfl (sameclerk_self Clerk.none l2 CLay.nil Fits.none a2G (Clerk.at_none _)) ?_
      (refine run ?_; repeat intro b)
      refine s_gplain _ rfl rfl rfl rfl bd21 rfl rfl (fun _ => sameclerk_self Clerk.none l3 CLay.nil Fits.none a3G (Clerk.at_none _)) ?_
      (refine run ?_; repeat intro b)
      rw [beq_self_eq_true]
      rfl
    have h0 : clerkF c = 0 := by have := of_decide_eq_false h0; omega
    have hG0 := clerkF_zero h0
    rw [h0]
    (refine run ?_; repeat intro b)
    refine s_callF rfl rfl rfl bd24 rfl (refask_ok c a x hG0 hw hx haG) ?_
    rintro _ G1 hG1 ⟨l5, rfl, a5⟩
    (refine run ?_; repeat intro b)
    refine s_plain _ rfl rfl rfl bd21 rfl (sameclerk_self (askC c x) l2 l5 (fits_ask x h0) (Clerk.at_sub hG1 a2G) a5) ?_
    (refine run ?_; repeat intro b)
    refine s_if false ?_ (fun h => by cases h) (fun _ => ?_)
    · refine congrArg (fun b => some (EV.v (.bool b))) ?_
      rw [bne_self_eq_false, bne_self_eq_false]
      rfl
    (refine run ?_; repeat intro b)
    refine s_callF rfl rfl rfl bd25 rfl (reftick_ok c a hG0 hw (Clerk.at_sub hG1 haG)) ?_
    rintro _ G2 hG2 ⟨l6, rfl, a6⟩
    (refine run ?_; repeat intro b)
    refine s_plain _ rfl rfl rfl bd21 rfl (sameclerk_self (tickC c) l3 l6 (fits_tick h0) (Clerk.at_sub (hG1.trans hG2) a3G) a6) ?_
    (refine run ?_; repeat intro b)
    refine s_if false ?_ (fun h => by cases h) (fun _ => ?_)
    · refine congrArg (fun b => some (EV.v (.bool b))) ?_
      cases tickB c <;> rfl
    have hbe := bookE_zero h0 epoch
    have f4H := frow_sub (hG1.trans hG2) f4G
    (refine run ?_; repeat intro b)
    refine s_if (decide (epoch < 0 ∨ (c.books.length : Int) ≤ epoch)) ?_ (fun h1 => ?_) (fun h1 => ?_)
    · refine congrArg (fun b => some (EV.v (.bool b))) ?_
      rw [bpick_or, Bool.eq_iff_iff]; simp
    · rw [if_pos (of_decide_eq_true h1)] at hbe
      have hbo : bookO c epoch = [] := by unfold bookO; rw [if_neg (by rw [hbe]; decide)]
      rw [hbe, hbo]
      (refine run ?_; repeat intro b)
      rfl
    have h1 := of_decide_eq_false h1
    rw [if_neg h1] at hbe
    obtain ⟨k, rfl⟩ : ∃ k : Nat, epoch = (k : Int) := ⟨epoch.toNat, by omega⟩
    have hk : k < c.books.length := by omega
    have hbo : bookO c (k : Int) = c.books[k] := by
      unfold bookO
      rw [if_pos hbe, Int.toNat_natCast]
      simp [List.getD, hk]
    obtain ⟨bs, hb, hfb, hbs⟩ := (Clerk.at_sub (hG1.trans hG2) haG).b
    obtain ⟨⟨ps, ls, cs⟩, k1, k2, k3⟩ := bk_get hb hk
    have kc := bk_cell hfb k1
    have hat := hbs _ k3
    have hll := (hw.books _ (List.getElem_mem hk)).1
    simp only at k2 hat
    rw [← k2] at hll hbo
    rw [hbo] at f4H
    rw [hbe, hbo]
    (refine run ?_; repeat intro b)
    refine s_pureO rfl rfl rfl ⟨by omega, by omega, frow_some hfb (j := k) (by rw [List.length_map, bks_len hb]; omega)⟩ ?_
    (refine run ?_; repeat intro b)
    refine s_load (.slice ps ls.length cs) rfl rfl rfl rfl (by rw [Int.toNat_natCast, Nat.mul_one]; exact kc) ?_
    (refine run ?_; repeat intro b)
    refine s_plain _ rfl rfl rfl bd26 rfl (eq_entry_self ls rfl f4H hat.2 (by omega)) ?_
    (refine run ?_; repeat intro b)
    rfl
  · refine s_if (newBad most batch every) ?_ (fun hb => ?_) (fun hb => ?_)
    · refine congrArg (fun b => some (EV.v (.bool b))) ?_
      rw [bpick_or, bpick_or, bpick_or, bpick_or, bpick_or]
      exact newBad_or most batch every
    · have e1 : newC most batch every = Clerk.none := by unfold newC; rw [if_pos hb]
      have e2 : newE most batch every = 4 := by unfold newE; rw [if_pos hb]
      rw [e1] at at1
      rw [e1, e2]
      (refine run ?_; repeat intro b)
      refine s_plain _ rfl rfl rfl bd21 rfl (sameclerk_self Clerk.none l1 CLay.nil Fits.none at1 (Clerk.at_none _)) ?_
      (refine run ?_; repeat intro b)
      exact kn _ (VS.mark fun _ _ => VS.mark fun _ _ => VS.dropR [7, 6, 2] rfl (VS.keepN [5, 9, 10, 15, 16, 17, 18, 19, 20, 21, 22, 23] rfl ⟨F4, Hp.sub.refl _, rfl⟩))
    have hfit := fits_new most batch every
    have e1 : newC most batch every = ⟨⟨most, []⟩, batch, every, 0, [⟨0, markN [0], 0, 0⟩], [[]]⟩ := by unfold newC; rw [if_neg (by rw [hb]; decide), lvlN_nil]
    have e2 : newE most batch every = 0 := by unfold newE; rw [if_neg (by rw [hb]; decide)]
    rw [e1] at at1 hfit
    rw [e1, e2]
    (refine run ?_; repeat intro b)
    refine s_regiona [2] (by kernel_rfl) ?_
    refine s_firsts [0, 1, 2, 3, 4, 5, 6, 7, 8, 9] (f' := 6) (by kernel_rfl) rfl rfl rfl ?_
    (refine run ?_; repeat intro b)
    refine s_plain _ rfl rfl rfl bd22 rfl (refmark_ok [0] (by decide) F4) ?_
    (refine run ?_; repeat intro b)
    refine s_two 10 11 (by kernel_rfl) rfl rfl rfl ?_ ?_
    · (refine run ?_; repeat intro b)
      revert b; intro b6
      refine s_br (Hp.sub.refl _) ⟨⟨rfl, rfl, rfl, rfl, rfl, rfl, rfl, rfl, trivial⟩, trivial⟩ ?_
      refine s_one 11 (by kernel_rfl) rfl rfl ?_
      (refine run ?_; repeat intro b)
      revert b; intro b7
      refine s_br (Hp.sub.refl _) ⟨⟨rfl, rfl, rfl, rfl, rfl, rfl, rfl, rfl, trivial⟩, trivial⟩ ?_
      refine s_firsts [12] (f' := 3) (by kernel_rfl) rfl rfl rfl ?_
      (refine run ?_; repeat intro b)
      refine s_one 13 (by kernel_rfl) rfl rfl ?_
      (refine run ?_; repeat intro b)
      refine s_shift (VS.freeze 6 [5, 9, 10, 15, 16, 17, 18, 19, 20, 21, 22, 23, 88, 89, 90, 99] rfl rfl rfl rfl fun F5 hs5 hf5 => ?_)
      refine VS.freeze 7 [5, 9, 10, 15, 16, 17, 18, 19, 20, 21, 22, 23, 88, 89, 90, 99] rfl rfl rfl rfl fun F6 hs6 hf6 => VS.id ?_
      (refine run ?_; repeat intro b)
      have at2 : (⟨⟨most, []⟩, batch, every, 0, [⟨0, markN [0], 0, 0⟩], [[]]⟩ : Clerk).at F6 ⟨none, 0, some ⟨b6, 0, none⟩, 1, some ⟨b7, 0, none⟩, 1⟩ := ⟨frow_nil _ _, Nat.le_refl _, frow_sub hs6 hf5, Nat.le_refl _, Nat.le_refl _, [(none, [], 0)], rfl, hf6, fun s hs => by rw [List.mem_singleton.1 hs]; exact ⟨trivial, frow_nil _ _⟩⟩
      refine s_plain _ rfl rfl rfl bd21 rfl (sameclerk_self _ l1 _ hfit (Clerk.at_sub (hs5.trans hs6) at1) at2) ?_
      (refine run ?_; repeat intro b)
      refine s_br (hs5.trans hs6) ⟨⟨rfl, rfl, rfl, rfl, rfl, rfl, rfl, rfl, trivial⟩, trivial⟩ ?_
      refine s_firsts [14, 15] (f' := 0) (by kernel_rfl) rfl rfl rfl ?_
      (refine run ?_; repeat intro b)
      refine s_stop (by kernel_rfl) ?_
      (refine run ?_; repeat intro b)
      exact kn _ (VS.dropR [2] rfl (VS.keepN [5, 9, 10, 15, 16, 17, 18, 19, 20, 21, 22, 23] rfl ⟨F6, hs5.trans hs6, rfl⟩))
    · (refine run ?_; repeat intro b)
      revert b; intro b6
      refine s_br (Hp.sub.refl _) ⟨⟨rfl, rfl, rfl, rfl, rfl, rfl, rfl, rfl, trivial⟩, trivial⟩ ?_
      refine s_one 10 (by kernel_rfl) rfl rfl ?_
      (refine run ?_; repeat intro b)
      revert b; intro b7
      refine s_br (Hp.sub.refl _) ⟨⟨rfl, rfl, rfl, rfl, rfl, rfl, rfl, rfl, trivial⟩, trivial⟩ ?_
      refine s_firsts [12] (f' := 3) (by kernel_rfl) rfl rfl rfl ?_
      (refine run ?_; repeat intro b)
      refine s_one 13 (by kernel_rfl) rfl rfl ?_
      (refine run ?_; repeat intro b)
      refine s_shift (VS.freeze 6 [5, 9, 10, 15, 16, 17, 18, 19, 20, 21, 22, 23, 88, 89, 90, 99] rfl rfl rfl rfl fun F5 hs5 hf5 => ?_)
      refine VS.freeze 7 [5, 9, 10, 15, 16, 17, 18, 19, 20, 21, 22, 23, 88, 89, 90, 99] rfl rfl rfl rfl fun F6 hs6 hf6 => VS.id ?_
      (refine run ?_; repeat intro b)
      have at2 : (⟨⟨most, []⟩, batch, every, 0, [⟨0, markN [0], 0, 0⟩], [[]]⟩ : Clerk).at F6 ⟨none, 0, some ⟨b7, 0, none⟩, 1, some ⟨b6, 0, none⟩, 1⟩ := ⟨frow_nil _ _, Nat.le_refl _, hf6, Nat.le_refl _, Nat.le_refl _, [(none, [], 0)], rfl, frow_sub hs6 hf5, fun s hs => by rw [List.mem_singleton.1 hs]; exact ⟨trivial, frow_nil _ _⟩⟩
      refine s_plain _ rfl rfl rfl bd21 rfl (sameclerk_self _ l1 _ hfit (Clerk.at_sub (hs5.trans hs6) at1) at2) ?_
      (refine run ?_; repeat intro b)
      refine s_br (hs5.trans hs6) ⟨⟨rfl, rfl, rfl, rfl, rfl, rfl, rfl, rfl, trivial⟩, trivial⟩ ?_
      refine s_firsts [14, 15] (f' := 0) (by kernel_rfl) rfl rfl rfl ?_
      (refine run ?_; repeat intro b)
      refine s_stop (by kernel_rfl) ?_
      (refine run ?_; repeat intro b)
      exact kn _ (VS.dropR [2] rfl (VS.keepN [5, 9, 10, 15, 16, 17, 18, 19, 20, 21, 22, 23] rfl ⟨F6, hs5.trans hs6, rfl⟩))
end Go.Proofs.YthkkgphjjmhglaaGreatDoor
