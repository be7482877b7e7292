/-
The law ServeTells: the walk.
-/
import Derived.Test.YthkkgphjjmhglaaGreatDoorSetServeLook
import Derived.Test.YthkkgphjjmhglaaGreatDoorClerkR2
import Derived.Test.YthkkgphjjmhglaaGreatDoorProofOf
import Derived.Test.YthkkgphjjmhglaaGreatDoorSetChainLaw
namespace Go.Proofs.YthkkgphjjmhglaaGreatDoor
set_option linter.unusedVariables false
set_option linter.unusedSimpArgs false
open Go.TR
theorem look_fault {c : Clerk} (h : clerkF c ≠ 0) (n : List UInt8) (k : Int) : lookE c n k = clerkF c := by
  have e : bookE c k = clerkF c := by unfold bookE; rw [if_pos h]
  unfold lookE
  rw [e, if_pos h]
theorem heads_fault {c : Clerk} (h : clerkF c ≠ 0) (f t : Int) : headsE c f t = clerkF c ∧ headsO c f t = [] := by
  have e : headsE c f t = clerkF c := by unfold headsE; rw [if_pos h]
  refine ⟨e, ?_⟩
  unfold headsO
  rw [if_neg (by rw [e]; exact h)]
theorem look_range {c : Clerk} (h : clerkF c = 0) (n : List UInt8) {k : Int} (hk : k < 0 ∨ (c.heads.length : Int) ≤ k) : lookE c n k = 4 := by
  have hl := (clerkF_zero h).lens
  have e : bookE c k = 4 := by unfold bookE; rw [if_neg (by rw [h]; decide), if_pos (by omega)]
  unfold lookE
  rw [e]
  rfl
theorem look_in {c : Clerk} (h : clerkF c = 0) (n : List UInt8) {k : Nat} (hk : k < c.heads.length) : ∃ hb : k < c.books.length, bookE c (k : Int) = 0 ∧ bookO c (k : Int) = c.books[k] ∧ bookFault c.books[k] = 0 ∧ lookE c n (k : Int) = makeE c.books[k] n := by
  have hG := clerkF_zero h
  have hl := hG.lens
  have hb : k < c.books.length := by omega
  have e : bookE c (k : Int) = 0 := by unfold bookE; rw [if_neg (by rw [h]; decide), if_neg (by omega)]
  have e2 : bookO c (k : Int) = c.books[k] := by
    unfold bookO
    rw [if_pos e, Int.toNat_natCast]
    simp [List.getD, hb]
  refine ⟨hb, e, e2, hG.book _ (List.getElem_mem hb), ?_⟩
  unfold lookE
  rw [if_neg (by rw [e]; decide), e2]
theorem heads_in {c : Clerk} (h : clerkF c = 0) (f t : Int) : headsE c f t = if f > t ∨ f < 0 ∨ (c.heads.length : Int) ≤ t then 4 else 0 := by
  have hG := clerkF_zero h
  have hl := hG.lens
  have e : headsE c f t = partE c.heads f t := by unfold headsE; rw [if_neg (by rw [h]; decide)]
  have hf := hG.form
  unfold formB at hf
  simp only [Bool.or_eq_false_iff, decide_eq_false_iff_not, ne_eq, Classical.not_not] at hf
  have h0 : (orN c.heads.head?).epoch = 0 := by
    rw [headQ_of hl.2.1, ← hf.1.1]
    simp [List.getD, hl.2.1]
  have h1 := hG.top.2.1
  rw [e]
  unfold partE
  rw [if_neg (by rw [hG.chain]; decide), h0, h1]
  by_cases hc : f > t ∨ f < 0 ∨ (c.heads.length : Int) ≤ t
  · rw [if_pos hc, if_pos (by omega)]
  · rw [if_neg hc, if_neg (by omega)]
theorem heads_out {c : Clerk} (h : clerkF c = 0) {f t : Nat} (h1 : f ≤ t) (h2 : t < c.heads.length) : headsE c f t = 0 ∧ headsO c f t = (c.heads.take (t + 1)).drop f := by
  have e := heads_in h (f : Int) (t : Int)
  rw [if_neg (by omega)] at e
  refine ⟨e, ?_⟩
  have hG := clerkF_zero h
  have hl := hG.lens
  have hf := hG.form
  unfold formB at hf
  simp only [Bool.or_eq_false_iff, decide_eq_false_iff_not, ne_eq, Classical.not_not] at hf
  have h0 : (orN c.heads.head?).epoch = 0 := by
    rw [headQ_of hl.2.1, ← hf.1.1]
    simp [List.getD, hl.2.1]
  have e2 : partE c.heads f t = 0 := by
    have : headsE c f t = partE c.heads f t := by unfold headsE; rw [if_neg (by rw [h]; decide)]
    rw [← this, e]
  unfold headsO
  rw [if_pos e]
  unfold partL
  rw [if_pos e2, h0]
  have a1 : ((t : Int) - 0 + 1).toNat = t + 1 := by omega
  have a2 : ((f : Int) - 0).toNat = f := by omega
  rw [a1, a2]
theorem prf_none_wf : Prf.none.wf := ⟨by decide, by decide, (fun x hx => by cases hx), by decide, (fun x hx => by cases hx)⟩
theorem made_wf {l : List Entry} {n : List UInt8} (hl : l.length ≤ 24) (hw : ∀ x ∈ l, x.wf) (hn : n.length ≤ 4611686018427387904) : (madeP l n).wf := by
  have h1 := grp_len l (pathN n)
  refine ⟨hn, ?_, fun x hx => hw x (grp_sub hx), ?_, fun m hm => ?_⟩
  · show (grp l (pathN n)).length ≤ _
    omega
  · show (sidesN l n 16).length ≤ _
    rw [sidesN_len]
    decide
  · have hm : m ∈ sidesN l n 16 := hm
    unfold sidesN at hm
    obtain ⟨j, _, rfl⟩ := List.mem_map.1 hm
    have := lvlN_MM l (sib (pathN n) (15 - j))
    unfold sideN
    have : MM ≤ 18446744073709551616 := by decide
    omega
theorem reply_out {h : Head} {p : Prf} (e : replyF h p ≠ 0) : replyT h p = [] ∧ replyB h p = false := by
  unfold replyT replyB
  rw [if_neg e, decide_eq_false e]
  exact ⟨rfl, rfl⟩
theorem reply_in {h : Head} {p : Prf} (e : replyF h p = 0) : replyT h p = (standsO p.ents p.name).getD [] ∧ replyB h p = (standsO p.ents p.name).isSome := by
  unfold replyT replyB
  rw [if_pos e, decide_eq_true e]
  exact ⟨rfl, rfl⟩
attribute [local irreducible] vc vcOps seqK blockK loopK retK retG retI loopV Plain CallOK CallIn bodied VS vcAny dropG backK brK loopPK IntKind.wrap
attribute [local irreducible] bookFault lvlN lastH clerkF chainF bookE bookO makeE makeP madeP partE partL lookE lookH lookP headsE headsO replyF replyT replyB standsO goodName
set_option maxRecDepth 100000
set_option maxHeartbeats 8000000
theorem serve_tells (c : Clerk) (l : CLay) (n : List UInt8) (epoch from_ to_ : Int) (h : Head) (p : Prf) (a : Lay) (hw : c.wf) (hn : n.length ≤ 4611686018427387904) (he : -9223372036854775808 ≤ epoch ∧ epoch ≤ 9223372036854775807) (ht : -9223372036854775808 ≤ to_ ∧ to_ ≤ 9223372036854775807) (hp : p.wf) {F : Hp} (ha : c.at F l) (hpa : p.at F a) :
    Plain Tryz.prog F 3 [c.v l, S n, i64 epoch, i64 from_, i64 to_, repV h p a] (.bool true) := by
  refine plain_vc (N := 183) (rv := [.tmp 12]) tbok mixed Tryz.func3 rfl rfl rfl rfl rfl ?_
  (refine run ?_; repeat intro b)
  rename_i bC
  revert b; intro bR
  refine s_callF rfl rfl rfl bd7 rfl (servelook_ok c l n epoch hw hn he ha) ?_
  rintro _ F1 hF1 ⟨a1, rfl, hx1⟩
  (refine run ?_; repeat intro b)
  revert b; intro bX
  refine s_callF rfl rfl rfl bd8 rfl (serveheads_ok c l from_ to_ hw (Clerk.at_sub hF1 ha)) ?_
  rintro _ F2 hF2 ⟨p2, c2, rfl, hc2, hf2⟩
  have hF := hF1.trans hF2
  have hxa := Prf.at_sub hF2 hx1
  have hca := Clerk.at_sub hF ha
  have hpa2 := Prf.at_sub hF hpa
  (refine run ?_; repeat intro b)
  refine s_plain _ rfl rfl rfl bd9 rfl (servetell_ok h p a hp hpa2) ?_
  (refine run ?_; repeat intro b)
  refine s_plain _ rfl rfl rfl bd10 rfl (refreplyfault_ok h p a hp hpa2) ?_
  (refine run ?_; repeat intro b)
  refine s_join (β := Unit) (fun _ => True) (fun _ => ⟨[(1, .v (S n)), (2, .v (i64 epoch)), (3, .v (i64 from_)), (4, .v (i64 to_)), (6, .loc 0 0), (13, .loc 2 0), (14, .v (i64 (lookE c n epoch))), (15, .v (.slice p2 (headsO c from_ to_).length c2)), (16, .v (i64 (headsE c from_ to_)))], F2,
    [(2, ⟨some bX, [.v (i64 (lookH c n epoch).epoch), .v (u64 ((lookH c n epoch).root : Nat)), .v (u64 ((lookH c n epoch).prev : Nat)), .v (i64 (lookH c n epoch).at_), .v (S (lookP c n epoch).name), .v (.slice a1.e (lookP c n epoch).ents.length a1.ce), .v (.slice a1.s (lookP c n epoch).sides.length a1.cs)], 37, 7⟩), (1, ⟨some bR, [.v (i64 h.epoch), .v (u64 (h.root : Nat)), .v (u64 (h.prev : Nat)), .v (i64 h.at_), .v (S p.name), .v (.slice a.e p.ents.length a.ce), .v (.slice a.s p.sides.length a.cs)], 37, 7⟩), (0, ⟨some bC, [.v (i64 c.queue.most), .v (.slice l.w c.queue.wait.length l.cw), .v (i64 c.batch), .v (i64 c.every), .v (i64 c.now), .v (.slice l.h c.heads.length l.ch), .v (.slice l.b c.books.length l.cb)], 28, 7⟩)], 3⟩) rfl (fun _ _ => ?_) (fun KK2 kn kr ke => ?_)
  · (refine run ?_; repeat intro b)
    refine s_plain _ rfl rfl rfl bd12 rfl (clerkfault_ok c l hw hca) ?_
    (refine run ?_; repeat intro b)
    refine s_if (decide (clerkF c ≠ 0)) ?_ (fun h0 => ?_) (fun h0 => ?_)
    · refine congrArg (fun b => some (EV.v (.bool b))) ?_
      rw [Bool.eq_iff_iff]; simp
    · have h0 := of_decide_eq_true h0
      have e1 := look_fault h0 n epoch
      obtain ⟨e2, e3⟩ := look_bad (c := c) (n := n) (k := epoch) (by rw [e1]; exact h0)
      obtain ⟨e4, e5⟩ := heads_fault h0 from_ to_
      rw [e3] at hxa
      rw [e1, e2, e3, e4, e5]
      (refine run ?_; repeat intro b)
      refine s_plain _ rfl rfl rfl bd13 rfl (samereply_ok Head.none Prf.none a1 ⟨none, 0, none, 0⟩ prf_none_wf hxa (prf_none_at _)) ?_
      (refine run ?_; repeat intro b)
      rw [beq_self_eq_true]
      rfl
    have h0 : clerkF c = 0 := by have := of_decide_eq_false h0; omega
    have hG := clerkF_zero h0
    have hlen := hG.lens
    rw [h0]
    (refine run ?_; repeat intro b)
    refine s_join (β := Unit) (fun _ => True) (fun _ => ⟨[(1, .v (S n)), (2, .v (i64 epoch)), (6, .loc 0 0), (13, .loc 2 0), (14, .v (i64 (lookE c n epoch))), (24, .v (i64 (c.heads.length : Nat)))], F2,
      [(2, ⟨some bX, [.v (i64 (lookH c n epoch).epoch), .v (u64 ((lookH c n epoch).root : Nat)), .v (u64 ((lookH c n epoch).prev : Nat)), .v (i64 (lookH c n epoch).at_), .v (S (lookP c n epoch).name), .v (.slice a1.e (lookP c n epoch).ents.length a1.ce), .v (.slice a1.s (lookP c n epoch).sides.length a1.cs)], 37, 7⟩), (0, ⟨some bC, [.v (i64 c.queue.most), .v (.slice l.w c.queue.wait.length l.cw), .v (i64 c.batch), .v (i64 c.every), .v (i64 c.now), .v (.slice l.h c.heads.length l.ch), .v (.slice l.b c.books.length l.cb)], 28, 7⟩)], 3⟩) rfl (fun _ _ => ?_) (fun KK2 kn kr ke => ?_)
    · refine s_seq ?_
      by_cases hr : epoch < 0 ∨ (c.heads.length : Int) ≤ epoch
      · have e1 := look_range h0 n hr
        obtain ⟨e2, e3⟩ := look_bad (c := c) (n := n) (k := epoch) (by rw [e1]; decide)
        rw [e3] at hxa
        rw [e1, e2, e3]
        (refine run ?_; repeat intro b)
        refine s_if true ?_ (fun _ => ?_) (fun h => by cases h)
        · refine congrArg (fun b => some (EV.v (.bool b))) ?_
          rw [bpick_or, Bool.eq_iff_iff]; simp; omega
        (refine run ?_; repeat intro b)
        refine s_plain _ rfl rfl rfl bd13 rfl (samereply_ok Head.none Prf.none a1 ⟨none, 0, none, 0⟩ prf_none_wf hxa (prf_none_at _)) ?_
        (refine run ?_; repeat intro b)
        rfl
      obtain ⟨k, rfl⟩ : ∃ k : Nat, epoch = (k : Int) := ⟨epoch.toNat, by omega⟩
      have hk : k < c.heads.length := by omega
      obtain ⟨hb, b1, b2, b3, b4⟩ := look_in h0 n hk
      have hgn := goodname_ok n hn F2
      (refine run ?_; repeat intro b)
      refine s_if false ?_ (fun h => by cases h) (fun _ => ?_)
      · refine congrArg (fun b => some (EV.v (.bool b))) ?_
        exact decide_eq_false (by omega)
      (refine run ?_; repeat intro b)
      refine s_plain _ rfl rfl rfl bd15 rfl hgn ?_
      cases hg : goodName n with
      | false =>
        have e1 : lookE c n (k : Int) = 3 := by rw [b4, makeE_form b3 hg]
        obtain ⟨e2, e3⟩ := look_bad (c := c) (n := n) (k := (k : Int)) (by rw [e1]; decide)
        rw [e3] at hxa
        rw [e1, e2, e3]
        (refine run ?_; repeat intro b)
        refine s_plain _ rfl rfl rfl bd13 rfl (samereply_ok Head.none Prf.none a1 ⟨none, 0, none, 0⟩ prf_none_wf hxa (prf_none_at _)) ?_
        (refine run ?_; repeat intro b)
        rfl
      | true =>
        have e1 : lookE c n (k : Int) = 0 := by rw [b4, makeE_good b3 hg]
        obtain ⟨e2, e3⟩ := look_good e1
        have eh : c.heads.getD k Head.none = c.heads[k] := by simp [List.getD, hk]
        have em : makeP c.books[k] n = madeP c.books[k] n := by unfold makeP; rw [if_pos (makeE_good b3 hg)]
        rw [Int.toNat_natCast, eh] at e2
        rw [b2, em] at e3
        rw [e3] at hxa
        rw [e1, e2, e3]
        obtain ⟨o1, o2⟩ := frow_agg head_row (by decide) hca.h k hk
        obtain ⟨bs, hbs, hfb, hat⟩ := hca.b
        obtain ⟨⟨ps, ls, cs⟩, k1, k2, k3⟩ := bk_get hbs hb
        have kc := bk_cell hfb k1
        have hat := (hat _ k3).2
        have hl24 := (bookFault_zero b3).1
        have hwb := (hw.books _ (List.getElem_mem hb)).2
        have hbl := bks_len hbs
        simp only at k2 hat
        rw [← k2] at hl24 hwb hxa
        rw [← k2]
        generalize c.heads[k] = hd at o2
        (refine run ?_; repeat intro b)
        refine s_regiona [0, 2] (by kernel_rfl) ?_
        refine s_firsts [0, 1, 2, 3, 4, 5, 6, 7, 8, 9, 10, 11, 12, 13, 14] (f' := 5) (by kernel_rfl) rfl rfl rfl ?_
        (refine run ?_; repeat intro b)
        refine s_pureO rfl rfl rfl ⟨by omega, by omega, frow_some hca.h (j := k * 4) (by rw [flat_len head_row]; omega)⟩ ?_
        (refine run ?_; repeat intro b)
        refine s_loadA hd.row rfl rfl rfl rfl rfl (by rw [Int.toNat_natCast]; exact o1) (by rw [Int.toNat_natCast]; exact o2) ?_
        (refine run ?_; repeat intro b)
        refine s_pureO rfl rfl rfl ⟨by omega, by omega, frow_some hfb (j := k) (by rw [List.length_map, hbl]; omega)⟩ ?_
        (refine run ?_; repeat intro b)
        refine s_load (Bk.v (ps, ls, cs)) rfl rfl rfl rfl (by rw [Int.toNat_natCast, Nat.mul_one]; exact kc) ?_
        (refine run ?_; repeat intro b)
        refine s_one 15 (by kernel_rfl) rfl rfl ?_
        (refine run ?_; repeat intro b)
        refine s_callF rfl rfl rfl bd16 rfl (proofof_ok ls n hl24 hwb hn hat) ?_
        rintro _ F3 hF3 ⟨a3, rfl, hm3⟩
        (refine run ?_; repeat intro b)
        refine s_br hF3 ⟨⟨rfl, rfl, rfl, rfl, rfl, rfl, rfl, rfl, trivial⟩, ⟨rfl, rfl, rfl, rfl, rfl, rfl, rfl, rfl, trivial⟩, trivial⟩ ?_
        refine s_firsts [16] (f' := 3) (by kernel_rfl) rfl rfl rfl ?_
        (refine run ?_; repeat intro b)
        refine s_one 17 (by kernel_rfl) rfl rfl ?_
        (refine run ?_; repeat intro b)
        refine s_plain _ rfl rfl rfl bd13 rfl (samereply_ok hd (madeP ls n) a1 a3 (made_wf hl24 hwb hn) (Prf.at_sub hF3 hxa) hm3) ?_
        (refine run ?_; repeat intro b)
        refine s_br (Hp.sub.refl _) ⟨⟨rfl, rfl, rfl, rfl, rfl, rfl, rfl, rfl, trivial⟩, ⟨rfl, rfl, rfl, rfl, rfl, rfl, rfl, rfl, trivial⟩, trivial⟩ ?_
        refine s_firsts [18, 19] (f' := 0) (by kernel_rfl) rfl rfl rfl ?_
        (refine run ?_; repeat intro b)
        refine s_stop (by kernel_rfl) ?_
        (refine run ?_; repeat intro b)
        rfl
    · have hin := heads_in h0 from_ to_
      by_cases hr : from_ > to_ ∨ from_ < 0 ∨ (c.heads.length : Int) ≤ to_
      · rw [if_pos hr] at hin
        have e2 : headsO c from_ to_ = [] := by unfold headsO; rw [if_neg (by rw [hin]; decide)]
        rw [hin, e2]
        refine s_if true ?_ (fun _ => ?_) (fun h => by cases h)
        · refine congrArg (fun b => some (EV.v (.bool b))) ?_
          rw [bpick_or, bpick_or, Bool.eq_iff_iff]; simp; omega
        (refine run ?_; repeat intro b)
        exact kn _ (VS.dropR [1] rfl (VS.keepN [1, 2, 6, 13, 14, 24] rfl ⟨(), trivial, rfl⟩))
      · rw [if_neg hr] at hin
        obtain ⟨f, rfl⟩ : ∃ f : Nat, from_ = (f : Int) := ⟨from_.toNat, by omega⟩
        obtain ⟨t, rfl⟩ : ∃ t : Nat, to_ = (t : Int) := ⟨to_.toNat, by omega⟩
        obtain ⟨_, e2⟩ := heads_out h0 (f := f) (t := t) (by omega) (by omega)
        have hlen2 : ((c.heads.take (t + 1)).drop f).length = t + 1 - f := by rw [List.length_drop, List.length_take]; omega
        have f1 := frow_flat_drop head_row (frow_flat_take head_row hca.h (t + 1)) f l.ch (by rw [List.length_take]; omega) (by have := hca.ch; rw [List.length_take]; omega)
        rw [e2] at hf2
        have ew : IntKind.i64.wrap ((t : Int) + 1) = ((t + 1 : Nat) : Int) := wrap_succ (by omega)
        have hch := hca.ch
        rw [hin, e2]
        refine s_if false ?_ (fun h => by cases h) (fun _ => ?_)
        · refine congrArg (fun b => some (EV.v (.bool b))) ?_
          first
            | (rw [bpick_or, bpick_or, Bool.eq_false_iff]; simp; omega)
            | (rw [bpick_or, Bool.eq_false_iff]; simp; omega)
        (refine run ?_; repeat intro b)
        rw [ew]
        refine s_pureO rfl rfl rfl ⟨by omega, by omega, by omega⟩ ?_
        rw [Int.toNat_natCast, Int.toNat_natCast]
        (refine run ?_; repeat intro b)
        refine s_plain _ rfl rfl rfl bd14 rfl (eq_head_self ((c.heads.take (t + 1)).drop f) hlen2.symm hf2 f1 (by omega)) ?_
        (refine run ?_; repeat intro b)
        exact kn _ (VS.dropR [1] rfl (VS.keepN [1, 2, 6, 13, 14, 24] rfl ⟨(), trivial, rfl⟩))
  · by_cases hr : replyF h p = 0
    · obtain ⟨e1, e2⟩ := reply_in hr
      rw [hr, e1, e2]
      refine s_if false ?_ (fun h => by cases h) (fun _ => ?_)
      · refine congrArg (fun b => some (EV.v (.bool b))) ?_
        rfl
      (refine run ?_; repeat intro b)
      refine s_plain _ rfl rfl rfl bd11 rfl (refstands_ok p.ents p.name hp.ents hpa2.ents) ?_
      (refine run ?_; repeat intro b)
      refine s_if false ?_ (fun h => by cases h) (fun _ => ?_)
      · refine congrArg (fun b => some (EV.v (.bool b))) ?_
        simp [bpick_or]
      (refine run ?_; repeat intro b)
      exact kn _ (VS.keepN [1, 2, 3, 4, 6, 13, 14, 15, 16] rfl ⟨(), trivial, rfl⟩)
    · obtain ⟨e1, e2⟩ := reply_out hr
      rw [e1, e2]
      refine s_if true ?_ (fun _ => ?_) (fun h => by cases h)
      · refine congrArg (fun b => some (EV.v (.bool b))) ?_
        simpa using hr
      (refine run ?_; repeat intro b)
      refine s_if false ?_ (fun h => by cases h) (fun _ => ?_)
      · refine congrArg (fun b => some (EV.v (.bool b))) ?_
        simp [bpick_or]
      (refine run ?_; repeat intro b)
      exact kn _ (VS.keepN [1, 2, 3, 4, 6, 13, 14, 15, 16] rfl ⟨(), trivial, rfl⟩)
end Go.Proofs.YthkkgphjjmhglaaGreatDoor
