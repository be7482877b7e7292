/-
The law of package chain: Fork, Clash: whatever is handed in, each call answers what the reference answers.
-/
import Derived.Test.YthkmfihbpbehfaaForksMath
import Derived.Test.YthkmfihbpbehfaaChain2
namespace Go.Proofs.Ythkmfihbpbehfaa
set_option linter.unusedVariables false
set_option linter.unusedSimpArgs false
open Go.TR
attribute [local irreducible] vc vcOps seqK blockK loopK retK retG retI loopV Plain CallOK CallIn bodied VS vcAny dropG backK brK loopPK IntKind.wrap
attribute [local irreducible] chainF bothP lastN leastN topQ forkN forkE clashT headOfE Head.mark Head.markO Head.said Head.saidO
set_option maxRecDepth 100000
set_option maxHeartbeats 4000000 in
theorem chain_forks (la lb : List Head) {p1 p2 : Option Addr} {c1 c2 : Nat} {F : Hp} (ha : la.length ≤ 4611686018427387904) (hca : la.length ≤ c1) (wa : ∀ x ∈ la, x.wf) (hfa : Frow F p1 (la.flatMap Head.row)) (hb : lb.length ≤ 4611686018427387904) (hcb : lb.length ≤ c2) (wb : ∀ x ∈ lb, x.wf) (hfb : Frow F p2 (lb.flatMap Head.row)) :
    Plain Try.prog F 4 [.slice p1 la.length c1, .slice p2 lb.length c2] (.bool true) := by
  refine plain_vc (N := 185) (rv := [.tmp 4]) tbok mixed Try.func4 rfl rfl rfl rfl rfl ?_
  have hfork := chainfork_ok la lb ha hb wa wb (ca := c1) (cb := c2) hfa hfb
  have hclash := chainclash_ok la lb ha hb wa wb (ca := c1) (cb := c2) hfa hfb
  have hbad : (chainF la).1 ≠ 0 → forkN la lb = 0 ∧ forkE la lb = (chainF la).1 ∧ clashT la lb = ([], [], (chainF la).1) := fun h => by
    have h1 : forkE la lb = (chainF la).1 := by unfold forkE; rw [if_pos h]
    exact ⟨by unfold forkN; rw [if_pos (by rw [h1]; exact h)], h1, by unfold clashT; rw [if_pos h]⟩
  have hbad2 : (chainF la).1 = 0 → (chainF lb).1 ≠ 0 → forkN la lb = 0 ∧ forkE la lb = (chainF lb).1 ∧ clashT la lb = ([], [], (chainF lb).1) := fun h0 h => by
    have h1 : forkE la lb = (chainF lb).1 := by unfold forkE; rw [if_neg (by simpa using h0), if_pos h]
    exact ⟨by unfold forkN; rw [if_pos (by rw [h1]; exact h)], h1, by unfold clashT; rw [if_neg (by simpa using h0), if_pos h]⟩
  have hgood : (chainF la).1 = 0 → (chainF lb).1 = 0 → forkE la lb = (if (bothP la lb).length = 0 then 5 else 0) ∧ clashT la lb = clashL (bothP la lb) := fun h0 h1 =>
    ⟨by unfold forkE; rw [if_neg (by simpa using h0), if_neg (by simpa using h1)], by unfold clashT; rw [if_neg (by simpa using h0), if_neg (by simpa using h1)]⟩
  have hleast := @forkN_least la lb
  have hforkN : forkE la lb ≠ 0 → forkN la lb = 0 := fun h => by unfold forkN; rw [if_pos h]
  generalize forkN la lb = fn at *
  generalize forkE la lb = fe at *
  generalize clashT la lb = cl at *
  obtain ⟨s, t, f⟩ := cl
  dsimp only at hclash hbad hbad2 hgood
  (refine run ?_; repeat intro b)
  refine s_plain _ rfl rfl rfl bd22 rfl hfork ?_
  (refine run ?_; repeat intro b)
  refine s_plain _ rfl rfl rfl bd23 rfl hclash ?_
  (refine run ?_; repeat intro b)
  refine s_plain _ rfl rfl rfl bd24 rfl (refchain_ok la ha wa hfa) ?_
  (refine run ?_; repeat intro b)
  refine s_if (decide ((chainF la).1 = 0)) ?_ (fun h => ?_) (fun h => ?_)
  · refine congrArg (fun b => some (EV.v (.bool b))) ?_
    rw [Bool.eq_iff_iff]; simp
  · have za := of_decide_eq_true h
    (refine run ?_; repeat intro b)
    refine s_plain _ rfl rfl rfl bd24 rfl (refchain_ok lb hb wb hfb) ?_
    (refine run ?_; repeat intro b)
    refine s_if (decide ((chainF lb).1 ≠ 0)) ?_ (fun h => ?_) (fun h => ?_)
    · refine congrArg (fun b => some (EV.v (.bool b))) ?_
      rw [Bool.eq_iff_iff]; simp
    · obtain ⟨rfl, rfl, e3⟩ := hbad2 za (of_decide_eq_true h)
      obtain ⟨rfl, rfl, rfl⟩ : s = [] ∧ t = [] ∧ f = (chainF lb).1 := by injection e3 with e1 e2; injection e2 with e2 e4; exact ⟨e1, e2, e4⟩
      (refine run ?_; repeat intro b)
      simp [tupV, bpick, bl, mkB]
    · have zb : (chainF lb).1 = 0 := by have := of_decide_eq_false h; omega
      obtain ⟨hE, hC⟩ := hgood za zb
      clear hbad hbad2 hgood hfork hclash
      obtain ⟨_, a40, fa, ua, _⟩ := chainF_zero za
      obtain ⟨_, b40, fb, ub, _⟩ := chainF_zero zb
      have ea : ∀ x ∈ la, 0 ≤ x.epoch := fun x hx => (Head.ok_of (fa x hx)).1
      have he : ∀ k, ∀ q ∈ bothP (la.take k) lb, 0 ≤ q.1.epoch := fun k q hq => ea _ (List.mem_of_mem_take (mem_bothP hq).1)
      (refine run ?_; repeat intro b)
      generalize b = b15
      refine s_loopP (fun x : Nat × Bool × Int × Int × HP => x.1 ≤ la.length ∧ x.2.1 = decide (bothP (la.take x.1) lb ≠ []) ∧ x.2.2.1 = leastN (bothP (la.take x.1) lb) ∧ x.2.2.2.1 = lastN (bothP (la.take x.1) lb) ∧ x.2.2.2.2 = topQ (bothP (la.take x.1) lb))
        (fun x => ⟨[(0, .v (.slice p1 la.length c1)), (1, .v (.slice p2 lb.length c2)), (5, .v (i64 fn)), (6, .v (i64 fe)), (7, .v (S s)), (8, .v (S t)), (9, .v (i64 f)), (12, .v (.bool x.2.1)), (13, .v (i64 x.2.2.1)), (14, .v (i64 x.2.2.2.1)), (15, .loc 0 0), (71, .v (.slice p1 la.length c1)), (72, .v (i64 (la.length : Nat))), (73, .v (i64 (x.1 : Nat)))], F, [(0, ⟨some b15, (row2 x.2.2.2.2).map .v, 56, 8⟩)], 1⟩) (fun x => la.length - x.1) (0, false, -1, -1, (Head.none, Head.none)) ⟨Nat.zero_le _, (any_start la lb).symm, (least_start la lb).symm, (last_start la lb).symm, (top_start la lb).symm⟩ (VS.keepN [0, 1, 5, 6, 7, 8, 9, 12, 13, 14, 15, 71, 72, 73] rfl rfl) ?_
      rintro ⟨k, any, least, last, top⟩ ⟨h1, h2, h3, h4, h5⟩
      dsimp only at h1 h2 h3 h4 h5 ⊢
      obtain ⟨t1, t2⟩ := top
      by_cases hlt : k < la.length
      · obtain ⟨o1, o2⟩ := frow_agg head_row (by decide) hfa k hlt
        have hn := @bothP_none la lb 1 k ub hlt
        have hs := fun y => @bothP_some la lb 1 k y ub hlt
        have hek := he k
        have ex := ea _ (List.getElem_mem hlt)
        have wx := wa _ (List.getElem_mem hlt)
        generalize la[k] = x at o2 hn hs ex wx
        (refine run ?_; repeat intro b)
        refine s_if true (by rw [← decide_eq_true (p := ((k : Nat) : Int) < ((la.length : Nat) : Int)) (by omega)]; rfl) (fun _ => ?_) (fun h => by cases h)
        (refine run ?_; repeat intro b)
        refine s_pureO rfl rfl rfl ⟨by omega, by omega, frow_some hfa (j := k * 4) (by rw [flat_len head_row]; omega)⟩ ?_
        refine s_loadA x.row rfl rfl rfl rfl rfl (by rw [Int.toNat_natCast]; exact o1) (by rw [Int.toNat_natCast]; exact o2) ?_
        (refine run ?_; repeat intro b)
        refine s_plain _ rfl rfl rfl bd25 rfl (headof_ok lb x.epoch hb hfb) ?_
        cases hy : headOfE lb x.epoch with
        | none =>
          have hL := hn hy
          rw [← hL] at h2 h3 h4 h5
          dsimp only [orN, Option.isSome]
          (refine run ?_; repeat intro b)
          rw [wrap_succ (by omega)]
          exact s_loopPc (k + 1, any, least, last, (t1, t2)) [1, 2] [0, 1, 5, 6, 7, 8, 9, 12, 13, 14, 15, 71, 72, 73] ⟨hlt, h2, h3, h4, h5⟩ (by simp only; omega) rfl rfl rfl rfl ⟨⟨Nat.zero_lt_one, fun e he => by obtain ⟨x, rfl⟩ := all_v (row2 (t1, t2)) e he; trivial⟩, trivial⟩ rfl
        | some y =>
          have hL := hs y hy
          have wy : y.wf := wb y (by unfold headOfE at hy; exact List.mem_of_find?_eq_some hy)
          have g2 : true = decide (bothP (la.take (k + 1)) lb ≠ []) := by rw [hL]; simp
          have g3 := leastN_snoc _ (x, y) hek
          have g4 := lastN_snoc (bothP (la.take k) lb) (x, y)
          have g5 := topQ_snoc (bothP (la.take k) lb) (x, y)
          rw [← hL, ← h3] at g3
          rw [← hL, ← h4] at g4
          rw [← hL] at g5
          dsimp only [orN, Option.isSome] at g3 g4 ⊢
          (refine run ?_; repeat intro b)
          refine s_regiont 4 (by kernel_rfl) rfl rfl ?_
          (refine run ?_; repeat intro b)
          refine s_if (decide (x ≠ y)) (congrArg (fun b => some (EV.v (.bool b))) (head_ne _ _)) (fun h => ?_) (fun h => ?_)
          · have hxy := of_decide_eq_true h
            rw [if_pos hxy] at g4
            (refine run ?_; repeat intro b)
            refine s_if (decide (least < 0)) rfl (fun h => ?_) (fun h => ?_)
            · rw [if_pos ⟨hxy, of_decide_eq_true h⟩] at g3
              (refine run ?_; repeat intro b)
              rw [wrap_succ (by omega)]
              exact s_loopPc (k + 1, true, x.epoch, x.epoch, (x, y)) [1, 2] [0, 1, 5, 6, 7, 8, 9, 12, 13, 14, 15, 71, 72, 73] ⟨hlt, g2, g3.symm, g4.symm, g5.symm⟩ (by simp only; omega) rfl rfl rfl rfl ⟨⟨Nat.zero_lt_one, fun e he => by obtain ⟨x, rfl⟩ := all_v (row2 (x, y)) e he; trivial⟩, trivial⟩ rfl
            · rw [if_neg (fun hh => of_decide_eq_false h hh.2)] at g3
              (refine run ?_; repeat intro b)
              rw [wrap_succ (by omega)]
              exact s_loopPc (k + 1, true, least, x.epoch, (x, y)) [1, 2] [0, 1, 5, 6, 7, 8, 9, 12, 13, 14, 15, 71, 72, 73] ⟨hlt, g2, g3.symm, g4.symm, g5.symm⟩ (by simp only; omega) rfl rfl rfl rfl ⟨⟨Nat.zero_lt_one, fun e he => by obtain ⟨x, rfl⟩ := all_v (row2 (x, y)) e he; trivial⟩, trivial⟩ rfl
          · have hxy := of_decide_eq_false h
            rw [if_neg hxy] at g4
            rw [if_neg (fun hh => hxy hh.1)] at g3
            (refine run ?_; repeat intro b)
            rw [wrap_succ (by omega)]
            exact s_loopPc (k + 1, true, least, last, (x, y)) [1, 2] [0, 1, 5, 6, 7, 8, 9, 12, 13, 14, 15, 71, 72, 73] ⟨hlt, g2, g3.symm, g4.symm, g5.symm⟩ (by simp only; omega) rfl rfl rfl rfl ⟨⟨Nat.zero_lt_one, fun e he => by obtain ⟨x, rfl⟩ := all_v (row2 (x, y)) e he; trivial⟩, trivial⟩ rfl
      · have hge : k = la.length := by omega
        subst hge
        rw [List.take_length] at h2 h3 h4 h5
        have hm := fun q hq => @mem_bothP la lb q hq
        have htop := @clashL_top (bothP la lb)
        have htm := @topQ_mem (bothP la lb)
        rw [← h5] at htop htm
        have hlx := lastN_eq (bothP la lb)
        have hcx := fun q hq => hm q (clashX_mem (q := q) hq)
        generalize bothP la lb = L at *
        (refine run ?_; repeat intro b)
        refine s_if false (by rw [← decide_eq_false (p := ((la.length : Nat) : Int) < ((la.length : Nat) : Int)) (by omega)]; rfl) (fun h => by cases h) (fun _ => ?_)
        by_cases hL : L = []
        · subst hL
          obtain rfl : any = false := by rw [h2]; rfl
          obtain rfl : fe = 5 := by rw [hE]; rfl
          replace hC : (s, t, f) = ([], [], 5) := hC
          obtain rfl := hforkN (by decide)
          obtain ⟨rfl, rfl, rfl⟩ : s = [] ∧ t = [] ∧ f = 5 := by injection hC with e1 e2; injection e2 with e2 e4; exact ⟨e1, e2, e4⟩
          (refine run ?_; repeat intro b)
          simp [tupV, bpick, bl, mkB]
        · obtain rfl : any = true := by rw [h2]; simp [hL]
          have hl0 : L.length ≠ 0 := fun h => hL (List.eq_nil_of_length_eq_zero h)
          rw [if_neg hl0] at hE
          subst hE
          obtain rfl : fn = least := (hleast rfl).trans h3.symm
          obtain ⟨m1, m2, m3⟩ := hm _ (htm hL)
          dsimp only at m1 m2 m3
          have w1 := wa _ m1
          have w2 := wb _ m2
          rw [htop hL] at hC
          have q1 : t1.markO = t1.mark := by unfold Head.markO; rw [if_pos (fa _ m1)]
          have q2 : t2.markO = t2.mark := by unfold Head.markO; rw [if_pos (fb _ m2)]
          dsimp only at hC
          rw [q1, q2] at hC
          (refine run ?_; repeat intro b)
          refine s_if false ?_ (fun h => by cases h) (fun _ => ?_)
          · refine congrArg (fun b => some (EV.v (.bool b))) ?_
            simp [bpick]
          (refine run ?_; repeat intro b)
          refine s_regiond (by kernel_rfl) ?_
          (refine run ?_; repeat intro b)
          refine s_plain _ rfl rfl rfl bd26 rfl (refheadmark_ok t1 w1 F) ?_
          (refine run ?_; repeat intro b)
          refine s_plain _ rfl rfl rfl bd26 rfl (refheadmark_ok t2 w2 F) ?_
          (refine run ?_; repeat intro b)
          refine s_if (decide (t1.mark ≠ t2.mark)) ?_ (fun h => ?_) (fun h => ?_)
          · refine congrArg (fun b => some (EV.v (.bool b))) ?_
            rw [Bool.eq_iff_iff]; simp; omega
          · rw [if_pos (of_decide_eq_true h)] at hC
            obtain ⟨rfl, rfl, rfl⟩ : s = [] ∧ t = [] ∧ f = 8 := by injection hC with e1 e2; injection e2 with e2 e4; exact ⟨e1, e2, e4⟩
            (refine run ?_; repeat intro b)
            simp [tupV, bpick, bl, mkB]
          · rw [if_neg (of_decide_eq_false h)] at hC
            unfold clashO at hC
            cases hX : clashX L with
            | none =>
              rw [hX] at hC hlx
              obtain ⟨rfl, rfl, rfl⟩ : s = [] ∧ t = [] ∧ f = 6 := by injection hC with e1 e2; injection e2 with e2 e4; exact ⟨e1, e2, e4⟩
              obtain rfl : last = -1 := h4.trans hlx
              (refine run ?_; repeat intro b)
              simp [tupV, bpick, bl, mkB]
            | some q =>
              rw [hX] at hC hlx
              obtain ⟨x, y⟩ := q
              obtain ⟨n1, n2, n3⟩ := hcx _ hX
              dsimp only at n1 n2 n3 hlx hC
              have z1 := fa _ n1
              have z2 := fb _ n2
              have y1 : x.saidO = x.said := by unfold Head.saidO; rw [if_pos z1]
              have y2 : y.saidO = y.said := by unfold Head.saidO; rw [if_pos z2]
              rw [y1, y2] at hC
              obtain ⟨rfl, rfl, rfl⟩ : s = x.said ∧ t = y.said ∧ f = 0 := by injection hC with e1 e2; injection e2 with e2 e4; exact ⟨e1, e2, e4⟩
              obtain rfl : last = x.epoch := h4.trans hlx
              have j1 := headOf_self ua n1
              have j2 := headOf_self ub n2
              rw [← n3] at j2
              have k1 := headof_ok la x.epoch ha (c := c1) hfa
              have k2 := headof_ok lb x.epoch hb (c := c2) hfb
              rw [j1] at k1
              rw [j2] at k2
              have x0 := ea _ n1
              (refine run ?_; repeat intro b)
              refine s_if false ?_ (fun h => by cases h) (fun _ => ?_)
              · refine congrArg (fun b => some (EV.v (.bool b))) ?_
                rw [decide_eq_false (by omega)]
              (refine run ?_; repeat intro b)
              refine s_plain _ rfl rfl rfl bd25 rfl k1 ?_
              dsimp only [orN, Option.isSome]
              (refine run ?_; repeat intro b)
              refine s_plain _ rfl rfl rfl bd25 rfl k2 ?_
              dsimp only [orN, Option.isSome]
              (refine run ?_; repeat intro b)
              refine s_plain _ rfl rfl rfl bd27 rfl (refheadsaid_ok x (wa _ n1) F) ?_
              (refine run ?_; repeat intro b)
              refine s_gplain _ rfl rfl rfl rfl bd27 rfl rfl (fun _ => refheadsaid_ok y (wb _ n2) F) ?_
              (refine run ?_; repeat intro b)
              simp [tupV, bpick, bl, mkB]
  · have za := of_decide_eq_false h
    obtain ⟨rfl, rfl, e3⟩ := hbad za
    obtain ⟨rfl, rfl, rfl⟩ : s = [] ∧ t = [] ∧ f = (chainF la).1 := by injection e3 with e1 e2; injection e2 with e2 e4; exact ⟨e1, e2, e4⟩
    (refine run ?_; repeat intro b)
    refine s_if true ?_ (fun _ => ?_) (fun h => by cases h)
    · refine congrArg (fun b => some (EV.v (.bool b))) ?_
      rw [Bool.eq_iff_iff]; simpa using za
    (refine run ?_; repeat intro b)
    simp [tupV, bpick, bl, mkB]
end Go.Proofs.Ythkmfihbpbehfaa
