/-
Package chain: both, Fork: the walks.
-/
import Derived.Test.YthkmfihbpbehfaaForkMath
namespace Go.Proofs.Ythkmfihbpbehfaa
set_option linter.unusedVariables false
set_option linter.unusedSimpArgs false
open Go.TR
theorem row2_snoc (l : List (Head × Head)) (q : Head × Head) : ((l ++ [q]).flatMap row2).map EV.v = (l.flatMap row2).map EV.v ++ (row2 q).map EV.v := by simp
/-- What both has, part way. -/
def bothAt (a b : List Head) (x : Head) (k j : Nat) : List (Head × Head) := bothP (a.take k) b ++ bothX x (b.take j)
theorem bothAt_zero (a b : List Head) (x : Head) (k : Nat) : bothAt a b x k 0 = bothP (a.take k) b := by simp [bothAt, bothX]
theorem bothAt_yes {a b : List Head} {x : Head} {k j : Nat} (hj : j < b.length) (h : x.epoch = b[j].epoch) : bothAt a b x k (j + 1) = bothAt a b x k j ++ [(x, b[j])] := by
  unfold bothAt
  rw [bothX_take hj, if_pos h, List.append_assoc]
theorem bothAt_no {a b : List Head} {x : Head} {k j : Nat} (hj : j < b.length) (h : ¬ x.epoch = b[j].epoch) : bothAt a b x k (j + 1) = bothAt a b x k j := by
  unfold bothAt
  rw [bothX_take hj, if_neg h, List.append_nil]
theorem bothAt_end {a b : List Head} {k : Nat} (hk : k < a.length) : bothAt a b a[k] k b.length = bothP (a.take (k + 1)) b := by
  unfold bothAt
  rw [List.take_length, bothP_take hk]
theorem bothAt_len (a b : List Head) (x : Head) (k j : Nat) (ha : a.length ≤ 40) (hb : b.length ≤ 40) : (bothAt a b x k j).length ≤ 1640 := by
  unfold bothAt
  rw [List.length_append]
  have h1 := bothP_len (a.take k) b
  have h2 := bothX_len x (b.take j)
  rw [List.length_take] at h1 h2
  have h3 : min k a.length * b.length ≤ 40 * 40 := Nat.mul_le_mul (by omega) hb
  omega
attribute [local irreducible] vc vcOps seqK blockK loopK retK retG retI loopV Plain CallOK CallIn bodied VS vcAny dropG backK brK loopPK IntKind.wrap
set_option maxRecDepth 100000
set_option maxHeartbeats 4000000 in
theorem both2_ok (la lb : List Head) (ha : la.length ≤ 40) (hb : lb.length ≤ 40) {pa pb : Option Addr} {ca cb : Nat} {F : Hp} (hfa : Frow F pa (la.flatMap Head.row)) (hfb : Frow F pb (lb.flatMap Head.row)) : CallF Try.prog F 85 [.slice pa la.length ca, .slice pb lb.length cb] (fun x F' => ∃ p c, x = .slice p (bothP la lb).length c ∧ Frow F' p ((bothP la lb).flatMap row2)) := by
  refine call_vc (N := 36) (rv := [.tmp 4]) tbok mixed Try.func85 rfl rfl rfl rfl rfl ?_
  (refine run ?_; repeat intro b)
  refine s_loopP (fun q : Nat × Nat × Option Nat × Nat => q.1 ≤ la.length ∧ q.2.1 = (bothP (la.take q.1) lb).length ∧ (q.2.2.1 = none → q.2.1 = 0 ∧ q.2.2.2 = 0) ∧ q.2.1 ≤ q.2.2.2)
    (fun q => ⟨[(5, .row 0 0 q.2.1 q.2.2.2), (0, .v (.slice pa la.length ca)), (1, .v (.slice pb lb.length cb)), (10, .v (.slice pa la.length ca)), (11, .v (i64 (la.length : Nat))), (12, .v (i64 (q.1 : Nat)))], F, [(0, ⟨q.2.2.1, ((bothP (la.take q.1) lb).flatMap row2).map EV.v, 56, q.2.2.2 * 8⟩)], 1⟩) (fun q => la.length - q.1) (0, 0, none, 0) ⟨Nat.zero_le _, rfl, fun _ => ⟨rfl, rfl⟩, Nat.le_refl _⟩ (VS.nilrow 5 56 [0, 1, 10, 11, 12] rfl rfl (VS.id rfl)) ?_
  rintro ⟨k, n, blk, cap⟩ ⟨h1, h2, h3, h4⟩
  dsimp only at h1 h2 h3 h4 ⊢
  by_cases hlt : k < la.length
  · obtain ⟨o1, o2⟩ := frow_agg head_row (by decide) hfa k hlt
    have hend := bothAt_end (b := lb) hlt
    generalize la[k] = x at o2 hend
    have h2' : n = (bothAt la lb x k 0).length := by rw [bothAt_zero]; exact h2
    (refine run ?_; repeat intro b)
    refine s_if true (by rw [← decide_eq_true (p := ((k : Nat) : Int) < ((la.length : Nat) : Int)) (by omega)]; rfl) (fun _ => ?_) (fun h => by cases h)
    (refine run ?_; repeat intro b)
    refine s_pureO rfl rfl rfl ⟨by omega, by omega, frow_some hfa (j := k * 4) (by rw [flat_len head_row]; omega)⟩ ?_
    refine s_loadA x.row rfl rfl rfl rfl rfl (by rw [Int.toNat_natCast]; exact o1) (by rw [Int.toNat_natCast]; exact o2) ?_
    (refine run ?_; repeat intro b)
    generalize b = bx
    refine s_loopP (fun q : Nat × Nat × Option Nat × Nat => q.1 ≤ lb.length ∧ q.2.1 = (bothAt la lb x k q.1).length ∧ (q.2.2.1 = none → q.2.1 = 0 ∧ q.2.2.2 = 0) ∧ q.2.1 ≤ q.2.2.2)
      (fun q => ⟨[(5, .row 2 0 q.2.1 q.2.2.2), (0, .v (.slice pa la.length ca)), (1, .v (.slice pb lb.length cb)), (7, .loc 1 0), (10, .v (.slice pa la.length ca)), (11, .v (i64 (la.length : Nat))), (12, .v (i64 (k : Nat))), (16, .v (.slice pb lb.length cb)), (17, .v (i64 (lb.length : Nat))), (18, .v (i64 (q.1 : Nat)))], F, [(2, ⟨q.2.2.1, ((bothAt la lb x k q.1).flatMap row2).map EV.v, 56, q.2.2.2 * 8⟩), (1, ⟨some bx, x.row.map EV.v, 28, 4⟩)], 3⟩) (fun q => lb.length - q.1) (0, n, blk, cap) ⟨Nat.zero_le _, h2', h3, h4⟩
      (VS.ren (nx' := 3) [(0, 2), (1, 1)] [5, 0, 1, 7, 10, 11, 12, 16, 17, 18] [(2, ⟨blk, ((bothAt la lb x k 0).flatMap row2).map EV.v, 56, cap * 8⟩), (1, ⟨some bx, x.row.map EV.v, 28, 4⟩)] ⟨rfl, ⟨_, rfl, rfl, rfl, rfl, .inl ⟨by rw [bothAt_zero], fun e he => all_v _ e he⟩⟩, rfl, ⟨_, rfl, rfl, rfl, rfl, .inr rfl⟩, trivial⟩ rfl rfl rfl rfl rfl rfl rfl) ?_
    rintro ⟨j, n', blk', cap'⟩ ⟨g1, g2, g3, g4⟩
    dsimp only at g1 g2 g3 g4 ⊢
    by_cases hlj : j < lb.length
    · obtain ⟨o3, o4⟩ := frow_agg head_row (by decide) hfb j hlj
      have hyes := @bothAt_yes la lb x k j hlj
      have hno := @bothAt_no la lb x k j hlj
      have hlen := bothAt_len la lb x k j ha hb
      generalize lb[j] = y at o4 hyes hno
      (refine run ?_; repeat intro b)
      refine s_if true (by rw [← decide_eq_true (p := ((j : Nat) : Int) < ((lb.length : Nat) : Int)) (by omega)]; rfl) (fun _ => ?_) (fun h => by cases h)
      (refine run ?_; repeat intro b)
      refine s_pureO rfl rfl rfl ⟨by omega, by omega, frow_some hfb (j := j * 4) (by rw [flat_len head_row]; omega)⟩ ?_
      refine s_loadA y.row rfl rfl rfl rfl rfl (by rw [Int.toNat_natCast]; exact o3) (by rw [Int.toNat_natCast]; exact o4) ?_
      (refine run ?_; repeat intro b)
      refine s_if (decide (x.epoch = y.epoch)) ?_ (fun h => ?_) (fun h => ?_)
      · refine congrArg (fun lb => some (EV.v (.bool lb))) ?_
        rw [Bool.eq_iff_iff]; simp
      · have hy := hyes (of_decide_eq_true h)
        (refine run ?_; repeat intro b)
        refine s_appR rfl rfl rfl rfl rfl rfl rfl rfl (src_row rfl rfl) (one_v _ (row2_one [(x, y)])) g3 g4 rfl (by rw [List.length_map, flat_len row2_len, g2]; exact Nat.le_refl _) (by show _ * 64 ≤ _; omega) (fun h => by cases h) (fun _ b2 c2 hc2 => ?_)
        (refine run ?_; repeat intro b)
        have hcells : (((bothAt la lb x k j).flatMap row2).map EV.v).take (n' * 8) ++ [EV.v (i64 x.epoch), EV.v (u64 (x.root : Nat)), EV.v (u64 (x.prev : Nat)), EV.v (i64 x.at_), EV.v (i64 y.epoch), EV.v (u64 (y.root : Nat)), EV.v (u64 (y.prev : Nat)), EV.v (i64 y.at_)] = ((bothAt la lb x k (j + 1)).flatMap row2).map EV.v := by
          rw [hy, row2_snoc, List.take_of_length_le (by rw [List.length_map, flat_len row2_len, g2]; exact Nat.le_refl _)]
          rfl
        rw [wrap_succ (by omega)]
        exact s_loopPq (j + 1, n' + 1, some b2, c2) 2 [(5, 2), (1, 1)] [5, 0, 1, 7, 10, 11, 12, 16, 17, 18] [(2, ⟨some b2, ((bothAt la lb x k (j + 1)).flatMap row2).map EV.v, 56, c2 * 8⟩), (1, ⟨some bx, x.row.map EV.v, 28, 4⟩)] ⟨hlj, by rw [hy, List.length_append, g2]; rfl, (fun h => by cases h), hc2⟩ (by simp only; omega) (Nat.min_le_left _ _)
          ⟨rfl, ⟨_, rfl, rfl, rfl, rfl, .inl ⟨hcells.symm, fun e he => all_v _ e (hcells ▸ he)⟩⟩, rfl, ⟨_, rfl, rfl, rfl, rfl, .inr rfl⟩, trivial⟩ rfl rfl rfl rfl rfl rfl rfl
      · have hy := hno (of_decide_eq_false h)
        (refine run ?_; repeat intro b)
        rw [wrap_succ (by omega)]
        exact s_loopPq (j + 1, n', blk', cap') 2 [(2, 2), (1, 1)] [5, 0, 1, 7, 10, 11, 12, 16, 17, 18] [(2, ⟨blk', ((bothAt la lb x k (j + 1)).flatMap row2).map EV.v, 56, cap' * 8⟩), (1, ⟨some bx, x.row.map EV.v, 28, 4⟩)] ⟨hlj, by rw [hy]; exact g2, g3, g4⟩ (by simp only; omega) (Nat.min_le_left _ _)
          ⟨rfl, ⟨_, rfl, rfl, rfl, rfl, .inl ⟨by rw [hy], fun e he => all_v _ e he⟩⟩, rfl, ⟨_, rfl, rfl, rfl, rfl, .inr rfl⟩, trivial⟩ rfl rfl rfl rfl rfl rfl rfl
    · have hge : j = lb.length := by omega
      subst hge
      rw [hend] at g2
      (refine run ?_; repeat intro b)
      refine s_if false (by rw [← decide_eq_false (p := ((lb.length : Nat) : Int) < ((lb.length : Nat) : Int)) (by omega)]; rfl) (fun h => by cases h) (fun _ => ?_)
      (refine run ?_; repeat intro b)
      rw [wrap_succ (by omega)]
      exact s_loopPq (k + 1, n', blk', cap') 0 [(2, 0)] [5, 0, 1, 10, 11, 12] [(0, ⟨blk', ((bothP (la.take (k + 1)) lb).flatMap row2).map EV.v, 56, cap' * 8⟩)] ⟨hlt, g2, g3, g4⟩ (by simp only; omega) (Nat.min_le_left _ _)
        ⟨rfl, ⟨_, rfl, rfl, rfl, rfl, .inl ⟨by rw [hend], fun e he => all_v _ e he⟩⟩, trivial⟩ rfl rfl rfl rfl rfl rfl rfl
  · have hge : k = la.length := by omega
    subst hge
    rw [List.take_length] at h2
    rw [List.take_length]
    (refine run ?_; repeat intro b)
    refine s_if false (by rw [← decide_eq_false (p := ((la.length : Nat) : Int) < ((la.length : Nat) : Int)) (by omega)]; rfl) (fun h => by cases h) (fun _ => ?_)
    cases blk with
    | none =>
      obtain ⟨e1, e2⟩ := h3 rfl
      have e3 : bothP la lb = [] := List.eq_nil_of_length_eq_zero (by omega)
      rw [e3]
      subst e1 e2
      (refine run ?_; repeat intro b)
      refine s_retG (VS.nilval 0 [4] rfl rfl (VS.dropR [0] rfl (VS.id ⟨_, rfl, rfl, none, 0, rfl, frow_nil _ _⟩)))
    | some b0 =>
      (refine run ?_; repeat intro b)
      refine s_retG ?_
      refine VS.freeze 0 [4] rfl (allV_map_v _) rfl rfl fun F' hs1 hf1 => VS.id ⟨_, rfl, rfl, some ⟨b0, 0, none⟩, cap, by rw [← h2]; rfl, hf1⟩
theorem find_drop {α : Type} (f : α → Bool) {l : List α} {k : Nat} (hk : k < l.length) : (l.drop k).find? f = if f l[k] = true then some l[k] else (l.drop (k + 1)).find? f := by
  rw [List.drop_eq_getElem_cons hk, List.find?_cons]
  cases f l[k] <;> rfl
theorem checkF_two (pa pb : Option Addr) (la lb : List Head) (ca cb : Nat) : checkF [(pa, la, ca), (pb, lb, cb)] = if (chainF la).1 ≠ 0 then (chainF la).1 else (chainF lb).1 := by
  simp only [checkF]
  by_cases h1 : (chainF la).1 = 0 <;> by_cases h2 : (chainF lb).1 = 0 <;> simp [h1, h2]
set_option maxHeartbeats 4000000 in
theorem chainfork_ok (la lb : List Head) (ha : la.length ≤ 4611686018427387904) (hb : lb.length ≤ 4611686018427387904) (wa : ∀ x ∈ la, x.wf) (wb : ∀ x ∈ lb, x.wf) {pa pb : Option Addr} {ca cb : Nat} {F : Hp} (hfa : Frow F pa (la.flatMap Head.row)) (hfb : Frow F pb (lb.flatMap Head.row)) : Plain Try.prog F 22 [.slice pa la.length ca, .slice pb lb.length cb] (pair (i64 (forkN la lb)) (i64 (forkE la lb))) := by
  refine plain_vc (N := 38) (rv := [.tmp 4, .tmp 5]) tbok mixed Try.func22 rfl rfl rfl rfl rfl ?_
  (refine run ?_; repeat intro b)
  refine s_shift (VS.freeze 0 [0, 1, 12] rfl rfl rfl rfl fun F1 hs1 hf1 => VS.id ?_)
  have hc := chains_ok [(pa, la, ca), (pb, lb, cb)] (by simp) (cc := 2) hf1 (fun s hs => by
    simp only [List.mem_cons, List.not_mem_nil, or_false] at hs
    rcases hs with rfl | rfl
    · exact ⟨ha, wa, frow_sub hs1 hfa⟩
    · exact ⟨hb, wb, frow_sub hs1 hfb⟩)
  rw [checkF_two] at hc
  refine s_plain _ rfl rfl rfl bd84 rfl hc ?_
  obtain ⟨e, he⟩ : ∃ e, e = if (chainF la).1 ≠ 0 then (chainF la).1 else (chainF lb).1 := ⟨_, rfl⟩
  rw [← he]
  (refine run ?_; repeat intro b)
  refine s_if (decide (e ≠ 0)) ?_ (fun h => ?_) (fun h => ?_)
  · refine congrArg (fun b => some (EV.v (.bool b))) ?_
    rw [Bool.eq_iff_iff]; simp
  · have h0 : e ≠ 0 := of_decide_eq_true h
    have e1 : forkE la lb = e := by
      unfold forkE
      rw [he] at h0 ⊢
      by_cases h1 : (chainF la).1 ≠ 0
      · rw [if_pos h1, if_pos h1]
      · rw [if_neg h1] at h0 ⊢
        rw [if_neg h1, if_pos h0]
    have e2 : forkN la lb = 0 := by unfold forkN; rw [if_pos (by rw [e1]; exact h0)]
    rw [e1, e2]
    (refine run ?_; repeat intro b)
    rfl
  · have h0 : e = 0 := by simpa using h
    have za : (chainF la).1 = 0 := by
      rw [he] at h0
      by_cases h1 : (chainF la).1 ≠ 0
      · rw [if_pos h1] at h0; exact h0
      · simpa using h1
    have zb : (chainF lb).1 = 0 := by
      rw [he, if_neg (by simpa using za)] at h0
      exact h0
    have hE : forkE la lb = if (bothP la lb).length = 0 then 5 else 0 := by unfold forkE; rw [if_neg (by simpa using za), if_neg (by simpa using zb)]
    obtain ⟨_, a40, _, _, _⟩ := chainF_zero za
    obtain ⟨_, b40, _, _, _⟩ := chainF_zero zb
    have hN : forkN la lb = if forkE la lb ≠ 0 then 0 else match forkP la lb with
      | some q => q.1.epoch
      | none => -1 := rfl
    have hlen := bothP_len la lb
    have hmul : la.length * lb.length ≤ 40 * 40 := Nat.mul_le_mul a40 b40
    have hP : forkP la lb = ((bothP la lb).drop 0).find? fun q => decide (q.1 ≠ q.2) := rfl
    clear he hc
    (refine run ?_; repeat intro b)
    refine s_callF rfl rfl rfl bd85 rfl (both2_ok la lb a40 b40 (frow_sub hs1 hfa) (frow_sub hs1 hfb)) ?_
    rintro _ F2 hF2 ⟨pl, cl, rfl, hg⟩
    generalize bothP la lb = L at hE hlen hP hg
    (refine run ?_; repeat intro b)
    refine s_if (decide (L.length = 0)) ?_ (fun h => ?_) (fun h => ?_)
    · refine congrArg (fun b => some (EV.v (.bool b))) ?_
      rw [Bool.eq_iff_iff]; simp
    · rw [if_pos (of_decide_eq_true h)] at hE
      rw [hE] at hN
      rw [hN, hE]
      (refine run ?_; repeat intro b)
      rfl
    · rw [if_neg (of_decide_eq_false h)] at hE
      rw [hE, if_neg (by decide)] at hN
      rw [hN, hE]
      (refine run ?_; repeat intro b)
      refine s_loopP (fun k : Nat => k ≤ L.length ∧ forkP la lb = (L.drop k).find? fun q => decide (q.1 ≠ q.2)) (fun k => ⟨[(23, .v (.slice pl L.length cl)), (24, .v (i64 (L.length : Nat))), (25, .v (i64 (k : Nat)))], F2, [], 1⟩) (fun k => L.length - k) 0 ⟨Nat.zero_le _, hP⟩ (VS.keepN [23, 24, 25] rfl rfl) ?_
      rintro k ⟨hk, hu⟩
      by_cases hlt : k < L.length
      · obtain ⟨o1, o2⟩ := frow_agg row2_len (by decide) hg k hlt
        rw [find_drop _ hlt] at hu
        generalize L[k] = q at hu o2
        obtain ⟨x, y⟩ := q
        dsimp only at hu
        (refine run ?_; repeat intro b)
        refine s_if true (by rw [← decide_eq_true (p := ((k : Nat) : Int) < ((L.length : Nat) : Int)) (by omega)]; rfl) (fun _ => ?_) (fun h => by cases h)
        (refine run ?_; repeat intro b)
        refine s_pureO rfl rfl rfl ⟨by omega, by omega, frow_some hg (j := k * 8) (by rw [flat_len row2_len]; omega)⟩ ?_
        refine s_loadA (row2 (x, y)) rfl rfl rfl rfl rfl (by rw [Int.toNat_natCast]; exact o1) (by rw [Int.toNat_natCast]; exact o2) ?_
        (refine run ?_; repeat intro b)
        refine s_if (decide (x ≠ y)) (congrArg (fun b => some (EV.v (.bool b))) (head_ne _ _)) (fun h => ?_) (fun h => ?_)
        · rw [if_pos h] at hu
          rw [hu]
          (refine run ?_; repeat intro b)
          rfl
        · rw [if_neg (by rw [h]; decide)] at hu
          (refine run ?_; repeat intro b)
          rw [wrap_succ (by omega)]
          exact s_loopPc (k + 1) [1] [23, 24, 25] ⟨hlt, hu⟩ (by omega) rfl rfl rfl rfl trivial rfl
      · have hge : k = L.length := by omega
        subst hge
        rw [List.drop_length] at hu
        (refine run ?_; repeat intro b)
        refine s_if false (by rw [← decide_eq_false (p := ((L.length : Nat) : Int) < ((L.length : Nat) : Int)) (by omega)]; rfl) (fun h => by cases h) (fun _ => ?_)
        (refine run ?_; repeat intro b)
        rw [hu]
        rfl
end Go.Proofs.Ythkmfihbpbehfaa
