/-
The reference's growth, RollGrew, RollGrown.
-/
import Derived.Test.YthkmfihbpbehfaaGrow
import Derived.Test.YthkmfihbpbehfaaRows2
namespace Go.Proofs.Ythkmfihbpbehfaa
set_option linter.unusedVariables false
set_option linter.unusedSimpArgs false
open Go.TR
attribute [local irreducible] vc vcOps seqK blockK loopK retK retG retI loopV Plain CallOK CallIn bodied VS vcAny dropG backK brK loopPK IntKind.wrap
set_option maxRecDepth 100000
set_option maxHeartbeats 2000000 in
theorem growth_ok (n m : Nat) {F : Hp} (hm : 1 ≤ m) (hmn : m ≤ n) (hn : n ≤ 40) : CallF Try.prog F 102 [i64 (n : Nat), i64 (m : Nat)] (fun x F' => ∃ p c, x = pair (.slice p (gturns n n m).length c) (.bool (allB (gturns n n m))) ∧ Frow F' p ((gturns n n m).map Value.bool)) := by
  refine call_vc (N := 34) (rv := [.tmp 4, .tmp 5]) tbok mixed Try.func102 rfl rfl rfl rfl rfl ?_
  (refine run ?_; repeat intro b)
  refine s_loopP (fun q : Nat × Nat × List Bool × Nat × Option Nat × Nat => gturns n n m = q.2.2.1 ++ gturns n q.1 q.2.1 ∧ 1 ≤ q.2.1 ∧ q.2.1 ≤ q.1 ∧ q.1 ≤ n ∧ q.2.2.2.1 = q.2.2.1.length ∧ (q.2.2.2.2.1 = none → q.2.2.2.1 = 0 ∧ q.2.2.2.2.2 = 0) ∧ q.2.2.2.1 ≤ q.2.2.2.2.2)
    (fun q => ⟨[(6, .row 0 0 q.2.2.2.1 q.2.2.2.2.2), (0, .v (i64 (q.1 : Nat))), (1, .v (i64 (q.2.1 : Nat))), (7, .v (.bool (allB q.2.2.1)))], F, [(0, ⟨q.2.2.2.2.1, (q.2.2.1.map Value.bool).map EV.v, 161, q.2.2.2.2.2 * 1⟩)], 1⟩) (fun q => q.1) (n, m, [], 0, none, 0) ⟨rfl, hm, hmn, Nat.le_refl _, rfl, fun _ => ⟨rfl, rfl⟩, Nat.le_refl _⟩ (VS.nilrow 6 161 [0, 1, 7] rfl rfl (VS.id rfl)) ?_
  rintro ⟨n', m', rs, k, blk, cap⟩ ⟨h1, h2, h3, h4, h5, h6, h7⟩
  dsimp only at h1 h2 h3 h4 h5 h6 h7 ⊢
  have hrl : rs.length ≤ n := by
    have := gturns_len n n m
    rw [h1] at this
    simp only [List.length_append] at this
    omega
  (refine run ?_; repeat intro b)
  refine s_if (decide (m' < n')) ?_ (fun h => ?_) (fun h => ?_)
  · refine congrArg (fun b => some (EV.v (.bool b))) ?_
    rw [decide_eq_decide]; omega
  · have h8 : m' < n' := of_decide_eq_true h
    have hr := half_range (n := n') (by omega)
    have hgo := gturns_go h8 h4 h2
    (refine run ?_; repeat intro b)
    refine s_plain _ rfl rfl rfl bd100 rfl (refhalf_ok n' (by omega) F) ?_
    (refine run ?_; repeat intro b)
    refine s_if (decide (m' ≤ half n')) ?_ (fun h9 => ?_) (fun h9 => ?_)
    · refine congrArg (fun b => some (EV.v (.bool b))) ?_
      rw [decide_eq_decide]; omega
    · have h10 : m' ≤ half n' := of_decide_eq_true h9
      rw [if_pos h10] at hgo
      have h11 : gturns n n m = (rs ++ [true]) ++ gturns n (half n') m' := by rw [h1, hgo, List.append_assoc]; rfl
      have hcells := bools_cells rs true k h5
      have hall : allB (rs ++ [true]) = allB rs := by rw [allB_append]; simp [allB]
      (refine run ?_; repeat intro b)
      refine s_appR rfl rfl rfl rfl rfl rfl rfl rfl (src_row rfl rfl) one1 h6 h7 rfl (by simp [h5]) (by show _ * 1 ≤ _; omega) (fun h => by cases h) (fun _ b2 c2 hc2 => ?_)
      (refine run ?_; repeat intro b)
      exact s_loopPq (half n', m', rs ++ [true], k + 1, some b2, c2) 0 [(2, 0)] [6, 0, 1, 7] [(0, ⟨some b2, ((rs ++ [true]).map Value.bool).map EV.v, 161, c2 * 1⟩)] ⟨h11, h2, h10, by simp only; omega, by simp [h5], (fun h => by cases h), hc2⟩ (by simp only; omega) (Nat.min_le_left _ _)
        ⟨rfl, ⟨_, rfl, rfl, rfl, rfl, .inl ⟨hcells, fun e he => all_v _ e (hcells ▸ he)⟩⟩, trivial⟩ rfl rfl rfl rfl rfl rfl (by rw [hall])
    · have h10 : ¬ m' ≤ half n' := of_decide_eq_false h9
      rw [if_neg h10] at hgo
      have h11 : gturns n n m = (rs ++ [false]) ++ gturns n (n' - half n') (m' - half n') := by rw [h1, hgo, List.append_assoc]; rfl
      have hcells := bools_cells rs false k h5
      have hall : allB (rs ++ [false]) = false := by rw [allB_append]; simp [allB]
      have ew1 : IntKind.i64.wrap ((n' : Int) - ((half n' : Nat) : Int)) = ((n' - half n' : Nat) : Int) := by rw [wrap_i64 (by omega) (by omega)]; omega
      have ew2 : IntKind.i64.wrap ((m' : Int) - ((half n' : Nat) : Int)) = ((m' - half n' : Nat) : Int) := by rw [wrap_i64 (by omega) (by omega)]; omega
      (refine run ?_; repeat intro b)
      refine s_appR rfl rfl rfl rfl rfl rfl rfl rfl (src_row rfl rfl) one1 h6 h7 rfl (by simp [h5]) (by show _ * 1 ≤ _; omega) (fun h => by cases h) (fun _ b2 c2 hc2 => ?_)
      (refine run ?_; repeat intro b)
      rw [ew1, ew2]
      exact s_loopPq (n' - half n', m' - half n', rs ++ [false], k + 1, some b2, c2) 0 [(2, 0)] [6, 0, 1, 7] [(0, ⟨some b2, ((rs ++ [false]).map Value.bool).map EV.v, 161, c2 * 1⟩)] ⟨h11, by simp only; omega, by simp only; omega, by simp only; omega, by simp [h5], (fun h => by cases h), hc2⟩ (by simp only; omega) (Nat.min_le_left _ _)
        ⟨rfl, ⟨_, rfl, rfl, rfl, rfl, .inl ⟨hcells, fun e he => all_v _ e (hcells ▸ he)⟩⟩, trivial⟩ rfl rfl rfl rfl rfl rfl (by rw [hall])
  · have h8 : ¬ m' < n' := of_decide_eq_false h
    rw [gturns_stop h8, List.append_nil] at h1
    rw [h1]
    cases blk with
    | none =>
      obtain ⟨e1, e2⟩ := h6 rfl
      have e3 : rs = [] := List.eq_nil_of_length_eq_zero (by omega)
      subst e3 e1 e2
      (refine run ?_; repeat intro b)
      refine s_retG (VS.nilval 0 [4, 5] rfl rfl (VS.dropR [0] rfl (VS.id ⟨_, rfl, rfl, none, 0, rfl, frow_nil _ _⟩)))
    | some b0 =>
      (refine run ?_; repeat intro b)
      refine s_retG ?_
      refine VS.freeze 0 [4, 5] rfl (allV_map_v _) rfl rfl fun F' hs1 hf1 => VS.id ⟨_, rfl, rfl, some ⟨b0, 0, none⟩, cap, by rw [← h5]; rfl, hf1⟩
theorem gt_cell {F : Hp} {p : Option Addr} {T : List Bool} (h : Frow F p (T.map Value.bool)) (j : Nat) (hj : j < T.length) (b : Bool) (hb : T[j] = b) : (padd p ((j : Int).toNat * 1)).isSome = true ∧ ∀ i, i < 1 → Pcell F (padd (padd p ((j : Int).toNat * 1)) i) = [Value.bool b][i]? := by
  rw [Int.toNat_natCast, Nat.mul_one]
  refine ⟨?_, fun i hi => ?_⟩
  · have := frow_some h (j := j) (by simpa using hj)
    cases p with
    | none => cases this
    | some a => rfl
  · obtain rfl : i = 0 := by omega
    have := frow_get h (j := j) (by simpa using hj)
    rw [padd_padd, Nat.add_zero, this, List.getElem_map, hb]
    rfl
theorem take_allB {T : List Bool} {j : Nat} (hj : j < T.length) : allB (T.take (j + 1)) = (allB (T.take j) && T[j]) := by
  rw [List.take_succ_eq_append_getElem hj, allB_append]
  simp [allB]
set_option maxHeartbeats 4000000 in
theorem refrollgrew_ok (l : List (List UInt8)) (m : Nat) {p : Option Addr} {c : Nat} {F : Hp} (hf : Frow F p (l.map S)) (hl : l.length ≤ 40) (hs : ∀ s ∈ l, s.length ≤ 40) (hm : 1 ≤ m) (hml : m ≤ l.length) : CallF Try.prog F 44 [.slice p l.length c, i64 (m : Nat)] (fun x F' => ∃ p c, x = .slice p (grewN l m true).length c ∧ Frow F' p ((grewN l m true).map nu)) := by
  refine call_vc (N := 62) (rv := [.tmp 4]) tbok mixed Try.func44 rfl rfl rfl rfl rfl ?_
  obtain ⟨T, hT⟩ : ∃ T, T = gturns l.length l.length m := ⟨_, rfl⟩
  have hg := growth_ok l.length m (F := F) hm hml hl
  rw [← hT] at hg
  have hTl : T.length ≤ 40 := by rw [hT]; have := gturns_len l.length l.length m; omega
  (refine run ?_; repeat intro b)
  refine s_callF rfl rfl rfl bd102 rfl hg ?_
  rintro _ F1 hF1 ⟨pT, cT, rfl, hfT⟩
  have hf1 := frow_sub hF1 hf
  (refine run ?_; repeat intro b)
  refine s_loopP (fun q : Nat × Nat × Nat × List Nat × Nat × Option (Nat × Nat) => q.1 ≤ T.length ∧ q.2.1 < m ∧ m ≤ q.2.2.1 ∧ q.2.2.1 ≤ l.length ∧ T.drop q.1 = gturns l.length (q.2.2.1 - q.2.1) (m - q.2.1) ∧ grewN l m true = grewN (cut l q.2.1 q.2.2.1) (m - q.2.1) (allB (T.take q.1)) ++ q.2.2.2.1 ∧ q.2.2.2.2.1 = q.2.2.2.1.length ∧ (q.2.2.2.2.2 = none → q.2.2.2.1 = []) ∧ (∀ x, q.2.2.2.2.2 = some x → q.2.2.2.2.1 ≤ x.2))
    (fun q => ⟨[(0, .v (.slice p l.length c)), (6, .v (.bool (allB T))), (7, .v (i64 (q.2.1 : Nat))), (8, .v (i64 (q.2.2.1 : Nat))), (9, rinE q.2.2.2.2.1 q.2.2.2.2.2), (23, .v (.slice pT T.length cT)), (24, .v (i64 (T.length : Nat))), (25, .v (i64 (q.1 : Nat)))], F1, rinRs q.2.2.2.1 q.2.2.2.2.2, rinNx q.2.2.2.2.2⟩) (fun q => T.length - q.1) (0, 0, l.length, [], 0, none) ⟨Nat.zero_le _, by simp only; omega, hml, Nat.le_refl _, by rw [hT]; rfl, by rw [cut_all]; simp [allB], rfl, fun _ => rfl, by simp⟩ (VS.keepN [0, 6, 7, 8, 9, 23, 24, 25] rfl rfl) ?_
  rintro ⟨j, from', to', out, n, u⟩ ⟨h0, h1, h2, h3, h4, hg2, h5, h6, h7⟩
  dsimp only at h0 h1 h2 h3 h4 hg2 h5 h6 h7 ⊢
  have hb := grewN_len (l := l) m true
  have hout : out.length ≤ (grewN l m true).length := by rw [hg2]; simp
  have hcl := cut_len (l := l) (i := from') h3
  by_cases hj : j < T.length
  · have hdc := List.drop_eq_getElem_cons hj
    have h8 : m - from' < to' - from' := by
      rcases Nat.lt_or_ge (m - from') (to' - from') with h | h
      · exact h
      · rw [gturns_stop (by omega), List.drop_eq_nil_iff] at h4; omega
    have hr := half_range (n := to' - from') (by omega)
    have hgo := gturns_go (f := l.length) h8 (by omega) (by omega)
    rw [← h4, hdc] at hgo
    have ew : IntKind.i64.wrap ((to' : Int) - (from' : Int)) = ((to' - from' : Nat) : Int) := by rw [wrap_i64 (by omega) (by omega)]; omega
    have ew2 : IntKind.i64.wrap ((from' : Int) + ((half (to' - from') : Nat) : Int)) = ((from' + half (to' - from') : Nat) : Int) := by rw [wrap_i64 (by omega) (by omega)]; omega
    have hs1 := take_allB hj
    obtain ⟨k, hk⟩ : ∃ k, k = from' + half (to' - from') := ⟨_, rfl⟩
    have hgl := @grewN_left (cut l from' to') (m - from') (allB (T.take j)) (by rw [hcl]; exact h8) (by omega)
    have hgr := @grewN_right (cut l from' to') (m - from') (allB (T.take j)) (by rw [hcl]; exact h8) (by omega)
    rw [hcl, cut_take (by omega), cut_drop, ← hk] at hgl hgr
    by_cases hmk : m ≤ k
    · rw [if_pos (by omega)] at hgo
      obtain ⟨hTj, hTd⟩ := List.cons.inj hgo
      rw [hTj, Bool.and_true] at hs1
      have h11 : grewN l m true = grewN (cut l from' k) (m - from') (allB (T.take (j + 1))) ++ (rootN (cut l k to') :: out) := by
        rw [hg2, hgl (by omega), hs1, List.append_assoc]; rfl
      have hTd2 : T.drop (j + 1) = gturns l.length (k - from') (m - from') := by rw [hTd]; congr 1; omega
      obtain ⟨ho1, ho2⟩ := gt_cell hfT j hj true hTj
      have hkl : k ≤ l.length := by omega
      cases u with
      | none =>
        (refine run ?_; repeat intro b)
        refine s_if true (by rw [← decide_eq_true (p := ((j : Nat) : Int) < ((T.length : Nat) : Int)) (by omega)]; rfl) (fun _ => ?_) (fun h => by cases h)
        (refine run ?_; repeat intro b)
        refine s_pureO rfl rfl rfl ⟨by omega, by omega, frow_some hfT (j := j) (by simpa using hj)⟩ ?_
        refine s_loadA [.bool true] rfl rfl rfl rfl rfl ho1 ho2 ?_
        (refine run ?_; repeat intro b)
        rw [ew]
        refine s_plain _ rfl rfl rfl bd100 rfl (refhalf_ok (to' - from') (by omega) F1) ?_
        (refine run ?_; repeat intro b)
        rw [ew2, ← hk]
        refine s_plain _ rfl rfl rfl bd42 rfl (refrollmark_ok l hf1 hl hs to' k to' (by omega) (by omega) h3) ?_
        (refine run ?_; repeat intro b)
        have hn := h6 rfl
        subst hn
        (refine run ?_; repeat intro b)
        refine s_appR rfl rfl rfl rfl rfl rfl rfl rfl (src_frz (cs := []) rfl (frow_nil _ _)) (fun e he => by simp at he) (fun h => by cases h) (Nat.le_refl 1) rfl (Nat.le_refl 1) (by decide) (fun _ => ?_) (fun h => by cases h)
        (refine run ?_; repeat intro b)
        rw [wrap_succ (by omega)]
        exact s_loopPq (j + 1, from', k, [(rootN (cut l k to'))], 1, some (b, 1)) 0 [(1, 0)] [0, 6, 7, 8, 9, 23, 24, 25] [(0, ⟨some b, ([(rootN (cut l k to'))].map nu).map EV.v, 26, 1⟩)] ⟨hj, h1, hmk, hkl, hTd2, by rw [h11], rfl, (fun h => by cases h), fun x hx => by cases hx; exact Nat.le_refl _⟩ (by simp only; omega) (Nat.min_le_left _ _)
          ⟨rfl, ⟨_, rfl, rfl, rfl, rfl, .inr rfl⟩, trivial⟩ rfl rfl rfl rfl rfl rfl rfl
      | some x =>
        (refine run ?_; repeat intro b)
        refine s_if true (by rw [← decide_eq_true (p := ((j : Nat) : Int) < ((T.length : Nat) : Int)) (by omega)]; rfl) (fun _ => ?_) (fun h => by cases h)
        (refine run ?_; repeat intro b)
        refine s_pureO rfl rfl rfl ⟨by omega, by omega, frow_some hfT (j := j) (by simpa using hj)⟩ ?_
        refine s_loadA [.bool true] rfl rfl rfl rfl rfl ho1 ho2 ?_
        (refine run ?_; repeat intro b)
        rw [ew]
        refine s_plain _ rfl rfl rfl bd100 rfl (refhalf_ok (to' - from') (by omega) F1) ?_
        (refine run ?_; repeat intro b)
        rw [ew2, ← hk]
        refine s_plain _ rfl rfl rfl bd42 rfl (refrollmark_ok l hf1 hl hs to' k to' (by omega) (by omega) h3) ?_
        (refine run ?_; repeat intro b)
        obtain ⟨b0, c0⟩ := x
        (refine run ?_; repeat intro b)
        refine s_appR rfl rfl rfl rfl rfl rfl rfl rfl (src_row rfl (by simp [h5])) (one_nus out) (fun h => by cases h) (Nat.le_refl 1) rfl (Nat.le_refl 1) (by show _ * 8 ≤ _; omega) (fun hm => ?_) (fun _ b2 c2 hc2 => ?_)
        · (refine run ?_; repeat intro b)
          have hn : out = [] := List.eq_nil_of_length_eq_zero (by omega)
          subst hn
          subst hm
          rw [wrap_succ (by omega)]
          exact s_loopPq (j + 1, from', k, [(rootN (cut l k to'))], 1, some (b, 1)) 0 [(2, 0)] [0, 6, 7, 8, 9, 23, 24, 25] [(0, ⟨some b, ([(rootN (cut l k to'))].map nu).map EV.v, 26, 1⟩)] ⟨hj, h1, hmk, hkl, hTd2, by rw [h11], rfl, (fun h => by cases h), fun x hx => by cases hx; exact Nat.le_refl _⟩ (by simp only; omega) (Nat.min_le_left _ _)
            ⟨rfl, ⟨_, rfl, rfl, rfl, rfl, .inr rfl⟩, trivial⟩ rfl rfl rfl rfl rfl rfl rfl
        · (refine run ?_; repeat intro b)
          rw [wrap_succ (by omega)]
          exact s_loopPq (j + 1, from', k, (rootN (cut l k to')) :: out, 1 + n, some (b2, c2)) 0 [(3, 0)] [0, 6, 7, 8, 9, 23, 24, 25] [(0, ⟨some b2, (((rootN (cut l k to')) :: out).map nu).map EV.v, 26, c2 * 1⟩)] ⟨hj, h1, hmk, hkl, hTd2, by rw [h11], by simp only [List.length_cons]; omega, (fun h => by cases h), fun x hx => by cases hx; exact hc2⟩ (by simp only; omega) (Nat.min_le_left _ _)
            ⟨rfl, ⟨_, rfl, rfl, rfl, rfl, .inl ⟨rfl, fun e he => all_v (((rootN (cut l k to')) :: out).map nu) e he⟩⟩, trivial⟩ rfl rfl rfl rfl rfl rfl rfl
    · rw [if_neg (by omega)] at hgo
      obtain ⟨hTj, hTd⟩ := List.cons.inj hgo
      rw [hTj, Bool.and_false] at hs1
      have h11 : grewN l m true = grewN (cut l k to') (m - k) (allB (T.take (j + 1))) ++ (rootN (cut l from' k) :: out) := by
        rw [hg2, hgr (by omega), hs1, List.append_assoc, show m - from' - half (to' - from') = m - k by omega]; rfl
      have hTd2 : T.drop (j + 1) = gturns l.length (to' - k) (m - k) := by rw [hTd]; congr 1 <;> omega
      obtain ⟨ho1, ho2⟩ := gt_cell hfT j hj false hTj
      have hkm : k < m := by omega
      cases u with
      | none =>
        (refine run ?_; repeat intro b)
        refine s_if true (by rw [← decide_eq_true (p := ((j : Nat) : Int) < ((T.length : Nat) : Int)) (by omega)]; rfl) (fun _ => ?_) (fun h => by cases h)
        (refine run ?_; repeat intro b)
        refine s_pureO rfl rfl rfl ⟨by omega, by omega, frow_some hfT (j := j) (by simpa using hj)⟩ ?_
        refine s_loadA [.bool false] rfl rfl rfl rfl rfl ho1 ho2 ?_
        (refine run ?_; repeat intro b)
        rw [ew]
        refine s_plain _ rfl rfl rfl bd100 rfl (refhalf_ok (to' - from') (by omega) F1) ?_
        (refine run ?_; repeat intro b)
        rw [ew2, ← hk]
        refine s_plain _ rfl rfl rfl bd42 rfl (refrollmark_ok l hf1 hl hs to' k to' (by omega) (by omega) h3) ?_
        (refine run ?_; repeat intro b)
        refine s_plain _ rfl rfl rfl bd42 rfl (refrollmark_ok l hf1 hl hs k from' k (by omega) (by omega) (by omega)) ?_
        have hn := h6 rfl
        subst hn
        (refine run ?_; repeat intro b)
        refine s_appR rfl rfl rfl rfl rfl rfl rfl rfl (src_frz (cs := []) rfl (frow_nil _ _)) (fun e he => by simp at he) (fun h => by cases h) (Nat.le_refl 1) rfl (Nat.le_refl 1) (by decide) (fun _ => ?_) (fun h => by cases h)
        (refine run ?_; repeat intro b)
        rw [wrap_succ (by omega)]
        exact s_loopPq (j + 1, k, to', [(rootN (cut l from' k))], 1, some (b, 1)) 0 [(1, 0)] [0, 6, 7, 8, 9, 23, 24, 25] [(0, ⟨some b, ([(rootN (cut l from' k))].map nu).map EV.v, 26, 1⟩)] ⟨hj, hkm, h2, h3, hTd2, by rw [h11], rfl, (fun h => by cases h), fun x hx => by cases hx; exact Nat.le_refl _⟩ (by simp only; omega) (Nat.min_le_left _ _)
          ⟨rfl, ⟨_, rfl, rfl, rfl, rfl, .inr rfl⟩, trivial⟩ rfl rfl rfl rfl rfl rfl rfl
      | some x =>
        (refine run ?_; repeat intro b)
        refine s_if true (by rw [← decide_eq_true (p := ((j : Nat) : Int) < ((T.length : Nat) : Int)) (by omega)]; rfl) (fun _ => ?_) (fun h => by cases h)
        (refine run ?_; repeat intro b)
        refine s_pureO rfl rfl rfl ⟨by omega, by omega, frow_some hfT (j := j) (by simpa using hj)⟩ ?_
        refine s_loadA [.bool false] rfl rfl rfl rfl rfl ho1 ho2 ?_
        (refine run ?_; repeat intro b)
        rw [ew]
        refine s_plain _ rfl rfl rfl bd100 rfl (refhalf_ok (to' - from') (by omega) F1) ?_
        (refine run ?_; repeat intro b)
        rw [ew2, ← hk]
        refine s_plain _ rfl rfl rfl bd42 rfl (refrollmark_ok l hf1 hl hs to' k to' (by omega) (by omega) h3) ?_
        (refine run ?_; repeat intro b)
        refine s_plain _ rfl rfl rfl bd42 rfl (refrollmark_ok l hf1 hl hs k from' k (by omega) (by omega) (by omega)) ?_
        obtain ⟨b0, c0⟩ := x
        (refine run ?_; repeat intro b)
        refine s_appR rfl rfl rfl rfl rfl rfl rfl rfl (src_row rfl (by simp [h5])) (one_nus out) (fun h => by cases h) (Nat.le_refl 1) rfl (Nat.le_refl 1) (by show _ * 8 ≤ _; omega) (fun hm => ?_) (fun _ b2 c2 hc2 => ?_)
        · (refine run ?_; repeat intro b)
          have hn : out = [] := List.eq_nil_of_length_eq_zero (by omega)
          subst hn
          subst hm
          rw [wrap_succ (by omega)]
          exact s_loopPq (j + 1, k, to', [(rootN (cut l from' k))], 1, some (b, 1)) 0 [(2, 0)] [0, 6, 7, 8, 9, 23, 24, 25] [(0, ⟨some b, ([(rootN (cut l from' k))].map nu).map EV.v, 26, 1⟩)] ⟨hj, hkm, h2, h3, hTd2, by rw [h11], rfl, (fun h => by cases h), fun x hx => by cases hx; exact Nat.le_refl _⟩ (by simp only; omega) (Nat.min_le_left _ _)
            ⟨rfl, ⟨_, rfl, rfl, rfl, rfl, .inr rfl⟩, trivial⟩ rfl rfl rfl rfl rfl rfl rfl
        · (refine run ?_; repeat intro b)
          rw [wrap_succ (by omega)]
          exact s_loopPq (j + 1, k, to', (rootN (cut l from' k)) :: out, 1 + n, some (b2, c2)) 0 [(3, 0)] [0, 6, 7, 8, 9, 23, 24, 25] [(0, ⟨some b2, (((rootN (cut l from' k)) :: out).map nu).map EV.v, 26, c2 * 1⟩)] ⟨hj, hkm, h2, h3, hTd2, by rw [h11], by simp only [List.length_cons]; omega, (fun h => by cases h), fun x hx => by cases hx; exact hc2⟩ (by simp only; omega) (Nat.min_le_left _ _)
            ⟨rfl, ⟨_, rfl, rfl, rfl, rfl, .inl ⟨rfl, fun e he => all_v (((rootN (cut l from' k)) :: out).map nu) e he⟩⟩, trivial⟩ rfl rfl rfl rfl rfl rfl rfl
  · have hj2 : j = T.length := by omega
    subst hj2
    rw [List.drop_length] at h4
    have h8 : to' = m := by
      rcases Nat.lt_or_ge (m - from') (to' - from') with h | h
      · have hgo := gturns_go (f := l.length) h (by omega) (by omega)
        rw [← h4] at hgo
        split at hgo <;> cases hgo
      · omega
    subst h8
    have hend := grewN_end (l := cut l from' to') (m := to' - from') (w := allB T) (by omega) (by omega)
    rw [List.take_length, hend] at hg2
    cases hw : allB T with
    | true =>
      rw [hw, if_pos rfl, List.nil_append] at hg2
      rw [hg2]
      cases u with
      | none =>
        have hn := h6 rfl
        subst hn
        (refine run ?_; repeat intro b)
        refine s_if false (by rw [← decide_eq_false (p := ((T.length : Nat) : Int) < ((T.length : Nat) : Int)) (by omega)]; rfl) (fun h => by cases h) (fun _ => ?_)
        (refine run ?_; repeat intro b)
        refine s_retG (VS.id ⟨_, rfl, rfl, none, 0, rfl, frow_nil _ _⟩)
      | some x =>
        obtain ⟨b0, c0⟩ := x
        (refine run ?_; repeat intro b)
        refine s_if false (by rw [← decide_eq_false (p := ((T.length : Nat) : Int) < ((T.length : Nat) : Int)) (by omega)]; rfl) (fun h => by cases h) (fun _ => ?_)
        (refine run ?_; repeat intro b)
        refine s_retG ?_
        refine VS.freeze 0 [4] rfl (allV_map_v _) rfl rfl fun F' hs1 hf1 => VS.id ⟨_, rfl, rfl, some ⟨b0, 0, none⟩, c0, by rw [← h5]; rfl, hf1⟩
    | false =>
      rw [hw, if_neg (by decide)] at hg2
      rw [hg2]
      cases u with
      | none =>
        have hn := h6 rfl
        subst hn
        (refine run ?_; repeat intro b)
        refine s_if false (by rw [← decide_eq_false (p := ((T.length : Nat) : Int) < ((T.length : Nat) : Int)) (by omega)]; rfl) (fun h => by cases h) (fun _ => ?_)
        (refine run ?_; repeat intro b)
        refine s_plain _ rfl rfl rfl bd42 rfl (refrollmark_ok l hf1 hl hs to' from' to' (by omega) (by omega) (by omega)) ?_
        (refine run ?_; repeat intro b)
        refine s_appR rfl rfl rfl rfl rfl rfl rfl rfl (src_frz (cs := []) rfl (frow_nil _ _)) (fun e he => by simp at he) (fun h => by cases h) (Nat.le_refl 1) rfl (Nat.le_refl 1) (by decide) (fun _ => ?_) (fun h => by cases h)
        (refine run ?_; repeat intro b)
        refine s_retG ?_
        refine VS.freeze 0 [4] rfl (allV_map_v [nu (rootN (cut l from' to'))]) rfl rfl fun F' hs1 hf1 => VS.id ⟨_, rfl, rfl, some ⟨b, 0, none⟩, 1, rfl, hf1⟩
      | some x =>
        obtain ⟨b0, c0⟩ := x
        (refine run ?_; repeat intro b)
        refine s_if false (by rw [← decide_eq_false (p := ((T.length : Nat) : Int) < ((T.length : Nat) : Int)) (by omega)]; rfl) (fun h => by cases h) (fun _ => ?_)
        (refine run ?_; repeat intro b)
        refine s_plain _ rfl rfl rfl bd42 rfl (refrollmark_ok l hf1 hl hs to' from' to' (by omega) (by omega) (by omega)) ?_
        (refine run ?_; repeat intro b)
        refine s_appR rfl rfl rfl rfl rfl rfl rfl rfl (src_row rfl (by simp [h5])) (one_nus out) (fun h => by cases h) (Nat.le_refl 1) rfl (Nat.le_refl 1) (by show _ * 8 ≤ _; omega) (fun hm => ?_) (fun _ b2 c2 hc2 => ?_)
        · have hn : out = [] := List.eq_nil_of_length_eq_zero (by omega)
          subst hn
          subst hm
          (refine run ?_; repeat intro b)
          refine s_retG ?_
          refine VS.freeze 1 [4] rfl (allV_map_v [nu (rootN (cut l from' to'))]) rfl rfl fun F' hs1 hf1 => VS.dropR [0] rfl (VS.id ⟨_, rfl, rfl, some ⟨b, 0, none⟩, 1, rfl, hf1⟩)
        · (refine run ?_; repeat intro b)
          refine s_retG ?_
          refine VS.freeze 2 [4] rfl (allV_map_v ((rootN (cut l from' to') :: out).map nu)) rfl rfl fun F' hs1 hf1 => VS.dropR [0, 1] rfl (VS.id ⟨_, rfl, rfl, some ⟨b2, 0, none⟩, c2, by rw [h5, Nat.add_comm]; rfl, hf1⟩)
end Go.Proofs.Ythkmfihbpbehfaa
