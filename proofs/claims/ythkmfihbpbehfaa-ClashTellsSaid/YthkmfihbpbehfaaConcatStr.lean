/-
slices.Grow and Concat of strings.
-/
import Derived.Test.YthkmfihbpbehfaaRows2
import Derived.Test.YthkmfihbpbehfaaFwK
namespace Go.Proofs.Ythkmfihbpbehfaa
set_option linter.unusedVariables false
set_option linter.unusedSimpArgs false
open Go.TR
@[reducible] def str1 (s : List UInt8) : List Value := [S s]
theorem str1_len (s : List UInt8) : (str1 s).length = 1 := rfl
theorem str1_one (l : List (List UInt8)) : ∀ x ∈ l.flatMap str1, one (.v x) = true := fun x hx => by
  obtain ⟨a, _, ha⟩ := List.mem_flatMap.1 hx
  simp only [str1, List.mem_cons, List.not_mem_nil, or_false] at ha
  subst ha
  rfl
theorem str1_map (l : List (List UInt8)) : l.flatMap str1 = l.map S := by
  rw [List.map_eq_flatMap]
attribute [local irreducible] vc vcOps seqK blockK loopK retK retG retI loopV Plain CallOK CallIn bodied VS vcAny dropG backK brK loopPK IntKind.wrap
set_option maxRecDepth 100000
/-- slices.Grow of nil: a row of no elements with room. -/
theorem strs_grow (n : Nat) (hn : 0 < n) (hb : n * 16 ≤ 281474976710656) {F : Hp} : CallOK Try.prog F 106 [.slice none 0 0, i64 (n : Nat)] (fun x _ new => ∃ b c, n ≤ c ∧ new = [(0, ⟨some b, [], 9, c * 1⟩)] ∧ x = .slice (some ⟨b, 0, none⟩) 0 c) := by
  refine call_vc (N := 27) (rv := [.tmp 4]) tbok mixed Try.func106 rfl rfl rfl rfl rfl ?_
  have e1 : IntKind.i64.wrap ((n : Int) - IntKind.i64.wrap (((0 : Nat) : Int) - ((0 : Nat) : Int))) = (n : Int) := by rw [wrap_i64 (n := ((0 : Nat) : Int) - ((0 : Nat) : Int)) (by omega) (by omega), wrap_i64 (by omega) (by omega)]; omega
  (refine run ?_; repeat intro b)
  rw [e1]
  refine s_if true ?_ (fun _ => ?_) (fun h => by cases h)
  · refine congrArg (fun b => some (EV.v (.bool b))) ?_
    exact decide_eq_true (by omega)
  (refine run ?_; repeat intro b)
  refine s_appZ (m := n) tbok rfl rfl rfl rfl rfl rfl rfl hn hb (by omega) (fun b cap hcap => ?_)
  (refine run ?_; repeat intro b)
  refine s_pureO rfl rfl rfl ⟨by omega, by omega⟩ ?_
  (refine run ?_; repeat intro b)
  exact s_retGf (VSf.ren (nx' := 1) [(0, 0)] [4] [(0, ⟨some b, [], 9, cap * 1⟩)] ⟨rfl, ⟨_, rfl, rfl, rfl, rfl, .inr rfl⟩, trivial⟩ rfl rfl rfl rfl rfl rfl ⟨_, rfl, b, cap, hcap, rfl, rfl⟩)
set_option maxHeartbeats 4000000 in
/-- slices.Concat of two slices that are not both empty. -/
theorem strs_concat (l1 l2 : List (List UInt8)) (hn : 0 < l1.length + l2.length) (hb : (l1.length + l2.length) * 16 ≤ 281474976710656) {pp p1 p2 : Option Addr} {cc c1 c2 : Nat} {F : Hp} (hf : Frow F pp [.slice p1 l1.length c1, .slice p2 l2.length c2]) (hf1 : Frow F p1 (l1.flatMap str1)) (hf2 : Frow F p2 (l2.flatMap str1)) :
    CallF Try.prog F 48 [.slice pp 2 cc] (fun x F' => ∃ p c, x = .slice p (l1 ++ l2).length c ∧ l1.length + l2.length ≤ c ∧ Frow F' p ((l1 ++ l2).flatMap str1)) := by
  refine call_vc (N := 36) (rv := [.tmp 2]) tbok mixed Try.func48 rfl rfl rfl rfl rfl ?_
  have hs : pp.isSome = true := frow_some hf (j := 0) (by simp)
  have g0 : Pcell F (padd pp ((((0 : Nat) : Int)).toNat * 1)) = some (.slice p1 l1.length c1) := frow_get hf (j := 0) (by simp)
  have g1 : Pcell F (padd pp ((((1 : Nat) : Int)).toNat * 1)) = some (.slice p2 l2.length c2) := frow_get hf (j := 1) (by simp)
  have hw1 : IntKind.i64.wrap (((0 : Nat) : Int) + ((l1.length : Nat) : Int)) = ((l1.length : Nat) : Int) := by rw [wrap_i64 (by omega) (by omega)]; omega
  have hw2 : IntKind.i64.wrap (((l1.length : Nat) : Int) + ((l2.length : Nat) : Int)) = ((l1.length + l2.length : Nat) : Int) := by rw [wrap_i64 (by omega) (by omega)]; omega
  have one2 : ∀ rs : RL, oneAll rs ((l2.flatMap str1).map .v) := fun rs => one_v rs (str1_one l2)
  have one1 : ∀ rs : RL, oneAll rs ((l1.flatMap str1).map .v) := fun rs => one_v rs (str1_one l1)
  (refine run ?_; repeat intro b)
  refine s_loopP (fun q : Nat × Nat => (q.1 = 0 ∧ q.2 = 0) ∨ (q.1 = 1 ∧ q.2 = l1.length) ∨ (q.1 = 2 ∧ q.2 = l1.length + l2.length)) (fun q => ⟨[(0, .v (.slice pp 2 cc)), (3, .v (i64 (q.2 : Nat))), (9, .v (.slice pp 2 cc)), (10, .v (i64 ((2 : Nat) : Nat))), (11, .v (i64 (q.1 : Nat)))], F, [], 0⟩) (fun q => 2 - q.1) (0, 0) (.inl ⟨rfl, rfl⟩) (VS.keepN [0, 3, 9, 10, 11] rfl rfl) ?_
  rintro ⟨j, k⟩ h
  dsimp only at h ⊢
  rcases h with ⟨rfl, rfl⟩ | ⟨rfl, rfl⟩ | ⟨rfl, rfl⟩
  · (refine run ?_; repeat intro b)
    refine s_pureO rfl rfl rfl ⟨by omega, by omega, hs⟩ ?_
    refine s_load _ rfl rfl rfl rfl g0 ?_
    (refine run ?_; repeat intro b)
    rw [hw1]
    (refine run ?_; repeat intro b)
    rw [wrap_succ (by omega)]
    exact s_loopPn (1, l1.length) (.inr (.inl ⟨rfl, rfl⟩)) (by simp only <;> omega) (VS.keepN [0, 3, 9, 10, 11] rfl rfl)
  · (refine run ?_; repeat intro b)
    refine s_pureO rfl rfl rfl ⟨by omega, by omega, hs⟩ ?_
    refine s_load _ rfl rfl rfl rfl g1 ?_
    (refine run ?_; repeat intro b)
    rw [hw2]
    (refine run ?_; repeat intro b)
    rw [wrap_succ (by omega)]
    exact s_loopPn (2, l1.length + l2.length) (.inr (.inr ⟨rfl, rfl⟩)) (by simp only <;> omega) (VS.keepN [0, 3, 9, 10, 11] rfl rfl)
  · (refine run ?_; repeat intro b)
    refine s_call (Q := fun x _ new => ∃ b c, l1.length + l2.length ≤ c ∧ new = [(0, ⟨some b, [], 9, c * 1⟩)] ∧ x = .slice (some ⟨b, 0, none⟩) 0 c) rfl rfl rfl bd106 rfl (strs_grow (l1.length + l2.length) hn hb) ?_
    rintro x F1 new hF1 ⟨b, c, hc, rfl, rfl⟩
    refine ⟨1, .row 0 0 0 c, fun id r h => ?_, by simp [EV.val, lkR_cons], ?_⟩
    · rw [lkR_cons] at h
      split at h
      · rename_i h0
        simp only [Option.some.injEq] at h
        subst h h0
        exact ⟨Nat.zero_lt_one, fun e he => by cases he⟩
      · simp [lkR] at h
    have hs1 := frow_sub hF1 hf
    have g0' := pcell_sub hF1 g0
    have g1' := pcell_sub hF1 g1
    simp only [shiftE, shiftR, shiftB, List.map_cons, List.map_nil, Nat.add_zero, Nat.zero_add, List.cons_append, List.nil_append]
    (refine run ?_; repeat intro b)
    refine s_loopP (fun q : Nat × List (List UInt8) × Nat × Nat => ((q.1 = 0 ∧ q.2.1 = []) ∨ (q.1 = 1 ∧ q.2.1 = l1) ∨ (q.1 = 2 ∧ q.2.1 = l1 ++ l2)) ∧ l1.length + l2.length ≤ q.2.2.2) (fun q => ⟨[(6, .row 1 0 q.2.1.length q.2.2.2), (25, .v (.slice pp 2 cc)), (26, .v (i64 ((2 : Nat) : Nat))), (27, .v (i64 (q.1 : Nat)))], F1, [(1, ⟨some q.2.2.1, (q.2.1.flatMap str1).map EV.v, 9, q.2.2.2 * 1⟩)], 2⟩) (fun q => 2 - q.1) (0, [], b, c) ⟨.inl ⟨rfl, rfl⟩, hc⟩ (VS.ren [(0, 1)] [6, 25, 26, 27] [(1, ⟨some b, [], 9, c * 1⟩)] ⟨rfl, ⟨_, rfl, rfl, rfl, rfl, .inr rfl⟩, trivial⟩ rfl rfl rfl rfl rfl rfl rfl) ?_
    rintro ⟨j, l, b0, c0⟩ ⟨h, h0⟩
    dsimp only at h h0 ⊢
    rcases h with ⟨rfl, rfl⟩ | ⟨rfl, rfl⟩ | ⟨rfl, rfl⟩
    · (refine run ?_; repeat intro b)
      refine s_pureO rfl rfl rfl ⟨by omega, by omega, hs⟩ ?_
      refine s_load _ rfl rfl rfl rfl g0' ?_
      (refine run ?_; repeat intro b)
      refine s_appC rfl rfl rfl rfl rfl rfl rfl rfl (src_frz (flat_len str1_len _) (frow_sub hF1 hf1)) (one1 _) (Nat.zero_le _) rfl (Nat.zero_le _) (by show 0 + l1.length ≤ _; omega) (fun hm => ?_) (fun hm b2 => ?_)
      · have hl : l1 = [] := List.eq_nil_of_length_eq_zero hm
        subst hl
        (refine run ?_; repeat intro b)
        rw [wrap_succ (by omega)]
        exact s_loopPn (1, [], b0, c0) ⟨.inr (.inl ⟨rfl, rfl⟩), h0⟩ (by simp only <;> omega) (VS.keepN [6, 25, 26, 27] rfl rfl)
      · (refine run ?_; repeat intro b)
        simp only [List.length_nil, Nat.zero_add]
        rw [wrap_succ (by omega)]
        exact s_loopPq (1, l1, b2, c0) 1 [(2, 1)] [6, 25, 26, 27] [(1, ⟨some b2, (l1.flatMap str1).map EV.v, 9, c0 * 1⟩)] ⟨.inr (.inl ⟨rfl, rfl⟩), h0⟩ (by simp only <;> omega) (Nat.min_le_left _ _)
          ⟨rfl, ⟨_, rfl, rfl, rfl, rfl, .inl ⟨rfl, fun e he => all_v _ e he⟩⟩, trivial⟩ rfl rfl rfl rfl rfl rfl rfl
    · (refine run ?_; repeat intro b)
      refine s_pureO rfl rfl rfl ⟨by omega, by omega, hs⟩ ?_
      refine s_load _ rfl rfl rfl rfl g1' ?_
      (refine run ?_; repeat intro b)
      refine s_appC rfl rfl rfl rfl rfl rfl rfl rfl (src_frz (flat_len str1_len _) (frow_sub hF1 hf2)) (one2 _) (by omega) rfl (by rw [List.length_map, flat_len str1_len]; exact Nat.le_refl _) h0 (fun hm => ?_) (fun hm b2 => ?_)
      · have hl : l2 = [] := List.eq_nil_of_length_eq_zero hm
        subst hl
        (refine run ?_; repeat intro b)
        rw [wrap_succ (by omega)]
        exact s_loopPn (2, l, b0, c0) ⟨.inr (.inr ⟨rfl, by simp⟩), h0⟩ (by simp only <;> omega) (VS.keepN [6, 25, 26, 27] rfl rfl)
      · have hcells : ((l.flatMap str1).map EV.v).take (l.length * 1) ++ (l2.flatMap str1).map EV.v = ((l ++ l2).flatMap str1).map EV.v := by
          rw [List.flatMap_append, List.map_append, List.take_of_length_le (by rw [List.length_map, flat_len str1_len]; exact Nat.le_refl _)]
        (refine run ?_; repeat intro b)
        rw [← List.length_append]
        rw [wrap_succ (by omega)]
        exact s_loopPq (2, l ++ l2, b2, c0) 1 [(2, 1)] [6, 25, 26, 27] [(1, ⟨some b2, ((l ++ l2).flatMap str1).map EV.v, 9, c0 * 1⟩)] ⟨.inr (.inr ⟨rfl, rfl⟩), by rw [List.length_append]; exact h0⟩ (by simp only <;> omega) (Nat.min_le_left _ _)
          ⟨rfl, ⟨_, rfl, rfl, rfl, rfl, .inl ⟨hcells.symm, fun e he => all_v _ e (hcells ▸ he)⟩⟩, trivial⟩ rfl rfl rfl rfl rfl rfl rfl
    · (refine run ?_; repeat intro b)
      refine s_retG ?_
      refine VS.freeze 1 [2] rfl (allV_map_v _) rfl rfl fun F' hs1 hf1 => VS.id ⟨_, rfl, rfl, some ⟨b0, 0, none⟩, c0, rfl, h0, hf1⟩
set_option maxHeartbeats 4000000
/-- .. of two empty ones. -/
theorem strs_grow0 {F : Hp} : Plain Try.prog F 106 [.slice none 0 0, i64 0] (.slice none 0 0) := by
  refine plain_vc (N := 27) (rv := [.tmp 4]) tbok mixed Try.func106 rfl rfl rfl rfl rfl ?_
  have e1 : IntKind.i64.wrap (0 - IntKind.i64.wrap (((0 : Nat) : Int) - ((0 : Nat) : Int))) = 0 := by rw [wrap_i64 (n := ((0 : Nat) : Int) - ((0 : Nat) : Int)) (by omega) (by omega), wrap_i64 (by omega) (by omega)]; omega
  (refine run ?_; repeat intro b)
  rw [e1]
  (refine run ?_; repeat intro b)
  rfl
theorem strs_concat0 {pp p1 p2 : Option Addr} {cc c1 c2 : Nat} {F : Hp} (hf : Frow F pp [.slice p1 0 c1, .slice p2 0 c2]) : Plain Try.prog F 48 [.slice pp 2 cc] (.slice none 0 0) := by
  refine plain_vc (N := 36) (rv := [.tmp 2]) tbok mixed Try.func48 rfl rfl rfl rfl rfl ?_
  have hs : pp.isSome = true := frow_some hf (j := 0) (by simp)
  have g0 : Pcell F (padd pp ((((0 : Nat) : Int)).toNat * 1)) = some (.slice p1 0 c1) := frow_get hf (j := 0) (by simp)
  have g1 : Pcell F (padd pp ((((1 : Nat) : Int)).toNat * 1)) = some (.slice p2 0 c2) := frow_get hf (j := 1) (by simp)
  have hw0 : IntKind.i64.wrap (((0 : Nat) : Int) + ((0 : Nat) : Int)) = ((0 : Nat) : Int) := by rw [wrap_i64 (by omega) (by omega)]; omega
  (refine run ?_; repeat intro b)
  refine s_loopP (fun j : Nat => j ≤ 2) (fun j => ⟨[(0, .v (.slice pp 2 cc)), (3, .v (i64 ((0 : Nat) : Nat))), (9, .v (.slice pp 2 cc)), (10, .v (i64 ((2 : Nat) : Nat))), (11, .v (i64 (j : Nat)))], F, [], 0⟩) (fun j => 2 - j) 0 (by decide) (VS.keepN [0, 3, 9, 10, 11] rfl rfl) ?_
  intro j hj
  have h3 : j = 0 ∨ j = 1 ∨ j = 2 := by omega
  rcases h3 with rfl | rfl | rfl
  · (refine run ?_; repeat intro b)
    refine s_pureO rfl rfl rfl ⟨by omega, by omega, hs⟩ ?_
    refine s_load _ rfl rfl rfl rfl g0 ?_
    (refine run ?_; repeat intro b)
    rw [hw0]
    (refine run ?_; repeat intro b)
    rw [wrap_succ (by omega)]
    exact s_loopPn 1 (by decide) (by decide) (VS.keepN [0, 3, 9, 10, 11] rfl rfl)
  · (refine run ?_; repeat intro b)
    refine s_pureO rfl rfl rfl ⟨by omega, by omega, hs⟩ ?_
    refine s_load _ rfl rfl rfl rfl g1 ?_
    (refine run ?_; repeat intro b)
    rw [hw0]
    (refine run ?_; repeat intro b)
    rw [wrap_succ (by omega)]
    exact s_loopPn 2 (by decide) (by decide) (VS.keepN [0, 3, 9, 10, 11] rfl rfl)
  · (refine run ?_; repeat intro b)
    refine s_plain _ rfl rfl rfl bd106 rfl strs_grow0 ?_
    (refine run ?_; repeat intro b)
    refine s_loopP (fun j : Nat => j ≤ 2) (fun j => ⟨[(6, .v (.slice none 0 0)), (25, .v (.slice pp 2 cc)), (26, .v (i64 ((2 : Nat) : Nat))), (27, .v (i64 (j : Nat)))], F, [], 0⟩) (fun j => 2 - j) 0 (by decide) (VS.keepN [6, 25, 26, 27] rfl rfl) ?_
    intro j hj
    have h3 : j = 0 ∨ j = 1 ∨ j = 2 := by omega
    rcases h3 with rfl | rfl | rfl
    · (refine run ?_; repeat intro b)
      refine s_pureO rfl rfl rfl ⟨by omega, by omega, hs⟩ ?_
      refine s_load _ rfl rfl rfl rfl g0 ?_
      (refine run ?_; repeat intro b)
      refine s_appV [] rfl rfl rfl rfl rfl rfl rfl (frow_nil _ _) (src_frz (cs := []) rfl (frow_nil _ _)) (fun e he => by cases he) (by decide) (fun _ => ?_) (fun h => absurd h (by decide))
      (refine run ?_; repeat intro b)
      rw [wrap_succ (by omega)]
      exact s_loopPn 1 (by decide) (by decide) (VS.keepN [6, 25, 26, 27] rfl rfl)
    · (refine run ?_; repeat intro b)
      refine s_pureO rfl rfl rfl ⟨by omega, by omega, hs⟩ ?_
      refine s_load _ rfl rfl rfl rfl g1 ?_
      (refine run ?_; repeat intro b)
      refine s_appV [] rfl rfl rfl rfl rfl rfl rfl (frow_nil _ _) (src_frz (cs := []) rfl (frow_nil _ _)) (fun e he => by cases he) (by decide) (fun _ => ?_) (fun h => absurd h (by decide))
      (refine run ?_; repeat intro b)
      rw [wrap_succ (by omega)]
      exact s_loopPn 2 (by decide) (by decide) (VS.keepN [6, 25, 26, 27] rfl rfl)
    · (refine run ?_; repeat intro b)
      rfl
theorem concat_strs (l1 l2 : List (List UInt8)) (hb : (l1.length + l2.length) * 16 ≤ 281474976710656) {pp p1 p2 : Option Addr} {cc c1 c2 : Nat} {F : Hp} (hf : Frow F pp [.slice p1 l1.length c1, .slice p2 l2.length c2]) (hf1 : Frow F p1 (l1.map S)) (hf2 : Frow F p2 (l2.map S)) :
    CallF Try.prog F 48 [.slice pp 2 cc] (fun x F' => ∃ p c, x = .slice p (l1 ++ l2).length c ∧ Frow F' p ((l1 ++ l2).map S)) := by
  by_cases hn : 0 < l1.length + l2.length
  · rw [← str1_map] at hf1 hf2
    refine (strs_concat l1 l2 hn hb (cc := cc) hf hf1 hf2).mono' fun x F' _ ⟨p, c, h9, h10, h11⟩ => ?_
    rw [str1_map] at h11
    exact ⟨p, c, h9, h11⟩
  · have e1 : l1 = [] := List.eq_nil_of_length_eq_zero (by omega)
    have e2 : l2 = [] := List.eq_nil_of_length_eq_zero (by omega)
    subst e1 e2
    exact (plain_toF (strs_concat0 (cc := cc) hf)).mono' fun x F' _ ⟨h9, _⟩ => ⟨none, 0, h9, frow_nil _ _⟩
end Go.Proofs.Ythkmfihbpbehfaa
