/-
Package audit: Longest, said, Rolled, Grew: the walks.
-/
import Derived.Test.YthkmfihbpbehfaaAudit
namespace Go.Proofs.Ythkmfihbpbehfaa
set_option linter.unusedVariables false
set_option linter.unusedSimpArgs false
open Go.TR
theorem lastE_get {l : List Lie} {k : Nat} (h : k < l.length) : lastE l k = (lastH l[k].2.1).epoch := by
  unfold lastE
  rw [List.getD_eq_getElem?_getD, List.getElem?_eq_getElem (by rw [lies_len]; exact h), lie_get h]
  rfl
theorem pcell_hd {F : Hp} {b : Nat} {x : Value} (h : Frow F (some ⟨b, 0, none⟩) [x]) : Pcell F (some ⟨b, 0, none⟩) = some x := by
  have := h 0 x rfl
  simpa [padd, Addr.add] using this
attribute [local irreducible] vc vcOps seqK blockK loopK retK retG retI loopV Plain CallOK CallIn bodied VS vcAny dropG backK brK loopPK IntKind.wrap
set_option maxRecDepth 100000
set_option maxHeartbeats 4000000 in
theorem last_ok (l : List Lie) (i : Nat) (hi : i < l.length) (hn : l.length ≤ 4611686018427387904) {p q : Option Addr} {c : Nat} {F : Hp} (hq : Pcell F q = some (.slice p l.length c)) (hf : Frow F p (l.map Lie.v)) (hs : ∀ s ∈ l, Lie.at F s) (hz : ∀ s ∈ l, (chainF s.2.1).1 = 0) : Plain Try.prog F 96 [i64 (i : Nat), .pointer q] (i64 (lastE l i)) := by
  refine plain_vc (N := 17) (rv := [.tmp 3]) tbok mixed Try.func96 rfl rfl rfl rfl rfl ?_
  have g := frow_get hf (j := i) (by rw [List.length_map]; exact hi)
  rw [List.getElem_map] at g
  obtain ⟨g1, _, _, g3⟩ := hs l[i] (List.getElem_mem hi)
  obtain ⟨z1, z2, _, _, _⟩ := chainF_zero (hz l[i] (List.getElem_mem hi))
  rw [lastE_get hi]
  generalize l[i] = s at g g1 g3 z1 z2
  obtain ⟨ps, a, cs⟩ := s
  simp only at g g1 g3 z1 z2 ⊢
  obtain ⟨o1, o2⟩ := frow_agg head_row (by decide) g3 (a.length - 1) (by omega)
  rw [lastH_of z1] at o2
  have ew : IntKind.i64.wrap (((a.length : Nat) : Int) - 1) = ((a.length - 1 : Nat) : Int) := by rw [wrap_i64 (by omega) (by omega)]; omega
  (refine run ?_; repeat intro b)
  refine s_regiond (by kernel_rfl) ?_
  (refine run ?_; repeat intro b)
  refine s_load (.slice p l.length c) rfl rfl rfl rfl hq ?_
  (refine run ?_; repeat intro b)
  refine s_pureO rfl rfl rfl ⟨by omega, by omega, frow_some hf (j := i) (by rw [List.length_map]; exact hi)⟩ ?_
  refine s_load (.slice ps a.length cs) rfl rfl rfl rfl (by rw [Int.toNat_natCast, Nat.mul_one]; exact g) ?_
  (refine run ?_; repeat intro b)
  refine s_load (.slice p l.length c) rfl rfl rfl rfl hq ?_
  (refine run ?_; repeat intro b)
  refine s_pureO rfl rfl rfl ⟨by omega, by omega, frow_some hf (j := i) (by rw [List.length_map]; exact hi)⟩ ?_
  refine s_load (.slice ps a.length cs) rfl rfl rfl rfl (by rw [Int.toNat_natCast, Nat.mul_one]; exact g) ?_
  (refine run ?_; repeat intro b)
  rw [ew]
  refine s_pureO rfl rfl rfl ⟨by omega, by omega, frow_some g3 (j := (a.length - 1) * 4) (by rw [flat_len head_row]; omega)⟩ ?_
  (refine run ?_; repeat intro b)
  refine s_pureO rfl rfl rfl (by rw [Int.toNat_natCast]; exact o1) ?_
  refine s_load (i64 (lastH a).epoch) rfl rfl rfl rfl (by rw [Int.toNat_natCast]; exact o2 0 (by decide)) ?_
  (refine run ?_; repeat intro b)
  rfl
set_option maxHeartbeats 4000000 in
theorem longest_ok (l : List Lie) (hn : l.length ≤ 4611686018427387904) {p : Option Addr} {c : Nat} {F : Hp} (hf : Frow F p (l.map Lie.v)) (hs : ∀ s ∈ l, Lie.at F s) : Plain Try.prog F 39 [.slice p l.length c] (pair (i64 (longN l : Nat)) (i64 (longE l))) := by
  refine plain_vc (N := 32) (rv := [.tmp 2, .tmp 3]) tbok mixed Try.func39 rfl rfl rfl rfl rfl ?_
  (refine run ?_; repeat intro b)
  refine s_if (decide (l.length = 0)) ?_ (fun h => ?_) (fun h => ?_)
  · refine congrArg (fun b => some (EV.v (.bool b))) ?_
    rw [Bool.eq_iff_iff]; simp
  · have e1 : longE l = 5 := by unfold longE; rw [if_pos (of_decide_eq_true h)]
    have e2 : longN l = 0 := by unfold longN; rw [e1]; rfl
    rw [e1, e2]
    (refine run ?_; repeat intro b)
    rfl
  · have h0 : ¬ l.length = 0 := of_decide_eq_false h
    have e1 : longE l = auditE l := by unfold longE; rw [if_neg h0]
    have e2 : longN l = if auditE l = 0 then bestK l l.length else 0 := by unfold longN; rw [e1]
    rw [e1, e2]
    (refine run ?_; repeat intro b)
    refine s_shift (VS.freeze 0 [1, 2, 3, 11] rfl rfl rfl rfl fun F1 hs1 hf1 => VS.id ?_)
    have hf' := frow_sub hs1 hf
    have hs' : ∀ s ∈ l, Lie.at F1 s := fun s h => Lie.at_sub hs1 (hs s h)
    have hq := pcell_hd hf1
    refine s_plain _ rfl rfl rfl bd95 rfl (auditcheck_ok l hn hf' hs') ?_
    (refine run ?_; repeat intro b)
    refine s_if (decide (auditE l ≠ 0)) ?_ (fun h => ?_) (fun h => ?_)
    · refine congrArg (fun b => some (EV.v (.bool b))) ?_
      rw [Bool.eq_iff_iff]; simp
    · rw [if_neg (of_decide_eq_true h)]
      (refine run ?_; repeat intro b)
      rfl
    · have hE : auditE l = 0 := by simpa using h
      obtain ⟨_, hz⟩ := auditE_zero hE
      rw [if_pos hE, hE]
      (refine run ?_; repeat intro b)
      refine s_load (.slice p l.length c) rfl rfl rfl rfl hq ?_
      (refine run ?_; repeat intro b)
      refine s_loopP (fun k : Nat => k ≤ l.length) (fun k => ⟨[(5, .v (i64 (bestK l k : Nat))), (6, .v (.func (.func 96) #[] #[.pointer (some ⟨b, 0, none⟩)])), (18, .v (i64 (l.length : Nat))), (19, .v (i64 (k : Nat)))], F1, [], 1⟩) (fun k => l.length - k) 0 (Nat.zero_le _) (VS.keepN [5, 6, 18, 19] rfl rfl) ?_
      intro k hk
      by_cases hlt : k < l.length
      · have hb := bestK_lt (l := l) (by omega) k hk
        have hst : bestK l (k + 1) = if lastE l k > lastE l (bestK l k) then k else bestK l k := rfl
        (refine run ?_; repeat intro b)
        refine s_if true (by rw [← decide_eq_true (p := ((k : Nat) : Int) < ((l.length : Nat) : Int)) (by omega)]; rfl) (fun _ => ?_) (fun h => by cases h)
        (refine run ?_; repeat intro b)
        refine s_plain _ rfl rfl rfl bd96 rfl (last_ok l k hlt hn hq hf' hs' hz) ?_
        (refine run ?_; repeat intro b)
        refine s_plain _ rfl rfl rfl bd96 rfl (last_ok l (bestK l k) hb hn hq hf' hs' hz) ?_
        (refine run ?_; repeat intro b)
        refine s_if (decide (lastE l k > lastE l (bestK l k))) rfl (fun h => ?_) (fun h => ?_)
        · rw [if_pos (of_decide_eq_true h)] at hst
          (refine run ?_; repeat intro b)
          rw [wrap_succ (by omega)]
          exact s_loopPn (k + 1) hlt (by omega) (VS.keepN [5, 6, 18, 19] rfl (by rw [hst]))
        · rw [if_neg (of_decide_eq_false h)] at hst
          (refine run ?_; repeat intro b)
          rw [wrap_succ (by omega)]
          exact s_loopPn (k + 1) hlt (by omega) (VS.keepN [5, 6, 18, 19] rfl (by rw [hst]))
      · have hge : k = l.length := by omega
        subst hge
        (refine run ?_; repeat intro b)
        refine s_if false (by rw [← decide_eq_false (p := ((l.length : Nat) : Int) < ((l.length : Nat) : Int)) (by omega)]; rfl) (fun h => by cases h) (fun _ => ?_)
        (refine run ?_; repeat intro b)
        rfl
theorem saids_snoc {l : List Head} {k : Nat} (hk : k < l.length) : ((saids (l.take (k + 1))).map S).map EV.v = ((saids (l.take k)).map S).map EV.v ++ [EV.v (S l[k].said)] := by
  rw [saids_take hk]; simp
theorem one_strs (rs : RL) (l : List (List UInt8)) : oneAll rs ((l.map S).map .v) := one_v rs fun x hx => by
  obtain ⟨s, _, rfl⟩ := List.mem_map.1 hx
  rfl
set_option maxHeartbeats 4000000 in
theorem auditsaid_ok (l : List Head) (hl : l.length ≤ 4611686018427387904) (hw : ∀ x ∈ l, x.wf) {p : Option Addr} {c : Nat} {F : Hp} (hf : Frow F p (l.flatMap Head.row)) : CallF Try.prog F 97 [.slice p l.length c] (fun x F' => ∃ p' c', x = pair (.slice p' (saidL l).length c') (i64 (chainF l).1) ∧ (saidL l).length ≤ c' ∧ Frow F' p' ((saidL l).map S)) := by
  refine call_vc (N := 36) (rv := [.tmp 2, .tmp 3]) tbok mixed Try.func97 rfl rfl rfl rfl rfl ?_
  (refine run ?_; repeat intro b)
  refine s_plain _ rfl rfl rfl bd28 rfl (chaincheck_ok l hl hw hf) ?_
  (refine run ?_; repeat intro b)
  refine s_if (decide ((chainF l).1 ≠ 0)) ?_ (fun h => ?_) (fun h => ?_)
  · refine congrArg (fun b => some (EV.v (.bool b))) ?_
    rw [Bool.eq_iff_iff]; simp
  · have e : saidL l = [] := by unfold saidL; rw [if_neg (of_decide_eq_true h)]
    rw [e]
    (refine run ?_; repeat intro b)
    exact s_retG (VS.id ⟨_, rfl, rfl, none, 0, rfl, Nat.le_refl _, frow_nil _ _⟩)
  · have h0 : (chainF l).1 = 0 := by simpa using h
    obtain ⟨z1, z2, z3, _, _⟩ := chainF_zero h0
    have e : saidL l = saids l := by unfold saidL; rw [if_pos h0]
    rw [e, h0]
    (refine run ?_; repeat intro b)
    refine s_loopP (fun q : Nat × Option Nat × Nat => q.1 ≤ l.length ∧ (q.2.1 = none → q.1 = 0 ∧ q.2.2 = 0) ∧ q.1 ≤ q.2.2)
      (fun q => ⟨[(6, .row 0 0 q.1 q.2.2), (19, .v (.slice p l.length c)), (20, .v (i64 (l.length : Nat))), (21, .v (i64 (q.1 : Nat)))], F, [(0, ⟨q.2.1, ((saids (l.take q.1)).map S).map EV.v, 9, q.2.2 * 1⟩)], 1⟩) (fun q => l.length - q.1) (0, none, 0) ⟨Nat.zero_le _, fun _ => ⟨rfl, rfl⟩, Nat.le_refl _⟩ (VS.nilrow 6 9 [19, 20, 21] rfl rfl (VS.id rfl)) ?_
    rintro ⟨k, blk, cap⟩ ⟨h1, h3, h4⟩
    dsimp only at h1 h3 h4 ⊢
    have hlk : (saids (l.take k)).length = k := by rw [saids_len, List.length_take]; omega
    by_cases hlt : k < l.length
    · obtain ⟨o1, o2⟩ := frow_agg head_row (by decide) hf k hlt
      have hsn := saids_snoc hlt
      have wx := hw l[k] (List.getElem_mem hlt)
      have vx := z3 l[k] (List.getElem_mem hlt)
      generalize l[k] = x at o2 hsn wx vx
      have hso : x.saidO = x.said := by unfold Head.saidO; rw [if_pos vx]
      (refine run ?_; repeat intro b)
      refine s_if true (by rw [← decide_eq_true (p := ((k : Nat) : Int) < ((l.length : Nat) : Int)) (by omega)]; rfl) (fun _ => ?_) (fun h => by cases h)
      (refine run ?_; repeat intro b)
      refine s_pureO rfl rfl rfl ⟨by omega, by omega, frow_some hf (j := k * 4) (by rw [flat_len head_row]; omega)⟩ ?_
      refine s_loadA x.row rfl rfl rfl rfl rfl (by rw [Int.toNat_natCast]; exact o1) (by rw [Int.toNat_natCast]; exact o2) ?_
      (refine run ?_; repeat intro b)
      refine s_plain _ rfl rfl rfl bd88 rfl (headsaid_ok x wx F) ?_
      rw [hso]
      (refine run ?_; repeat intro b)
      refine s_appR rfl rfl rfl rfl rfl rfl rfl rfl (src_row rfl rfl) one1 h3 h4 rfl (by simp [hlk]) (by show _ * 16 ≤ _; omega) (fun h => by cases h) (fun _ b2 c2 hc2 => ?_)
      (refine run ?_; repeat intro b)
      have hcells : (((saids (l.take k)).map S).map EV.v).take (k * 1) ++ [EV.v (S x.said)] = ((saids (l.take (k + 1))).map S).map EV.v := by
        rw [hsn, List.take_of_length_le (by simp [hlk])]
      rw [wrap_succ (by omega)]
      exact s_loopPq (k + 1, some b2, c2) 0 [(3, 0)] [6, 19, 20, 21] [(0, ⟨some b2, ((saids (l.take (k + 1))).map S).map EV.v, 9, c2 * 1⟩)] ⟨hlt, (fun h => by cases h), hc2⟩ (by simp only; omega) (Nat.min_le_left _ _)
        ⟨rfl, ⟨_, rfl, rfl, rfl, rfl, .inl ⟨hcells.symm, fun e he => all_v _ e (hcells ▸ he)⟩⟩, trivial⟩ rfl rfl rfl rfl rfl rfl rfl
    · have hge : k = l.length := by omega
      subst hge
      rw [List.take_length]
      (refine run ?_; repeat intro b)
      refine s_if false (by rw [← decide_eq_false (p := ((l.length : Nat) : Int) < ((l.length : Nat) : Int)) (by omega)]; rfl) (fun h => by cases h) (fun _ => ?_)
      cases blk with
      | none =>
        obtain ⟨e1, e2⟩ := h3 rfl
        omega
      | some b0 =>
        (refine run ?_; repeat intro b)
        refine s_retG ?_
        refine VS.freeze 0 [2, 3] rfl (allV_map_v _) rfl rfl fun F' hs1 hf1 => VS.id ⟨_, rfl, rfl, some ⟨b0, 0, none⟩, cap, by rw [saids_len]; rfl, by rw [saids_len]; exact h4, hf1⟩
set_option maxHeartbeats 4000000 in
theorem rolled_ok (l : List Head) (hl : l.length ≤ 4611686018427387904) (hw : ∀ x ∈ l, x.wf) {p : Option Addr} {c : Nat} {F : Hp} (hf : Frow F p (l.flatMap Head.row)) : Plain Try.prog F 40 [.slice p l.length c] (pair (u64 (rolledN l : Nat)) (i64 (chainF l).1)) := by
  refine plain_vc (N := 18) (rv := [.tmp 2, .tmp 3]) tbok mixed Try.func40 rfl rfl rfl rfl rfl ?_
  (refine run ?_; repeat intro b)
  refine s_callF rfl rfl rfl bd97 rfl (auditsaid_ok l hl hw hf) ?_
  rintro _ F1 hF1 ⟨p1, c1, rfl, hc1, hg1⟩
  (refine run ?_; repeat intro b)
  refine s_if (decide ((chainF l).1 ≠ 0)) ?_ (fun h => ?_) (fun h => ?_)
  · refine congrArg (fun b => some (EV.v (.bool b))) ?_
    rw [Bool.eq_iff_iff]; simp
  · have e : rolledN l = 0 := by unfold rolledN; rw [if_neg (of_decide_eq_true h)]
    rw [e]
    (refine run ?_; repeat intro b)
    rfl
  · have h0 : (chainF l).1 = 0 := by simpa using h
    obtain ⟨z1, z2, _, _, _⟩ := chainF_zero h0
    have e : rolledN l = rootN (saids l) := by unfold rolledN; rw [if_pos h0]
    have e2 : saidL l = saids l := by unfold saidL; rw [if_pos h0]
    rw [e2] at hc1 hg1
    have hR := Root_ok (saids l) hg1 (by rw [saids_len]; exact hl) hc1
    rw [if_pos (saids_fault h0), saids_fault h0] at hR
    rw [e, h0, e2]
    (refine run ?_; repeat intro b)
    refine s_plain _ rfl rfl rfl bd98 rfl hR ?_
    (refine run ?_; repeat intro b)
    rfl
set_option maxHeartbeats 4000000 in
theorem auditgrew_ok (l : List Head) (m : Int) (hl : l.length ≤ 4611686018427387904) (hw : ∀ x ∈ l, x.wf) {p : Option Addr} {c : Nat} {F : Hp} (hf : Frow F p (l.flatMap Head.row)) : CallF Try.prog F 41 [.slice p l.length c, i64 m] (fun x F' => ∃ p' c', x = pair (.slice p' (auGrewL l m).length c') (i64 (auGrewE l m)) ∧ Frow F' p' ((auGrewL l m).map nu)) := by
  refine call_vc (N := 21) (rv := [.tmp 4, .tmp 5]) tbok mixed Try.func41 rfl rfl rfl rfl rfl ?_
  (refine run ?_; repeat intro b)
  refine s_callF rfl rfl rfl bd97 rfl (auditsaid_ok l hl hw hf) ?_
  rintro _ F1 hF1 ⟨p1, c1, rfl, hc1, hg1⟩
  (refine run ?_; repeat intro b)
  refine s_if (decide ((chainF l).1 ≠ 0)) ?_ (fun h => ?_) (fun h => ?_)
  · refine congrArg (fun b => some (EV.v (.bool b))) ?_
    rw [Bool.eq_iff_iff]; simp
  · have e : auGrewL l m = [] := by unfold auGrewL; rw [if_neg (of_decide_eq_true h)]
    have e2 : auGrewE l m = (chainF l).1 := by unfold auGrewE; rw [if_neg (of_decide_eq_true h)]
    rw [e, e2]
    (refine run ?_; repeat intro b)
    exact s_retG (VS.id ⟨_, rfl, rfl, none, 0, rfl, frow_nil _ _⟩)
  · have h0 : (chainF l).1 = 0 := by simpa using h
    obtain ⟨z1, z2, _, _, _⟩ := chainF_zero h0
    have e : auGrewL l m = grewL (saids l) m := by unfold auGrewL; rw [if_pos h0]
    have e2 : auGrewE l m = grewE (saids l) m := by unfold auGrewE; rw [if_pos h0]
    have e3 : saidL l = saids l := by unfold saidL; rw [if_pos h0]
    rw [e3] at hc1 hg1
    rw [e, e2, e3]
    (refine run ?_; repeat intro b)
    refine s_callF rfl rfl rfl bd99 rfl (Grew_ok (saids l) m hg1 (by rw [saids_len]; exact hl) hc1) ?_
    rintro _ F2 hF2 ⟨p2, c2, rfl, hg2⟩
    (refine run ?_; repeat intro b)
    exact s_retG (VS.id ⟨_, rfl, rfl, p2, c2, rfl, hg2⟩)
end Go.Proofs.Ythkmfihbpbehfaa
