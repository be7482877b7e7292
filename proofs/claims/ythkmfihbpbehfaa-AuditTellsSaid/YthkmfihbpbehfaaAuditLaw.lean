/-
The law of package audit: whatever is handed in, each call answers what the reference answers.
-/
import Derived.Test.YthkmfihbpbehfaaAudit2
import Derived.Test.YthkmfihbpbehfaaGrowRef
import Derived.Test.YthkmfihbpbehfaaRollLaw
import Derived.Test.YthkmfihbpbehfaaFwJ
namespace Go.Proofs.Ythkmfihbpbehfaa
set_option linter.unusedVariables false
set_option linter.unusedSimpArgs false
open Go.TR
def badK (l : List Lie) (k : Nat) : Int := if 8 < l.length then 2 else checkF (l.take k)
theorem checkF_take : ∀ {l : List Lie} {k : Nat} (h : k < l.length), checkF (l.take (k + 1)) = if checkF (l.take k) = 0 then (chainF l[k].2.1).1 else checkF (l.take k)
  | [], _, h => by simp at h
  | s :: t, 0, h => by
    simp only [List.take_succ_cons, List.take_zero, checkF, List.getElem_cons_zero]
    by_cases h0 : (chainF s.2.1).1 = 0
    · simp [h0]
    · simp [h0]
  | s :: t, k + 1, h => by
    have ih := checkF_take (l := t) (k := k) (by simpa using h)
    simp only [List.take_succ_cons, checkF, List.getElem_cons_succ] at ih ⊢
    by_cases h0 : (chainF s.2.1).1 = 0
    · rw [if_pos h0, if_pos h0, ih]
    · rw [if_neg h0, if_neg h0, if_neg h0]
theorem badK_succ {l : List Lie} {k : Nat} (h : k < l.length) : badK l (k + 1) = if badK l k = 0 then (chainF l[k].2.1).1 else badK l k := by
  unfold badK
  by_cases h8 : 8 < l.length
  · rw [if_pos h8, if_pos h8, if_neg (by decide)]
  · rw [if_neg h8, if_neg h8, checkF_take h]
theorem badK_all (l : List Lie) : badK l l.length = auditE l := by
  unfold badK auditE
  rw [List.take_length]
theorem bst_zero (l : List Lie) : bst l 0 = 0 := by
  unfold bst
  split <;> rfl
theorem longE_cases (l : List Lie) : longE l = 0 ∨ longE l = 2 ∨ longE l = 3 ∨ longE l = 4 ∨ longE l = 5 ∨ longE l = 8 := by
  unfold longE
  split
  · simp
  · exact auditE_cases l
theorem all_lt (l : List Value) {n : Nat} : ∀ e ∈ l.map EV.v, EV.lt n e := fun e he => by
  obtain ⟨x, _, rfl⟩ := List.mem_map.1 he
  trivial
attribute [local irreducible] vc vcOps seqK blockK loopK retK retG retI loopV Plain CallOK CallIn bodied VS vcAny dropG backK brK loopPK IntKind.wrap
set_option maxRecDepth 100000
set_option maxHeartbeats 4000000 in
theorem audit_tells (l : List Lie) (a : List Head) (m : Int) {p pa : Option Addr} {c ca : Nat} {F : Hp} (hn : l.length ≤ 4611686018427387904) (hc : l.length ≤ c) (hs : ∀ s ∈ l, Lie.at F s) (hf : Frow F p (l.map Lie.v)) (ha : a.length ≤ 4398046511104) (hca : a.length ≤ ca) (haw : ∀ x ∈ a, x.wf) (hfa : Frow F pa (a.flatMap Head.row)) :
    Plain Try.prog F 6 [.slice p l.length c, .slice pa a.length ca, i64 m] (.bool true) := by
  refine plain_vc (N := 301) (rv := [.tmp 6]) tbok mixed Try.func6 rfl rfl rfl rfl rfl ?_
  have ha' : a.length ≤ 4611686018427387904 := by omega
  (refine run ?_; repeat intro b)
  refine s_plain _ rfl rfl rfl bd38 rfl (find_ok l hn hf hs) ?_
  (refine run ?_; repeat intro b)
  generalize b = bb
  refine s_plain _ rfl rfl rfl bd39 rfl (longest_ok l hn hf hs) ?_
  (refine run ?_; repeat intro b)
  refine s_plain _ rfl rfl rfl bd40 rfl (rolled_ok a ha' haw hfa) ?_
  (refine run ?_; repeat intro b)
  refine s_callF rfl rfl rfl bd41 rfl (auditgrew_ok a m ha' haw hfa) ?_
  rintro _ F1 hF1 ⟨p1, c1, rfl, hg1⟩
  (refine run ?_; repeat intro b)
  refine s_plain _ rfl rfl rfl bd24 rfl (refchain_ok a ha' haw (frow_sub hF1 hfa)) ?_
  (refine run ?_; repeat intro b)
  refine s_loopP (fun q : Nat × Option Nat × Nat => q.1 ≤ a.length ∧ (q.2.1 = none → q.1 = 0 ∧ q.2.2 = 0) ∧ q.1 ≤ q.2.2)
    (fun q => ⟨[(18, .row 1 0 q.1 q.2.2), (0, .v (.slice p l.length c)), (1, .v (.slice pa a.length ca)), (2, .v (i64 m)), (7, .loc 0 0), (8, .v (.bool (findO l).isSome)), (9, .v (i64 (auditE l))), (10, .v (i64 (longN l : Nat))), (11, .v (i64 (longE l))), (12, .v (u64 (rolledN a : Nat))), (13, .v (i64 (chainF a).1)), (14, .v (.slice p1 (auGrewL a m).length c1)), (15, .v (i64 (auGrewE a m))), (16, .v (i64 (chainF a).1)), (60, .v (.slice pa a.length ca)), (61, .v (i64 (a.length : Nat))), (62, .v (i64 (q.1 : Nat)))], F1, [(1, ⟨q.2.1, ((saids (a.take q.1)).map S).map EV.v, 9, q.2.2 * 1⟩), (0, ⟨some bb, [.v (i64 (fA (findO l))), .v (i64 (fB (findO l))), .v (i64 (fN (findO l)))], 75, 3⟩)], 2⟩) (fun q => a.length - q.1) (0, none, 0) ⟨Nat.zero_le _, fun _ => ⟨rfl, rfl⟩, Nat.le_refl _⟩ (VS.nilrow 18 9 [0, 1, 2, 7, 8, 9, 10, 11, 12, 13, 14, 15, 16, 60, 61, 62] rfl rfl (VS.id rfl)) ?_
  rintro ⟨k, blk, cap⟩ ⟨h1, h3, h4⟩
  dsimp only at h1 h3 h4 ⊢
  have hlk : (saids (a.take k)).length = k := by rw [saids_len, List.length_take]; omega
  have hfa1 := frow_sub hF1 hfa
  by_cases hlt : k < a.length
  · obtain ⟨o1, o2⟩ := frow_agg head_row (by decide) hfa1 k hlt
    have hsn := saids_snoc hlt
    have wx := haw a[k] (List.getElem_mem hlt)
    generalize a[k] = x at o2 hsn wx
    (refine run ?_; repeat intro b)
    refine s_if true (by rw [← decide_eq_true (p := ((k : Nat) : Int) < ((a.length : Nat) : Int)) (by omega)]; rfl) (fun _ => ?_) (fun h => by cases h)
    (refine run ?_; repeat intro b)
    refine s_pureO rfl rfl rfl ⟨by omega, by omega, frow_some hfa1 (j := k * 4) (by rw [flat_len head_row]; omega)⟩ ?_
    refine s_loadA x.row rfl rfl rfl rfl rfl (by rw [Int.toNat_natCast]; exact o1) (by rw [Int.toNat_natCast]; exact o2) ?_
    (refine run ?_; repeat intro b)
    refine s_plain _ rfl rfl rfl bd27 rfl (refheadsaid_ok x wx F1) ?_
    (refine run ?_; repeat intro b)
    refine s_appR rfl rfl rfl rfl rfl rfl rfl rfl (src_row rfl rfl) one1 h3 h4 rfl (by simp [hlk]) (by show _ * 16 ≤ _; omega) (fun h => by cases h) (fun _ b2 c2 hc2 => ?_)
    (refine run ?_; repeat intro b)
    have hcells : (((saids (a.take k)).map S).map EV.v).take (k * 1) ++ [EV.v (S x.said)] = ((saids (a.take (k + 1))).map S).map EV.v := by
      rw [hsn, List.take_of_length_le (by simp [hlk])]
    rw [wrap_succ (by omega)]
    exact s_loopPq (k + 1, some b2, c2) 1 [(4, 1), (0, 0)] [18, 0, 1, 2, 7, 8, 9, 10, 11, 12, 13, 14, 15, 16, 60, 61, 62] [(1, ⟨some b2, ((saids (a.take (k + 1))).map S).map EV.v, 9, c2 * 1⟩), (0, ⟨some bb, [.v (i64 (fA (findO l))), .v (i64 (fB (findO l))), .v (i64 (fN (findO l)))], 75, 3⟩)] ⟨hlt, (fun h => by cases h), hc2⟩ (by simp only; omega) (Nat.min_le_left _ _)
      ⟨rfl, ⟨_, rfl, rfl, rfl, rfl, .inl ⟨hcells.symm, fun e he => all_v _ e (hcells ▸ he)⟩⟩, rfl, ⟨_, rfl, rfl, rfl, rfl, .inl ⟨rfl, fun e he => all_v [_, _, _] e he⟩⟩, trivial⟩ rfl rfl rfl rfl rfl rfl rfl
  · have hge : k = a.length := by omega
    subst hge
    rw [List.take_length]
    (refine run ?_; repeat intro b)
    refine s_if false (by rw [← decide_eq_false (p := ((a.length : Nat) : Int) < ((a.length : Nat) : Int)) (by omega)]; rfl) (fun h => by cases h) (fun _ => ?_)
    (refine runR ?_; repeat intro b)
    refine s_vs (VS.shut (fun pS => [(0, .v (.slice p l.length c)), (1, .v (.slice pa a.length ca)), (2, .v (i64 m)), (7, .loc 0 0), (8, .v (.bool (findO l).isSome)), (9, .v (i64 (auditE l))), (10, .v (i64 (longN l : Nat))), (11, .v (i64 (longE l))), (12, .v (u64 (rolledN a : Nat))), (13, .v (i64 (chainF a).1)), (14, .v (.slice p1 (auGrewL a m).length c1)), (15, .v (i64 (auGrewE a m))), (16, .v (i64 (chainF a).1)), (18, .v (.slice pS a.length cap))]) 1 [0, 1, 2, 7, 8, 9, 10, 11, 12, 13, 14, 15, 16, 18] rfl (allV_map_v _) (fun _ => rfl) rfl (fun _ => rfl) rfl fun F2 pS hF2 hgS => ?_)
    have hgS' : Frow F2 pS ((saids a).map S) := hgS
    (refine run ?_; repeat intro b)
    have hsl := saids_len a
    have hroot : (chainF a).1 = 0 → Plain Try.prog F2 42 [.slice pS a.length cap, i64 0, i64 (a.length : Nat)] (u64 (rootN (saids a) : Nat)) := fun h0 => by
      obtain ⟨z1, z2, _, _, _⟩ := chainF_zero h0
      have := refrollmark_ok (saids a) hgS' (by omega) (saids_short a) (c := cap) _ 0 a.length (Nat.le_refl _) (by omega) (by omega)
      rw [hsl] at this
      have hc : cut (saids a) 0 a.length = saids a := by rw [← hsl]; exact cut_all _
      rw [hc] at this
      exact this
    refine s_gplain _ rfl rfl rfl rfl bd42 rfl rfl (fun hg => hroot (by simpa using hg.2.1)) ?_
    (refine run ?_; repeat intro b)
    refine s_if false ?_ (fun h => by cases h) (fun _ => ?_)
    · refine congrArg (fun b => some (EV.v (.bool b))) ?_
      by_cases h0 : (chainF a).1 = 0
      · have : rolledN a = rootN (saids a) := by unfold rolledN; rw [if_pos h0]
        rw [h0, this]
        simp [bpick]
      · have : rolledN a = 0 := by unfold rolledN; rw [if_neg h0]
        have q1 : ((chainF a).1 == 0) = false := beq_eq_false_iff_ne.2 h0
        have q2 : ((chainF a).1 != 0) = true := bne_iff_ne.2 h0
        rw [this, q1, q2]
        simp [bpick]
    (refine run ?_; repeat intro b)
    refine s_join (β := Unit) (fun _ => True) (fun _ => ⟨[(0, .v (.slice p l.length c)), (1, .v (.slice pa a.length ca)), (2, .v (i64 m)), (7, .loc 0 0), (8, .v (.bool (findO l).isSome)), (9, .v (i64 (auditE l))), (10, .v (i64 (longN l : Nat))), (11, .v (i64 (longE l))), (14, .v (.slice p1 (auGrewL a m).length c1)), (15, .v (i64 (auGrewE a m))), (16, .v (i64 (auGrewE a m))), (18, .v (.slice pS a.length cap))], F2, [(0, ⟨some bb, [.v (i64 (fA (findO l))), .v (i64 (fB (findO l))), .v (i64 (fN (findO l)))], 75, 3⟩)], 2⟩) rfl (fun _ _ => ?_) (fun KK2 kn kr ke => ?_)
    · refine s_seq ?_
      refine s_join (β := Hp) (fun F3 => F2.sub F3) (fun F3 => ⟨[(0, .v (.slice p l.length c)), (7, .loc 0 0), (8, .v (.bool (findO l).isSome)), (9, .v (i64 (auditE l))), (10, .v (i64 (longN l : Nat))), (11, .v (i64 (longE l)))], F3, [(0, ⟨some bb, [.v (i64 (fA (findO l))), .v (i64 (fB (findO l))), .v (i64 (fN (findO l)))], 75, 3⟩)], 2⟩) rfl (fun F3 hF3 => ?_) (fun KK2 kn kr ke => ?_)
      · have hf3 := frow_sub (hF1.trans (hF2.trans hF3)) hf
        have hs3 : ∀ s ∈ l, Lie.at F3 s := fun s h => Lie.at_sub (hF1.trans (hF2.trans hF3)) (hs s h)
        (refine run ?_; repeat intro b)
        refine s_join (β := Unit) (fun _ => True) (fun _ => ⟨[(0, .v (.slice p l.length c)), (7, .loc 0 0), (8, .v (.bool (findO l).isSome)), (9, .v (i64 (auditE l))), (10, .v (i64 (longN l : Nat))), (11, .v (i64 (longE l))), (21, .v (i64 (badK l 0)))], F3, [(0, ⟨some bb, [.v (i64 (fA (findO l))), .v (i64 (fB (findO l))), .v (i64 (fN (findO l)))], 75, 3⟩)], 2⟩) rfl (fun _ _ => ?_) (fun KK2 kn kr ke => ?_)
        · (refine run ?_; repeat intro b)
          refine s_loopP (fun k : Nat => k ≤ l.length) (fun k => ⟨[(0, .v (.slice p l.length c)), (7, .loc 0 0), (8, .v (.bool (findO l).isSome)), (9, .v (i64 (auditE l))), (10, .v (i64 (longN l : Nat))), (11, .v (i64 (longE l))), (21, .v (i64 (badK l k))), (142, .v (.slice p l.length c)), (143, .v (i64 (l.length : Nat))), (144, .v (i64 (k : Nat)))], F3, [(0, ⟨some bb, [.v (i64 (fA (findO l))), .v (i64 (fB (findO l))), .v (i64 (fN (findO l)))], 75, 3⟩)], 2⟩) (fun k => l.length - k) 0 (Nat.zero_le _) (VS.keepN [0, 7, 8, 9, 10, 11, 21, 142, 143, 144] rfl rfl) ?_
          intro k hk
          by_cases hlt : k < l.length
          · have g := frow_get hf3 (j := k) (by rw [List.length_map]; exact hlt)
            rw [List.getElem_map] at g
            obtain ⟨g1, _, g2, g3⟩ := hs3 l[k] (List.getElem_mem hlt)
            have hst := badK_succ hlt
            generalize l[k] = s at g g1 g2 g3 hst
            obtain ⟨ps, ls, cs⟩ := s
            simp only at g g1 g2 g3 hst
            (refine run ?_; repeat intro b)
            refine s_if true (by rw [← decide_eq_true (p := ((k : Nat) : Int) < ((l.length : Nat) : Int)) (by omega)]; rfl) (fun _ => ?_) (fun h => by cases h)
            (refine run ?_; repeat intro b)
            refine s_pureO rfl rfl rfl ⟨by omega, by omega, frow_some hf3 (j := k) (by rw [List.length_map]; exact hlt)⟩ ?_
            refine s_load (.slice ps ls.length cs) rfl rfl rfl rfl (by rw [Int.toNat_natCast, Nat.mul_one]; exact g) ?_
            (refine run ?_; repeat intro b)
            refine s_if (decide (badK l k = 0)) rfl (fun h => ?_) (fun h => ?_)
            · rw [if_pos (of_decide_eq_true h)] at hst
              (refine run ?_; repeat intro b)
              refine s_plain _ rfl rfl rfl bd24 rfl (refchain_ok ls g1 g2 g3) ?_
              (refine run ?_; repeat intro b)
              rw [wrap_succ (by omega)]
              exact s_loopPn (k + 1) hlt (by omega) (VS.keepN [0, 7, 8, 9, 10, 11, 21, 142, 143, 144] rfl (by rw [hst]))
            · rw [if_neg (of_decide_eq_false h)] at hst
              (refine run ?_; repeat intro b)
              rw [wrap_succ (by omega)]
              exact s_loopPn (k + 1) hlt (by omega) (VS.keepN [0, 7, 8, 9, 10, 11, 21, 142, 143, 144] rfl (by rw [hst]))
          · have hge : k = l.length := by omega
            subst hge
            (refine run ?_; repeat intro b)
            refine s_if false (by rw [← decide_eq_false (p := ((l.length : Nat) : Int) < ((l.length : Nat) : Int)) (by omega)]; rfl) (fun h => by cases h) (fun _ => ?_)
            rw [badK_all]
            (refine run ?_; repeat intro b)
            refine s_join (β := Unit) (fun _ => True) (fun _ => ⟨[(0, .v (.slice p l.length c)), (7, .loc 0 0), (8, .v (.bool (findO l).isSome)), (9, .v (i64 (auditE l))), (10, .v (i64 (longN l : Nat))), (11, .v (i64 (longE l))), (21, .v (i64 (auditE l))), (24, .v (i64 (longE l)))], F3, [(0, ⟨some bb, [.v (i64 (fA (findO l))), .v (i64 (fB (findO l))), .v (i64 (fN (findO l)))], 75, 3⟩)], 2⟩) rfl (fun _ _ => ?_) (fun KK2 kn kr ke => ?_)
            · (refine run ?_; repeat intro b)
              refine s_loopP (fun k : Nat => k ≤ l.length) (fun k => ⟨[(0, .v (.slice p l.length c)), (7, .loc 0 0), (8, .v (.bool (findO l).isSome)), (9, .v (i64 (auditE l))), (10, .v (i64 (longN l : Nat))), (11, .v (i64 (longE l))), (21, .v (i64 (auditE l))), (24, .v (i64 (longE l))), (25, .v (i64 (bst l k : Nat))), (160, .v (.slice p l.length c)), (161, .v (i64 (l.length : Nat))), (162, .v (i64 (k : Nat)))], F3, [(0, ⟨some bb, [.v (i64 (fA (findO l))), .v (i64 (fB (findO l))), .v (i64 (fN (findO l)))], 75, 3⟩)], 2⟩) (fun k => l.length - k) 0 (Nat.zero_le _) (VS.keepN [0, 7, 8, 9, 10, 11, 21, 24, 25, 160, 161, 162] rfl (by rw [bst_zero]; rfl)) ?_
              intro k hk
              by_cases hlt : k < l.length
              · (refine run ?_; repeat intro b)
                refine s_if true (by rw [← decide_eq_true (p := ((k : Nat) : Int) < ((l.length : Nat) : Int)) (by omega)]; rfl) (fun _ => ?_) (fun h => by cases h)
                rcases longE_cases l with h | h | h | h | h | h
                · rw [h]
                  have hE0 : auditE l = 0 := by
                    unfold longE at h
                    rw [if_neg (by omega)] at h
                    exact h
                  obtain ⟨_, hz⟩ := auditE_zero hE0
                  have hb := bestK_lt (l := l) (by omega) k hk
                  have eb : bst l k = bestK l k := by unfold bst; rw [if_pos h]
                  have eb2 : bst l (k + 1) = bestK l (k + 1) := by unfold bst; rw [if_pos h]
                  have hst : bestK l (k + 1) = if lastE l k > lastE l (bestK l k) then k else bestK l k := rfl
                  rw [eb]
                  have ga := frow_get hf3 (j := k) (by rw [List.length_map]; exact hlt)
                  rw [List.getElem_map] at ga
                  obtain ⟨g1a, _, _, g3a⟩ := hs3 l[k] (List.getElem_mem hlt)
                  obtain ⟨z1a, _, _, _, _⟩ := chainF_zero (hz l[k] (List.getElem_mem hlt))
                  obtain ⟨o1a, o2a⟩ := frow_agg head_row (by decide) g3a (l[k].2.1.length - 1) (by omega)
                  rw [lastH_of z1a] at o2a
                  have ewa : IntKind.i64.wrap (((l[k].2.1.length : Nat) : Int) - 1) = ((l[k].2.1.length - 1 : Nat) : Int) := by rw [wrap_i64 (by omega) (by omega)]; omega
                  have gb := frow_get hf3 (j := bestK l k) (by rw [List.length_map]; exact hb)
                  rw [List.getElem_map] at gb
                  obtain ⟨g1b, _, _, g3b⟩ := hs3 l[bestK l k] (List.getElem_mem hb)
                  obtain ⟨z1b, _, _, _, _⟩ := chainF_zero (hz l[bestK l k] (List.getElem_mem hb))
                  obtain ⟨o1b, o2b⟩ := frow_agg head_row (by decide) g3b (l[bestK l k].2.1.length - 1) (by omega)
                  rw [lastH_of z1b] at o2b
                  have ewb : IntKind.i64.wrap (((l[bestK l k].2.1.length : Nat) : Int) - 1) = ((l[bestK l k].2.1.length - 1 : Nat) : Int) := by rw [wrap_i64 (by omega) (by omega)]; omega
                  (refine run ?_; repeat intro b)
                  refine s_regiond (by kernel_rfl) ?_
                  (refine run ?_; repeat intro b)
                  refine s_pureO rfl rfl rfl ⟨by omega, by omega, frow_some hf3 (j := k) (by rw [List.length_map]; exact hlt)⟩ ?_
                  (refine run ?_; repeat intro b)
                  refine s_load (.slice l[k].1 l[k].2.1.length l[k].2.2) rfl rfl rfl rfl (by rw [Int.toNat_natCast, Nat.mul_one]; exact ga) ?_
                  (refine run ?_; repeat intro b)
                  refine s_pureO rfl rfl rfl ⟨by omega, by omega, frow_some hf3 (j := k) (by rw [List.length_map]; exact hlt)⟩ ?_
                  (refine run ?_; repeat intro b)
                  refine s_load (.slice l[k].1 l[k].2.1.length l[k].2.2) rfl rfl rfl rfl (by rw [Int.toNat_natCast, Nat.mul_one]; exact ga) ?_
                  (refine run ?_; repeat intro b)
                  rw [ewa]
                  refine s_pureO rfl rfl rfl ⟨by omega, by omega, frow_some g3a (j := (l[k].2.1.length - 1) * 4) (by rw [flat_len head_row]; omega)⟩ ?_
                  (refine run ?_; repeat intro b)
                  refine s_pureO rfl rfl rfl (by rw [Int.toNat_natCast]; exact o1a) ?_
                  (refine run ?_; repeat intro b)
                  refine s_load (i64 (lastE l (k))) rfl rfl rfl rfl (by rw [lastE_get hlt, Int.toNat_natCast]; exact o2a 0 (by decide)) ?_
                  (refine run ?_; repeat intro b)
                  refine s_pureO rfl rfl rfl ⟨by omega, by omega, frow_some hf3 (j := bestK l k) (by rw [List.length_map]; exact hb)⟩ ?_
                  (refine run ?_; repeat intro b)
                  refine s_load (.slice l[bestK l k].1 l[bestK l k].2.1.length l[bestK l k].2.2) rfl rfl rfl rfl (by rw [Int.toNat_natCast, Nat.mul_one]; exact gb) ?_
                  (refine run ?_; repeat intro b)
                  refine s_pureO rfl rfl rfl ⟨by omega, by omega, frow_some hf3 (j := bestK l k) (by rw [List.length_map]; exact hb)⟩ ?_
                  (refine run ?_; repeat intro b)
                  refine s_load (.slice l[bestK l k].1 l[bestK l k].2.1.length l[bestK l k].2.2) rfl rfl rfl rfl (by rw [Int.toNat_natCast, Nat.mul_one]; exact gb) ?_
                  (refine run ?_; repeat intro b)
                  rw [ewb]
                  refine s_pureO rfl rfl rfl ⟨by omega, by omega, frow_some g3b (j := (l[bestK l k].2.1.length - 1) * 4) (by rw [flat_len head_row]; omega)⟩ ?_
                  (refine run ?_; repeat intro b)
                  refine s_pureO rfl rfl rfl (by rw [Int.toNat_natCast]; exact o1b) ?_
                  (refine run ?_; repeat intro b)
                  refine s_load (i64 (lastE l (bestK l k))) rfl rfl rfl rfl (by rw [lastE_get hb, Int.toNat_natCast]; exact o2b 0 (by decide)) ?_
                  (refine run ?_; repeat intro b)
                  refine s_if (decide (lastE l k > lastE l (bestK l k))) rfl (fun h => ?_) (fun h => ?_)
                  · rw [if_pos (of_decide_eq_true h)] at hst
                    (refine run ?_; repeat intro b)
                    rw [wrap_succ (by omega)]
                    exact s_loopPn (k + 1) hlt (by omega) (VS.keepN [0, 7, 8, 9, 10, 11, 21, 24, 25, 160, 161, 162] rfl (by rw [eb2, hst]))
                  · rw [if_neg (of_decide_eq_false h)] at hst
                    (refine run ?_; repeat intro b)
                    rw [wrap_succ (by omega)]
                    exact s_loopPn (k + 1) hlt (by omega) (VS.keepN [0, 7, 8, 9, 10, 11, 21, 24, 25, 160, 161, 162] rfl (by rw [eb2, hst]))
                all_goals
                  have e : bst l (k + 1) = bst l k := by unfold bst; rw [h]; rfl
                  rw [h]
                  (refine run ?_; repeat intro b)
                  refine s_regiond (by kernel_rfl) ?_
                  (refine run ?_; repeat intro b)
                  rw [wrap_succ (by omega)]
                  exact s_loopPn (k + 1) hlt (by omega) (VS.keepN [0, 7, 8, 9, 10, 11, 21, 24, 25, 160, 161, 162] rfl (by rw [e]))
              · have hge : k = l.length := by omega
                subst hge
                (refine run ?_; repeat intro b)
                refine s_if false (by rw [← decide_eq_false (p := ((l.length : Nat) : Int) < ((l.length : Nat) : Int)) (by omega)]; rfl) (fun h => by cases h) (fun _ => ?_)
                (refine run ?_; repeat intro b)
                refine s_if false ?_ (fun h => by cases h) (fun _ => ?_)
                · refine congrArg (fun b => some (EV.v (.bool b))) ?_
                  have e : longN l = bst l l.length := rfl
                  rw [e]
                  by_cases h0 : longE l = 0
                  · rw [h0]
                    simp [bpick]
                  · have : bst l l.length = 0 := by unfold bst; rw [if_neg h0]
                    have q1 : (longE l == 0) = false := beq_eq_false_iff_ne.2 h0
                    have q2 : (longE l != 0) = true := bne_iff_ne.2 h0
                    rw [this, q1, q2]
                    simp [bpick]
                (refine run ?_; repeat intro b)
                refine s_if (decide (auditE l ≠ 0)) ?_ (fun h => ?_) (fun h => ?_)
                · refine congrArg (fun b => some (EV.v (.bool b))) ?_
                  rw [Bool.eq_iff_iff]; simp
                · have e : findO l = none := by unfold findO; rw [if_neg (of_decide_eq_true h)]
                  rw [e]
                  (refine run ?_; repeat intro b)
                  simp [tupV]
                · have hE : auditE l = 0 := by simpa using h
                  obtain ⟨h8, hz⟩ := auditE_zero hE
                  have hfo : findO l = findI (lies l) 0 := by unfold findO; rw [if_pos hE]
                  rw [hE]
                  (refine run ?_; repeat intro b)
                  refine s_loopP (fun i : Nat => i ≤ l.length ∧ findI (lies l) 0 = findI ((lies l).drop i) i) (fun i => ⟨[(0, .v (.slice p l.length c)), (7, .loc 0 0), (8, .v (.bool (findO l).isSome)), (9, .v (i64 0)), (236, .v (.slice p l.length c)), (237, .v (i64 (l.length : Nat))), (238, .v (i64 (i : Nat)))], F3, [(0, ⟨some bb, [.v (i64 (fA (findO l))), .v (i64 (fB (findO l))), .v (i64 (fN (findO l)))], 75, 3⟩)], 2⟩) (fun i => l.length - i) 0 ⟨Nat.zero_le _, rfl⟩ (VS.keepN [0, 7, 8, 9, 236, 237, 238] rfl rfl) ?_
                  rintro i ⟨hi, hu⟩
                  by_cases hlt : i < l.length
                  · have g := frow_get hf3 (j := i) (by rw [List.length_map]; exact hlt)
                    rw [List.getElem_map] at g
                    obtain ⟨g1, _, g2, g3⟩ := hs3 l[i] (List.getElem_mem hlt)
                    rw [findI_drop (by rw [lies_len]; exact hlt), lie_get hlt] at hu
                    generalize l[i] = s at hu g g1 g2 g3
                    obtain ⟨ps, a2, cs⟩ := s
                    simp only at hu g g1 g2 g3
                    (refine run ?_; repeat intro b)
                    refine s_if true (by rw [← decide_eq_true (p := ((i : Nat) : Int) < ((l.length : Nat) : Int)) (by omega)]; rfl) (fun _ => ?_) (fun h => by cases h)
                    (refine run ?_; repeat intro b)
                    rw [wrap_succ (by omega)]
                    refine s_loopP (fun k : Nat => i + 1 ≤ k ∧ k ≤ l.length ∧ findK a2 ((lies l).drop (i + 1)) (i + 1) = findK a2 ((lies l).drop k) k) (fun k => ⟨[(0, .v (.slice p l.length c)), (7, .loc 0 0), (8, .v (.bool (findO l).isSome)), (9, .v (i64 0)), (27, .v (i64 (i : Nat))), (28, .v (i64 (k : Nat))), (236, .v (.slice p l.length c)), (237, .v (i64 (l.length : Nat))), (238, .v (i64 (i : Nat)))], F3, [(0, ⟨some bb, [.v (i64 (fA (findO l))), .v (i64 (fB (findO l))), .v (i64 (fN (findO l)))], 75, 3⟩)], 2⟩) (fun k => l.length - k) (i + 1) ⟨Nat.le_refl _, hlt, rfl⟩ (VS.keepN [0, 7, 8, 9, 27, 28, 236, 237, 238] rfl rfl) ?_
                    rintro k ⟨hk0, hk, hu2⟩
                    by_cases hlk : k < l.length
                    · have q := frow_get hf3 (j := k) (by rw [List.length_map]; exact hlk)
                      rw [List.getElem_map] at q
                      obtain ⟨q1, _, q2, q3⟩ := hs3 l[k] (List.getElem_mem hlk)
                      rw [findK_drop (k := k) (by rw [lies_len]; exact hlk), lie_get hlk] at hu2
                      generalize l[k] = s2 at hu2 q q1 q2 q3
                      obtain ⟨ps2, b2, cs2⟩ := s2
                      simp only at hu2 q q1 q2 q3
                      (refine run ?_; repeat intro b)
                      refine s_if true (by rw [← decide_eq_true (p := ((k : Nat) : Int) < ((l.length : Nat) : Int)) (by omega)]; rfl) (fun _ => ?_) (fun h => by cases h)
                      (refine run ?_; repeat intro b)
                      refine s_pureO rfl rfl rfl ⟨by omega, by omega, frow_some hf3 (j := i) (by rw [List.length_map]; exact hlt)⟩ ?_
                      refine s_load (.slice ps a2.length cs) rfl rfl rfl rfl (by rw [Int.toNat_natCast, Nat.mul_one]; exact g) ?_
                      (refine run ?_; repeat intro b)
                      refine s_loopP (fun j : Nat => j ≤ a2.length ∧ hitY b2 a2 = hitY b2 (a2.drop j)) (fun j => ⟨[(0, .v (.slice p l.length c)), (7, .loc 0 0), (8, .v (.bool (findO l).isSome)), (9, .v (i64 0)), (27, .v (i64 (i : Nat))), (28, .v (i64 (k : Nat))), (236, .v (.slice p l.length c)), (237, .v (i64 (l.length : Nat))), (238, .v (i64 (i : Nat))), (252, .v (.slice ps a2.length cs)), (253, .v (i64 (a2.length : Nat))), (254, .v (i64 (j : Nat)))], F3, [(0, ⟨some bb, [.v (i64 (fA (findO l))), .v (i64 (fB (findO l))), .v (i64 (fN (findO l)))], 75, 3⟩)], 2⟩) (fun j => a2.length - j) 0 ⟨Nat.zero_le _, rfl⟩ (VS.keepN [0, 7, 8, 9, 27, 28, 236, 237, 238, 252, 253, 254] rfl rfl) ?_
                      rintro j ⟨hj, hu3⟩
                      by_cases hlj : j < a2.length
                      · (refine run ?_; repeat intro b)
                        refine s_if true (by rw [← decide_eq_true (p := ((j : Nat) : Int) < ((a2.length : Nat) : Int)) (by omega)]; rfl) (fun _ => ?_) (fun h => by cases h)
                        (refine run ?_; repeat intro b)
                        obtain ⟨o1, o2⟩ := frow_agg head_row (by decide) g3 j hlj
                        rw [List.drop_eq_getElem_cons hlj] at hu3
                        generalize a2[j] = y at o2 hu3
                        refine s_pureO rfl rfl rfl ⟨by omega, by omega, frow_some g3 (j := j * 4) (by rw [flat_len head_row]; omega)⟩ ?_
                        refine s_loadA y.row rfl rfl rfl rfl rfl (by rw [Int.toNat_natCast]; exact o1) (by rw [Int.toNat_natCast]; exact o2) ?_
                        (refine run ?_; repeat intro b)
                        refine s_regiona [2] (by kernel_rfl) ?_
                        refine s_firsts [0, 1, 2, 3, 4, 5, 6, 7, 8, 9] (f' := 3) (by kernel_rfl) rfl rfl rfl ?_
                        (refine run ?_; repeat intro b)
                        refine s_pureO rfl rfl rfl ⟨by omega, by omega, frow_some hf3 (j := k) (by rw [List.length_map]; exact hlk)⟩ ?_
                        (refine run ?_; repeat intro b)
                        refine s_load (.slice ps2 b2.length cs2) rfl rfl rfl rfl (by rw [Int.toNat_natCast, Nat.mul_one]; exact q) ?_
                        (refine run ?_; repeat intro b)
                        refine s_plain _ rfl rfl rfl bd25 rfl (headof_ok b2 y.epoch q1 q3) ?_
                        (refine run ?_; repeat intro b)
                        refine s_one 10 (by kernel_rfl) rfl rfl ?_
                        (refine run ?_; repeat intro b)
                        refine s_br (Hp.sub.refl _) ⟨⟨rfl, rfl, rfl, rfl, rfl, trivial⟩, trivial⟩ ?_
                        refine s_one 11 (by kernel_rfl) rfl rfl ?_
                        (refine run ?_; repeat intro b)
                        refine s_br (Hp.sub.refl _) ⟨⟨rfl, rfl, rfl, rfl, rfl, trivial⟩, trivial⟩ ?_
                        refine s_one 12 (by kernel_rfl) rfl rfl ?_
                        (refine run ?_; repeat intro b)
                        refine s_br (Hp.sub.refl _) ⟨⟨rfl, rfl, rfl, rfl, rfl, trivial⟩, trivial⟩ ?_
                        refine s_stop (by kernel_rfl) ?_
                        cases hz : headOfE b2 y.epoch with
                        | none =>
                          have hu4 : hitY b2 a2 = hitY b2 (a2.drop (j + 1)) := by rw [hu3]; simp only [hitY, hz]
                          (refine run ?_; repeat intro b)
                          rw [wrap_succ (by omega)]
                          exact s_loopPc (j + 1) [2, 3] [0, 7, 8, 9, 27, 28, 236, 237, 238, 252, 253, 254] ⟨hlj, hu4⟩ (by omega) rfl rfl rfl rfl ⟨⟨Nat.zero_lt_succ _, fun e he => all_lt [_, _, _] e he⟩, trivial⟩ rfl
                        | some z =>
                          (refine run ?_; repeat intro b)
                          refine s_if (decide (y ≠ z)) ?_ (fun h => ?_) (fun h => ?_)
                          · exact congrArg (fun b => some (EV.v (.bool b))) (head_ne y z)
                          · have hu4 : hitY b2 a2 = some y.epoch := by rw [hu3]; simp only [hitY, hz]; rw [if_pos (of_decide_eq_true h)]
                            rw [hu4] at hu2
                            dsimp only at hu2
                            rw [hu2] at hu
                            dsimp only at hu
                            have e : findO l = some (i, k, y.epoch) := by rw [hfo, hu]
                            rw [e]
                            (refine run ?_; repeat intro b)
                            simp [tupV, bpick, fA, fB, fN]
                          · have hu4 : hitY b2 a2 = hitY b2 (a2.drop (j + 1)) := by rw [hu3]; simp only [hitY, hz]; rw [if_neg (of_decide_eq_false h)]
                            (refine run ?_; repeat intro b)
                            rw [wrap_succ (by omega)]
                            exact s_loopPc (j + 1) [2, 3] [0, 7, 8, 9, 27, 28, 236, 237, 238, 252, 253, 254] ⟨hlj, hu4⟩ (by omega) rfl rfl rfl rfl ⟨⟨Nat.zero_lt_succ _, fun e he => all_lt [_, _, _] e he⟩, trivial⟩ rfl
                      · have hge : j = a2.length := by omega
                        subst hge
                        rw [List.drop_length] at hu3
                        rw [hu3] at hu2
                        dsimp only [hitY] at hu2
                        (refine run ?_; repeat intro b)
                        refine s_if false (by rw [← decide_eq_false (p := ((a2.length : Nat) : Int) < ((a2.length : Nat) : Int)) (by omega)]; rfl) (fun h => by cases h) (fun _ => ?_)
                        (refine run ?_; repeat intro b)
                        rw [wrap_succ (by omega)]
                        exact s_loopPn (k + 1) ⟨by omega, hlk, hu2⟩ (by omega) (VS.keepN [0, 7, 8, 9, 27, 28, 236, 237, 238] rfl rfl)
                    · have hge : k = l.length := by omega
                      subst hge
                      rw [List.drop_of_length_le (i := l.length) (by rw [lies_len]; exact Nat.le_refl _)] at hu2
                      rw [hu2] at hu
                      dsimp only [findK] at hu
                      (refine run ?_; repeat intro b)
                      refine s_if false (by rw [← decide_eq_false (p := ((l.length : Nat) : Int) < ((l.length : Nat) : Int)) (by omega)]; rfl) (fun h => by cases h) (fun _ => ?_)
                      (refine run ?_; repeat intro b)
                      rw [wrap_succ (by omega)]
                      exact s_loopPn (i + 1) ⟨hlt, hu⟩ (by omega) (VS.keepN [0, 7, 8, 9, 236, 237, 238] rfl rfl)
                  · have hge : i = l.length := by omega
                    subst hge
                    rw [List.drop_of_length_le (i := l.length) (by rw [lies_len]; exact Nat.le_refl _)] at hu
                    have e : findO l = none := by rw [hfo, hu]; rfl
                    rw [e]
                    (refine run ?_; repeat intro b)
                    refine s_if false (by rw [← decide_eq_false (p := ((l.length : Nat) : Int) < ((l.length : Nat) : Int)) (by omega)]; rfl) (fun h => by cases h) (fun _ => ?_)
                    (refine run ?_; repeat intro b)
                    rfl
            · refine s_if (decide (l.length = 0)) ?_ (fun h => ?_) (fun h => ?_)
              · refine congrArg (fun b => some (EV.v (.bool b))) ?_
                rw [Bool.eq_iff_iff]; simp
              · have e : longE l = 5 := by unfold longE; rw [if_pos (of_decide_eq_true h)]
                (refine run ?_; repeat intro b)
                exact kn _ (VS.keepN [0, 7, 8, 9, 10, 11, 21, 24] rfl ⟨(), trivial, by rw [e]⟩)
              · have e : longE l = auditE l := by unfold longE; rw [if_neg (of_decide_eq_false h)]
                (refine run ?_; repeat intro b)
                exact kn _ (VS.keepN [0, 7, 8, 9, 10, 11, 21, 24] rfl ⟨(), trivial, by rw [e]⟩)
        · refine s_if (decide (8 < l.length)) ?_ (fun h => ?_) (fun h => ?_)
          · refine congrArg (fun b => some (EV.v (.bool b))) ?_
            rw [Bool.eq_iff_iff, decide_eq_true_eq, decide_eq_true_eq]; omega
          · have e : badK l 0 = 2 := by unfold badK; rw [if_pos (of_decide_eq_true h)]
            (refine run ?_; repeat intro b)
            exact kn _ (VS.keepN [0, 7, 8, 9, 10, 11, 21] rfl ⟨(), trivial, by rw [e]⟩)
          · have e : badK l 0 = 0 := by unfold badK; rw [if_neg (of_decide_eq_false h)]; rfl
            (refine run ?_; repeat intro b)
            exact kn _ (VS.keepN [0, 7, 8, 9, 10, 11, 21] rfl ⟨(), trivial, by rw [e]⟩)
      · rcases auGrewE_cases a m with h | h | h | h | h | h
        · obtain ⟨q1, q2, q3, q4⟩ := auGrewE_zero h
          obtain ⟨z1, z2, _, _, _⟩ := chainF_zero q1
          have hri := refrollgrew_ok (saids a) m.toNat hgS' (by omega) (saids_short a) (by omega) (by omega) (c := cap)
          rw [Int.toNat_of_nonneg (by omega : 0 ≤ m), hsl] at hri
          have hlen := grewN_len (l := saids a) m.toNat true
          rw [h, q4]
          rw [q4] at hg1
          (refine run ?_; repeat intro b)
          refine s_callF rfl rfl rfl bd44 rfl hri ?_
          rintro _ F3 hF3 ⟨pb, cb, rfl, hgb⟩
          (refine run ?_; repeat intro b)
          refine s_plain _ rfl rfl rfl bd43 rfl (eq_nus _ rfl (frow_sub (hF2.trans hF3) hg1) hgb (by omega)) ?_
          (refine run ?_; repeat intro b)
          exact kn _ (VS.keepN [0, 7, 8, 9, 10, 11] rfl ⟨F3, hF3, rfl⟩)
        all_goals
          have e : auGrewL a m = [] := auGrewL_nil (by rw [h]; decide)
          rw [h, e]
          (refine run ?_; repeat intro b)
          exact kn _ (VS.keepN [0, 7, 8, 9, 10, 11] rfl ⟨F2, Hp.sub.refl _, rfl⟩)
    · refine s_if (decide ((chainF a).1 = 0 ∧ (m < 1 ∨ m > (a.length : Nat)))) ?_ (fun h => ?_) (fun h => ?_)
      · refine congrArg (fun b => some (EV.v (.bool b))) ?_
        rw [bpick_and, bpick_or, Bool.eq_iff_iff]
        simp
      · obtain ⟨g1, g2⟩ := of_decide_eq_true h
        have e : auGrewE a m = 4 := by rw [auGrewE_bad g1, if_pos g2]
        (refine run ?_; repeat intro b)
        exact kn _ (VS.keepN [0, 1, 2, 7, 8, 9, 10, 11, 14, 15, 16, 18] rfl ⟨(), trivial, by rw [e]⟩)
      · have h' := of_decide_eq_false h
        have e : auGrewE a m = (chainF a).1 := by
          by_cases h0 : (chainF a).1 = 0
          · rw [auGrewE_bad h0, if_neg (fun h2 => h' ⟨h0, h2⟩), h0]
          · unfold auGrewE; rw [if_neg h0]
        (refine run ?_; repeat intro b)
        exact kn _ (VS.keepN [0, 1, 2, 7, 8, 9, 10, 11, 14, 15, 16, 18] rfl ⟨(), trivial, by rw [e]⟩)
end Go.Proofs.Ythkmfihbpbehfaa
