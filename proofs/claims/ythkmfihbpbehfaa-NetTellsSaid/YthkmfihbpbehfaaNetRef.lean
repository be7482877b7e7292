/-
tallyrollref.NetFault, NetSend: the walks.
-/
import Derived.Test.YthkmfihbpbehfaaNetSend
namespace Go.Proofs.Ythkmfihbpbehfaa
set_option linter.unusedVariables false
set_option linter.unusedSimpArgs false
open Go.TR
theorem any_take_due {t : Int} {l : List LP} {k : Nat} (h : k < l.length) : ((l.take (k + 1)).any fun x => decide (x.l.due ≤ t)) = ((l.take k).any (fun x => decide (x.l.due ≤ t)) || decide (l[k].l.due ≤ t)) := by
  rw [List.take_succ_eq_append_getElem h, List.any_append]
  simp
theorem any_take_bad {l : List Int} {k : Nat} (h : k < l.length) : (l.take (k + 1)).any badFate = ((l.take k).any badFate || badFate l[k]) := by
  rw [List.take_succ_eq_append_getElem h, List.any_append]
  simp
attribute [local irreducible] vc vcOps seqK blockK loopK retK retG retI loopV Plain CallOK CallIn bodied VS vcAny dropG backK brK loopPK IntKind.wrap
set_option maxRecDepth 100000
set_option maxHeartbeats 4000000
theorem refnetfault_ok (n : NP) {F : Hp} (hl : n.way.length ≤ 4611686018427387904) (hn : n.at F) : Plain Try.prog F 13 [n.v] (i64 (netFault n)) := by
  refine plain_vc (N := 30) (rv := [.tmp 2]) tbok mixed Try.func13 rfl rfl rfl rfl rfl ?_
  (refine run ?_; repeat intro b)
  generalize b = b0
  refine s_if (decide (n.now < 0 ∨ 1000000000 < n.now)) ?_ (fun h => ?_) (fun h => ?_)
  · refine congrArg (fun b => some (EV.v (.bool b))) ?_
    rw [bpick_or, Bool.decide_or]
  · have e : netFault n = 4 := by unfold netFault; rw [if_pos (of_decide_eq_true h)]
    rw [e]
    (refine run ?_; repeat intro b)
    rfl
  · have h1 := of_decide_eq_false h
    (refine run ?_; repeat intro b)
    refine s_if (decide (60 < n.way.length)) ?_ (fun h => ?_) (fun h => ?_)
    · refine congrArg (fun b => some (EV.v (.bool b))) ?_
      rw [Bool.eq_iff_iff]; simp; omega
    · have e : netFault n = 7 := by unfold netFault; rw [if_neg h1, if_pos (of_decide_eq_true h)]
      rw [e]
      (refine run ?_; repeat intro b)
      rfl
    · have e : netFault n = if (n.way.any fun x => decide (x.l.due ≤ n.now)) = true then 4 else 0 := by unfold netFault; rw [if_neg h1, if_neg (of_decide_eq_false h)]
      rw [e]
      (refine run ?_; repeat intro b)
      refine s_loopP (fun k : Nat => k ≤ n.way.length ∧ ((n.way.take k).any fun x => decide (x.l.due ≤ n.now)) = false) (fun k => ⟨[(1, .loc 0 0), (18, .v (.slice n.p n.way.length n.c)), (19, .v (i64 (n.way.length : Nat))), (20, .v (i64 (k : Nat)))], F, [(0, ⟨some b0, [.v (i64 n.now), .v (.slice n.p n.way.length n.c)], 24, 2⟩)], 1⟩) (fun k => n.way.length - k) 0 ⟨Nat.zero_le _, rfl⟩ (VS.keepN [1, 18, 19, 20] rfl rfl) ?_
      rintro k ⟨hk, hu⟩
      by_cases hlt : k < n.way.length
      · obtain ⟨o1, o2⟩ := frow_agg lp_row (by decide) hn.way k hlt
        have hs := any_take_due (t := n.now) hlt
        rw [hu, Bool.false_or] at hs
        have hany : decide (n.way[k].l.due ≤ n.now) = true → (n.way.any fun x => decide (x.l.due ≤ n.now)) = true := fun h => List.any_eq_true.2 ⟨_, List.getElem_mem hlt, h⟩
        generalize n.way[k] = x at o2 hs hany
        (refine run ?_; repeat intro b)
        refine s_if true (by rw [← decide_eq_true (p := ((k : Nat) : Int) < ((n.way.length : Nat) : Int)) (by omega)]; rfl) (fun _ => ?_) (fun h => by cases h)
        (refine run ?_; repeat intro b)
        refine s_pureO rfl rfl rfl ⟨by omega, by omega, frow_some hn.way (j := k * 12) (by rw [flat_len lp_row]; omega)⟩ ?_
        refine s_loadA x.row rfl rfl rfl rfl rfl (by rw [Int.toNat_natCast]; exact o1) (by rw [Int.toNat_natCast]; exact o2) ?_
        (refine run ?_; repeat intro b)
        refine s_if (decide (x.l.due ≤ n.now)) rfl (fun h => ?_) (fun h => ?_)
        · rw [if_pos (hany h)]
          (refine run ?_; repeat intro b)
          rfl
        · rw [h] at hs
          (refine run ?_; repeat intro b)
          rw [wrap_succ (by omega)]
          exact s_loopPc (k + 1) [1] [1, 18, 19, 20] ⟨hlt, hs⟩ (by omega) rfl rfl rfl rfl ⟨⟨Nat.zero_lt_one, fun e he => by obtain ⟨x, rfl⟩ := all_v [_, _] e he; trivial⟩, trivial⟩ rfl
      · have hge : k = n.way.length := by omega
        subst hge
        rw [List.take_length] at hu
        rw [hu]
        (refine run ?_; repeat intro b)
        refine s_if false (by rw [← decide_eq_false (p := ((n.way.length : Nat) : Int) < ((n.way.length : Nat) : Int)) (by omega)]; rfl) (fun h => by cases h) (fun _ => ?_)
        (refine run ?_; repeat intro b)
        rfl
theorem refnetsend_ok (n : NP) (x : LP) (fs : List Int) {pf : Option Addr} {cf : Nat} {F : Hp} (hz : netFault n = 0) (hl : n.way.length ≤ 4611686018427387904) (hn : n.at F) (hx : x.at F) (hfl : fs.length ≤ 4611686018427387904) (hff : Frow F pf (fs.map i64)) :
    CallF Try.prog F 16 [n.v, .agg x.row.toArray, .slice pf fs.length cf] (SendQ n x.l fs) := by
  obtain ⟨z1, z2, z3⟩ := netFault_zero hz
  refine CallOK.drop (call_vc (N := 62) (rv := [.cell 6 24, .tmp 7]) tbok mixed Try.func16 rfl rfl rfl rfl rfl ?_)
  (refine run ?_; repeat intro b)
  rename_i b0 b1
  generalize b = b2
  refine s_loopP (fun k : Nat => k ≤ fs.length ∧ (fs.take k).any badFate = false) (fun k => ⟨[(2, .v (.slice pf fs.length cf)), (3, .loc 0 0), (4, .loc 1 0), (6, .loc 2 0), (14, .v (.slice pf fs.length cf)), (15, .v (i64 (fs.length : Nat))), (16, .v (i64 (k : Nat)))], F, [(2, ⟨some b2, [.v (i64 0), .v (.slice none 0 0)], 24, 2⟩), (1, ⟨some b1, x.row.map .v, 36, 12⟩), (0, ⟨some b0, [.v (i64 n.now), .v (.slice n.p n.way.length n.c)], 24, 2⟩)], 3⟩) (fun k => fs.length - k) 0 ⟨Nat.zero_le _, rfl⟩ (VS.keepN [2, 3, 4, 6, 14, 15, 16] rfl rfl) ?_
  rintro k ⟨hk, hu⟩
  by_cases hlt : k < fs.length
  · have g := frow_get hff (j := k) (by rw [List.length_map]; exact hlt)
    rw [List.getElem_map] at g
    have hs := any_take_bad hlt
    rw [hu, Bool.false_or] at hs
    have hany : badFate fs[k] = true → fs.any badFate = true := fun h => List.any_eq_true.2 ⟨_, List.getElem_mem hlt, h⟩
    generalize fs[k] = f at g hs hany
    (refine run ?_; repeat intro b)
    refine s_if true (by rw [← decide_eq_true (p := ((k : Nat) : Int) < ((fs.length : Nat) : Int)) (by omega)]; rfl) (fun _ => ?_) (fun h => by cases h)
    (refine run ?_; repeat intro b)
    refine s_pureO rfl rfl rfl ⟨by omega, by omega, frow_some hff (j := k) (by rw [List.length_map]; exact hlt)⟩ ?_
    refine s_load (i64 f) rfl rfl rfl rfl (by rw [Int.toNat_natCast, Nat.mul_one]; exact g) ?_
    (refine run ?_; repeat intro b)
    refine s_if (badFate f) ?_ (fun h => ?_) (fun h => ?_)
    · refine congrArg (fun b => some (EV.v (.bool b))) ?_
      rw [bpick_or]; rfl
    · (refine run ?_; repeat intro b)
      exact s_retG (VS.id ⟨_, rfl, sendQ_bad (e := 4) (by unfold sendE; rw [if_neg (by simpa using hz), if_pos (hany h)]) (by decide) F⟩)
    · rw [h] at hs
      (refine run ?_; repeat intro b)
      rw [wrap_succ (by omega)]
      exact s_loopPn (k + 1) ⟨hlt, hs⟩ (by omega) (VS.keepN [2, 3, 4, 6, 14, 15, 16] rfl rfl)
  · have hge : k = fs.length := by omega
    subst hge
    rw [List.take_length] at hu
    have hbad := hu
    have hE : sendE n fs = if 60 < n.way.length + fs.length then 7 else 0 := by unfold sendE; rw [if_neg (by simpa using hz), if_neg (by rw [hu]; decide)]
    (refine run ?_; repeat intro b)
    refine s_if false (by rw [← decide_eq_false (p := ((fs.length : Nat) : Int) < ((fs.length : Nat) : Int)) (by omega)]; rfl) (fun h => by cases h) (fun _ => ?_)
    (refine run ?_; repeat intro b)
    refine s_if (decide (60 < n.way.length + fs.length)) ?_ (fun h => ?_) (fun h => ?_)
    · refine congrArg (fun b => some (EV.v (.bool b))) ?_
      rw [wrap_i64 (by omega) (by omega), Bool.eq_iff_iff]
      simp
      omega
    · rw [if_pos (of_decide_eq_true h)] at hE
      (refine run ?_; repeat intro b)
      exact s_retG (VS.id ⟨_, rfl, sendQ_bad hE (by decide) F⟩)
    · have hlen := of_decide_eq_false h
      rw [if_neg hlen] at hE
      (refine run ?_; repeat intro b)
      refine s_join (SendJ n F)
        (fun q => ⟨[(2, .v (.slice pf fs.length cf)), (3, .loc 0 0), (4, .loc 1 0), (6, .loc 2 0), (10, .loc 5 0)], q.1, [(0, ⟨some b0, [.v (i64 n.now), .v (.slice n.p n.way.length n.c)], 24, 2⟩), (1, ⟨some b1, x.row.map .v, 36, 12⟩), (2, ⟨some b2, [.v (i64 0), .v (.slice none 0 0)], 24, 2⟩), (5, ⟨some q.2.2.2.2, [.v (i64 n.now), .row 6 0 n.way.length q.2.2.2.1], 24, 2⟩), (6, ⟨q.2.2.1, (q.2.1.flatMap LP.row).map .v, 36, q.2.2.2.1 * 12⟩)], 7⟩) rfl ?rest ?reg
      case reg =>
        intro KK2 kn kr ke
        refine s_regiona [0] (by kernel_rfl) ?_
        refine s_firsts [0, 1, 2, 3] (f' := 4) (by kernel_rfl) rfl rfl rfl ?_
        (refine run ?_; repeat intro b)
        refine s_two 4 6 (by kernel_rfl) rfl rfl rfl ?_ ?_
        · refine s_appV [] rfl rfl rfl rfl rfl rfl rfl (frow_nil _ _) (src_frz (flat_len lp_row _) hn.way) (one_v _ (lp_one _)) (by show (0 + _) * 152 ≤ _; omega) (fun h0 => ?_) (fun h0 b5 c5 hc5 => ?_)
          · have hw0 : n.way = [] := List.eq_nil_of_length_eq_zero h0
            (refine run ?_; repeat intro b)
            refine s_br (Hp.sub.refl _) ⟨⟨rfl, rfl, rfl, trivial⟩, trivial⟩ ?_
            refine s_firsts [5] (f' := 2) (by kernel_rfl) rfl rfl rfl ?_
            (refine run ?_; repeat intro b)
            refine s_one 6 (by kernel_rfl) rfl rfl ?_
            (refine run ?_; repeat intro b)
            refine s_br (Hp.sub.refl _) ⟨⟨rfl, rfl, rfl, trivial⟩, trivial⟩ ?_
            refine s_one 7 (by kernel_rfl) rfl rfl ?_
            (refine run ?_; repeat intro b)
            refine s_br (Hp.sub.refl _) ⟨⟨rfl, rfl, rfl, trivial⟩, trivial⟩ ?_
            refine s_stop (by kernel_rfl) (kn _ (VS.addnil 36 ?_))
            refine VS.recell 3 [.v (i64 n.now), .row 4 0 n.way.length 0] rfl ⟨⟨trivial, rfl⟩, ⟨(by decide : 4 < 5), (congrArg (fun m => some (Value.slice none m 0)) h0.symm)⟩, trivial⟩ rfl ?_
            exact VS.ren (nx' := 7) [(0, 0), (1, 1), (2, 2), (3, 5), (4, 6)] [2, 3, 4, 6, 10] [(0, ⟨some b0, [.v (i64 n.now), .v (.slice n.p n.way.length n.c)], 24, 2⟩), (1, ⟨some b1, x.row.map .v, 36, 12⟩), (2, ⟨some b2, [.v (i64 0), .v (.slice none 0 0)], 24, 2⟩), (5, ⟨some b, [.v (i64 n.now), .row 6 0 n.way.length 0], 24, 2⟩), (6, ⟨none, (List.flatMap LP.row ([] : List LP)).map .v, 36, 0 * 12⟩)]
              ⟨rfl, ⟨_, rfl, rfl, rfl, rfl, .inr rfl⟩, rfl, ⟨_, rfl, rfl, rfl, rfl, .inr rfl⟩, rfl, ⟨_, rfl, rfl, rfl, rfl, .inr rfl⟩, rfl, ⟨_, rfl, rfl, rfl, rfl, .inr rfl⟩, rfl, ⟨_, rfl, rfl, rfl, rfl, .inr rfl⟩, trivial⟩ rfl rfl rfl rfl rfl rfl ⟨(F, ([] : List LP), none, 0, b), ⟨Hp.sub.refl _, by rw [hw0], by simp, Nat.le_of_eq h0, fun _ => ⟨h0, rfl⟩⟩, rfl⟩
          · simp only [Nat.zero_add, List.map_nil, List.nil_append] at hc5 ⊢
            (refine run ?_; repeat intro b)
            refine s_br (Hp.sub.refl _) ⟨⟨rfl, rfl, rfl, trivial⟩, trivial⟩ ?_
            refine s_firsts [5] (f' := 2) (by kernel_rfl) rfl rfl rfl ?_
            (refine run ?_; repeat intro b)
            refine s_one 6 (by kernel_rfl) rfl rfl ?_
            (refine run ?_; repeat intro b)
            refine s_br (Hp.sub.refl _) ⟨⟨rfl, rfl, rfl, trivial⟩, trivial⟩ ?_
            refine s_one 7 (by kernel_rfl) rfl rfl ?_
            (refine run ?_; repeat intro b)
            refine s_br (Hp.sub.refl _) ⟨⟨rfl, rfl, rfl, trivial⟩, trivial⟩ ?_
            refine s_stop (by kernel_rfl) (kn _ ?_)
            refine VS.recell 4 [.v (i64 n.now), .row 3 0 n.way.length c5] rfl ⟨⟨trivial, rfl⟩, ⟨(by decide : 3 < 5), rfl⟩, trivial⟩ rfl ?_
            exact VS.ren (nx' := 7) [(0, 0), (1, 1), (2, 2), (4, 5), (3, 6)] [2, 3, 4, 6, 10] [(0, ⟨some b0, [.v (i64 n.now), .v (.slice n.p n.way.length n.c)], 24, 2⟩), (1, ⟨some b1, x.row.map .v, 36, 12⟩), (2, ⟨some b2, [.v (i64 0), .v (.slice none 0 0)], 24, 2⟩), (5, ⟨some b, [.v (i64 n.now), .row 6 0 n.way.length c5], 24, 2⟩), (6, ⟨(some b5), (List.flatMap LP.row n.way).map .v, 36, c5 * 12⟩)]
              ⟨rfl, ⟨_, rfl, rfl, rfl, rfl, .inr rfl⟩, rfl, ⟨_, rfl, rfl, rfl, rfl, .inr rfl⟩, rfl, ⟨_, rfl, rfl, rfl, rfl, .inr rfl⟩, rfl, ⟨_, rfl, rfl, rfl, rfl, .inr rfl⟩, rfl, ⟨_, rfl, rfl, rfl, rfl, .inl ⟨rfl, fun e he => all_v _ e he⟩⟩, trivial⟩ rfl rfl rfl rfl rfl rfl ⟨(F, n.way, (some b5), c5, b), ⟨Hp.sub.refl _, rfl, hn.each, hc5, fun h => by cases h⟩, rfl⟩
        · (refine run ?_; repeat intro b)
          refine s_br (Hp.sub.refl _) ⟨⟨rfl, rfl, rfl, trivial⟩, trivial⟩ ?_
          refine s_one 4 (by kernel_rfl) rfl rfl ?_
          refine s_appV [] rfl rfl rfl rfl rfl rfl rfl (frow_nil _ _) (src_frz (flat_len lp_row _) hn.way) (one_v _ (lp_one _)) (by show (0 + _) * 152 ≤ _; omega) (fun h0 => ?_) (fun h0 b5 c5 hc5 => ?_)
          · have hw0 : n.way = [] := List.eq_nil_of_length_eq_zero h0
            (refine run ?_; repeat intro b)
            refine s_br (Hp.sub.refl _) ⟨⟨rfl, rfl, rfl, trivial⟩, trivial⟩ ?_
            refine s_firsts [5] (f' := 1) (by kernel_rfl) rfl rfl rfl ?_
            (refine run ?_; repeat intro b)
            refine s_one 7 (by kernel_rfl) rfl rfl ?_
            (refine run ?_; repeat intro b)
            refine s_br (Hp.sub.refl _) ⟨⟨rfl, rfl, rfl, trivial⟩, trivial⟩ ?_
            refine s_stop (by kernel_rfl) (kn _ (VS.addnil 36 ?_))
            refine VS.recell 3 [.v (i64 n.now), .row 4 0 n.way.length 0] rfl ⟨⟨trivial, rfl⟩, ⟨(by decide : 4 < 5), (congrArg (fun m => some (Value.slice none m 0)) h0.symm)⟩, trivial⟩ rfl ?_
            exact VS.ren (nx' := 7) [(0, 0), (1, 1), (2, 2), (3, 5), (4, 6)] [2, 3, 4, 6, 10] [(0, ⟨some b0, [.v (i64 n.now), .v (.slice n.p n.way.length n.c)], 24, 2⟩), (1, ⟨some b1, x.row.map .v, 36, 12⟩), (2, ⟨some b2, [.v (i64 0), .v (.slice none 0 0)], 24, 2⟩), (5, ⟨some b, [.v (i64 n.now), .row 6 0 n.way.length 0], 24, 2⟩), (6, ⟨none, (List.flatMap LP.row ([] : List LP)).map .v, 36, 0 * 12⟩)]
              ⟨rfl, ⟨_, rfl, rfl, rfl, rfl, .inr rfl⟩, rfl, ⟨_, rfl, rfl, rfl, rfl, .inr rfl⟩, rfl, ⟨_, rfl, rfl, rfl, rfl, .inr rfl⟩, rfl, ⟨_, rfl, rfl, rfl, rfl, .inr rfl⟩, rfl, ⟨_, rfl, rfl, rfl, rfl, .inr rfl⟩, trivial⟩ rfl rfl rfl rfl rfl rfl ⟨(F, ([] : List LP), none, 0, b), ⟨Hp.sub.refl _, by rw [hw0], by simp, Nat.le_of_eq h0, fun _ => ⟨h0, rfl⟩⟩, rfl⟩
          · simp only [Nat.zero_add, List.map_nil, List.nil_append] at hc5 ⊢
            (refine run ?_; repeat intro b)
            refine s_br (Hp.sub.refl _) ⟨⟨rfl, rfl, rfl, trivial⟩, trivial⟩ ?_
            refine s_firsts [5] (f' := 1) (by kernel_rfl) rfl rfl rfl ?_
            (refine run ?_; repeat intro b)
            refine s_one 7 (by kernel_rfl) rfl rfl ?_
            (refine run ?_; repeat intro b)
            refine s_br (Hp.sub.refl _) ⟨⟨rfl, rfl, rfl, trivial⟩, trivial⟩ ?_
            refine s_stop (by kernel_rfl) (kn _ ?_)
            refine VS.recell 3 [.v (i64 n.now), .row 4 0 n.way.length c5] rfl ⟨⟨trivial, rfl⟩, ⟨(by decide : 4 < 5), rfl⟩, trivial⟩ rfl ?_
            exact VS.ren (nx' := 7) [(0, 0), (1, 1), (2, 2), (3, 5), (4, 6)] [2, 3, 4, 6, 10] [(0, ⟨some b0, [.v (i64 n.now), .v (.slice n.p n.way.length n.c)], 24, 2⟩), (1, ⟨some b1, x.row.map .v, 36, 12⟩), (2, ⟨some b2, [.v (i64 0), .v (.slice none 0 0)], 24, 2⟩), (5, ⟨some b, [.v (i64 n.now), .row 6 0 n.way.length c5], 24, 2⟩), (6, ⟨(some b5), (List.flatMap LP.row n.way).map .v, 36, c5 * 12⟩)]
              ⟨rfl, ⟨_, rfl, rfl, rfl, rfl, .inr rfl⟩, rfl, ⟨_, rfl, rfl, rfl, rfl, .inr rfl⟩, rfl, ⟨_, rfl, rfl, rfl, rfl, .inr rfl⟩, rfl, ⟨_, rfl, rfl, rfl, rfl, .inr rfl⟩, rfl, ⟨_, rfl, rfl, rfl, rfl, .inl ⟨rfl, fun e he => all_v _ e he⟩⟩, trivial⟩ rfl rfl rfl rfl rfl rfl ⟨(F, n.way, (some b5), c5, b), ⟨Hp.sub.refl _, rfl, hn.each, hc5, fun h => by cases h⟩, rfl⟩
      case rest =>
        rintro ⟨F1, M, blk, c1, b9⟩ ⟨g1, g2, g3, g4, g5⟩
        dsimp only at g1 g2 g3 g4 g5 ⊢
        (refine run ?_; repeat intro b)
        refine s_loopP (SendI n x.l fs F)
          (fun q => ⟨[(3, .loc 0 0), (4, .loc 1 0), (6, .loc 2 0), (10, .loc 5 0), (42, .v (.slice pf fs.length cf)), (43, .v (i64 (fs.length : Nat))), (44, .v (i64 (q.1 : Nat)))], q.2.2.1, [(0, ⟨some b0, [.v (i64 n.now), .v (.slice n.p n.way.length n.c)], 24, 2⟩), (1, ⟨some b1, x.row.map .v, 36, 12⟩), (2, ⟨some b2, [.v (i64 0), .v (.slice none 0 0)], 24, 2⟩), (5, ⟨some b9, [.v (i64 n.now), .row 7 0 (n.way.length + q.1) q.2.2.2.2], 24, 2⟩), (7, ⟨q.2.2.2.1, (q.2.1.flatMap LP.row).map .v, 36, q.2.2.2.2 * 12⟩)], 8⟩) (fun q => fs.length - q.1) (0, M, F1, blk, c1) ⟨Nat.zero_le _, by rw [g2]; simp, g3, g1, g5, g4⟩
          (VS.ren (nx' := 8) [(0, 0), (1, 1), (2, 2), (5, 5), (6, 7)] [3, 4, 6, 10, 42, 43, 44] [(0, ⟨some b0, [.v (i64 n.now), .v (.slice n.p n.way.length n.c)], 24, 2⟩), (1, ⟨some b1, x.row.map .v, 36, 12⟩), (2, ⟨some b2, [.v (i64 0), .v (.slice none 0 0)], 24, 2⟩), (5, ⟨some b9, [.v (i64 n.now), .row 7 0 n.way.length c1], 24, 2⟩), (7, ⟨blk, (M.flatMap LP.row).map .v, 36, c1 * 12⟩)]
            ⟨rfl, ⟨_, rfl, rfl, rfl, rfl, .inr rfl⟩, rfl, ⟨_, rfl, rfl, rfl, rfl, .inr rfl⟩, rfl, ⟨_, rfl, rfl, rfl, rfl, .inr rfl⟩, rfl, ⟨_, rfl, rfl, rfl, rfl, .inr rfl⟩, rfl, ⟨_, rfl, rfl, rfl, rfl, .inl ⟨rfl, fun e he => all_v _ e he⟩⟩, trivial⟩ rfl rfl rfl rfl rfl rfl rfl) ?_
        rintro ⟨k, L, F2, blk2, cap⟩ ⟨h1, h2, h3, h4, h5, h6⟩
        dsimp only at h1 h2 h3 h4 h5 h6 ⊢
        have hL : L.length = n.way.length + k := by
          have := congrArg List.length h2
          simp only [List.length_map, List.length_append, List.length_take] at this
          omega
        by_cases hlt : k < fs.length
        · have g := frow_get hff (j := k) (by rw [List.length_map]; exact hlt)
          rw [List.getElem_map] at g
          obtain ⟨r1, r2⟩ := bad_range hbad hlt
          have h2' : (L.map LP.l) ++ [x.l.by (n.now + fs[k])] = n.way.map LP.l ++ ((fs.take (k + 1)).map fun k => x.l.by (n.now + k)) := by rw [h2, List.take_succ_eq_append_getElem hlt, List.map_append, List.append_assoc]; rfl
          generalize fs[k] = f at g r1 r2 h2'
          have ew : IntKind.i64.wrap (n.now + f) = n.now + f := wrap_i64 (by omega) (by omega)
          (refine run ?_; repeat intro b)
          refine s_if true (by rw [← decide_eq_true (p := ((k : Nat) : Int) < ((fs.length : Nat) : Int)) (by omega)]; rfl) (fun _ => ?_) (fun h => by cases h)
          (refine run ?_; repeat intro b)
          refine s_pureO rfl rfl rfl ⟨by omega, by omega, frow_some hff (j := k) (by rw [List.length_map]; exact hlt)⟩ ?_
          refine s_load (i64 f) rfl rfl rfl rfl (by rw [Int.toNat_natCast, Nat.mul_one]; exact pcell_sub h4 g) ?_
          (refine run ?_; repeat intro b)
          rw [ew]
          refine s_appR rfl rfl rfl rfl rfl rfl rfl rfl (src_row rfl rfl) (one_v _ (lp_one [(⟨x.l.by (n.now + f), x.ph, x.ch, x.a⟩ : LP)])) h5 h6 rfl (by rw [List.length_map, flat_len lp_row, hL]; exact Nat.le_refl _) (by show _ * 152 ≤ _; omega) (fun h => by cases h) (fun _ b3 c3 hc3 => ?_)
          (refine run ?_; repeat intro b)
          have hcells := lp_cells L ⟨x.l.by (n.now + f), x.ph, x.ch, x.a⟩ (n.way.length + k) hL
          have ax := LP.at_sub h4 hx
          rw [wrap_succ (by omega)]
          exact s_loopPq (k + 1, L ++ [(⟨x.l.by (n.now + f), x.ph, x.ch, x.a⟩ : LP)], F2, some b3, c3) 7 [(0, 0), (1, 1), (2, 2), (5, 5), (10, 7)] [3, 4, 6, 10, 42, 43, 44] [(0, ⟨some b0, [.v (i64 n.now), .v (.slice n.p n.way.length n.c)], 24, 2⟩), (1, ⟨some b1, x.row.map .v, 36, 12⟩), (2, ⟨some b2, [.v (i64 0), .v (.slice none 0 0)], 24, 2⟩), (5, ⟨some b9, [.v (i64 n.now), .row 7 0 (n.way.length + (k + 1)) c3], 24, 2⟩), (7, ⟨some b3, ((L ++ [(⟨x.l.by (n.now + f), x.ph, x.ch, x.a⟩ : LP)]).flatMap LP.row).map .v, 36, c3 * 12⟩)]
            ⟨hlt, by rw [List.map_append, ← h2']; rfl, fun z hz => by rcases List.mem_append.1 hz with hz | hz; exact h3 z hz; rw [List.mem_singleton.1 hz]; exact ⟨ax.heads, ax.prf⟩, h4, (fun h => by cases h), hc3⟩ (by simp only; omega) (Nat.min_le_left _ _)
            ⟨rfl, ⟨_, rfl, rfl, rfl, rfl, .inr rfl⟩, rfl, ⟨_, rfl, rfl, rfl, rfl, .inr rfl⟩, rfl, ⟨_, rfl, rfl, rfl, rfl, .inr rfl⟩, rfl, ⟨_, rfl, rfl, rfl, rfl, .inr rfl⟩, rfl, ⟨_, rfl, rfl, rfl, rfl, .inl ⟨hcells.symm, fun e he => all_v _ e (hcells ▸ he)⟩⟩, trivial⟩ rfl rfl rfl rfl rfl rfl rfl
        · have hge : k = fs.length := by omega
          subst hge
          rw [List.take_length] at h2
          (refine run ?_; repeat intro b)
          refine s_if false (by rw [← decide_eq_false (p := ((fs.length : Nat) : Int) < ((fs.length : Nat) : Int)) (by omega)]; rfl) (fun h => by cases h) (fun _ => ?_)
          (refine run ?_; repeat intro b)
          cases blk2 with
          | none =>
            obtain ⟨e1, e2⟩ := h5 rfl
            have e3 : L = [] := List.eq_nil_of_length_eq_zero (by omega)
            subst e3
            exact s_retG (VS.id ⟨_, rfl, sendQ_ok hE [] hL h2 (by decide) (frow_nil _ _) (by simp)⟩)
          | some b5 =>
            exact s_retG (VS.freeze 7 [6, 7] rfl (allV_map_v _) rfl rfl fun F4 hs4 hf4 => VS.id ⟨_, rfl, sendQ_ok hE L hL h2 (by omega) hf4 (fun z hz => LP.at_sub hs4 (h3 z hz))⟩)
end Go.Proofs.Ythkmfihbpbehfaa
