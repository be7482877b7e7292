/-
tallyrollref.ProofOf: the walk.
-/
import Derived.Test.YthkkgphjjmhglaaGreatDoorProofMake
namespace Go.Proofs.YthkkgphjjmhglaaGreatDoor
set_option linter.unusedVariables false
set_option linter.unusedSimpArgs false
open Go.TR
theorem madeQ_ok {l : List Entry} {n : List UInt8} {F : Hp} {pe ps : Option Addr} {ce cs : Nat} (h1 : Frow F pe ((grp l (pathN n)).flatMap Entry.row)) (h2 : Frow F ps ((sidesN l n 16).map mu)) : ∃ a, Value.agg #[S n, .slice pe (grp l (pathN n)).length ce, .slice ps 16 cs] = (madeP l n).v a ∧ (madeP l n).at F a := by
  refine ⟨⟨pe, ce, ps, cs⟩, ?_, h1, h2⟩
  have e2 : (madeP l n).sides.length = 16 := sidesN_len l n 16
  show _ = Value.agg #[S n, .slice pe (grp l (pathN n)).length ce, .slice ps (madeP l n).sides.length cs]
  rw [e2]
theorem flip48 : flipB 48 = 49 := by decide
theorem flip49 : flipB 49 = 48 := by decide
attribute [local irreducible] vc vcOps seqK blockK loopK retK retG retI loopV Plain CallOK CallIn bodied VS vcAny dropG backK brK loopPK IntKind.wrap
attribute [local irreducible] goodPre bookFault lvlN lvlM begun noneM markN grp pathN wayN sidesN sideN sib enV muV goodName madeP
set_option maxRecDepth 100000
set_option maxHeartbeats 4000000
theorem proofof_ok (l : List Entry) (n : List UInt8) (h24 : l.length ≤ 24) (hw : ∀ x ∈ l, x.wf) (hn : n.length ≤ 4611686018427387904) {p : Option Addr} {c : Nat} {F : Hp} (hf : Frow F p (l.flatMap Entry.row)) :
    CallF Tryz.prog F 16 [.slice p l.length c, S n] (fun x F' => ∃ a, x = (madeP l n).v a ∧ (madeP l n).at F' a) := by
  refine CallOK.drop (call_vc (N := 70) (rv := [.cell 4 35]) tbok mixed Tryz.func16 rfl rfl rfl rfl rfl ?_)
  (refine run ?_; repeat intro b)
  revert b; intro b4
  refine s_plain _ rfl rfl rfl bd54 rfl (refpath_ok n hn F) ?_
  (refine run ?_; repeat intro b)
  revert b; intro b9
  have hg0 : grp (l.take 0) (pathN n) = [] := by rw [List.take_zero]; exact grp_nil _
  have hlen : ∀ k, (grp (l.take k) (pathN n)).length ≤ 24 := fun k => by
    have h1 := grp_len (l.take k) (pathN n)
    rw [List.length_take] at h1
    omega
  refine s_loopP (fun q : Nat × Option Nat × Nat => q.1 ≤ l.length ∧ (q.2.1 = none → (grp (l.take q.1) (pathN n)).length = 0 ∧ q.2.2 = 0) ∧ (grp (l.take q.1) (pathN n)).length ≤ q.2.2)
    (fun q => ⟨[(0, .v (.slice p l.length c)), (5, .v (S (pathN n))), (6, .loc 1 0), (18, .v (.slice p l.length c)), (19, .v (i64 (l.length : Nat))), (20, .v (i64 (q.1 : Nat))), (4, .loc 0 0)], F, [(3, ⟨none, [], 29, 0⟩), (2, ⟨q.2.1, enV (grp (l.take q.1) (pathN n)), 70, q.2.2 * 2⟩), (1, ⟨some b9, [.v (S n), .row 2 0 (grp (l.take q.1) (pathN n)).length q.2.2, .row 3 0 0 0], 35, 3⟩), (0, ⟨some b4, [.v (S []), .v (.slice none 0 0), .v (.slice none 0 0)], 35, 3⟩)], 4⟩) (fun q => l.length - q.1) (0, none, 0) ⟨Nat.zero_le _, fun _ => ⟨by rw [hg0]; rfl, rfl⟩, by rw [hg0]; exact Nat.zero_le _⟩
    (VS.trans (VS.keepN [0, 5, 6, 18, 19, 20, 4] rfl (VS.addnil 70 (VS.addnil 29 (VS.recell 1 [.v (S n), .row 2 0 0 0, .row 3 0 0 0] rfl ⟨⟨trivial, rfl⟩, ⟨(by decide : 2 < 4), rfl⟩, ⟨(by decide : 3 < 4), rfl⟩, trivial⟩ rfl (VS.id (by rw [hg0, enV_nil]; rfl))))))) ?_
  rintro ⟨k, blk, cap⟩ ⟨hk, h3, h4⟩
  dsimp only at hk h3 h4 ⊢
  by_cases hlt : k < l.length
  · obtain ⟨o1, o2⟩ := frow_agg entry_row (by decide) hf k hlt
    have hst := grp_take (s := pathN n) hlt
    have hle := hlen k
    have hwx := hw l[k] (List.getElem_mem hlt)
    generalize l[k] = x at o2 hst hwx
    generalize hL : grp (l.take k) (pathN n) = L at *
    (refine run ?_; repeat intro b)
    refine s_if true (by rw [← decide_eq_true (p := ((k : Nat) : Int) < ((l.length : Nat) : Int)) (by omega)]; rfl) (fun _ => ?_) (fun h => by cases h)
    (refine run ?_; repeat intro b)
    refine s_pureO rfl rfl rfl ⟨by omega, by omega, frow_some hf (j := k * 2) (by rw [flat_len entry_row]; omega)⟩ ?_
    refine s_loadA x.row rfl rfl rfl rfl rfl (by rw [Int.toNat_natCast]; exact o1) (by rw [Int.toNat_natCast]; exact o2) ?_
    (refine run ?_; repeat intro b)
    refine s_plain _ rfl rfl rfl bd54 rfl (refpath_ok x.name hwx.1 F) ?_
    (refine run ?_; repeat intro b)
    refine s_if (decide (pathN x.name = pathN n)) rfl (fun h => ?_) (fun h => ?_)
    · rw [if_pos (of_decide_eq_true h)] at hst
      have hL2 : (grp (l.take (k + 1)) (pathN n)).length = L.length + 1 := by rw [hst, List.length_append]; rfl
      (refine run ?_; repeat intro b)
      refine s_appR rfl rfl rfl rfl rfl rfl rfl rfl (src_row rfl rfl) (one_v _ (l := x.row) fun y hy => entry_one [x] y (by simpa using hy)) h3 h4 rfl (by rw [enV_len]; exact Nat.le_refl _) (by show _ * 32 ≤ _; omega) (fun h => by cases h) (fun _ b2 c2 hc2 => ?_)
      (refine run ?_; repeat intro b)
      have hcells : (enV L).take (L.length * 2) ++ x.row.map EV.v = enV (grp (l.take (k + 1)) (pathN n)) := by rw [hst, enV_snoc]
      have hall : ∀ e ∈ (enV L).take (L.length * 2) ++ x.row.map EV.v, ∃ v, e = EV.v v := fun e he => by
        rw [hcells] at he
        exact enV_all _ e he
      rw [wrap_succ (by omega), ← hL2]
      rw [← hL2] at hc2
      exact s_loopPq (k + 1, some b2, c2) 2 [(3, 3), (6, 2), (1, 1), (0, 0)] [0, 5, 6, 18, 19, 20, 4] [(3, ⟨none, [], 29, 0⟩), (2, ⟨some b2, enV (grp (l.take (k + 1)) (pathN n)), 70, c2 * 2⟩), (1, ⟨some b9, [.v (S n), .row 2 0 (grp (l.take (k + 1)) (pathN n)).length c2, .row 3 0 0 0], 35, 3⟩), (0, ⟨some b4, [.v (S []), .v (.slice none 0 0), .v (.slice none 0 0)], 35, 3⟩)]
        ⟨hlt, (fun h => by cases h), hc2⟩ (by simp only; omega) (Nat.min_le_left _ _)
        ⟨rfl, ⟨_, rfl, rfl, rfl, rfl, .inr rfl⟩, rfl, ⟨_, rfl, rfl, rfl, rfl, .inl ⟨hcells.symm, hall⟩⟩, rfl, ⟨_, rfl, rfl, rfl, rfl, .inr rfl⟩, rfl, ⟨_, rfl, rfl, rfl, rfl, .inr rfl⟩, trivial⟩ rfl rfl rfl rfl rfl rfl rfl
    · rw [if_neg (of_decide_eq_false h)] at hst
      (refine run ?_; repeat intro b)
      rw [wrap_succ (by omega)]
      exact s_loopPq (k + 1, blk, cap) 2 [(3, 3), (2, 2), (1, 1), (0, 0)] [0, 5, 6, 18, 19, 20, 4] [(3, ⟨none, [], 29, 0⟩), (2, ⟨blk, enV L, 70, cap * 2⟩), (1, ⟨some b9, [.v (S n), .row 2 0 L.length cap, .row 3 0 0 0], 35, 3⟩), (0, ⟨some b4, [.v (S []), .v (.slice none 0 0), .v (.slice none 0 0)], 35, 3⟩)]
        ⟨hlt, by rw [hst]; exact h3, by rw [hst]; exact h4⟩ (by simp only; omega) (Nat.min_le_left _ _)
        ⟨rfl, ⟨_, rfl, rfl, rfl, rfl, .inr rfl⟩, rfl, ⟨_, rfl, rfl, rfl, rfl, .inl ⟨rfl, enV_all _⟩⟩, rfl, ⟨_, rfl, rfl, rfl, rfl, .inr rfl⟩, rfl, ⟨_, rfl, rfl, rfl, rfl, .inr rfl⟩, trivial⟩ rfl rfl rfl rfl rfl rfl (by rw [hst])
  · have hge : k = l.length := by omega
    subst hge
    rw [List.take_length] at h3 h4 ⊢
    have hl24 := hlen l.length
    rw [List.take_length] at hl24
    have hP : (pathN n).length = 16 := pathN_len n
    (refine run ?_; repeat intro b)
    refine s_if false (by rw [← decide_eq_false (p := ((l.length : Nat) : Int) < ((l.length : Nat) : Int)) (by omega)]; rfl) (fun h => by cases h) (fun _ => ?_)
    (refine run ?_; repeat intro b)
    refine s_callF rfl rfl rfl bd55 rfl (levels_ok l h24 hw hf) ?_
    rintro _ F1 hF1 ⟨bm, es, clock, rfl, hm, hM⟩
    (refine run ?_; repeat intro b)
    refine s_loopP (fun q : Nat × Option Nat × Nat => q.1 ≤ 16 ∧ (q.2.1 = none → 16 - q.1 = 0 ∧ q.2.2 = 0) ∧ 16 - q.1 ≤ q.2.2)
      (fun q => ⟨[(5, .v (S (pathN n))), (6, .loc 1 0), (9, .v (.map (some bm))), (10, .v (.int .i64 ((q.1 : Int) - 1))), (4, .loc 0 0)], F1, [(4, ⟨q.2.1, muV (sidesN l n (16 - q.1)), 29, q.2.2 * 1⟩), (2, ⟨blk, enV (grp l (pathN n)), 70, cap * 2⟩), (1, ⟨some b9, [.v (S n), .row 2 0 (grp l (pathN n)).length cap, .row 4 0 (16 - q.1) q.2.2], 35, 3⟩), (0, ⟨some b4, [.v (S []), .v (.slice none 0 0), .v (.slice none 0 0)], 35, 3⟩)], 5⟩) (fun q => q.1) (16, none, 0) ⟨Nat.le_refl _, fun _ => ⟨rfl, rfl⟩, Nat.le_refl _⟩
      (VS.ren (nx' := 5) [(3, 4), (2, 2), (1, 1), (0, 0)] [5, 6, 9, 10, 4] [(4, ⟨none, [], 29, 0⟩), (2, ⟨blk, enV (grp l (pathN n)), 70, cap * 2⟩), (1, ⟨some b9, [.v (S n), .row 2 0 (grp l (pathN n)).length cap, .row 4 0 0 0], 35, 3⟩), (0, ⟨some b4, [.v (S []), .v (.slice none 0 0), .v (.slice none 0 0)], 35, 3⟩)]
        ⟨rfl, ⟨_, rfl, rfl, rfl, rfl, .inr rfl⟩, rfl, ⟨_, rfl, rfl, rfl, rfl, .inl ⟨rfl, enV_all _⟩⟩, rfl, ⟨_, rfl, rfl, rfl, rfl, .inr rfl⟩, rfl, ⟨_, rfl, rfl, rfl, rfl, .inr rfl⟩, trivial⟩ rfl rfl rfl rfl rfl rfl (by rw [Nat.sub_self, sidesN_zero, muV_nil]; rfl)) ?_
    rintro ⟨d1, blk2, cap2⟩ ⟨g1, g2, g3⟩
    dsimp only at g1 g2 g3 ⊢
    cases d1 with
    | zero =>
      (refine run ?_; repeat intro b)
      cases blk2 with
      | none => exact absurd (g2 rfl).1 (by decide)
      | some b3 =>
        cases blk with
        | none =>
          obtain ⟨e1, e2⟩ := h3 rfl
          have e3 : grp l (pathN n) = [] := List.eq_nil_of_length_eq_zero e1
          exact s_retG (VS.freeze 4 [4] rfl (muV_allV _ _) rfl rfl fun F2 hs1 hf1 => VS.id ⟨_, rfl, madeQ_ok (by rw [e3]; exact frow_nil _ none) hf1⟩)
        | some b2 =>
          exact s_retG (VS.freeze 4 [4] rfl (muV_allV _ _) rfl rfl fun F2 hs1 hf1 => VS.freeze 2 [4] rfl (by rw [frzL_enV]; exact enV_allV _ _) rfl rfl fun F3 hs2 hf2 => VS.id ⟨_, rfl, madeQ_ok hf2 (frow_sub hs2 hf1)⟩)
    | succ d =>
      have ed : ((d + 1 : Nat) : Int) - 1 = (d : Int) := by omega
      rw [ed]
      have hb := path_bit n d (by omega)
      have e2 : 16 - (d + 1) + 1 = 16 - d := by omega
      have hcells : (muV (sidesN l n (16 - (d + 1)))).take ((16 - (d + 1)) * 1) ++ [.v (mu (lvlN l (sib (pathN n) d)))] = muV (sidesN l n (16 - d)) := by
        have := muV_snoc (sidesN l n (16 - (d + 1))) (lvlN l (sib (pathN n) d))
        rw [sidesN_len] at this
        rw [sides_next (d := d) (by omega), ← this]
      have hall : ∀ e ∈ (muV (sidesN l n (16 - (d + 1)))).take ((16 - (d + 1)) * 1) ++ [.v (mu (lvlN l (sib (pathN n) d)))], ∃ v, e = EV.v v := fun e he => by
        rw [hcells] at he
        exact muV_all _ e he
      (refine run ?_; repeat intro b)
      refine s_pureO rfl rfl rfl ⟨by omega, by rw [bl_S]; omega⟩ ?_
      refine s_pureO rfl rfl rfl (by show ((pathN n).take d).length + 1 ≤ 9223372036854775807; rw [List.length_take]; omega) ?_
      (refine run ?_; repeat intro b)
      refine s_pureO rfl rfl rfl ⟨by omega, by rw [bl_S]; omega⟩ ?_
      (refine run ?_; repeat intro b)
      have hgd : (bl (mkB (pathN n))).getD ((d : Nat) : Int).toNat 0 = (pathN n).getD d 0 := by rw [bl_S, Int.toNat_natCast]
      rw [hgd]
      rcases hb with hb | hb
      · have es : S (bl (mkB (List.take ((d : Nat) : Int).toNat (bl (mkB (pathN n))))) ++ bl ⟨#[49]⟩) = S (sib (pathN n) d) := by
          rw [← sib_eq, hb, flip48]
          rfl
        rw [es, hb]
        (refine run ?_; repeat intro b)
        refine s_lookup (lvlM l (begun l)) (sib (pathN n) d) und_map und_key rfl rfl zero_u64 rfl hm hM ?_
        rw [if_pos rfl]
        cases hbg : begun l (sib (pathN n) d) with
        | true =>
          rw [lvlM_yes hbg]
          (refine run ?_; repeat intro b)
          refine s_appR rfl rfl rfl rfl rfl rfl rfl rfl (src_row rfl rfl) (one_v _ (l := [mu (lvlN l (sib (pathN n) d))]) (by simp [one])) g2 g3 rfl (by show (16 - (d + 1)) * 1 ≤ _; rw [muV_len, sidesN_len]; omega) (by show _ * 8 ≤ _; omega) (fun h => by cases h) (fun _ b5 c5 hc5 => ?_)
          (refine run ?_; repeat intro b)
          rw [wrap_i64 (by omega) (by omega), e2]
          rw [e2] at hc5
          exact s_loopPq (d, some b5, c5) 4 [(6, 4), (2, 2), (1, 1), (0, 0)] [5, 6, 9, 10, 4] [(4, ⟨some b5, muV (sidesN l n (16 - d)), 29, c5 * 1⟩), (2, ⟨blk, enV (grp l (pathN n)), 70, cap * 2⟩), (1, ⟨some b9, [.v (S n), .row 2 0 (grp l (pathN n)).length cap, .row 4 0 (16 - d) c5], 35, 3⟩), (0, ⟨some b4, [.v (S []), .v (.slice none 0 0), .v (.slice none 0 0)], 35, 3⟩)]
            ⟨by omega, (fun h => by cases h), hc5⟩ (Nat.lt_succ_self d) (Nat.min_le_left _ _)
            ⟨rfl, ⟨_, rfl, rfl, rfl, rfl, .inl ⟨hcells.symm, hall⟩⟩, rfl, ⟨_, rfl, rfl, rfl, rfl, .inl ⟨rfl, enV_all _⟩⟩, rfl, ⟨_, rfl, rfl, rfl, rfl, .inr rfl⟩, rfl, ⟨_, rfl, rfl, rfl, rfl, .inr rfl⟩, trivial⟩ rfl rfl rfl rfl rfl rfl rfl
        | false =>
          rw [lvlM_no hbg]
          (refine run ?_; repeat intro b)
          refine s_plain _ rfl rfl rfl bd22 rfl (refmark_none F1) ?_
          rw [← lvlN_none hbg]
          (refine run ?_; repeat intro b)
          refine s_appR rfl rfl rfl rfl rfl rfl rfl rfl (src_row rfl rfl) (one_v _ (l := [mu (lvlN l (sib (pathN n) d))]) (by simp [one])) g2 g3 rfl (by show (16 - (d + 1)) * 1 ≤ _; rw [muV_len, sidesN_len]; omega) (by show _ * 8 ≤ _; omega) (fun h => by cases h) (fun _ b5 c5 hc5 => ?_)
          (refine run ?_; repeat intro b)
          rw [wrap_i64 (by omega) (by omega), e2]
          rw [e2] at hc5
          exact s_loopPq (d, some b5, c5) 4 [(6, 4), (2, 2), (1, 1), (0, 0)] [5, 6, 9, 10, 4] [(4, ⟨some b5, muV (sidesN l n (16 - d)), 29, c5 * 1⟩), (2, ⟨blk, enV (grp l (pathN n)), 70, cap * 2⟩), (1, ⟨some b9, [.v (S n), .row 2 0 (grp l (pathN n)).length cap, .row 4 0 (16 - d) c5], 35, 3⟩), (0, ⟨some b4, [.v (S []), .v (.slice none 0 0), .v (.slice none 0 0)], 35, 3⟩)]
            ⟨by omega, (fun h => by cases h), hc5⟩ (Nat.lt_succ_self d) (Nat.min_le_left _ _)
            ⟨rfl, ⟨_, rfl, rfl, rfl, rfl, .inl ⟨hcells.symm, hall⟩⟩, rfl, ⟨_, rfl, rfl, rfl, rfl, .inl ⟨rfl, enV_all _⟩⟩, rfl, ⟨_, rfl, rfl, rfl, rfl, .inr rfl⟩, rfl, ⟨_, rfl, rfl, rfl, rfl, .inr rfl⟩, trivial⟩ rfl rfl rfl rfl rfl rfl rfl
      · rw [hb]
        (refine run ?_; repeat intro b)
        refine s_pureO rfl rfl rfl ⟨by omega, by rw [bl_S]; omega⟩ ?_
        refine s_pureO rfl rfl rfl (by show ((pathN n).take d).length + 1 ≤ 9223372036854775807; rw [List.length_take]; omega) ?_
        have es : S (bl (mkB (List.take ((d : Nat) : Int).toNat (bl (mkB (pathN n))))) ++ bl ⟨#[48]⟩) = S (sib (pathN n) d) := by
          rw [← sib_eq, hb, flip49]
          rfl
        rw [es]
        (refine run ?_; repeat intro b)
        refine s_lookup (lvlM l (begun l)) (sib (pathN n) d) und_map und_key rfl rfl zero_u64 rfl hm hM ?_
        rw [if_pos rfl]
        cases hbg : begun l (sib (pathN n) d) with
        | true =>
          rw [lvlM_yes hbg]
          (refine run ?_; repeat intro b)
          refine s_appR rfl rfl rfl rfl rfl rfl rfl rfl (src_row rfl rfl) (one_v _ (l := [mu (lvlN l (sib (pathN n) d))]) (by simp [one])) g2 g3 rfl (by show (16 - (d + 1)) * 1 ≤ _; rw [muV_len, sidesN_len]; omega) (by show _ * 8 ≤ _; omega) (fun h => by cases h) (fun _ b5 c5 hc5 => ?_)
          (refine run ?_; repeat intro b)
          rw [wrap_i64 (by omega) (by omega), e2]
          rw [e2] at hc5
          exact s_loopPq (d, some b5, c5) 4 [(6, 4), (2, 2), (1, 1), (0, 0)] [5, 6, 9, 10, 4] [(4, ⟨some b5, muV (sidesN l n (16 - d)), 29, c5 * 1⟩), (2, ⟨blk, enV (grp l (pathN n)), 70, cap * 2⟩), (1, ⟨some b9, [.v (S n), .row 2 0 (grp l (pathN n)).length cap, .row 4 0 (16 - d) c5], 35, 3⟩), (0, ⟨some b4, [.v (S []), .v (.slice none 0 0), .v (.slice none 0 0)], 35, 3⟩)]
            ⟨by omega, (fun h => by cases h), hc5⟩ (Nat.lt_succ_self d) (Nat.min_le_left _ _)
            ⟨rfl, ⟨_, rfl, rfl, rfl, rfl, .inl ⟨hcells.symm, hall⟩⟩, rfl, ⟨_, rfl, rfl, rfl, rfl, .inl ⟨rfl, enV_all _⟩⟩, rfl, ⟨_, rfl, rfl, rfl, rfl, .inr rfl⟩, rfl, ⟨_, rfl, rfl, rfl, rfl, .inr rfl⟩, trivial⟩ rfl rfl rfl rfl rfl rfl rfl
        | false =>
          rw [lvlM_no hbg]
          (refine run ?_; repeat intro b)
          refine s_plain _ rfl rfl rfl bd22 rfl (refmark_none F1) ?_
          rw [← lvlN_none hbg]
          (refine run ?_; repeat intro b)
          refine s_appR rfl rfl rfl rfl rfl rfl rfl rfl (src_row rfl rfl) (one_v _ (l := [mu (lvlN l (sib (pathN n) d))]) (by simp [one])) g2 g3 rfl (by show (16 - (d + 1)) * 1 ≤ _; rw [muV_len, sidesN_len]; omega) (by show _ * 8 ≤ _; omega) (fun h => by cases h) (fun _ b5 c5 hc5 => ?_)
          (refine run ?_; repeat intro b)
          rw [wrap_i64 (by omega) (by omega), e2]
          rw [e2] at hc5
          exact s_loopPq (d, some b5, c5) 4 [(6, 4), (2, 2), (1, 1), (0, 0)] [5, 6, 9, 10, 4] [(4, ⟨some b5, muV (sidesN l n (16 - d)), 29, c5 * 1⟩), (2, ⟨blk, enV (grp l (pathN n)), 70, cap * 2⟩), (1, ⟨some b9, [.v (S n), .row 2 0 (grp l (pathN n)).length cap, .row 4 0 (16 - d) c5], 35, 3⟩), (0, ⟨some b4, [.v (S []), .v (.slice none 0 0), .v (.slice none 0 0)], 35, 3⟩)]
            ⟨by omega, (fun h => by cases h), hc5⟩ (Nat.lt_succ_self d) (Nat.min_le_left _ _)
            ⟨rfl, ⟨_, rfl, rfl, rfl, rfl, .inl ⟨hcells.symm, hall⟩⟩, rfl, ⟨_, rfl, rfl, rfl, rfl, .inl ⟨rfl, enV_all _⟩⟩, rfl, ⟨_, rfl, rfl, rfl, rfl, .inr rfl⟩, rfl, ⟨_, rfl, rfl, rfl, rfl, .inr rfl⟩, trivial⟩ rfl rfl rfl rfl rfl rfl rfl
end Go.Proofs.YthkkgphjjmhglaaGreatDoor
