/-
Package serve: read: the walk.
-/
import Derived.Test.YthkmfihbpbehfaaServeReadT
namespace Go.Proofs.Ythkmfihbpbehfaa
set_option linter.unusedVariables false
set_option linter.unusedSimpArgs false
open Go.TR
attribute [local irreducible] vc vcOps seqK blockK loopK retK retG retI loopV Plain CallOK CallIn bodied VS vcAny dropG backK brK loopPK IntKind.wrap
attribute [local irreducible] getE getL readE readH readN rdO RdQ sidesR entsR pieceN muW enW Goes goesK bodyPostM owes
set_option maxRecDepth 100000
set_option maxHeartbeats 4000000
theorem serveread0_ok (s : List UInt8) (hs : s.length ≤ 4611686018427387904) (F : Hp) : CallF Try.prog F 125 [S s] (RdQ s) := by
  refine CallOK.drop (call_goes (N := 110) 5 Try.func125 rfl rfl rfl rfl fun w hw => ?_)
  refine goes_seq tbok mixed ?_
  (refine run ?_; repeat intro b)
  revert b; intro b2
  refine goes_seqn tbok mixed ?_
  (refine run ?_; repeat intro b)
  refine s_callF rfl rfl rfl bd156 rfl (get_ok s hs F) ?_
  rintro _ F1 hF1 ⟨p1, c1, rfl, hf1⟩
  (refine run ?_; repeat intro b)
  refine goes_seqn tbok mixed ?_
  have bad : rdO s = none → RdQ s (pair zrep (.bool false)) F1 := rd_none
  rcases getE_cases s with h0 | h0 | h0
  · rw [h0]
    by_cases h4 : (getL s).length = 4
    · obtain ⟨l0, l1, l2, l3, hL⟩ : ∃ l0 l1 l2 l3, getL s = [l0, l1, l2, l3] := by
        match hg : getL s, h4 with
        | [a, b, c, d], _ => exact ⟨a, b, c, d, rfl⟩
      have hrd := rd_four h0 hL
      rw [hL] at hf1 ⊢
      have k0 : Pcell F1 (padd p1 0) = some (S l0) := hf1 0 _ rfl
      have k1 : Pcell F1 (padd p1 1) = some (S l1) := hf1 1 _ rfl
      have k2 : Pcell F1 (padd p1 2) = some (S l2) := hf1 2 _ rfl
      have k3 : Pcell F1 (padd p1 3) = some (S l3) := hf1 3 _ rfl
      have hl3 : l3.length ≤ 4611686018427387904 := Nat.le_trans (getL_part (s := s) (by rw [hL]; simp)) (by decide)
      have kp : p1.isSome = true := frow_some hf1 (j := 0) (by simp)
      (refine run ?_; repeat intro b)
      refine s_pureO rfl rfl rfl ⟨by decide, by simp, kp⟩ ?_
      (refine run ?_; repeat intro b)
      refine s_load (S l2) rfl rfl rfl rfl k2 ?_
      (refine run ?_; repeat intro b)
      refine s_if (decide (l2.length ≠ 128)) ?_ (fun h5 => ?_) (fun h5 => ?_)
      · refine congrArg (fun b => some (EV.v (.bool b))) ?_
        rw [Bool.eq_iff_iff, bl_S]; simp; omega
      · (refine run ?_; repeat intro b)
        exact ret_goesC tbok rfl rfl (VS.id ⟨_, rfl, bad (by rw [hrd, if_neg]; unfold rdOk; rw [decide_eq_false (of_decide_eq_true h5)]; simp)⟩)
      · have h128 : l2.length = 128 := by have := of_decide_eq_false h5; omega
        (refine run ?_; repeat intro b)
        refine goes_seqn tbok mixed ?_
        (refine run ?_; repeat intro b)
        refine s_pureO rfl rfl rfl ⟨by decide, by simp, kp⟩ ?_
        refine s_load (S l0) rfl rfl rfl rfl k0 ?_
        refine s_plain _ rfl rfl rfl bd157 rfl (headread_ok l0 F1) ?_
        (refine run ?_; repeat intro b)
        revert b; intro b6
        refine goes_seqn tbok mixed ?_
        (refine run ?_; repeat intro b)
        refine s_pureO rfl rfl rfl ⟨by decide, by simp, kp⟩ ?_
        refine s_load (S l3) rfl rfl rfl rfl k3 ?_
        refine s_callF rfl rfl rfl bd156 rfl (get_okC l3 hl3 F1) ?_
        rintro _ F2 hF2 ⟨p3, c3, rfl, hf3, hc3⟩
        (refine run ?_; repeat intro b)
        refine goes_seqn tbok mixed ?_
        have bad2 : rdOk l0 l2 l3 = false → RdQ s (pair zrep (.bool false)) F2 := fun h => rd_none (by rw [hrd, h]; rfl)
        rcases readE_cases l0 with h6 | h6
        · rw [h6]
          rcases getE_cases l3 with h7 | h7 | h7
          · rw [h7]
            (refine run ?_; repeat intro b)
            refine s_if (decide ((getL l3).length % 2 ≠ 0)) ?_ (fun h8 => ?_) (fun h8 => ?_)
            · refine congrArg (fun b => some (EV.v (.bool b))) ?_
              have et : (((getL l3).length : Nat) : Int).tmod 2 = (((getL l3).length % 2 : Nat) : Int) := rfl
              rw [et, Bool.eq_iff_iff]; simp; omega
            · (refine run ?_; repeat intro b)
              exact ret_goesC tbok rfl rfl (VS.id ⟨_, rfl, bad2 (rdOk_no3 (of_decide_eq_true h8))⟩)
            · have h8 : (getL l3).length % 2 = 0 := by have := of_decide_eq_false h8; omega
              have hok := rdOk_yes h128 h6 h7 h8
              rw [hok, if_pos rfl] at hrd
              (refine run ?_; repeat intro b)
              refine goes_seqn tbok mixed ?_
              refine s_regiona [1] (by kernel_rfl) ?_
              refine s_firsts [0, 1, 2, 3, 4, 5] (f' := 2) (by kernel_rfl) rfl rfl rfl ?_
              (refine run ?_; repeat intro b)
              refine s_pureO rfl rfl rfl ⟨by decide, by simp, kp⟩ ?_
              refine s_load (S l1) rfl rfl rfl rfl (pcell_sub hF2 k1) ?_
              (refine run ?_; repeat intro b)
              refine s_one 6 (by kernel_rfl) rfl rfl ?_
              (refine run ?_; repeat intro b)
              revert b; intro b9
              refine s_br (Hp.sub.refl _) ⟨⟨rfl, rfl, rfl, rfl, rfl, trivial⟩, trivial⟩ ?_
              refine s_one 7 (by kernel_rfl) rfl rfl ?_
              (refine run ?_; repeat intro b)
              refine s_br (Hp.sub.refl _) ⟨⟨rfl, rfl, rfl, rfl, rfl, trivial⟩, trivial⟩ ?_
              refine s_stop (by kernel_rfl) ?_
              (refine run ?_; repeat intro b)
              refine goes_seqn tbok mixed ?_
              (refine run ?_; repeat intro b)
              refine s_loopP (fun q : Nat × Option Nat × Nat => q.1 ≤ 16 ∧ (q.2.1 = none → q.1 = 0 ∧ q.2.2 = 0) ∧ q.1 ≤ q.2.2)
                (fun q => ⟨[(2, .loc 0 0), (4, .v (.slice p1 4 c1)), (7, .v (.slice p3 (getL l3).length c3)), (9, .loc 2 0), (67, .v (i64 (q.1 : Nat)))], F2, [(4, ⟨none, [], 107, 0⟩), (3, ⟨q.2.1, muW (sidesR l2 q.1), 26, q.2.2 * 1⟩), (2, ⟨some b9, [.v (i64 (readH l0).epoch), .v (u64 ((readH l0).root : Nat)), .v (u64 ((readH l0).prev : Nat)), .v (i64 (readH l0).at_), .v (S l1), .row 4 0 0 0, .row 3 0 q.1 q.2.2], 34, 7⟩), (0, ⟨some b2, [.v (i64 0), .v (u64 0), .v (u64 0), .v (i64 0), .v (S []), .v (.slice none 0 0), .v (.slice none 0 0)], 34, 7⟩)], 5⟩) (fun q => 16 - q.1) (0, none, 0) ⟨Nat.zero_le _, fun _ => ⟨rfl, rfl⟩, Nat.le_refl _⟩
                (VS.trans (VS.keepN [2, 4, 7, 9, 67] rfl (VS.addnil 26 (VS.addnil 107 (VS.recell 2 ([.v (i64 (readH l0).epoch), .v (u64 ((readH l0).root : Nat)), .v (u64 ((readH l0).prev : Nat)), .v (i64 (readH l0).at_), .v (S l1), .row 4 0 0 0, .row 3 0 0 0]) rfl ⟨⟨trivial, rfl⟩, ⟨trivial, rfl⟩, ⟨trivial, rfl⟩, ⟨trivial, rfl⟩, ⟨trivial, rfl⟩, ⟨(by decide : 4 < 5), rfl⟩, ⟨(by decide : 3 < 5), rfl⟩, trivial⟩ rfl (VS.dropR [1] rfl (VS.id (by rw [sidesR_zero, muW_nil]; rfl)))))))) ?_
              rintro ⟨k, blk, cap⟩ ⟨g1, g2, g3⟩
              dsimp only at g1 g2 g3 ⊢
              by_cases hlt : k < 16
              · have e1 : IntKind.i64.wrap (8 * (k : Int)) = ((8 * k : Nat) : Int) := by rw [wrap_i64 (by omega) (by omega)]; omega
                have e2 : IntKind.i64.wrap (((8 * k : Nat) : Int) + 8) = ((8 * k + 8 : Nat) : Int) := by rw [wrap_i64 (by omega) (by omega)]; omega
                (refine run ?_; repeat intro b)
                refine s_if true (by rw [← decide_eq_true (p := ((k : Nat) : Int) < 16) (by omega)]; rfl) (fun _ => ?_) (fun h => by cases h)
                (refine run ?_; repeat intro b)
                refine s_pureO rfl rfl rfl ⟨by decide, by decide, kp⟩ ?_
                refine s_load (S l2) rfl rfl rfl rfl (pcell_sub hF2 k2) ?_
                (refine run ?_; repeat intro b)
                rw [e1, e2]
                refine s_pureO rfl rfl rfl ⟨by omega, by omega, by rw [bl_S]; omega⟩ ?_
                rw [bl_S, Int.toNat_natCast, Int.toNat_natCast]
                refine s_plain _ rfl rfl rfl bd158 rfl (readnum_ok _ F2) ?_
                rw [pieceN_eq]
                (refine run ?_; repeat intro b)
                refine s_appR rfl rfl rfl rfl rfl rfl rfl rfl (src_row rfl rfl) (one_v _ (l := [mu (pieceN l2 k)]) (by simp [one])) g2 g3 rfl (by rw [muW_len, sidesR_len]; exact Nat.le_of_eq (Nat.mul_one _)) (by show _ * 8 ≤ _; omega) (fun h => by cases h) (fun _ b5 c5 hc5 => ?_)
                (refine run ?_; repeat intro b)
                have hcells : (muW (sidesR l2 k)).take (k * 1) ++ [.v (mu (pieceN l2 k))] = muW (sidesR l2 (k + 1)) := by
                  have := muW_snoc (sidesR l2 k) (pieceN l2 k)
                  rw [sidesR_len] at this
                  rw [sidesR_succ, ← this]
                have hall : ∀ e ∈ (muW (sidesR l2 k)).take (k * 1) ++ [.v (mu (pieceN l2 k))], ∃ v, e = EV.v v := fun e he => by
                  rw [hcells] at he
                  exact muW_all _ e he
                rw [wrap_succ (by omega)]
                exact s_loopPq (k + 1, some b5, c5) 3 [(4, 4), (6, 3), (2, 2), (0, 0)] [2, 4, 7, 9, 67] [(4, ⟨none, [], 107, 0⟩), (3, ⟨some b5, muW (sidesR l2 (k + 1)), 26, c5 * 1⟩), (2, ⟨some b9, [.v (i64 (readH l0).epoch), .v (u64 ((readH l0).root : Nat)), .v (u64 ((readH l0).prev : Nat)), .v (i64 (readH l0).at_), .v (S l1), .row 4 0 0 0, .row 3 0 (k + 1) c5], 34, 7⟩), (0, ⟨some b2, [.v (i64 0), .v (u64 0), .v (u64 0), .v (i64 0), .v (S []), .v (.slice none 0 0), .v (.slice none 0 0)], 34, 7⟩)]
                  ⟨by omega, (fun h => by cases h), hc5⟩ (by simp only; omega) (Nat.min_le_left _ _)
                  ⟨rfl, ⟨_, rfl, rfl, rfl, rfl, .inr rfl⟩, rfl, ⟨_, rfl, rfl, rfl, rfl, .inl ⟨hcells.symm, hall⟩⟩, rfl, ⟨_, rfl, rfl, rfl, rfl, .inr rfl⟩, rfl, ⟨_, rfl, rfl, rfl, rfl, .inr rfl⟩, trivial⟩ rfl rfl rfl rfl rfl rfl rfl
              · have hge : k = 16 := by omega
                subst hge
                cases blk with
                | none => exact absurd (g2 rfl).1 (by decide)
                | some b3 =>
                (refine run ?_; repeat intro b)
                refine goes_seq2 tbok mixed ?_
                (refine run ?_; repeat intro b)
                refine s_callF rfl rfl rfl bd159 rfl (chunk_in p3 (getL l3).length c3 F2) ?_
                rintro _ F3 hF3 ⟨q1, q2, rfl, m1, m2⟩
                (refine run ?_; repeat intro b)
                refine goesK_n (goes_hole fun a W hS => ?_)
                exact read_tail s l0 l1 l2 l3 hrd h8 (frow_sub hF3 hf3) hc3 m1 m2 (keepN_sat (slots := [2, 9, 93]) rfl hS)
          · have hb := bad2 (rdOk_no2 (by rw [h7]; decide))
            rw [h7]
            (refine run ?_; repeat intro b)
            exact ret_goesC tbok rfl rfl (VS.id ⟨_, rfl, hb⟩)
          · have hb := bad2 (rdOk_no2 (by rw [h7]; decide))
            rw [h7]
            (refine run ?_; repeat intro b)
            exact ret_goesC tbok rfl rfl (VS.id ⟨_, rfl, hb⟩)
        · have hb := bad2 (rdOk_no1 (by rw [h6]; decide))
          rw [h6]
          (refine run ?_; repeat intro b)
          exact ret_goesC tbok rfl rfl (VS.id ⟨_, rfl, hb⟩)
    · (refine run ?_; repeat intro b)
      have hc : ¬ (((getL s).length : Int) != 4) = false := by simp; omega
      refine s_gpureO rfl rfl rfl rfl rfl (fun hg => absurd hg.1 hc) ?_
      refine s_gload (S []) rfl rfl rfl rfl rfl rfl (fun hg => absurd hg.1 hc) ?_
      (refine run ?_; repeat intro b)
      refine s_if true ?_ (fun _ => ?_) (fun h => by cases h)
      · refine congrArg (fun b => some (EV.v (.bool b))) ?_
        rw [bpick_or]
        simp
      (refine run ?_; repeat intro b)
      exact ret_goesC tbok rfl rfl (VS.id ⟨_, rfl, bad (rd_len h4)⟩)
  · have hr := bad (rd_err (by rw [h0]; decide))
    rw [h0]
    (refine run ?_; repeat intro b)
    exact ret_goesC tbok rfl rfl (VS.id ⟨_, rfl, hr⟩)
  · have hr := bad (rd_err (by rw [h0]; decide))
    rw [h0]
    (refine run ?_; repeat intro b)
    exact ret_goesC tbok rfl rfl (VS.id ⟨_, rfl, hr⟩)
end Go.Proofs.Ythkmfihbpbehfaa
