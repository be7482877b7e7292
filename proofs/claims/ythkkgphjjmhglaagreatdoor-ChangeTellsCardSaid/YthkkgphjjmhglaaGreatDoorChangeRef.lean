/-
The reference's Differ and Looked: the walks.
-/
import Derived.Test.YthkkgphjjmhglaaGreatDoorChange
import Derived.Test.YthkkgphjjmhglaaGreatDoorOrd
import Derived.Test.YthkkgphjjmhglaaGreatDoorSetFwK
import Derived.Test.YthkkgphjjmhglaaGreatDoorFwO
namespace Go.Proofs.YthkkgphjjmhglaaGreatDoor
set_option linter.unusedVariables false
set_option linter.unusedSimpArgs false
open Go.TR
theorem diffE_len (A B : List Entry) : (A ++ B).length = A.length + B.length := List.length_append
theorem names_app (A B : List Entry) : (A ++ B).map Entry.name = A.map Entry.name ++ B.map Entry.name := List.map_append
theorem allv_list : ∀ {l : List EV}, (∀ e ∈ l, ∃ x, e = EV.v x) → ∃ P : List Value, l = P.map EV.v
  | [], _ => ⟨[], rfl⟩
  | e :: t, h => by
    obtain ⟨x, rfl⟩ := h e (List.mem_cons_self ..)
    obtain ⟨P, rfl⟩ := allv_list fun e he => h e (List.mem_cons_of_mem _ he)
    exact ⟨x :: P, rfl⟩
attribute [local irreducible] vc vcOps seqK blockK loopK retK retG retI loopV Plain CallOK CallIn bodied VS vcAny dropG backK brK loopPK IntKind.wrap
attribute [local irreducible] bookFault bothN unlikeN pathN goodName standsO differP differN ordN diffL lvlN lvlM begun seenN cntN noneM markN
set_option maxRecDepth 100000
set_option maxHeartbeats 4000000
theorem refdiffer_ok (A B : List Entry) (hA24 : A.length ≤ 24) (hB24 : B.length ≤ 24) (hwa : ∀ x ∈ A, x.wf) (hwb : ∀ x ∈ B, x.wf) {pa pb : Option Addr} {ca cb : Nat} {F : Hp} (hfa : Frow F pa (A.flatMap Entry.row)) (hfb : Frow F pb (B.flatMap Entry.row)) :
    CallF Tryz.prog F 36 [.slice pa A.length ca, .slice pb B.length cb] (fun x F' => ∃ p' c', x = .slice p' (differN A B).length c' ∧ Frow F' p' ((differN A B).map S)) := by
  have hbl := both_len A B
  have hAB := diffE_len A B
  refine CallOK.drop (call_vc (N := 63) (rv := [.tmp 4]) tbok mixed Tryz.func36 rfl rfl rfl rfl rfl ?_)
  (refine run ?_; repeat intro b)
  refine s_appV [] rfl rfl rfl rfl rfl rfl rfl (frow_nil _ _) (src_frz (flat_len entry_row _) hfa) (one_v _ (entry_one _)) (by show (0 + _) * 32 ≤ _; omega) (fun hm => ?_) (fun hm b1 c1 hc1 => ?_)
  · have hnA : A = [] := List.eq_nil_of_length_eq_zero hm
    (refine run ?_; repeat intro b)
    refine s_appV [] rfl rfl rfl rfl rfl rfl rfl (frow_nil _ _) (src_frz (flat_len entry_row _) hfb) (one_v _ (entry_one _)) (by show (0 + _) * 32 ≤ _; omega) (fun hm2 => ?_) (fun hm2 b2 c2 hc2 => ?_)
    · have hnB : B = [] := List.eq_nil_of_length_eq_zero hm2
      have hz : (A ++ B).length = 0 := by omega
      have hf0 : Frow F none ((A ++ B).flatMap Entry.row) := by rw [hnA, hnB]; exact frow_nil _ _
      refine s_shift (VS.ren (nx' := 5) [] [0, 1, 5, 6, 18] [] trivial rfl rfl rfl rfl rfl rfl ?_)
      (refine run ?_; repeat intro b)
      refine s_loopP (fun q : Nat × Option Nat × Nat => q.1 ≤ (A ++ B).length ∧ (q.2.1 = none → q.1 = 0 ∧ q.2.2 = 0) ∧ q.1 ≤ q.2.2)
        (fun q => ⟨[(5, .row 5 0 q.1 q.2.2), (0, .v (.slice pa A.length ca)), (1, .v (.slice pb B.length cb)), (6, .v (.slice none 0 0)), (18, .v (.slice (none) (A ++ B).length 0)), (19, .v (i64 ((A ++ B).length : Nat))), (20, .v (i64 (q.1 : Nat)))], F, [(5, ⟨q.2.1, ((((A ++ B).take q.1).map Entry.name).map S).map EV.v, 9, q.2.2 * 1⟩)], 6⟩) (fun q => (A ++ B).length - q.1) (0, none, 0) ⟨Nat.zero_le _, fun _ => ⟨rfl, rfl⟩, Nat.le_refl _⟩ (VS.nilrow 5 9 [0, 1, 6, 18, 19, 20] rfl rfl (VS.id (by simp only [hz, Int.ofNat_zero, Int.natCast_zero, List.take_zero, List.map_nil]))) ?_
      rintro ⟨k, blk, cap⟩ ⟨g1, g3, g4⟩
      dsimp only at g1 g3 g4 ⊢
      by_cases hlt : k < (A ++ B).length
      · obtain ⟨o1, o2⟩ := frow_agg entry_row (by decide) (hf0) k hlt
        have hst : ((A ++ B).take (k + 1)).map Entry.name = ((A ++ B).take k).map Entry.name ++ [(A ++ B)[k].name] := by rw [List.take_succ_eq_append_getElem hlt, List.map_append]; rfl
        have hlen : (((A ++ B).take k).map Entry.name).length = k := by rw [List.length_map, List.length_take]; omega
        generalize (A ++ B)[k] = x at o2 hst
        generalize ((A ++ B).take k).map Entry.name = L at hst hlen ⊢
        (refine run ?_; repeat intro b)
        refine s_if true (by rw [← decide_eq_true (p := ((k : Nat) : Int) < (((A ++ B).length : Nat) : Int)) (by omega)]; rfl) (fun _ => ?_) (fun h => by cases h)
        (refine run ?_; repeat intro b)
        refine s_pureO rfl rfl rfl ⟨by omega, by omega, frow_some (hf0) (j := k * 2) (by rw [flat_len entry_row]; omega)⟩ ?_
        refine s_loadA x.row rfl rfl rfl rfl rfl (by rw [Int.toNat_natCast]; exact o1) (by rw [Int.toNat_natCast]; exact o2) ?_
        (refine run ?_; repeat intro b)
        refine s_appR rfl rfl rfl rfl rfl rfl rfl rfl (src_row rfl rfl) (one_v _ (l := [S x.name]) (fun v hv => by rw [List.mem_singleton.1 hv]; rfl)) g3 g4 rfl (by rw [List.length_map, List.length_map, hlen]; exact Nat.le_of_eq (Nat.mul_one _)) (by show _ * 16 ≤ _; omega) (fun h => by cases h) (fun _ b5 c5 hc5 => ?_)
        (refine run ?_; repeat intro b)
        have hcells := S_snoc L x.name k hlen
        rw [wrap_succ (by omega)]
        exact s_loopPq (k + 1, some b5, c5) 5 [(8, 5)] [5, 0, 1, 6, 18, 19, 20] [(5, ⟨some b5, ((((A ++ B).take (k + 1)).map Entry.name).map S).map EV.v, 9, c5 * 1⟩)]
          ⟨hlt, (fun h => by cases h), hc5⟩ (by simp only; omega) (by simp)
          ⟨rfl, ⟨_, rfl, rfl, rfl, rfl, .inl ⟨by rw [hst]; exact hcells.symm, fun e he => all_v _ e (hcells ▸ he)⟩⟩, trivial⟩ rfl rfl rfl rfl rfl rfl rfl
      have hge : k = (A ++ B).length := by omega
      subst hge
      rw [List.take_length]
      (refine run ?_; repeat intro b)
      refine s_if false (by rw [← decide_eq_false (p := (((A ++ B).length : Nat) : Int) < (((A ++ B).length : Nat) : Int)) (by omega)]; rfl) (fun h => by cases h) (fun _ => ?_)
      (refine run ?_; repeat intro b)
      refine s_shift (VS.trans (VS.shut (fun pn => [(0, .v (.slice pa A.length ca)), (1, .v (.slice pb B.length cb)), (6, .v (.slice none 0 0)), (30, .v (.slice pn (A ++ B).length cap))]) 5 [0, 1, 6, 30] rfl (allV_map_v _) (fun _ => rfl) rfl (fun _ => rfl) rfl fun F2 pn hs2 hf2 => VS.ren (nx' := 9) [] [0, 1, 6, 30] [] trivial rfl rfl rfl rfl rfl rfl ?_))
      have ho := ordered_ok ((A ++ B).map Entry.name) (c := cap) (by rw [List.length_map]; omega) (fun s hs => by
        rw [names_app] at hs
        exact both_big hwa hwb (by unfold bothN; exact (ordN_mem _ s).2 hs)) hf2
      have hO : ordN ((A ++ B).map Entry.name) = bothN A B := by unfold bothN; rw [names_app]
      rw [hO, List.length_map] at ho
      refine s_callF rfl rfl rfl bd84 rfl ho ?_
      rintro _ F4 hF4 ⟨p4, c4, rfl, hf4⟩
      have hF04 := Hp.sub.trans (Hp.sub.refl _) (hs2.trans hF4)
      have hga := frow_sub hF04 hfa
      have hgb := frow_sub hF04 hfb
      (refine run ?_; repeat intro b)
      refine s_loopP (fun q : Nat × Option Nat × Nat => q.1 ≤ (bothN A B).length ∧ (q.2.1 = none → (diffL A B [] q.1).length = 0 ∧ q.2.2 = 0) ∧ (diffL A B [] q.1).length ≤ q.2.2)
        (fun q => ⟨[(6, .row 9 0 (diffL A B [] q.1).length q.2.2), (0, .v (.slice pa A.length ca)), (1, .v (.slice pb B.length cb)), (31, .v (.slice p4 (bothN A B).length c4)), (32, .v (i64 ((bothN A B).length : Nat))), (33, .v (i64 (q.1 : Nat)))], F4, [(9, ⟨q.2.1, ((diffL A B [] q.1).map S).map EV.v, 9, q.2.2 * 1⟩)], 10⟩) (fun q => (bothN A B).length - q.1) (0, none, 0) ⟨Nat.zero_le _, fun _ => ⟨by rw [diffL_zero]; rfl, rfl⟩, by rw [diffL_zero]; exact Nat.le_refl _⟩ (VS.nilrow 6 9 [0, 1, 31, 32, 33] rfl rfl (VS.id (by rw [diffL_zero]; rfl))) ?_
      rintro ⟨k, blk2, cap2⟩ ⟨g1, g3, g4⟩
      dsimp only at g1 g3 g4 ⊢
      have hdl := diffL_len A B [] k
      by_cases hlt : k < (bothN A B).length
      · have g := frow_get hf4 (j := k) (by rw [List.length_map]; exact hlt)
        rw [List.getElem_map] at g
        have hst := diffL_step (p := []) hlt
        have hm := List.getElem_mem hlt
        have ua : ([].isPrefixOf (pathN (bothN A B)[k]) && unlikeN A B (bothN A B)[k]) = decide (standsO A (bothN A B)[k] ≠ standsO B (bothN A B)[k]) := by unfold unlikeN; rfl
        generalize (bothN A B)[k] = n at g hst ua
        rw [← opt_ne] at ua
        generalize hL : diffL A B [] k = L at *
        (refine run ?_; repeat intro b)
        refine s_if true (by rw [← decide_eq_true (p := ((k : Nat) : Int) < (((bothN A B).length : Nat) : Int)) (by omega)]; rfl) (fun _ => ?_) (fun h => by cases h)
        (refine run ?_; repeat intro b)
        refine s_pureO rfl rfl rfl ⟨by omega, by omega, frow_some hf4 (j := k) (by rw [List.length_map]; exact hlt)⟩ ?_
        refine s_load (S n) rfl rfl rfl rfl (by rw [Int.toNat_natCast, Nat.mul_one]; exact g) ?_
        (refine run ?_; repeat intro b)
        refine s_plain _ rfl rfl rfl bd11 rfl (refstands_ok A n (by omega) hga) ?_
        (refine run ?_; repeat intro b)
        refine s_plain _ rfl rfl rfl bd11 rfl (refstands_ok B n (by omega) hgb) ?_
        (refine run ?_; repeat intro b)
        refine s_if ([].isPrefixOf (pathN n) && unlikeN A B n) ?_ (fun h => ?_) (fun h => ?_)
        · refine congrArg (fun b => some (EV.v (.bool b))) ?_
          rw [bpick_or, ua, bl_S, bl_S]
          rfl
        · rw [if_pos h] at hst
          have hL2 : (diffL A B [] (k + 1)).length = L.length + 1 := by rw [hst, List.length_append]; rfl
          (refine run ?_; repeat intro b)
          refine s_appR rfl rfl rfl rfl rfl rfl rfl rfl (src_row rfl rfl) (one_v _ (l := [S n]) (fun v hv => by rw [List.mem_singleton.1 hv]; rfl)) g3 g4 rfl (by rw [List.length_map, List.length_map]; exact Nat.le_of_eq (Nat.mul_one _)) (by show _ * 16 ≤ _; omega) (fun h => by cases h) (fun _ b5 c5 hc5 => ?_)
          (refine run ?_; repeat intro b)
          have hcells := S_snoc L n L.length rfl
          rw [wrap_succ (by omega)]
          rw [← hL2] at hc5
          exact s_loopPq (k + 1, some b5, c5) 9 [(11, 9)] [6, 0, 1, 31, 32, 33] [(9, ⟨some b5, ((diffL A B [] (k + 1)).map S).map EV.v, 9, c5 * 1⟩)]
            ⟨hlt, (fun h => by cases h), hc5⟩ (by simp only; omega) (by simp)
            ⟨rfl, ⟨_, rfl, rfl, rfl, rfl, .inl ⟨by rw [hst]; exact hcells.symm, fun e he => all_v _ e (hcells ▸ he)⟩⟩, trivial⟩ rfl rfl rfl rfl rfl rfl (by rw [hL2])
        · rw [if_neg (by rw [h]; decide)] at hst
          (refine run ?_; repeat intro b)
          rw [wrap_succ (by omega)]
          exact s_loopPq (k + 1, blk2, cap2) 9 [(9, 9)] [6, 0, 1, 31, 32, 33] [(9, ⟨blk2, ((diffL A B [] (k + 1)).map S).map EV.v, 9, cap2 * 1⟩)]
            ⟨hlt, by rw [hst]; exact g3, by rw [hst]; exact g4⟩ (by simp only; omega) (by simp)
            ⟨rfl, ⟨_, rfl, rfl, rfl, rfl, .inl ⟨by rw [hst], fun e he => all_v _ e he⟩⟩, trivial⟩ rfl rfl rfl rfl rfl rfl (by rw [hst])
      have hge : k = (bothN A B).length := by omega
      subst hge
      rw [diffL_all, differP_nil]
      (refine run ?_; repeat intro b)
      refine s_if false (by rw [← decide_eq_false (p := (((bothN A B).length : Nat) : Int) < (((bothN A B).length : Nat) : Int)) (by omega)]; rfl) (fun h => by cases h) (fun _ => ?_)
      (refine run ?_; repeat intro b)
      exact s_retG (VS.shut (fun pp => [(4, .v (.slice pp (differN A B).length cap2))]) 9 [4] rfl (allV_map_v _) (fun _ => rfl) rfl (fun _ => rfl) rfl fun F5 p5 hs5 hf5 => ⟨_, rfl, p5, cap2, rfl, hf5⟩)
    · rw [Nat.zero_add] at hc2
      have hn2 : 0 + B.length = (A ++ B).length := by omega
      have hl2 : B = A ++ B := by rw [hnA]; rfl
      refine s_shift (VS.freeze 0 [0, 1, 5, 6, 18] rfl (allV_map_v _) rfl rfl fun F1 hs1 hf1 => VS.ren (nx' := 5) [] [0, 1, 5, 6, 18] [] trivial rfl rfl rfl rfl rfl rfl ?_)
      rw [hl2] at hf1
      rw [hn2]
      (refine run ?_; repeat intro b)
      refine s_loopP (fun q : Nat × Option Nat × Nat => q.1 ≤ (A ++ B).length ∧ (q.2.1 = none → q.1 = 0 ∧ q.2.2 = 0) ∧ q.1 ≤ q.2.2)
        (fun q => ⟨[(5, .row 5 0 q.1 q.2.2), (0, .v (.slice pa A.length ca)), (1, .v (.slice pb B.length cb)), (6, .v (.slice none 0 0)), (18, .v (.slice (some ⟨b2, 0, none⟩) (A ++ B).length c2)), (19, .v (i64 ((A ++ B).length : Nat))), (20, .v (i64 (q.1 : Nat)))], F1, [(5, ⟨q.2.1, ((((A ++ B).take q.1).map Entry.name).map S).map EV.v, 9, q.2.2 * 1⟩)], 6⟩) (fun q => (A ++ B).length - q.1) (0, none, 0) ⟨Nat.zero_le _, fun _ => ⟨rfl, rfl⟩, Nat.le_refl _⟩ (VS.nilrow 5 9 [0, 1, 6, 18, 19, 20] rfl rfl (VS.id (rfl))) ?_
      rintro ⟨k, blk, cap⟩ ⟨g1, g3, g4⟩
      dsimp only at g1 g3 g4 ⊢
      by_cases hlt : k < (A ++ B).length
      · obtain ⟨o1, o2⟩ := frow_agg entry_row (by decide) (hf1) k hlt
        have hst : ((A ++ B).take (k + 1)).map Entry.name = ((A ++ B).take k).map Entry.name ++ [(A ++ B)[k].name] := by rw [List.take_succ_eq_append_getElem hlt, List.map_append]; rfl
        have hlen : (((A ++ B).take k).map Entry.name).length = k := by rw [List.length_map, List.length_take]; omega
        generalize (A ++ B)[k] = x at o2 hst
        generalize ((A ++ B).take k).map Entry.name = L at hst hlen ⊢
        (refine run ?_; repeat intro b)
        refine s_if true (by rw [← decide_eq_true (p := ((k : Nat) : Int) < (((A ++ B).length : Nat) : Int)) (by omega)]; rfl) (fun _ => ?_) (fun h => by cases h)
        (refine run ?_; repeat intro b)
        refine s_pureO rfl rfl rfl ⟨by omega, by omega, frow_some (hf1) (j := k * 2) (by rw [flat_len entry_row]; omega)⟩ ?_
        refine s_loadA x.row rfl rfl rfl rfl rfl (by rw [Int.toNat_natCast]; exact o1) (by rw [Int.toNat_natCast]; exact o2) ?_
        (refine run ?_; repeat intro b)
        refine s_appR rfl rfl rfl rfl rfl rfl rfl rfl (src_row rfl rfl) (one_v _ (l := [S x.name]) (fun v hv => by rw [List.mem_singleton.1 hv]; rfl)) g3 g4 rfl (by rw [List.length_map, List.length_map, hlen]; exact Nat.le_of_eq (Nat.mul_one _)) (by show _ * 16 ≤ _; omega) (fun h => by cases h) (fun _ b5 c5 hc5 => ?_)
        (refine run ?_; repeat intro b)
        have hcells := S_snoc L x.name k hlen
        rw [wrap_succ (by omega)]
        exact s_loopPq (k + 1, some b5, c5) 5 [(8, 5)] [5, 0, 1, 6, 18, 19, 20] [(5, ⟨some b5, ((((A ++ B).take (k + 1)).map Entry.name).map S).map EV.v, 9, c5 * 1⟩)]
          ⟨hlt, (fun h => by cases h), hc5⟩ (by simp only; omega) (by simp)
          ⟨rfl, ⟨_, rfl, rfl, rfl, rfl, .inl ⟨by rw [hst]; exact hcells.symm, fun e he => all_v _ e (hcells ▸ he)⟩⟩, trivial⟩ rfl rfl rfl rfl rfl rfl rfl
      have hge : k = (A ++ B).length := by omega
      subst hge
      rw [List.take_length]
      (refine run ?_; repeat intro b)
      refine s_if false (by rw [← decide_eq_false (p := (((A ++ B).length : Nat) : Int) < (((A ++ B).length : Nat) : Int)) (by omega)]; rfl) (fun h => by cases h) (fun _ => ?_)
      (refine run ?_; repeat intro b)
      refine s_shift (VS.trans (VS.shut (fun pn => [(0, .v (.slice pa A.length ca)), (1, .v (.slice pb B.length cb)), (6, .v (.slice none 0 0)), (30, .v (.slice pn (A ++ B).length cap))]) 5 [0, 1, 6, 30] rfl (allV_map_v _) (fun _ => rfl) rfl (fun _ => rfl) rfl fun F2 pn hs2 hf2 => VS.ren (nx' := 9) [] [0, 1, 6, 30] [] trivial rfl rfl rfl rfl rfl rfl ?_))
      have ho := ordered_ok ((A ++ B).map Entry.name) (c := cap) (by rw [List.length_map]; omega) (fun s hs => by
        rw [names_app] at hs
        exact both_big hwa hwb (by unfold bothN; exact (ordN_mem _ s).2 hs)) hf2
      have hO : ordN ((A ++ B).map Entry.name) = bothN A B := by unfold bothN; rw [names_app]
      rw [hO, List.length_map] at ho
      refine s_callF rfl rfl rfl bd84 rfl ho ?_
      rintro _ F4 hF4 ⟨p4, c4, rfl, hf4⟩
      have hF04 := Hp.sub.trans (hs1) (hs2.trans hF4)
      have hga := frow_sub hF04 hfa
      have hgb := frow_sub hF04 hfb
      (refine run ?_; repeat intro b)
      refine s_loopP (fun q : Nat × Option Nat × Nat => q.1 ≤ (bothN A B).length ∧ (q.2.1 = none → (diffL A B [] q.1).length = 0 ∧ q.2.2 = 0) ∧ (diffL A B [] q.1).length ≤ q.2.2)
        (fun q => ⟨[(6, .row 9 0 (diffL A B [] q.1).length q.2.2), (0, .v (.slice pa A.length ca)), (1, .v (.slice pb B.length cb)), (31, .v (.slice p4 (bothN A B).length c4)), (32, .v (i64 ((bothN A B).length : Nat))), (33, .v (i64 (q.1 : Nat)))], F4, [(9, ⟨q.2.1, ((diffL A B [] q.1).map S).map EV.v, 9, q.2.2 * 1⟩)], 10⟩) (fun q => (bothN A B).length - q.1) (0, none, 0) ⟨Nat.zero_le _, fun _ => ⟨by rw [diffL_zero]; rfl, rfl⟩, by rw [diffL_zero]; exact Nat.le_refl _⟩ (VS.nilrow 6 9 [0, 1, 31, 32, 33] rfl rfl (VS.id (by rw [diffL_zero]; rfl))) ?_
      rintro ⟨k, blk2, cap2⟩ ⟨g1, g3, g4⟩
      dsimp only at g1 g3 g4 ⊢
      have hdl := diffL_len A B [] k
      by_cases hlt : k < (bothN A B).length
      · have g := frow_get hf4 (j := k) (by rw [List.length_map]; exact hlt)
        rw [List.getElem_map] at g
        have hst := diffL_step (p := []) hlt
        have hm := List.getElem_mem hlt
        have ua : ([].isPrefixOf (pathN (bothN A B)[k]) && unlikeN A B (bothN A B)[k]) = decide (standsO A (bothN A B)[k] ≠ standsO B (bothN A B)[k]) := by unfold unlikeN; rfl
        generalize (bothN A B)[k] = n at g hst ua
        rw [← opt_ne] at ua
        generalize hL : diffL A B [] k = L at *
        (refine run ?_; repeat intro b)
        refine s_if true (by rw [← decide_eq_true (p := ((k : Nat) : Int) < (((bothN A B).length : Nat) : Int)) (by omega)]; rfl) (fun _ => ?_) (fun h => by cases h)
        (refine run ?_; repeat intro b)
        refine s_pureO rfl rfl rfl ⟨by omega, by omega, frow_some hf4 (j := k) (by rw [List.length_map]; exact hlt)⟩ ?_
        refine s_load (S n) rfl rfl rfl rfl (by rw [Int.toNat_natCast, Nat.mul_one]; exact g) ?_
        (refine run ?_; repeat intro b)
        refine s_plain _ rfl rfl rfl bd11 rfl (refstands_ok A n (by omega) hga) ?_
        (refine run ?_; repeat intro b)
        refine s_plain _ rfl rfl rfl bd11 rfl (refstands_ok B n (by omega) hgb) ?_
        (refine run ?_; repeat intro b)
        refine s_if ([].isPrefixOf (pathN n) && unlikeN A B n) ?_ (fun h => ?_) (fun h => ?_)
        · refine congrArg (fun b => some (EV.v (.bool b))) ?_
          rw [bpick_or, ua, bl_S, bl_S]
          rfl
        · rw [if_pos h] at hst
          have hL2 : (diffL A B [] (k + 1)).length = L.length + 1 := by rw [hst, List.length_append]; rfl
          (refine run ?_; repeat intro b)
          refine s_appR rfl rfl rfl rfl rfl rfl rfl rfl (src_row rfl rfl) (one_v _ (l := [S n]) (fun v hv => by rw [List.mem_singleton.1 hv]; rfl)) g3 g4 rfl (by rw [List.length_map, List.length_map]; exact Nat.le_of_eq (Nat.mul_one _)) (by show _ * 16 ≤ _; omega) (fun h => by cases h) (fun _ b5 c5 hc5 => ?_)
          (refine run ?_; repeat intro b)
          have hcells := S_snoc L n L.length rfl
          rw [wrap_succ (by omega)]
          rw [← hL2] at hc5
          exact s_loopPq (k + 1, some b5, c5) 9 [(11, 9)] [6, 0, 1, 31, 32, 33] [(9, ⟨some b5, ((diffL A B [] (k + 1)).map S).map EV.v, 9, c5 * 1⟩)]
            ⟨hlt, (fun h => by cases h), hc5⟩ (by simp only; omega) (by simp)
            ⟨rfl, ⟨_, rfl, rfl, rfl, rfl, .inl ⟨by rw [hst]; exact hcells.symm, fun e he => all_v _ e (hcells ▸ he)⟩⟩, trivial⟩ rfl rfl rfl rfl rfl rfl (by rw [hL2])
        · rw [if_neg (by rw [h]; decide)] at hst
          (refine run ?_; repeat intro b)
          rw [wrap_succ (by omega)]
          exact s_loopPq (k + 1, blk2, cap2) 9 [(9, 9)] [6, 0, 1, 31, 32, 33] [(9, ⟨blk2, ((diffL A B [] (k + 1)).map S).map EV.v, 9, cap2 * 1⟩)]
            ⟨hlt, by rw [hst]; exact g3, by rw [hst]; exact g4⟩ (by simp only; omega) (by simp)
            ⟨rfl, ⟨_, rfl, rfl, rfl, rfl, .inl ⟨by rw [hst], fun e he => all_v _ e he⟩⟩, trivial⟩ rfl rfl rfl rfl rfl rfl (by rw [hst])
      have hge : k = (bothN A B).length := by omega
      subst hge
      rw [diffL_all, differP_nil]
      (refine run ?_; repeat intro b)
      refine s_if false (by rw [← decide_eq_false (p := (((bothN A B).length : Nat) : Int) < (((bothN A B).length : Nat) : Int)) (by omega)]; rfl) (fun h => by cases h) (fun _ => ?_)
      (refine run ?_; repeat intro b)
      exact s_retG (VS.shut (fun pp => [(4, .v (.slice pp (differN A B).length cap2))]) 9 [4] rfl (allV_map_v _) (fun _ => rfl) rfl (fun _ => rfl) rfl fun F5 p5 hs5 hf5 => ⟨_, rfl, p5, cap2, rfl, hf5⟩)
  · (refine run ?_; repeat intro b)
    rw [Nat.zero_add] at hc1 ⊢
    refine s_appR rfl rfl rfl rfl rfl rfl rfl rfl (src_frz (flat_len entry_row _) hfb) (one_v _ (entry_one _)) (fun h => by cases h) hc1 rfl (by rw [List.map_nil, List.nil_append, List.length_map, flat_len entry_row]; exact Nat.le_refl _) (by show _ * 32 ≤ _; omega) (fun hm2 => ?_) (fun hm2 b2 c2 hc2 => ?_)
    · have hnB : B = [] := List.eq_nil_of_length_eq_zero hm2
      have hl2 : A = A ++ B := by rw [hnB, List.append_nil]
      have hn2 : A.length = (A ++ B).length := by omega
      refine s_shift (VS.freeze 0 [0, 1, 5, 6, 18] rfl (cs := A.flatMap Entry.row) (allV_map_v _) rfl rfl fun F1 hs1 hf1 => VS.ren (nx' := 5) [] [0, 1, 5, 6, 18] [] trivial rfl rfl rfl rfl rfl rfl ?_)
      rw [hl2] at hf1
      (refine run ?_; repeat intro b)
      refine s_loopP (fun q : Nat × Option Nat × Nat => q.1 ≤ (A ++ B).length ∧ (q.2.1 = none → q.1 = 0 ∧ q.2.2 = 0) ∧ q.1 ≤ q.2.2)
        (fun q => ⟨[(5, .row 5 0 q.1 q.2.2), (0, .v (.slice pa A.length ca)), (1, .v (.slice pb B.length cb)), (6, .v (.slice none 0 0)), (18, .v (.slice (some ⟨b1, 0, none⟩) (A ++ B).length c1)), (19, .v (i64 ((A ++ B).length : Nat))), (20, .v (i64 (q.1 : Nat)))], F1, [(5, ⟨q.2.1, ((((A ++ B).take q.1).map Entry.name).map S).map EV.v, 9, q.2.2 * 1⟩)], 6⟩) (fun q => (A ++ B).length - q.1) (0, none, 0) ⟨Nat.zero_le _, fun _ => ⟨rfl, rfl⟩, Nat.le_refl _⟩ (VS.nilrow 5 9 [0, 1, 6, 18, 19, 20] rfl rfl (VS.id (by simp only [← hn2, List.take_zero, List.map_nil, Int.ofNat_zero, Int.natCast_zero]))) ?_
      rintro ⟨k, blk, cap⟩ ⟨g1, g3, g4⟩
      dsimp only at g1 g3 g4 ⊢
      by_cases hlt : k < (A ++ B).length
      · obtain ⟨o1, o2⟩ := frow_agg entry_row (by decide) (hf1) k hlt
        have hst : ((A ++ B).take (k + 1)).map Entry.name = ((A ++ B).take k).map Entry.name ++ [(A ++ B)[k].name] := by rw [List.take_succ_eq_append_getElem hlt, List.map_append]; rfl
        have hlen : (((A ++ B).take k).map Entry.name).length = k := by rw [List.length_map, List.length_take]; omega
        generalize (A ++ B)[k] = x at o2 hst
        generalize ((A ++ B).take k).map Entry.name = L at hst hlen ⊢
        (refine run ?_; repeat intro b)
        refine s_if true (by rw [← decide_eq_true (p := ((k : Nat) : Int) < (((A ++ B).length : Nat) : Int)) (by omega)]; rfl) (fun _ => ?_) (fun h => by cases h)
        (refine run ?_; repeat intro b)
        refine s_pureO rfl rfl rfl ⟨by omega, by omega, frow_some (hf1) (j := k * 2) (by rw [flat_len entry_row]; omega)⟩ ?_
        refine s_loadA x.row rfl rfl rfl rfl rfl (by rw [Int.toNat_natCast]; exact o1) (by rw [Int.toNat_natCast]; exact o2) ?_
        (refine run ?_; repeat intro b)
        refine s_appR rfl rfl rfl rfl rfl rfl rfl rfl (src_row rfl rfl) (one_v _ (l := [S x.name]) (fun v hv => by rw [List.mem_singleton.1 hv]; rfl)) g3 g4 rfl (by rw [List.length_map, List.length_map, hlen]; exact Nat.le_of_eq (Nat.mul_one _)) (by show _ * 16 ≤ _; omega) (fun h => by cases h) (fun _ b5 c5 hc5 => ?_)
        (refine run ?_; repeat intro b)
        have hcells := S_snoc L x.name k hlen
        rw [wrap_succ (by omega)]
        exact s_loopPq (k + 1, some b5, c5) 5 [(8, 5)] [5, 0, 1, 6, 18, 19, 20] [(5, ⟨some b5, ((((A ++ B).take (k + 1)).map Entry.name).map S).map EV.v, 9, c5 * 1⟩)]
          ⟨hlt, (fun h => by cases h), hc5⟩ (by simp only; omega) (by simp)
          ⟨rfl, ⟨_, rfl, rfl, rfl, rfl, .inl ⟨by rw [hst]; exact hcells.symm, fun e he => all_v _ e (hcells ▸ he)⟩⟩, trivial⟩ rfl rfl rfl rfl rfl rfl rfl
      have hge : k = (A ++ B).length := by omega
      subst hge
      rw [List.take_length]
      (refine run ?_; repeat intro b)
      refine s_if false (by rw [← decide_eq_false (p := (((A ++ B).length : Nat) : Int) < (((A ++ B).length : Nat) : Int)) (by omega)]; rfl) (fun h => by cases h) (fun _ => ?_)
      (refine run ?_; repeat intro b)
      refine s_shift (VS.trans (VS.shut (fun pn => [(0, .v (.slice pa A.length ca)), (1, .v (.slice pb B.length cb)), (6, .v (.slice none 0 0)), (30, .v (.slice pn (A ++ B).length cap))]) 5 [0, 1, 6, 30] rfl (allV_map_v _) (fun _ => rfl) rfl (fun _ => rfl) rfl fun F2 pn hs2 hf2 => VS.ren (nx' := 9) [] [0, 1, 6, 30] [] trivial rfl rfl rfl rfl rfl rfl ?_))
      have ho := ordered_ok ((A ++ B).map Entry.name) (c := cap) (by rw [List.length_map]; omega) (fun s hs => by
        rw [names_app] at hs
        exact both_big hwa hwb (by unfold bothN; exact (ordN_mem _ s).2 hs)) hf2
      have hO : ordN ((A ++ B).map Entry.name) = bothN A B := by unfold bothN; rw [names_app]
      rw [hO, List.length_map] at ho
      refine s_callF rfl rfl rfl bd84 rfl ho ?_
      rintro _ F4 hF4 ⟨p4, c4, rfl, hf4⟩
      have hF04 := Hp.sub.trans (hs1) (hs2.trans hF4)
      have hga := frow_sub hF04 hfa
      have hgb := frow_sub hF04 hfb
      (refine run ?_; repeat intro b)
      refine s_loopP (fun q : Nat × Option Nat × Nat => q.1 ≤ (bothN A B).length ∧ (q.2.1 = none → (diffL A B [] q.1).length = 0 ∧ q.2.2 = 0) ∧ (diffL A B [] q.1).length ≤ q.2.2)
        (fun q => ⟨[(6, .row 9 0 (diffL A B [] q.1).length q.2.2), (0, .v (.slice pa A.length ca)), (1, .v (.slice pb B.length cb)), (31, .v (.slice p4 (bothN A B).length c4)), (32, .v (i64 ((bothN A B).length : Nat))), (33, .v (i64 (q.1 : Nat)))], F4, [(9, ⟨q.2.1, ((diffL A B [] q.1).map S).map EV.v, 9, q.2.2 * 1⟩)], 10⟩) (fun q => (bothN A B).length - q.1) (0, none, 0) ⟨Nat.zero_le _, fun _ => ⟨by rw [diffL_zero]; rfl, rfl⟩, by rw [diffL_zero]; exact Nat.le_refl _⟩ (VS.nilrow 6 9 [0, 1, 31, 32, 33] rfl rfl (VS.id (by rw [diffL_zero]; rfl))) ?_
      rintro ⟨k, blk2, cap2⟩ ⟨g1, g3, g4⟩
      dsimp only at g1 g3 g4 ⊢
      have hdl := diffL_len A B [] k
      by_cases hlt : k < (bothN A B).length
      · have g := frow_get hf4 (j := k) (by rw [List.length_map]; exact hlt)
        rw [List.getElem_map] at g
        have hst := diffL_step (p := []) hlt
        have hm := List.getElem_mem hlt
        have ua : ([].isPrefixOf (pathN (bothN A B)[k]) && unlikeN A B (bothN A B)[k]) = decide (standsO A (bothN A B)[k] ≠ standsO B (bothN A B)[k]) := by unfold unlikeN; rfl
        generalize (bothN A B)[k] = n at g hst ua
        rw [← opt_ne] at ua
        generalize hL : diffL A B [] k = L at *
        (refine run ?_; repeat intro b)
        refine s_if true (by rw [← decide_eq_true (p := ((k : Nat) : Int) < (((bothN A B).length : Nat) : Int)) (by omega)]; rfl) (fun _ => ?_) (fun h => by cases h)
        (refine run ?_; repeat intro b)
        refine s_pureO rfl rfl rfl ⟨by omega, by omega, frow_some hf4 (j := k) (by rw [List.length_map]; exact hlt)⟩ ?_
        refine s_load (S n) rfl rfl rfl rfl (by rw [Int.toNat_natCast, Nat.mul_one]; exact g) ?_
        (refine run ?_; repeat intro b)
        refine s_plain _ rfl rfl rfl bd11 rfl (refstands_ok A n (by omega) hga) ?_
        (refine run ?_; repeat intro b)
        refine s_plain _ rfl rfl rfl bd11 rfl (refstands_ok B n (by omega) hgb) ?_
        (refine run ?_; repeat intro b)
        refine s_if ([].isPrefixOf (pathN n) && unlikeN A B n) ?_ (fun h => ?_) (fun h => ?_)
        · refine congrArg (fun b => some (EV.v (.bool b))) ?_
          rw [bpick_or, ua, bl_S, bl_S]
          rfl
        · rw [if_pos h] at hst
          have hL2 : (diffL A B [] (k + 1)).length = L.length + 1 := by rw [hst, List.length_append]; rfl
          (refine run ?_; repeat intro b)
          refine s_appR rfl rfl rfl rfl rfl rfl rfl rfl (src_row rfl rfl) (one_v _ (l := [S n]) (fun v hv => by rw [List.mem_singleton.1 hv]; rfl)) g3 g4 rfl (by rw [List.length_map, List.length_map]; exact Nat.le_of_eq (Nat.mul_one _)) (by show _ * 16 ≤ _; omega) (fun h => by cases h) (fun _ b5 c5 hc5 => ?_)
          (refine run ?_; repeat intro b)
          have hcells := S_snoc L n L.length rfl
          rw [wrap_succ (by omega)]
          rw [← hL2] at hc5
          exact s_loopPq (k + 1, some b5, c5) 9 [(11, 9)] [6, 0, 1, 31, 32, 33] [(9, ⟨some b5, ((diffL A B [] (k + 1)).map S).map EV.v, 9, c5 * 1⟩)]
            ⟨hlt, (fun h => by cases h), hc5⟩ (by simp only; omega) (by simp)
            ⟨rfl, ⟨_, rfl, rfl, rfl, rfl, .inl ⟨by rw [hst]; exact hcells.symm, fun e he => all_v _ e (hcells ▸ he)⟩⟩, trivial⟩ rfl rfl rfl rfl rfl rfl (by rw [hL2])
        · rw [if_neg (by rw [h]; decide)] at hst
          (refine run ?_; repeat intro b)
          rw [wrap_succ (by omega)]
          exact s_loopPq (k + 1, blk2, cap2) 9 [(9, 9)] [6, 0, 1, 31, 32, 33] [(9, ⟨blk2, ((diffL A B [] (k + 1)).map S).map EV.v, 9, cap2 * 1⟩)]
            ⟨hlt, by rw [hst]; exact g3, by rw [hst]; exact g4⟩ (by simp only; omega) (by simp)
            ⟨rfl, ⟨_, rfl, rfl, rfl, rfl, .inl ⟨by rw [hst], fun e he => all_v _ e he⟩⟩, trivial⟩ rfl rfl rfl rfl rfl rfl (by rw [hst])
      have hge : k = (bothN A B).length := by omega
      subst hge
      rw [diffL_all, differP_nil]
      (refine run ?_; repeat intro b)
      refine s_if false (by rw [← decide_eq_false (p := (((bothN A B).length : Nat) : Int) < (((bothN A B).length : Nat) : Int)) (by omega)]; rfl) (fun h => by cases h) (fun _ => ?_)
      (refine run ?_; repeat intro b)
      exact s_retG (VS.shut (fun pp => [(4, .v (.slice pp (differN A B).length cap2))]) 9 [4] rfl (allV_map_v _) (fun _ => rfl) rfl (fun _ => rfl) rfl fun F5 p5 hs5 hf5 => ⟨_, rfl, p5, cap2, rfl, hf5⟩)
    · have hn2 : A.length + B.length = (A ++ B).length := hAB.symm
      have hcs : ([].map EV.v ++ (A.flatMap Entry.row).map EV.v).take (A.length * 2) ++ (B.flatMap Entry.row).map EV.v = ((A ++ B).flatMap Entry.row).map EV.v := by
        rw [List.map_nil, List.nil_append, List.take_of_length_le (by rw [List.length_map, flat_len entry_row]; exact Nat.le_refl _), ← List.map_append, ← List.flatMap_append]
      refine s_shift (VS.freeze 1 [0, 1, 5, 6, 18] rfl (cs := (A ++ B).flatMap Entry.row) ((congrArg (allV _) hcs).trans (allV_map_v _)) rfl rfl fun F1 hs1 hf1 => VS.ren (nx' := 5) [] [0, 1, 5, 6, 18] [] trivial rfl rfl rfl rfl rfl rfl ?_)
      rw [hn2]
      (refine run ?_; repeat intro b)
      refine s_loopP (fun q : Nat × Option Nat × Nat => q.1 ≤ (A ++ B).length ∧ (q.2.1 = none → q.1 = 0 ∧ q.2.2 = 0) ∧ q.1 ≤ q.2.2)
        (fun q => ⟨[(5, .row 5 0 q.1 q.2.2), (0, .v (.slice pa A.length ca)), (1, .v (.slice pb B.length cb)), (6, .v (.slice none 0 0)), (18, .v (.slice (some ⟨b2, 0, none⟩) (A ++ B).length c2)), (19, .v (i64 ((A ++ B).length : Nat))), (20, .v (i64 (q.1 : Nat)))], F1, [(5, ⟨q.2.1, ((((A ++ B).take q.1).map Entry.name).map S).map EV.v, 9, q.2.2 * 1⟩)], 6⟩) (fun q => (A ++ B).length - q.1) (0, none, 0) ⟨Nat.zero_le _, fun _ => ⟨rfl, rfl⟩, Nat.le_refl _⟩ (VS.nilrow 5 9 [0, 1, 6, 18, 19, 20] rfl rfl (VS.id (rfl))) ?_
      rintro ⟨k, blk, cap⟩ ⟨g1, g3, g4⟩
      dsimp only at g1 g3 g4 ⊢
      by_cases hlt : k < (A ++ B).length
      · obtain ⟨o1, o2⟩ := frow_agg entry_row (by decide) (hf1) k hlt
        have hst : ((A ++ B).take (k + 1)).map Entry.name = ((A ++ B).take k).map Entry.name ++ [(A ++ B)[k].name] := by rw [List.take_succ_eq_append_getElem hlt, List.map_append]; rfl
        have hlen : (((A ++ B).take k).map Entry.name).length = k := by rw [List.length_map, List.length_take]; omega
        generalize (A ++ B)[k] = x at o2 hst
        generalize ((A ++ B).take k).map Entry.name = L at hst hlen ⊢
        (refine run ?_; repeat intro b)
        refine s_if true (by rw [← decide_eq_true (p := ((k : Nat) : Int) < (((A ++ B).length : Nat) : Int)) (by omega)]; rfl) (fun _ => ?_) (fun h => by cases h)
        (refine run ?_; repeat intro b)
        refine s_pureO rfl rfl rfl ⟨by omega, by omega, frow_some (hf1) (j := k * 2) (by rw [flat_len entry_row]; omega)⟩ ?_
        refine s_loadA x.row rfl rfl rfl rfl rfl (by rw [Int.toNat_natCast]; exact o1) (by rw [Int.toNat_natCast]; exact o2) ?_
        (refine run ?_; repeat intro b)
        refine s_appR rfl rfl rfl rfl rfl rfl rfl rfl (src_row rfl rfl) (one_v _ (l := [S x.name]) (fun v hv => by rw [List.mem_singleton.1 hv]; rfl)) g3 g4 rfl (by rw [List.length_map, List.length_map, hlen]; exact Nat.le_of_eq (Nat.mul_one _)) (by show _ * 16 ≤ _; omega) (fun h => by cases h) (fun _ b5 c5 hc5 => ?_)
        (refine run ?_; repeat intro b)
        have hcells := S_snoc L x.name k hlen
        rw [wrap_succ (by omega)]
        exact s_loopPq (k + 1, some b5, c5) 5 [(8, 5)] [5, 0, 1, 6, 18, 19, 20] [(5, ⟨some b5, ((((A ++ B).take (k + 1)).map Entry.name).map S).map EV.v, 9, c5 * 1⟩)]
          ⟨hlt, (fun h => by cases h), hc5⟩ (by simp only; omega) (by simp)
          ⟨rfl, ⟨_, rfl, rfl, rfl, rfl, .inl ⟨by rw [hst]; exact hcells.symm, fun e he => all_v _ e (hcells ▸ he)⟩⟩, trivial⟩ rfl rfl rfl rfl rfl rfl rfl
      have hge : k = (A ++ B).length := by omega
      subst hge
      rw [List.take_length]
      (refine run ?_; repeat intro b)
      refine s_if false (by rw [← decide_eq_false (p := (((A ++ B).length : Nat) : Int) < (((A ++ B).length : Nat) : Int)) (by omega)]; rfl) (fun h => by cases h) (fun _ => ?_)
      (refine run ?_; repeat intro b)
      refine s_shift (VS.trans (VS.shut (fun pn => [(0, .v (.slice pa A.length ca)), (1, .v (.slice pb B.length cb)), (6, .v (.slice none 0 0)), (30, .v (.slice pn (A ++ B).length cap))]) 5 [0, 1, 6, 30] rfl (allV_map_v _) (fun _ => rfl) rfl (fun _ => rfl) rfl fun F2 pn hs2 hf2 => VS.ren (nx' := 9) [] [0, 1, 6, 30] [] trivial rfl rfl rfl rfl rfl rfl ?_))
      have ho := ordered_ok ((A ++ B).map Entry.name) (c := cap) (by rw [List.length_map]; omega) (fun s hs => by
        rw [names_app] at hs
        exact both_big hwa hwb (by unfold bothN; exact (ordN_mem _ s).2 hs)) hf2
      have hO : ordN ((A ++ B).map Entry.name) = bothN A B := by unfold bothN; rw [names_app]
      rw [hO, List.length_map] at ho
      refine s_callF rfl rfl rfl bd84 rfl ho ?_
      rintro _ F4 hF4 ⟨p4, c4, rfl, hf4⟩
      have hF04 := Hp.sub.trans (hs1) (hs2.trans hF4)
      have hga := frow_sub hF04 hfa
      have hgb := frow_sub hF04 hfb
      (refine run ?_; repeat intro b)
      refine s_loopP (fun q : Nat × Option Nat × Nat => q.1 ≤ (bothN A B).length ∧ (q.2.1 = none → (diffL A B [] q.1).length = 0 ∧ q.2.2 = 0) ∧ (diffL A B [] q.1).length ≤ q.2.2)
        (fun q => ⟨[(6, .row 9 0 (diffL A B [] q.1).length q.2.2), (0, .v (.slice pa A.length ca)), (1, .v (.slice pb B.length cb)), (31, .v (.slice p4 (bothN A B).length c4)), (32, .v (i64 ((bothN A B).length : Nat))), (33, .v (i64 (q.1 : Nat)))], F4, [(9, ⟨q.2.1, ((diffL A B [] q.1).map S).map EV.v, 9, q.2.2 * 1⟩)], 10⟩) (fun q => (bothN A B).length - q.1) (0, none, 0) ⟨Nat.zero_le _, fun _ => ⟨by rw [diffL_zero]; rfl, rfl⟩, by rw [diffL_zero]; exact Nat.le_refl _⟩ (VS.nilrow 6 9 [0, 1, 31, 32, 33] rfl rfl (VS.id (by rw [diffL_zero]; rfl))) ?_
      rintro ⟨k, blk2, cap2⟩ ⟨g1, g3, g4⟩
      dsimp only at g1 g3 g4 ⊢
      have hdl := diffL_len A B [] k
      by_cases hlt : k < (bothN A B).length
      · have g := frow_get hf4 (j := k) (by rw [List.length_map]; exact hlt)
        rw [List.getElem_map] at g
        have hst := diffL_step (p := []) hlt
        have hm := List.getElem_mem hlt
        have ua : ([].isPrefixOf (pathN (bothN A B)[k]) && unlikeN A B (bothN A B)[k]) = decide (standsO A (bothN A B)[k] ≠ standsO B (bothN A B)[k]) := by unfold unlikeN; rfl
        generalize (bothN A B)[k] = n at g hst ua
        rw [← opt_ne] at ua
        generalize hL : diffL A B [] k = L at *
        (refine run ?_; repeat intro b)
        refine s_if true (by rw [← decide_eq_true (p := ((k : Nat) : Int) < (((bothN A B).length : Nat) : Int)) (by omega)]; rfl) (fun _ => ?_) (fun h => by cases h)
        (refine run ?_; repeat intro b)
        refine s_pureO rfl rfl rfl ⟨by omega, by omega, frow_some hf4 (j := k) (by rw [List.length_map]; exact hlt)⟩ ?_
        refine s_load (S n) rfl rfl rfl rfl (by rw [Int.toNat_natCast, Nat.mul_one]; exact g) ?_
        (refine run ?_; repeat intro b)
        refine s_plain _ rfl rfl rfl bd11 rfl (refstands_ok A n (by omega) hga) ?_
        (refine run ?_; repeat intro b)
        refine s_plain _ rfl rfl rfl bd11 rfl (refstands_ok B n (by omega) hgb) ?_
        (refine run ?_; repeat intro b)
        refine s_if ([].isPrefixOf (pathN n) && unlikeN A B n) ?_ (fun h => ?_) (fun h => ?_)
        · refine congrArg (fun b => some (EV.v (.bool b))) ?_
          rw [bpick_or, ua, bl_S, bl_S]
          rfl
        · rw [if_pos h] at hst
          have hL2 : (diffL A B [] (k + 1)).length = L.length + 1 := by rw [hst, List.length_append]; rfl
          (refine run ?_; repeat intro b)
          refine s_appR rfl rfl rfl rfl rfl rfl rfl rfl (src_row rfl rfl) (one_v _ (l := [S n]) (fun v hv => by rw [List.mem_singleton.1 hv]; rfl)) g3 g4 rfl (by rw [List.length_map, List.length_map]; exact Nat.le_of_eq (Nat.mul_one _)) (by show _ * 16 ≤ _; omega) (fun h => by cases h) (fun _ b5 c5 hc5 => ?_)
          (refine run ?_; repeat intro b)
          have hcells := S_snoc L n L.length rfl
          rw [wrap_succ (by omega)]
          rw [← hL2] at hc5
          exact s_loopPq (k + 1, some b5, c5) 9 [(11, 9)] [6, 0, 1, 31, 32, 33] [(9, ⟨some b5, ((diffL A B [] (k + 1)).map S).map EV.v, 9, c5 * 1⟩)]
            ⟨hlt, (fun h => by cases h), hc5⟩ (by simp only; omega) (by simp)
            ⟨rfl, ⟨_, rfl, rfl, rfl, rfl, .inl ⟨by rw [hst]; exact hcells.symm, fun e he => all_v _ e (hcells ▸ he)⟩⟩, trivial⟩ rfl rfl rfl rfl rfl rfl (by rw [hL2])
        · rw [if_neg (by rw [h]; decide)] at hst
          (refine run ?_; repeat intro b)
          rw [wrap_succ (by omega)]
          exact s_loopPq (k + 1, blk2, cap2) 9 [(9, 9)] [6, 0, 1, 31, 32, 33] [(9, ⟨blk2, ((diffL A B [] (k + 1)).map S).map EV.v, 9, cap2 * 1⟩)]
            ⟨hlt, by rw [hst]; exact g3, by rw [hst]; exact g4⟩ (by simp only; omega) (by simp)
            ⟨rfl, ⟨_, rfl, rfl, rfl, rfl, .inl ⟨by rw [hst], fun e he => all_v _ e he⟩⟩, trivial⟩ rfl rfl rfl rfl rfl rfl (by rw [hst])
      have hge : k = (bothN A B).length := by omega
      subst hge
      rw [diffL_all, differP_nil]
      (refine run ?_; repeat intro b)
      refine s_if false (by rw [← decide_eq_false (p := (((bothN A B).length : Nat) : Int) < (((bothN A B).length : Nat) : Int)) (by omega)]; rfl) (fun h => by cases h) (fun _ => ?_)
      (refine run ?_; repeat intro b)
      exact s_retG (VS.shut (fun pp => [(4, .v (.slice pp (differN A B).length cap2))]) 9 [4] rfl (allV_map_v _) (fun _ => rfl) rfl (fun _ => rfl) rfl fun F5 p5 hs5 hf5 => ⟨_, rfl, p5, cap2, rfl, hf5⟩)
end Go.Proofs.YthkkgphjjmhglaaGreatDoor
