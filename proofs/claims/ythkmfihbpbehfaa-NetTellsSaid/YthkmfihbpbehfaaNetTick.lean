/-
Package net: Tick: the walk.
-/
import Derived.Test.YthkmfihbpbehfaaNetOwn
namespace Go.Proofs.Ythkmfihbpbehfaa
set_option linter.unusedVariables false
set_option linter.unusedSimpArgs false
open Go.TR
theorem tickQ_bad {n : NP} {e : Int} (h : tickE n = e) (h0 : e ≠ 0) (F : Hp) : TickQ n (triple NP.none.v (.slice none 0 0) (i64 e)) F := by
  subst h
  exact ⟨NP.none, [], none, 0, rfl, NP.none_at F, by decide, by decide, frow_nil _ _, by simp, by rw [if_neg h0]; rfl, by rw [if_neg h0]; rfl, by rw [if_neg h0]; rfl⟩
def leftL (t : Int) (l : List LP) : List LP := l.filter fun x => !decide (x.l.due = t)
def comeL (t : Int) (l : List LP) : List LP := l.filter fun x => decide (x.l.due = t)
theorem leftL_le (t : Int) (l : List LP) : (leftL t l).length ≤ l.length := List.length_filter_le _ _
theorem comeL_le (t : Int) (l : List LP) : (comeL t l).length ≤ l.length := List.length_filter_le _ _
theorem leftL_step {t : Int} {l : List LP} {k : Nat} (h : k < l.length) : leftL t (l.take (k + 1)) = leftL t (l.take k) ++ if l[k].l.due = t then [] else [l[k]] := by
  unfold leftL
  rw [List.take_succ_eq_append_getElem h, List.filter_append]
  by_cases h1 : l[k].l.due = t <;> simp [h1]
theorem comeL_step {t : Int} {l : List LP} {k : Nat} (h : k < l.length) : comeL t (l.take (k + 1)) = comeL t (l.take k) ++ if l[k].l.due = t then [l[k]] else [] := by
  unfold comeL
  rw [List.take_succ_eq_append_getElem h, List.filter_append]
  by_cases h1 : l[k].l.due = t <;> simp [h1]
theorem len_snoc (l : List LP) (x : LP) : l.length + 1 = (l ++ [x]).length := by simp
theorem left_nil (t : Int) (l : List LP) : leftL t (l.take 0) = [] := rfl
theorem come_nil (t : Int) (l : List LP) : comeL t (l.take 0) = [] := rfl
theorem tickQ_ok {n : NP} {F : Hp} (h : tickE n = 0) (M : List LP) (hM : M.map LP.l = n.way.map LP.l) (h60 : M.length ≤ 60) (ha : ∀ x ∈ M, x.at F) {pa pb : Option Addr} {ca cb : Nat} (h1 : Frow F pa ((leftL (n.now + 1) M).flatMap LP.row)) (h2 : Frow F pb ((comeL (n.now + 1) M).flatMap LP.row)) :
    TickQ n (triple (.agg #[i64 (n.now + 1), .slice pa (leftL (n.now + 1) M).length ca]) (.slice pb (comeL (n.now + 1) M).length cb) (i64 0)) F := by
  have a1 := leftL_le (n.now + 1) M
  have a2 := comeL_le (n.now + 1) M
  refine ⟨⟨n.now + 1, leftL (n.now + 1) M, pa, ca⟩, comeL (n.now + 1) M, pb, cb, by rw [h], ⟨h1, fun x hx => ha x (List.mem_filter.1 hx).1⟩, by simp only; omega, by omega, h2, fun x hx => ha x (List.mem_filter.1 hx).1, by rw [if_pos h], ?_, ?_⟩
  · rw [if_pos h, ← hM, List.filter_map]
    rfl
  · rw [if_pos h, ← hM, List.filter_map]
    rfl
attribute [local irreducible] vc vcOps seqK blockK loopK retK retG retI loopV Plain CallOK CallIn bodied VS vcAny dropG backK brK loopPK IntKind.wrap
attribute [local irreducible] leftL comeL
set_option maxRecDepth 100000
set_option maxHeartbeats 4000000
theorem nettick_ok (n : NP) {F : Hp} (hl : n.way.length ≤ 4611686018427387904) (hw : ∀ y ∈ n.way, y.l.wf) (hn : n.at F) : CallF Try.prog F 12 [n.v] (TickQ n) := by
  refine CallOK.drop (call_vc (N := 50) (rv := [.cell 2 24, .tmp 3, .tmp 4]) tbok mixed Try.func12 rfl rfl rfl rfl rfl ?_)
  (refine run ?_; repeat intro b)
  rename_i b0
  generalize b = b1
  refine s_plain _ rfl rfl rfl bd14 rfl (netcheck_ok n hl hn) ?_
  (refine run ?_; repeat intro b)
  refine s_if (decide (netFault n ≠ 0)) ?_ (fun h => ?_) (fun h => ?_)
  · refine congrArg (fun b => some (EV.v (.bool b))) ?_
    rw [Bool.eq_iff_iff]; simp
  · have h := of_decide_eq_true h
    (refine run ?_; repeat intro b)
    exact s_retG (VS.id ⟨_, rfl, tickQ_bad (by unfold tickE; rw [if_pos h]) h F⟩)
  · have hz : netFault n = 0 := by have := of_decide_eq_false h; omega
    obtain ⟨z1, z2, z3⟩ := netFault_zero hz
    have hE : tickE n = if n.now = 1000000000 then 9 else 0 := by unfold tickE; rw [if_neg (by simpa using hz)]
    (refine run ?_; repeat intro b)
    refine s_if (decide (n.now = 1000000000)) ?_ (fun h => ?_) (fun h => ?_)
    · refine congrArg (fun b => some (EV.v (.bool b))) ?_
      rw [Bool.eq_iff_iff]; simp
    · rw [if_pos (of_decide_eq_true h)] at hE
      (refine run ?_; repeat intro b)
      exact s_retG (VS.id ⟨_, rfl, tickQ_bad hE (by decide) F⟩)
    · rw [if_neg (of_decide_eq_false h)] at hE
      have ew : IntKind.i64.wrap (n.now + 1) = n.now + 1 := wrap_i64 (by omega) (by omega)
      (refine run ?_; repeat intro b)
      generalize b = b2
      refine s_callF rfl rfl rfl bd78 rfl (owned_frz n.way z3 hw hn.way hn.each) ?_
      rintro _ F1 hF1 ⟨M, p1, c1, rfl, m1, m2, m3⟩
      have hM : M.length = n.way.length := by simpa using congrArg List.length m2
      rw [ew, ← hM]
      (refine run ?_; repeat intro b)
      refine s_loopP (fun q : Nat × (List LP × Option Nat × Nat) × (List LP × Option Nat × Nat) => q.1 ≤ M.length ∧ q.2.1.1 = leftL (n.now + 1) (M.take q.1) ∧ q.2.2.1 = comeL (n.now + 1) (M.take q.1) ∧ (q.2.1.2.1 = none → q.2.1.1.length = 0 ∧ q.2.1.2.2 = 0) ∧ q.2.1.1.length ≤ q.2.1.2.2 ∧ (q.2.2.2.1 = none → q.2.2.1.length = 0 ∧ q.2.2.2.2 = 0) ∧ q.2.2.1.length ≤ q.2.2.2.2)
        (fun q => ⟨[(7, .row 3 0 q.2.2.1.length q.2.2.2.2), (2, .loc 1 0), (6, .loc 2 0), (26, .v (.slice p1 M.length c1)), (27, .v (i64 (M.length : Nat))), (28, .v (i64 (q.1 : Nat)))], F1, [(4, ⟨q.2.1.2.1, (q.2.1.1.flatMap LP.row).map .v, 36, q.2.1.2.2 * 12⟩), (3, ⟨q.2.2.2.1, (q.2.2.1.flatMap LP.row).map .v, 36, q.2.2.2.2 * 12⟩), (2, ⟨some b2, [.v (i64 (n.now + 1)), .row 4 0 q.2.1.1.length q.2.1.2.2], 24, 2⟩), (1, ⟨some b1, [.v (i64 0), .v (.slice none 0 0)], 24, 2⟩)], 5⟩) (fun q => M.length - q.1) (0, ([], none, 0), ([], none, 0)) ⟨Nat.zero_le _, (left_nil _ _).symm, (come_nil _ _).symm, fun _ => ⟨rfl, rfl⟩, Nat.le_refl _, fun _ => ⟨rfl, rfl⟩, Nat.le_refl _⟩
        (VS.nilrow 7 36 [2, 6, 26, 27, 28] rfl rfl (VS.addnil 36 (VS.recell 2 [.v (i64 (n.now + 1)), .row 4 0 0 0] rfl ⟨⟨trivial, rfl⟩, ⟨(by decide : 4 < 5), rfl⟩, trivial⟩ rfl (VS.dropR [0] rfl (VS.id rfl))))) ?_
      rintro ⟨k, ⟨A, ba, ca⟩, ⟨B, bb, cb⟩⟩ ⟨h1, h2, h3, h4, h5, h6, h7⟩
      dsimp only at h1 h2 h3 h4 h5 h6 h7 ⊢
      have la := leftL_le (n.now + 1) (M.take k)
      have lb := comeL_le (n.now + 1) (M.take k)
      rw [← h2, List.length_take] at la
      rw [← h3, List.length_take] at lb
      by_cases hlt : k < M.length
      · obtain ⟨o1, o2⟩ := frow_agg lp_row (by decide) m1 k hlt
        have s1 := leftL_step (t := n.now + 1) hlt
        have s2 := comeL_step (t := n.now + 1) hlt
        rw [← h2] at s1
        rw [← h3] at s2
        generalize M[k] = x at o2 s1 s2
        (refine run ?_; repeat intro b)
        refine s_if true (by rw [← decide_eq_true (p := ((k : Nat) : Int) < ((M.length : Nat) : Int)) (by omega)]; rfl) (fun _ => ?_) (fun h => by cases h)
        (refine run ?_; repeat intro b)
        refine s_pureO rfl rfl rfl ⟨by omega, by omega, frow_some m1 (j := k * 12) (by rw [flat_len lp_row]; omega)⟩ ?_
        refine s_loadA x.row rfl rfl rfl rfl rfl (by rw [Int.toNat_natCast]; exact o1) (by rw [Int.toNat_natCast]; exact o2) ?_
        (refine run ?_; repeat intro b)
        refine s_if (decide (x.l.due = n.now + 1)) ?_ (fun h => ?_) (fun h => ?_)
        · refine congrArg (fun b => some (EV.v (.bool b))) ?_
          rw [Bool.eq_iff_iff]; simp
        · rw [if_pos (of_decide_eq_true h), List.append_nil] at s1
          rw [if_pos (of_decide_eq_true h)] at s2
          (refine run ?_; repeat intro b)
          refine s_appR rfl rfl rfl rfl rfl rfl rfl rfl (src_row rfl rfl) (one_v _ (lp_one [x])) h6 h7 rfl (by rw [List.length_map, flat_len lp_row]; exact Nat.le_refl _) (by show _ * 152 ≤ _; omega) (fun h => by cases h) (fun _ b3 c3 hc3 => ?_)
          (refine run ?_; repeat intro b)
          have hcells := lp_cells B x B.length rfl
          rw [wrap_succ (by omega)]
          exact s_loopPq (k + 1, (A, ba, ca), (B ++ [x], some b3, c3)) 3 [(4, 4), (7, 3), (2, 2), (1, 1)] [7, 2, 6, 26, 27, 28] [(4, ⟨ba, (A.flatMap LP.row).map .v, 36, ca * 12⟩), (3, ⟨some b3, ((B ++ [x]).flatMap LP.row).map .v, 36, c3 * 12⟩), (2, ⟨some b2, [.v (i64 (n.now + 1)), .row 4 0 A.length ca], 24, 2⟩), (1, ⟨some b1, [.v (i64 0), .v (.slice none 0 0)], 24, 2⟩)]
            ⟨hlt, s1.symm, s2.symm, h4, h5, (fun h => by cases h), by rw [List.length_append]; exact hc3⟩ (by simp only; omega) (Nat.min_le_left _ _)
            ⟨rfl, ⟨_, rfl, rfl, rfl, rfl, .inl ⟨rfl, fun e he => all_v _ e he⟩⟩, rfl, ⟨_, rfl, rfl, rfl, rfl, .inl ⟨hcells.symm, fun e he => all_v _ e (hcells ▸ he)⟩⟩, rfl, ⟨_, rfl, rfl, rfl, rfl, .inr rfl⟩, rfl, ⟨_, rfl, rfl, rfl, rfl, .inr rfl⟩, trivial⟩ rfl rfl rfl rfl rfl rfl (congrArg (fun m => (⟨[(7, .row 3 0 m c3), (2, .loc 1 0), (6, .loc 2 0), (26, .v (.slice p1 M.length c1)), (27, .v (i64 (M.length : Nat))), (28, .v (i64 ((k + 1 : Nat) : Nat)))], F1, [(4, ⟨ba, (A.flatMap LP.row).map .v, 36, ca * 12⟩), (3, ⟨some b3, ((B ++ [x]).flatMap LP.row).map .v, 36, c3 * 12⟩), (2, ⟨some b2, [.v (i64 (n.now + 1)), .row 4 0 A.length ca], 24, 2⟩), (1, ⟨some b1, [.v (i64 0), .v (.slice none 0 0)], 24, 2⟩)], 5⟩ : St)) (len_snoc B x))
        · rw [if_neg (of_decide_eq_false h)] at s1
          rw [if_neg (of_decide_eq_false h), List.append_nil] at s2
          (refine run ?_; repeat intro b)
          refine s_appR rfl rfl rfl rfl rfl rfl rfl rfl (src_row rfl rfl) (one_v _ (lp_one [x])) h4 h5 rfl (by rw [List.length_map, flat_len lp_row]; exact Nat.le_refl _) (by show _ * 152 ≤ _; omega) (fun h => by cases h) (fun _ b3 c3 hc3 => ?_)
          (refine run ?_; repeat intro b)
          have hcells := lp_cells A x A.length rfl
          rw [wrap_succ (by omega)]
          exact s_loopPq (k + 1, (A ++ [x], some b3, c3), (B, bb, cb)) 3 [(7, 4), (3, 3), (2, 2), (1, 1)] [7, 2, 6, 26, 27, 28] [(4, ⟨some b3, ((A ++ [x]).flatMap LP.row).map .v, 36, c3 * 12⟩), (3, ⟨bb, (B.flatMap LP.row).map .v, 36, cb * 12⟩), (2, ⟨some b2, [.v (i64 (n.now + 1)), .row 4 0 (A.length + 1) c3], 24, 2⟩), (1, ⟨some b1, [.v (i64 0), .v (.slice none 0 0)], 24, 2⟩)]
            ⟨hlt, s1.symm, s2.symm, (fun h => by cases h), by rw [List.length_append]; exact hc3, h6, h7⟩ (by simp only; omega) (Nat.min_le_left _ _)
            ⟨rfl, ⟨_, rfl, rfl, rfl, rfl, .inl ⟨hcells.symm, fun e he => all_v _ e (hcells ▸ he)⟩⟩, rfl, ⟨_, rfl, rfl, rfl, rfl, .inl ⟨rfl, fun e he => all_v _ e he⟩⟩, rfl, ⟨_, rfl, rfl, rfl, rfl, .inr rfl⟩, rfl, ⟨_, rfl, rfl, rfl, rfl, .inr rfl⟩, trivial⟩ rfl rfl rfl rfl rfl rfl (congrArg (fun m => (⟨[(7, .row 3 0 B.length cb), (2, .loc 1 0), (6, .loc 2 0), (26, .v (.slice p1 M.length c1)), (27, .v (i64 (M.length : Nat))), (28, .v (i64 ((k + 1 : Nat) : Nat)))], F1, [(4, ⟨some b3, ((A ++ [x]).flatMap LP.row).map .v, 36, c3 * 12⟩), (3, ⟨bb, (B.flatMap LP.row).map .v, 36, cb * 12⟩), (2, ⟨some b2, [.v (i64 (n.now + 1)), .row 4 0 m c3], 24, 2⟩), (1, ⟨some b1, [.v (i64 0), .v (.slice none 0 0)], 24, 2⟩)], 5⟩ : St)) (len_snoc A x))
      · have hge : k = M.length := by omega
        subst hge
        rw [List.take_length] at h2 h3
        (refine run ?_; repeat intro b)
        refine s_if false (by rw [← decide_eq_false (p := ((M.length : Nat) : Int) < ((M.length : Nat) : Int)) (by omega)]; rfl) (fun h => by cases h) (fun _ => ?_)
        (refine run ?_; repeat intro b)
        have hend := fun (F' : Hp) (hs : F1.sub F') (pa pb : Option Addr) => tickQ_ok (F := F') (pa := pa) (pb := pb) (ca := ca) (cb := cb) hE M m2 (by omega) (fun x hx => LP.at_sub hs (m3 x hx))
        rw [← h2, ← h3] at hend
        cases bb with
        | none =>
          have eB : B = [] := List.eq_nil_of_length_eq_zero (h6 rfl).1
          subst eB
          cases ba with
          | none =>
            have eA : A = [] := List.eq_nil_of_length_eq_zero (h4 rfl).1
            subst eA
            exact s_retG (VS.id ⟨_, rfl, hend F1 (Hp.sub.refl _) _ _ (frow_nil _ _) (frow_nil _ _)⟩)
          | some b4 =>
            exact s_retG (VS.freeze 4 [2, 3, 4] rfl (allV_map_v _) rfl rfl fun F2 hs2 hf2 => VS.id ⟨_, rfl, hend F2 hs2 _ _ hf2 (frow_nil _ _)⟩)
        | some b5 =>
          cases ba with
          | none =>
            have eA : A = [] := List.eq_nil_of_length_eq_zero (h4 rfl).1
            subst eA
            exact s_retG (VS.freeze 3 [2, 3, 4] rfl (allV_map_v _) rfl rfl fun F2 hs2 hf2 => VS.id ⟨_, rfl, hend F2 hs2 _ _ (frow_nil _ _) hf2⟩)
          | some b4 =>
            exact s_retG (VS.freeze 3 [2, 3, 4] rfl (allV_map_v _) rfl rfl fun F2 hs2 hf2 => VS.freeze 4 [2, 3, 4] rfl (by rw [frzL_v]; exact allV_map_v _) rfl rfl fun F3 hs3 hf3 => VS.id ⟨_, rfl, hend F3 (hs2.trans hs3) _ _ hf3 (frow_sub hs3 hf2)⟩)
end Go.Proofs.Ythkmfihbpbehfaa
