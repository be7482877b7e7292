/-
What is said of a proof: the walks.
-/
import Derived.Test.YthkkgphjjmhglaaGreatDoorProof
import Derived.Test.YthkkgphjjmhglaaGreatDoorSetFwJ

namespace Go.Proofs.YthkkgphjjmhglaaGreatDoor
set_option linter.unusedVariables false
set_option linter.unusedSimpArgs false
open Go.TR
attribute [local irreducible] ahead orderN pathN wayN goodName bookFault markN partsOut two
attribute [local irreducible] vc vcOps seqK blockK loopK retK retG retI loopV Plain CallOK CallIn bodied VS vcAny dropG backK brK loopPK IntKind.wrap
set_option maxRecDepth 100000
theorem leafN_pos {l : List Entry} (h : ¬ l.length = 0) : leafN l = 1 :: (l.take l.length).flatMap entE := by
  unfold leafN
  rw [if_neg h, List.take_length]
theorem leaf_snoc {l : List Entry} {k : Nat} (h : k < l.length) : (l.take (k + 1)).flatMap entE = (l.take k).flatMap entE ++ entE l[k] := by
  rw [List.take_succ_eq_append_getElem h, List.flatMap_append]
  simp
set_option maxHeartbeats 1000000 in
theorem treesaid_ok (l : List Entry) (hl : l.length ≤ 24) (hw : ∀ x ∈ l, x.wf) {p : Option Addr} {c : Nat} {F : Hp} (hf : Frow F p (l.flatMap Entry.row)) : Plain Tryz.prog F 172 [.slice p l.length c] (S (leafN l)) := by
  refine plain_vc (N := 35) (rv := [.tmp 2]) tbok mixed Tryz.func172 rfl rfl rfl rfl rfl ?_
  (refine run ?_; repeat intro b)
  refine s_if (decide (l.length = 0)) ?_ (fun h => ?_) (fun h => ?_)
  · refine congrArg (fun b => some (EV.v (.bool b))) ?_
    rw [Bool.eq_iff_iff]; simp
  · have e : leafN l = [0] := by unfold leafN; rw [if_pos (of_decide_eq_true h)]
    rw [e]
    (refine run ?_; repeat intro b)
    refine s_strR [0] rfl rfl rfl rfl (Nat.le_refl 1) rfl ?_
    (refine run ?_; repeat intro b)
    rfl
  · rw [leafN_pos (of_decide_eq_false h)]
    (refine run ?_; repeat intro b)
    refine s_strR [1] rfl rfl rfl rfl (Nat.le_refl 1) rfl ?_
    (refine run ?_; repeat intro b)
    refine s_loopP (fun q : Hp × Nat => F.sub q.1 ∧ q.2 ≤ l.length) (fun q => ⟨[(3, .v (S (1 :: (l.take q.2).flatMap entE))), (15, .v (.slice p l.length c)), (16, .v (i64 (l.length : Nat))), (17, .v (i64 (q.2 : Nat)))], q.1, [], 1⟩) (fun q => l.length - q.2) (F, 0) ⟨Hp.sub.refl _, Nat.zero_le _⟩ (VS.dropR [0] rfl (VS.keepN [3, 15, 16, 17] rfl rfl)) ?_
    rintro ⟨F0, k⟩ ⟨hF, hk⟩
    dsimp only at hF hk ⊢
    have hf0 := frow_sub hF hf
    by_cases hlt : k < l.length
    · obtain ⟨o1, o2⟩ := frow_agg entry_row (by decide) hf0 k hlt
      have hsn := leaf_snoc hlt
      have hlen := leafN_len (l.take k)
      rw [List.length_take] at hlen
      generalize l[k] = x at o2 hsn
      have hx := partsOut_len [x.name, x.value]
      have ex : entE x = partsOut [x.name, x.value] := rfl
      (refine run ?_; repeat intro b)
      refine s_if true (by rw [← decide_eq_true (p := ((k : Nat) : Int) < ((l.length : Nat) : Int)) (by omega)]; rfl) (fun _ => ?_) (fun h => by cases h)
      (refine run ?_; repeat intro b)
      refine s_pureO rfl rfl rfl ⟨by omega, by omega, frow_some hf0 (j := k * 2) (by rw [flat_len entry_row]; omega)⟩ ?_
      refine s_loadA x.row rfl rfl rfl rfl rfl (by rw [Int.toNat_natCast]; exact o1) (by rw [Int.toNat_natCast]; exact o2) ?_
      (refine run ?_; repeat intro b)
      refine s_shift (VS.freeze 2 [3, 15, 16, 17, 26] rfl rfl rfl rfl fun F1 hs1 hf1 => VS.id ?_)
      refine s_plain _ rfl rfl rfl bd209 rfl (put_ok [x.name, x.value] hf1) ?_
      rw [put_two, ← ex]
      (refine run ?_; repeat intro b)
      refine s_pureO rfl rfl rfl (by simp only [bl_S, List.length_cons]; rw [ex]; unfold maxInt; omega) ?_
      (refine run ?_; repeat intro b)
      rw [wrap_succ (by omega)]
      exact s_loopPc (F1, k + 1) [1] [3, 15, 16, 17] ⟨hF.trans hs1, hlt⟩ (by simp only; omega) rfl (by simp only [bl_S]; rw [hsn]; rfl) rfl rfl trivial rfl
    · have hge : k = l.length := by omega
      subst hge
      (refine run ?_; repeat intro b)
      refine s_if false (by rw [← decide_eq_false (p := ((l.length : Nat) : Int) < ((l.length : Nat) : Int)) (by omega)]; rfl) (fun h => by cases h) (fun _ => ?_)
      (refine run ?_; repeat intro b)
      rfl
set_option maxHeartbeats 1000000 in
theorem leafsaid_ok (l : List Entry) (hl : l.length ≤ 24) (hw : ∀ x ∈ l, x.wf) {p : Option Addr} {c : Nat} {F : Hp} (hf : Frow F p (l.flatMap Entry.row)) : Plain Tryz.prog F 107 [.slice p l.length c] (S (leafN l)) := by
  refine plain_vc (N := 31) (rv := [.tmp 2]) tbok mixed Tryz.func107 rfl rfl rfl rfl rfl ?_
  (refine run ?_; repeat intro b)
  refine s_if (decide (l.length = 0)) ?_ (fun h => ?_) (fun h => ?_)
  · refine congrArg (fun b => some (EV.v (.bool b))) ?_
    rw [Bool.eq_iff_iff]; simp
  · have e : leafN l = [0] := by unfold leafN; rw [if_pos (of_decide_eq_true h)]
    rw [e]
    (refine run ?_; repeat intro b)
    rfl
  · rw [leafN_pos (of_decide_eq_false h)]
    (refine run ?_; repeat intro b)
    refine s_loopP (fun q : Hp × Nat => F.sub q.1 ∧ q.2 ≤ l.length) (fun q => ⟨[(3, .v (S (1 :: (l.take q.2).flatMap entE))), (11, .v (.slice p l.length c)), (12, .v (i64 (l.length : Nat))), (13, .v (i64 (q.2 : Nat)))], q.1, [], 0⟩) (fun q => l.length - q.2) (F, 0) ⟨Hp.sub.refl _, Nat.zero_le _⟩ (VS.keepN [3, 11, 12, 13] rfl rfl) ?_
    rintro ⟨F0, k⟩ ⟨hF, hk⟩
    dsimp only at hF hk ⊢
    have hf0 := frow_sub hF hf
    by_cases hlt : k < l.length
    · obtain ⟨o1, o2⟩ := frow_agg entry_row (by decide) hf0 k hlt
      have hsn := leaf_snoc hlt
      have hlen := leafN_len (l.take k)
      rw [List.length_take] at hlen
      generalize l[k] = x at o2 hsn
      have hx := partsOut_len [x.name, x.value]
      have ex : entE x = partsOut [x.name, x.value] := rfl
      (refine run ?_; repeat intro b)
      refine s_if true (by rw [← decide_eq_true (p := ((k : Nat) : Int) < ((l.length : Nat) : Int)) (by omega)]; rfl) (fun _ => ?_) (fun h => by cases h)
      (refine run ?_; repeat intro b)
      refine s_pureO rfl rfl rfl ⟨by omega, by omega, frow_some hf0 (j := k * 2) (by rw [flat_len entry_row]; omega)⟩ ?_
      refine s_loadA x.row rfl rfl rfl rfl rfl (by rw [Int.toNat_natCast]; exact o1) (by rw [Int.toNat_natCast]; exact o2) ?_
      (refine run ?_; repeat intro b)
      refine s_shift (VS.freeze 1 [3, 11, 12, 13, 22] rfl rfl rfl rfl fun F1 hs1 hf1 => VS.id ?_)
      refine s_plain _ rfl rfl rfl bd141 rfl (parts_ok [x.name, x.value] (by simp) hf1) ?_
      rw [← ex]
      (refine run ?_; repeat intro b)
      refine s_pureO rfl rfl rfl (by simp only [bl_S, List.length_cons]; rw [ex]; unfold maxInt; omega) ?_
      (refine run ?_; repeat intro b)
      rw [wrap_succ (by omega)]
      exact s_loopPc (F1, k + 1) [0] [3, 11, 12, 13] ⟨hF.trans hs1, hlt⟩ (by simp only; omega) rfl (by simp only [bl_S]; rw [hsn]; rfl) rfl rfl trivial rfl
    · have hge : k = l.length := by omega
      subst hge
      (refine run ?_; repeat intro b)
      refine s_if false (by rw [← decide_eq_false (p := ((l.length : Nat) : Int) < ((l.length : Nat) : Int)) (by omega)]; rfl) (fun h => by cases h) (fun _ => ?_)
      (refine run ?_; repeat intro b)
      rfl
theorem nodesaid_ok (x y : Nat) (hx : x < 18446744073709551616) (hy : y < 18446744073709551616) (F : Hp) : Plain Tryz.prog F 109 [u64 (x : Nat), u64 (y : Nat)] (S (nodeN x y)) := by
  refine plain_vc (N := 18) (rv := [.tmp 4]) tbok mixed Tryz.func109 rfl rfl rfl rfl rfl ?_
  (refine run ?_; repeat intro b)
  have hm : Plain Tryz.prog F 22 [S [0]] (u64 (noneM : Nat)) := refmark_ok [0] (by decide) F
  refine s_plain _ rfl rfl rfl bd22 rfl hm ?_
  unfold nodeN
  generalize noneM = z
  (refine run ?_; repeat intro b)
  refine s_if (decide (x = z ∧ y = z)) ?_ (fun h => ?_) (fun h => ?_)
  · refine congrArg (fun b => some (EV.v (.bool b))) ?_
    rw [bpick_and, Bool.eq_iff_iff]
    simp
    omega
  · rw [if_pos (of_decide_eq_true h)]
    (refine run ?_; repeat intro b)
    rfl
  · rw [if_neg (of_decide_eq_false h)]
    (refine run ?_; repeat intro b)
    refine s_plain _ rfl rfl rfl bd147 rfl (reftwo_ok 2 x y (by decide) hx hy F) ?_
    (refine run ?_; repeat intro b)
    rfl
def headE (l : List Entry) : List UInt8 := (l.getD 0 ⟨[], []⟩).name
def lastN (l : List Entry) : List UInt8 := (l.getD (l.length - 1) ⟨[], []⟩).name
def leafE (l : List Entry) : Int := if bookFault l ≠ 0 then bookFault l else if 0 < l.length ∧ pathN (headE l) ≠ pathN (lastN l) then 3 else 0
def leafO (l : List Entry) : List UInt8 := if leafE l = 0 then leafN l else []
set_option maxHeartbeats 1000000 in
theorem treeleaf_ok (l : List Entry) (hl : l.length ≤ 4611686018427387904) (hw : ∀ x ∈ l, x.wf) {p : Option Addr} {c : Nat} {F : Hp} (hf : Frow F p (l.flatMap Entry.row)) : Plain Tryz.prog F 230 [.slice p l.length c] (pair (S (leafO l)) (i64 (leafE l))) := by
  refine plain_vc (N := 31) (rv := [.tmp 2, .tmp 3]) tbok mixed Tryz.func230 rfl rfl rfl rfl rfl ?_
  (refine run ?_; repeat intro b)
  refine s_plain _ rfl rfl rfl bd82 rfl (treecheck_ok l hl hw hf) ?_
  have hO : ∀ e, leafE l = e → e ≠ 0 → leafO l = [] := fun e h h0 => by unfold leafO; rw [h, if_neg h0]
  (refine run ?_; repeat intro b)
  refine s_if (decide (bookFault l ≠ 0)) ?_ (fun h => ?_) (fun h => ?_)
  · refine congrArg (fun b => some (EV.v (.bool b))) ?_
    rw [Bool.eq_iff_iff]; simp
  · have e : leafE l = bookFault l := by unfold leafE; rw [if_pos (of_decide_eq_true h)]
    rw [hO _ e (of_decide_eq_true h), e]
    (refine run ?_; repeat intro b)
    rfl
  · have e : leafE l = if 0 < l.length ∧ pathN (headE l) ≠ pathN (lastN l) then 3 else 0 := by unfold leafE; rw [if_neg (of_decide_eq_false h)]
    have h0 : bookFault l = 0 := by simpa using h
    obtain ⟨h24, hgood, _⟩ := bookFault_zero h0
    (refine run ?_; repeat intro b)
    refine s_regiond (by kernel_rfl) ?_
    (refine run ?_; repeat intro b)
    have hk0 : decide ((0 : Int) < (l.length : Int)) = true → 0 < l.length := fun h => by have := of_decide_eq_true h; omega
    have ew : 0 < l.length → IntKind.i64.wrap ((l.length : Int) - 1) = ((l.length - 1 : Nat) : Int) := fun h => by rw [wrap_i64 (by omega) (by omega)]; omega
    have g0 : 0 < l.length → (padd p (0 * 2)).isSome = true ∧ Pcell F (padd (padd p (0 * 2)) 0) = some (S (headE l)) := fun h => by
      obtain ⟨q1, q2⟩ := frow_agg entry_row (by decide) hf 0 h
      have e2 : headE l = l[0].name := by unfold headE; rw [List.getD_eq_getElem?_getD, List.getElem?_eq_getElem h]; rfl
      rw [e2]
      exact ⟨q1, q2 0 (by decide)⟩
    have g1 : 0 < l.length → (padd p ((l.length - 1) * 2)).isSome = true ∧ Pcell F (padd (padd p ((l.length - 1) * 2)) 0) = some (S (lastN l)) := fun h => by
      obtain ⟨q1, q2⟩ := frow_agg entry_row (by decide) hf (l.length - 1) (by omega)
      have e2 : lastN l = l[l.length - 1].name := by unfold lastN; rw [List.getD_eq_getElem?_getD, List.getElem?_eq_getElem (by omega)]; rfl
      rw [e2]
      exact ⟨q1, q2 0 (by decide)⟩
    have w0 : (headE l).length ≤ 4611686018427387904 := by
      unfold headE
      by_cases h : 0 < l.length
      · rw [List.getD_eq_getElem?_getD, List.getElem?_eq_getElem h]
        exact (hw _ (List.getElem_mem h)).name
      · rw [List.getD_eq_getElem?_getD, List.getElem?_eq_none (by omega)]
        exact Nat.zero_le _
    have w1 : (lastN l).length ≤ 4611686018427387904 := by
      unfold lastN
      by_cases h : 0 < l.length
      · rw [List.getD_eq_getElem?_getD, List.getElem?_eq_getElem (by omega)]
        exact (hw _ (List.getElem_mem _)).name
      · rw [List.getD_eq_getElem?_getD, List.getElem?_eq_none (by omega)]
        exact Nat.zero_le _
    have n0 : 0 < l.length → goodName (headE l) = true ∧ goodName (lastN l) = true := fun h => by
      unfold headE lastN
      rw [List.getD_eq_getElem?_getD, List.getElem?_eq_getElem h, List.getD_eq_getElem?_getD, List.getElem?_eq_getElem (by omega)]
      exact ⟨(hgood _ (List.getElem_mem h)).1, (hgood _ (List.getElem_mem _)).1⟩
    generalize headE l = x0 at *
    generalize lastN l = x1 at *
    refine s_gpureO rfl rfl rfl rfl rfl (fun hg => ⟨by omega, by have := hk0 hg.1; omega, frow_some hf (j := 0) (by rw [flat_len entry_row]; have := hk0 hg.1; omega)⟩) ?_
    (refine run ?_; repeat intro b)
    refine s_gpureO rfl rfl rfl rfl rfl (fun hg => (g0 (hk0 hg.1)).1) ?_
    (refine run ?_; repeat intro b)
    refine s_gload (S x0) rfl rfl rfl rfl rfl rfl (fun hg => (g0 (hk0 hg.1)).2) ?_
    (refine run ?_; repeat intro b)
    refine s_gplain _ rfl rfl rfl rfl bd176 rfl rfl (fun hg => treeway_ok x0 w0 F) ?_
    (refine run ?_; repeat intro b)
    refine s_gpureO rfl rfl rfl rfl rfl (fun hg => ?_) ?_
    · have h := hk0 hg.1
      rw [ew h]
      exact ⟨by omega, by omega, frow_some hf (j := (l.length - 1) * 2) (by rw [flat_len entry_row]; omega)⟩
    (refine run ?_; repeat intro b)
    refine s_gpureO rfl rfl rfl rfl rfl (fun hg => ?_) ?_
    · have h := hk0 hg.1
      rw [ew h, Int.toNat_natCast]
      exact (g1 h).1
    (refine run ?_; repeat intro b)
    refine s_gload (S x1) rfl rfl rfl rfl rfl rfl (fun hg => ?_) ?_
    · have h := hk0 hg.1
      rw [ew h, Int.toNat_natCast]
      exact (g1 h).2
    (refine run ?_; repeat intro b)
    refine s_gplain _ rfl rfl rfl rfl bd176 rfl rfl (fun hg => treeway_ok x1 w1 F) ?_
    (refine run ?_; repeat intro b)
    refine s_if (decide (0 < l.length ∧ pathN x0 ≠ pathN x1)) ?_ (fun h => ?_) (fun h => ?_)
    · refine congrArg (fun b => some (EV.v (.bool b))) ?_
      rw [bpick_and, Bool.eq_iff_iff]
      by_cases h : 0 < l.length
      · obtain ⟨q0, q1⟩ := n0 h
        unfold wayN
        rw [if_pos q0, if_pos q1, show decide ((0 : Int) < (l.length : Int)) = true from decide_eq_true (by omega)]
        simp [h]
        exact ⟨fun h => of_decide_eq_false h, fun h => decide_eq_false h⟩
      · rw [show decide ((0 : Int) < (l.length : Int)) = false from decide_eq_false (by omega)]
        simp [h]
    · rw [if_pos (of_decide_eq_true h)] at e
      rw [hO _ e (by decide), e]
      (refine run ?_; repeat intro b)
      rfl
    · rw [if_neg (of_decide_eq_false h)] at e
      have e2 : leafO l = leafN l := by unfold leafO; rw [if_pos e]
      rw [e2, e]
      (refine run ?_; repeat intro b)
      refine s_plain _ rfl rfl rfl bd172 rfl (treesaid_ok l h24 hw hf) ?_
      (refine run ?_; repeat intro b)
      rfl
theorem sayL_snoc (p : Prf) (k : Nat) : ((sayL p (k + 1)).map S).map EV.v = ((sayL p k).map S).map EV.v ++ [EV.v (S (sayF p k))] := by
  rw [sayL_succ]; simp
theorem leafE_nil : leafE [] = 0 := by
  have : bookFault [] = 0 := by unfold bookFault; rfl
  unfold leafE
  rw [this]
  rfl
theorem leafO_nil : leafO [] = [0] := by
  unfold leafO
  rw [if_pos leafE_nil]
  rfl
theorem leafE_prf {p : Prf} (h : prfFault p = 0) : leafE p.ents = 0 := by
  obtain ⟨_, h2, h3, _, _⟩ := prfFault_zero h
  have e : ∀ i, i < p.ents.length → pathN (p.ents.getD i ⟨[], []⟩).name = pathN p.name := fun i hi => by
    rw [List.getD_eq_getElem?_getD, List.getElem?_eq_getElem hi]
    exact h3 _ (List.getElem_mem hi)
  unfold leafE
  rw [if_neg (by rw [h2]; decide), if_neg]
  rintro ⟨h4, h5⟩
  exact h5 ((e 0 h4).trans (e (p.ents.length - 1) (by omega)).symm)
set_option maxHeartbeats 4000000 in
theorem proofsaid_ok (p : Prf) (a : Lay) (hw : p.wf) {F : Hp} (hf : p.at F a) : CallF Tryz.prog F 197 [p.v a] (fun x F' => ∃ p' c', x = pair (.slice p' (saidO p).length c') (i64 (prfFault p)) ∧ (saidO p).length ≤ c' ∧ Frow F' p' ((saidO p).map S)) := by
  refine call_vc (N := 74) (rv := [.tmp 2, .tmp 3]) tbok mixed Tryz.func197 rfl rfl rfl rfl rfl ?_
  (refine run ?_; repeat intro b)
  refine s_plain _ rfl rfl rfl bd229 rfl (proofright_ok p a hw hf) ?_
  (refine run ?_; repeat intro b)
  refine s_if (decide (prfFault p ≠ 0)) ?_ (fun h => ?_) (fun h => ?_)
  · refine congrArg (fun b => some (EV.v (.bool b))) ?_
    rw [Bool.eq_iff_iff]; simp
  · have e : saidO p = [] := by unfold saidO; rw [if_neg (of_decide_eq_true h)]
    rw [e]
    (refine run ?_; repeat intro b)
    exact s_retG (VS.dropR [0] rfl (VS.id ⟨_, rfl, rfl, none, 0, rfl, Nat.le_refl _, frow_nil _ _⟩))
  · have h0 : prfFault p = 0 := by simpa using h
    obtain ⟨z1, z2, z3, z4, z5⟩ := prfFault_zero h0
    obtain ⟨y1, y2, _⟩ := bookFault_zero z2
    have e : saidO p = sayL p 17 := by unfold saidO; rw [if_pos h0]
    obtain ⟨w1, w2, w3, w4, w5⟩ := hw
    obtain ⟨f1, f2⟩ := hf
    rw [e, h0]
    (refine run ?_; repeat intro b)
    have hn := treeleaf_ok [] (Nat.zero_le _) (fun x hx => by cases hx) (p := none) (c := 0) (frow_nil F none)
    rw [leafE_nil, leafO_nil] at hn
    refine s_plain _ rfl rfl rfl bd230 rfl hn ?_
    (refine run ?_; repeat intro b)
    have hlf := treeleaf_ok p.ents w2 w3 (c := a.ce) f1
    have e2 : leafO p.ents = leafN p.ents := by unfold leafO; rw [if_pos (leafE_prf h0)]
    rw [leafE_prf h0, e2] at hlf
    refine s_plain _ rfl rfl rfl bd230 rfl hlf ?_
    (refine run ?_; repeat intro b)
    refine s_plain _ rfl rfl rfl bd99 rfl (proofway_ok p.name w1 F) ?_
    have ew : wayN p.name = pathN p.name := by unfold wayN; rw [if_pos z1]
    rw [ew]
    (refine run ?_; repeat intro b)
    refine s_loopP (fun q : Nat × Nat × Nat => q.1 ≤ p.sides.length ∧ q.1 + 1 ≤ q.2.2) (fun q => ⟨[(5, .v (S [0])), (7, .v (S (sayF p q.1))), (9, .row 2 0 (q.1 + 1) q.2.2), (10, .v (S (pathN p.name))), (36, .v (.slice a.s p.sides.length a.cs)), (37, .v (i64 (p.sides.length : Nat))), (38, .v (i64 (q.1 : Nat)))], F, [(2, ⟨some q.2.1, ((sayL p (q.1 + 1)).map S).map EV.v, 9, q.2.2 * 1⟩)], 3⟩) (fun q => p.sides.length - q.1) (0, b, 1) ⟨Nat.zero_le _, Nat.le_refl _⟩ (VS.ren (nx' := 3) [(1, 2)] [5, 7, 9, 10, 36, 37, 38] [(2, ⟨some b, ((sayL p (0 + 1)).map S).map EV.v, 9, 1⟩)] ⟨rfl, ⟨_, rfl, rfl, rfl, rfl, .inr rfl⟩, trivial⟩ rfl rfl rfl rfl rfl rfl rfl) ?_
    rintro ⟨k, blk, cap⟩ ⟨hk, hcap⟩
    dsimp only at hk hcap ⊢
    have hsl := sayL_len p (k + 1)
    by_cases hlt : k < p.sides.length
    · have hk16 : k < 16 := by omega
      have g := frow_get f2 (j := k) (by rw [List.length_map]; exact hlt)
      rw [List.getElem_map] at g
      have hb := path_bit p.name (15 - k) (by omega)
      have hsay := sayF_len y1 k
      have hm := z5 _ (List.getElem_mem hlt)
      have hst : sayF p (k + 1) = if (pathN p.name).getD (15 - k) 0 = 48 then nodeN (markN (sayF p k)) p.sides[k] else nodeN p.sides[k] (markN (sayF p k)) := by
        have : p.sides[k] = p.sides.getD k 0 := by rw [List.getD_eq_getElem?_getD, List.getElem?_eq_getElem hlt]; rfl
        rw [this]; rfl
      have hsn := sayL_snoc p (k + 1)
      have hmm : MM = 2305843009213693951 := rfl
      have hmk := markN_lt (sayF p k)
      have ei : IntKind.i64.wrap (15 - (k : Int)) = ((15 - k : Nat) : Int) := by rw [wrap_i64 (by omega) (by omega)]; omega
      have hpl := pathN_len p.name
      generalize p.sides[k] = m at g hm hst
      generalize hW : pathN p.name = W at hb hst hpl
      (refine run ?_; repeat intro b)
      refine s_if true (by rw [← decide_eq_true (p := ((k : Nat) : Int) < ((p.sides.length : Nat) : Int)) (by omega)]; rfl) (fun _ => ?_) (fun h => by cases h)
      (refine run ?_; repeat intro b)
      refine s_pureO rfl rfl rfl ⟨by omega, by omega, frow_some f2 (j := k) (by rw [List.length_map]; exact hlt)⟩ ?_
      refine s_load (mu m) rfl rfl rfl rfl (by rw [Int.toNat_natCast, Nat.mul_one]; exact g) ?_
      (refine run ?_; repeat intro b)
      refine s_plain _ rfl rfl rfl bd171 rfl (markof_ok (sayF p k) (by omega) F) ?_
      (refine run ?_; repeat intro b)
      rw [ei]
      refine s_pureO rfl rfl rfl ⟨by omega, by simp only [bl_S]; omega⟩ ?_
      generalize markN (sayF p k) = mk at hmk hst
      (refine run ?_; repeat intro b)
      obtain ⟨A, hA⟩ : ∃ A : Nat, A = if W.getD (15 - k) 0 = 48 then mk else m := ⟨_, rfl⟩
      obtain ⟨B, hB⟩ : ∃ B : Nat, B = if W.getD (15 - k) 0 = 48 then m else mk := ⟨_, rfl⟩
      refine s_join (β := Unit) (fun _ => True) (fun _ => ⟨[(5, .v (S [0])), (9, .row 2 0 (k + 1) cap), (10, .v (S W)), (13, .v (u64 (A : Nat))), (14, .v (u64 (B : Nat))), (36, .v (.slice a.s p.sides.length a.cs)), (37, .v (i64 (p.sides.length : Nat))), (38, .v (i64 (k : Nat)))], F, [(2, ⟨some blk, ((sayL p (k + 1)).map S).map EV.v, 9, cap * 1⟩)], 3⟩) rfl (fun _ _ => ?_) (fun KK2 kn kr ke => ?_)
      · have hs2 : sayF p (k + 1) = nodeN A B := by
          rw [hst, hA, hB]
          split <;> rfl
        have hA2 : A < 18446744073709551616 := by rw [hA]; split <;> omega
        have hB2 : B < 18446744073709551616 := by rw [hB]; split <;> omega
        rw [hs2] at hsn
        have hs3 := hs2
        clear hA hB hst hs2
        (refine run ?_; repeat intro b)
        have hn : Plain Tryz.prog F 171 [S [0]] (u64 (noneM : Nat)) := markof_ok [0] (by decide) F
        refine s_plain _ rfl rfl rfl bd171 rfl hn ?_
        have hnl := nodeN_len A B
        unfold nodeN at hsn hnl
        have hcells : ∀ x, x = (if A = noneM ∧ B = noneM then [0] else two 2 A B) → (((sayL p (k + 1)).map S).map EV.v).take ((k + 1) * 1) ++ [EV.v (S x)] = ((sayL p (k + 1 + 1)).map S).map EV.v := fun x hx => by
          rw [hsn, hx, List.take_of_length_le (by simp [hsl])]
        have hnode : (if A = noneM ∧ B = noneM then [0] else two 2 A B) = sayF p (k + 1) := by
          rw [hs3]; rfl
        generalize noneM = z at *
        (refine run ?_; repeat intro b)
        refine s_if (decide (¬ (A = z ∧ B = z))) ?_ (fun h => ?_) (fun h => ?_)
        · refine congrArg (fun b => some (EV.v (.bool b))) ?_
          rw [bpick_or, Bool.eq_iff_iff]
          simp
          split <;> omega
        · rw [if_neg (of_decide_eq_true h)] at hcells hnode
          (refine run ?_; repeat intro b)
          refine s_plain _ rfl rfl rfl bd210 rfl (said_ok 2 A B (by decide) hA2 hB2 F) ?_
          (refine run ?_; repeat intro b)
          refine s_appR rfl rfl rfl rfl rfl rfl rfl rfl (src_row rfl rfl) one1 (fun h => by cases h) hcap rfl (by simp [hsl]) (by show _ * 16 ≤ _; omega) (fun h => by cases h) (fun _ b2 c2 hc2 => ?_)
          (refine run ?_; repeat intro b)
          rw [wrap_succ (by omega), hnode]
          rw [hnode] at hcells
          exact s_loopPq (k + 1, b2, c2) 2 [(4, 2)] [5, 7, 9, 10, 36, 37, 38] [(2, ⟨some b2, ((sayL p (k + 1 + 1)).map S).map EV.v, 9, c2 * 1⟩)] ⟨hlt, hc2⟩ (by simp only; omega) (Nat.min_le_left _ _)
            ⟨rfl, ⟨_, rfl, rfl, rfl, rfl, .inl ⟨(hcells _ rfl).symm, fun e he => all_v _ e ((hcells _ rfl) ▸ he)⟩⟩, trivial⟩ rfl rfl rfl rfl rfl rfl rfl
        · rw [if_pos (by simpa using h)] at hcells hnode
          (refine run ?_; repeat intro b)
          refine s_appR rfl rfl rfl rfl rfl rfl rfl rfl (src_row rfl rfl) one1 (fun h => by cases h) hcap rfl (by simp [hsl]) (by show _ * 16 ≤ _; omega) (fun h => by cases h) (fun _ b2 c2 hc2 => ?_)
          (refine run ?_; repeat intro b)
          rw [wrap_succ (by omega), hnode]
          rw [hnode] at hcells
          exact s_loopPq (k + 1, b2, c2) 2 [(4, 2)] [5, 7, 9, 10, 36, 37, 38] [(2, ⟨some b2, ((sayL p (k + 1 + 1)).map S).map EV.v, 9, c2 * 1⟩)] ⟨hlt, hc2⟩ (by simp only; omega) (Nat.min_le_left _ _)
            ⟨rfl, ⟨_, rfl, rfl, rfl, rfl, .inl ⟨(hcells _ rfl).symm, fun e he => all_v _ e ((hcells _ rfl) ▸ he)⟩⟩, trivial⟩ rfl rfl rfl rfl rfl rfl rfl
      · rcases hb with h | h
        · rw [if_pos h] at hA hB
          rw [Int.toNat_natCast, bl_S, h]
          (refine run ?_; repeat intro b)
          exact kn _ (VS.keepN [5, 9, 10, 13, 14, 36, 37, 38] rfl ⟨(), trivial, by rw [hA, hB]⟩)
        · rw [if_neg (by rw [h]; decide)] at hA hB
          rw [Int.toNat_natCast, bl_S, h]
          (refine run ?_; repeat intro b)
          exact kn _ (VS.keepN [5, 9, 10, 13, 14, 36, 37, 38] rfl ⟨(), trivial, by rw [hA, hB]⟩)
    · have hge : k = p.sides.length := by omega
      have e16 : p.sides.length + 1 = 17 := by omega
      subst hge
      rw [e16]
      (refine run ?_; repeat intro b)
      refine s_if false (by rw [← decide_eq_false (p := ((p.sides.length : Nat) : Int) < ((p.sides.length : Nat) : Int)) (by omega)]; rfl) (fun h => by cases h) (fun _ => ?_)
      (refine run ?_; repeat intro b)
      refine s_retG ?_
      refine VS.freeze 2 [2, 3] rfl (allV_map_v _) rfl rfl fun F' hs1 hf1 => VS.id ⟨_, rfl, rfl, some ⟨blk, 0, none⟩, cap, by rw [sayL_len]; rfl, by rw [sayL_len]; omega, hf1⟩
end Go.Proofs.YthkkgphjjmhglaaGreatDoor
