/-
slices.Insert of one entry into a row of the call's own: the walk.
-/
import Derived.Test.YthkkgphjjmhglaaGreatDoorTree
import Derived.Test.YthkkgphjjmhglaaGreatDoorFwL
namespace Go.Proofs.YthkkgphjjmhglaaGreatDoor
set_option linter.unusedVariables false
set_option linter.unusedSimpArgs false
open Go.TR
def insL (l : List Entry) (i : Nat) : List Entry := l.take i ++ ⟨[], []⟩ :: l.drop i
theorem insL_len {l : List Entry} {i : Nat} (h : i ≤ l.length) : (insL l i).length = l.length + 1 := by
  unfold insL
  rw [List.length_append, List.length_cons, List.length_take, List.length_drop]
  omega
@[reducible] def zE : List EV := [.v (S []), .v (S [])]
@[reducible] def enE (l : List Entry) : List EV := (l.flatMap Entry.row).map EV.v
theorem enE_len (l : List Entry) : (enE l).length = l.length * 2 := by rw [List.length_map, flat_len entry_row]
theorem enE_app (a b : List Entry) : enE (a ++ b) = enE a ++ enE b := by
  unfold enE
  rw [List.flatMap_append, List.map_append]
theorem enE_take (l : List Entry) (i : Nat) : enE (l.take i) = (enE l).take (i * 2) := by
  unfold enE
  rw [flat_take entry_row, List.map_take]
theorem enE_drop (l : List Entry) (i : Nat) (h : i ≤ l.length) : enE (l.drop i) = (enE l).drop (i * 2) := by
  have e1 : enE l = enE (l.take i) ++ enE (l.drop i) := by rw [← enE_app, List.take_append_drop]
  have e2 : (enE (l.take i)).length = i * 2 := by rw [enE_len, List.length_take]; omega
  conv => rhs; rw [e1]
  exact (List.drop_left' e2).symm
theorem one_en (rs : RL) (l : List Entry) : oneAll rs (enE l) := one_v rs (entry_one l)
theorem one_zE (rs : RL) : oneAll rs zE := one_en rs [⟨[], []⟩]
theorem insL_enE (l : List Entry) (i : Nat) : enE (insL l i) = enE (l.take i) ++ (zE ++ enE (l.drop i)) := by
  unfold insL
  rw [enE_app]
  rfl
theorem seg1 {α : Type} (A V z : List α) {n k : Nat} (h : A.length = n) : (A ++ V).take n ++ z ++ (A ++ V).drop (n + k) = A ++ (z ++ V.drop k) := by
  subst h
  rw [List.take_left, List.drop_append, List.drop_eq_nil_of_le (by omega), List.nil_append, Nat.add_sub_cancel_left, List.append_assoc]
attribute [local irreducible] vc vcOps seqK blockK loopK retK retG retI loopV Plain CallOK CallIn bodied VS vcAny dropG backK brK loopPK IntKind.wrap
set_option maxRecDepth 100000
set_option maxHeartbeats 4000000 in
theorem insert_in (l : List Entry) (i : Nat) (hi : i ≤ l.length) (hn : 0 < l.length) (h24 : l.length ≤ 1000) {b bv c : Nat} {F : Hp} (hc : l.length ≤ c) :
    CallIn Tryz.prog F [(1, ⟨some bv, zE, 70, 2⟩), (0, ⟨some b, enE l, 70, c * 2⟩)] 2 116 [.row 0 0 l.length c, .v (i64 (i : Nat)), .row 1 0 1 1] (fun e F' rs' nx' => ∃ b' c', e = .row 9 0 (l.length + 1) c' ∧ F' = F ∧ nx' = 10 ∧ l.length + 1 ≤ c' ∧ rs' = [(9, ⟨some b', enE (insL l i), 70, c' * 2⟩)]) := by
  refine callin_vc (N := 95) (rv := [.tmp 6]) tbok mixed Tryz.func116 rfl rfl rfl rfl rfl ?_
  have hL := enE_len l
  (refine run ?_; repeat intro b)
  refine s_pureO rfl rfl rfl ⟨by omega, by omega, by omega⟩ ?_
  (refine run ?_; repeat intro b)
  by_cases hie : i = l.length
  · subst hie
    refine s_if true (congrArg (fun b => some (EV.v (.bool b))) (by simp)) (fun _ => ?_) (fun h => by cases h)
    (refine run ?_; repeat intro b)
    have hcells : (enE l).take (l.length * 2) ++ zE = enE (insL l l.length) := by
      rw [insL_enE, List.take_of_length_le (by omega), List.take_length, List.drop_length]
      simp
    refine s_appR rfl rfl rfl rfl rfl rfl rfl rfl (src_row rfl rfl) (one_zE _) (fun h => by cases h) hc rfl (by rw [hL]; exact Nat.le_refl _) (by show (_ + 1) * 32 ≤ _; omega) (fun h => by cases h) (fun _ b2 c2 hc2 => ?_)
    refine s_shift (VS.ren (nx' := 10) [(2, 9)] [25] [(9, ⟨some b2, enE (insL l l.length), 70, c2 * 2⟩)] ⟨rfl, ⟨_, rfl, rfl, rfl, rfl, .inl ⟨hcells.symm, fun e he => all_v _ e (hcells ▸ he)⟩⟩, trivial⟩ rfl rfl rfl rfl rfl rfl ?_)
    (refine run ?_; repeat intro b)
    exact ⟨b2, c2, rfl, rfl, rfl, hc2, rfl⟩
  · have hlt : i < l.length := by omega
    refine s_if false (congrArg (fun b => some (EV.v (.bool b))) (by simp; omega)) (fun h => by cases h) (fun _ => ?_)
    (refine run ?_; repeat intro b)
    have w1 : IntKind.i64.wrap ((l.length : Int) + ((1 : Nat) : Int)) = ((l.length + 1 : Nat) : Int) := by rw [wrap_i64 (by omega) (by omega)]; omega
    have w2 : IntKind.i64.wrap (((l.length + 1 : Nat) : Int) - (i : Int)) = ((l.length + 1 - i : Nat) : Int) := by rw [wrap_i64 (by omega) (by omega)]; omega
    have w3 : IntKind.i64.wrap ((i : Int) + ((1 : Nat) : Int)) = ((i + 1 : Nat) : Int) := by rw [wrap_i64 (by omega) (by omega)]; omega
    by_cases hcap : c < l.length + 1
    · refine s_if true (congrArg (fun b => some (EV.v (.bool b))) ?_) (fun _ => ?_) (fun h => by cases h)
      · rw [w1]
        exact decide_eq_true (by omega)
      (refine run ?_; repeat intro b)
      refine s_pureO rfl rfl rfl ⟨by omega, by omega⟩ ?_
      (refine run ?_; repeat intro b)
      rw [w1, w2, Int.toNat_natCast]
      refine s_appZR tbok rfl rfl rfl rfl rfl rfl rfl rfl (by omega) (by omega) (by show _ * 32 ≤ _; omega) rfl (by rw [hL]; show i * 2 ≤ _; omega) (fun b2 c2 vs hc2 hvs => ?_)
      have e0 : i + (l.length + 1 - i) = l.length + 1 := by omega
      rw [e0] at hc2 ⊢
      have hvs' : vs.length = (l.length + 1 - i) * 2 := hvs
      have hA : ((enE l).take (i * 2)).length = i * 2 := by rw [List.length_take]; omega
      have hso : slOff 0 i c2 2 = i * 2 := by unfold slOff; rw [if_neg (by omega), Nat.zero_add]
      have hso1 : slOff 0 (i + 1) c2 2 = (i + 1) * 2 := by unfold slOff; rw [if_neg (by omega), Nat.zero_add]
      have hso2 : slOff 0 i c 2 = i * 2 := by unfold slOff; rw [if_neg (by omega), Nat.zero_add]
      have k1 : ((enE l).take (i * 2) ++ vs.map EV.v).take (slOff 0 i c2 2) ++ zE ++ ((enE l).take (i * 2) ++ vs.map EV.v).drop (slOff 0 i c2 2 + 1 * 2) = (enE l).take (i * 2) ++ (zE ++ (vs.drop 2).map EV.v) := by
        rw [hso, seg1 _ _ zE hA, List.map_drop]
      have k2 : ((enE l).take (i * 2) ++ (zE ++ (vs.drop 2).map EV.v)).take (slOff 0 (i + 1) c2 2) ++ (enE l).drop (i * 2) ++ ((enE l).take (i * 2) ++ (zE ++ (vs.drop 2).map EV.v)).drop (slOff 0 (i + 1) c2 2 + (l.length - i) * 2) = enE (insL l i) := by
        have h1 : ((enE l).take (i * 2) ++ zE).length = (i + 1) * 2 := by rw [List.length_append, hA]; show i * 2 + 2 = _; omega
        have h2 : (enE l).take (i * 2) ++ (zE ++ (vs.drop 2).map EV.v) = ((enE l).take (i * 2) ++ zE) ++ (vs.drop 2).map EV.v := (List.append_assoc _ _ _).symm
        have hV : ((vs.drop 2).map EV.v).drop ((l.length - i) * 2) = [] := List.drop_eq_nil_of_le (by rw [List.length_map, List.length_drop, hvs']; omega)
        rw [hso1, h2, seg1 _ _ _ h1, hV, List.append_nil, insL_enE, enE_take, enE_drop l i hi, List.append_assoc]
      (refine run ?_; repeat intro b)
      refine s_pureO rfl rfl rfl ⟨by omega, by omega, by omega⟩ ?_
      (refine run ?_; repeat intro b)
      refine s_copy 1 zE tbok rfl rfl rfl rfl rfl rfl rfl (by rw [Int.toNat_natCast]; simp [Nat.min_def]; omega) rfl (one_zE _) (Nat.le_refl _) (by rw [Int.toNat_natCast]; show slOff 0 i c2 2 + 1 * 2 ≤ _; rw [hso, List.length_append, hA, List.length_map, hvs']; omega) (rs' := [(2, (⟨some b2, (enE l).take (i * 2) ++ (zE ++ (vs.drop 2).map EV.v), 70, c2 * 2⟩ : Blk)), (1, ⟨some bv, zE, 70, 2⟩), (0, ⟨some b, enE l, 70, c * 2⟩)]) (congrArg (fun cs => some [(2, (⟨some b2, cs, 70, c2 * 2⟩ : Blk)), (1, ⟨some bv, zE, 70, 2⟩), (0, ⟨some b, enE l, 70, c * 2⟩)]) k1) ?_
      (refine run ?_; repeat intro b)
      refine s_regiont 8 (by kernel_rfl) rfl rfl ?_
      (refine run ?_; repeat intro b)
      rw [w3]
      refine s_pureO rfl rfl rfl ⟨by omega, by omega, by omega⟩ ?_
      (refine run ?_; repeat intro b)
      refine s_pureO rfl rfl rfl ⟨by omega, by omega, by omega⟩ ?_
      (refine run ?_; repeat intro b)
      have hB : ((enE l).take (slOff 0 i c 2 + (l.length - i) * 2)).drop (slOff 0 i c 2) = (enE l).drop (i * 2) := by
        rw [hso2, List.take_of_length_le (by omega)]
      refine s_copy (l.length - i) ((enE l).drop (i * 2)) tbok rfl rfl rfl rfl rfl rfl rfl (by rw [Int.toNat_natCast, Int.toNat_natCast]; simp [Nat.min_def]) (by rw [Int.toNat_natCast]; exact hB) (by rw [← enE_drop l i hi]; exact one_en _ _) (by rw [Int.toNat_natCast]; show slOff 0 i c 2 + (l.length - i) * 2 ≤ _; rw [hso2]; omega) (by rw [Int.toNat_natCast]; show slOff 0 (i + 1) c2 2 + (l.length - i) * 2 ≤ _; rw [hso1, List.length_append, hA, List.length_append, List.length_map, List.length_drop, hvs']; show _ ≤ i * 2 + (2 + _); omega) (rs' := [(2, (⟨some b2, enE (insL l i), 70, c2 * 2⟩ : Blk)), (1, ⟨some bv, zE, 70, 2⟩), (0, ⟨some b, enE l, 70, c * 2⟩)]) (congrArg (fun cs => some [(2, (⟨some b2, cs, 70, c2 * 2⟩ : Blk)), (1, ⟨some bv, zE, 70, 2⟩), (0, ⟨some b, enE l, 70, c * 2⟩)]) k2) ?_
      (refine runR ?_; repeat intro b)
      refine s_vs (VS.ren (nx' := 10) [(2, 9)] [9] [(9, ⟨some b2, enE (insL l i), 70, c2 * 2⟩)] ⟨rfl, ⟨_, rfl, rfl, rfl, rfl, .inl ⟨rfl, fun e he => all_v _ e he⟩⟩, trivial⟩ rfl rfl rfl rfl rfl rfl ?_)
      (refine run ?_; repeat intro b)
      exact ⟨b2, c2, rfl, rfl, rfl, hc2, rfl⟩
    · refine s_if false (congrArg (fun b => some (EV.v (.bool b))) ?_) (fun h => by cases h) (fun _ => ?_)
      · rw [w1]
        exact decide_eq_false (by omega)
      (refine run ?_; repeat intro b)
      rw [w1]
      refine s_shift (VS.more 0 2 (fun vs => [(1, ⟨some bv, zE, 70, 2⟩), (0, ⟨some b, enE l ++ vs.map .v, 70, c * 2⟩)]) rfl (fun _ => rfl) (by omega) fun vs hvs => ?_)
      refine s_pureO rfl rfl rfl ⟨by omega, by omega⟩ ?_
      (refine run ?_; repeat intro b)
      rw [w3]
      refine s_pureO rfl rfl rfl ⟨by omega, by omega, by omega⟩ ?_
      (refine run ?_; repeat intro b)
      rw [Int.toNat_natCast, Int.toNat_natCast]
      refine s_over tbok rfl rfl Tryz.func152 (by kernel_rfl) (by kernel_rfl) (by kernel_rfl) (t4 := 4) (t := 32) (by kernel_rfl) rfl rfl rfl rfl rfl (by omega) rfl ?_
      (refine run ?_; repeat intro b)
      refine s_regiont 8 (by kernel_rfl) rfl rfl ?_
      (refine run ?_; repeat intro b)
      rw [w3]
      refine s_pureO rfl rfl rfl ⟨by omega, by omega, by omega⟩ ?_
      (refine run ?_; repeat intro b)
      refine s_pureO rfl rfl rfl ⟨by omega, by omega, by omega⟩ ?_
      (refine run ?_; repeat intro b)
      have hso1 : slOff 0 (i + 1) c 2 = (i + 1) * 2 := by unfold slOff; rw [if_neg (by omega), Nat.zero_add]
      have hso2 : slOff 0 i c 2 = i * 2 := by unfold slOff; rw [if_neg (by omega), Nat.zero_add]
      have hA : ((enE l).take ((i + 1) * 2)).length = (i + 1) * 2 := by rw [List.length_take]; omega
      have hB : ((enE l ++ vs.map EV.v).take (slOff 0 i c 2 + (l.length - i) * 2)).drop (slOff 0 i c 2) = (enE l).drop (i * 2) := by
        rw [hso2, List.take_left' (by omega)]
      have k1 : (enE l ++ vs.map EV.v).take (slOff 0 (i + 1) c 2) ++ (enE l).drop (i * 2) ++ (enE l ++ vs.map EV.v).drop (slOff 0 (i + 1) c 2 + (l.length - i) * 2) = (enE l).take ((i + 1) * 2) ++ (enE l).drop (i * 2) := by
        have hV : (enE l ++ vs.map EV.v).drop ((i + 1) * 2 + (l.length - i) * 2) = [] := List.drop_eq_nil_of_le (by rw [List.length_append, hL, List.length_map, hvs]; omega)
        rw [hso1, List.take_append_of_le_length (by omega), hV, List.append_nil]
      have k2 : ((enE l).take ((i + 1) * 2) ++ (enE l).drop (i * 2)).take (slOff 0 i c 2) ++ zE ++ ((enE l).take ((i + 1) * 2) ++ (enE l).drop (i * 2)).drop (slOff 0 i c 2 + 1 * 2) = enE (insL l i) := by
        have e1 : i * 2 + 1 * 2 = (i + 1) * 2 := by omega
        rw [hso2, List.take_append_of_le_length (by omega), List.take_take, Nat.min_eq_left (by omega), e1, List.drop_left' hA, insL_enE, enE_take, enE_drop l i hi, List.append_assoc]
      refine s_copy (l.length - i) ((enE l).drop (i * 2)) tbok rfl rfl rfl rfl rfl rfl rfl (by rw [Int.toNat_natCast, Int.toNat_natCast]; simp [Nat.min_def]; omega) (by rw [Int.toNat_natCast]; exact hB) (by rw [← enE_drop l i hi]; exact one_en _ _) (by rw [Int.toNat_natCast]; show slOff 0 i c 2 + (l.length - i) * 2 ≤ _; rw [hso2, List.length_append]; omega) (by rw [Int.toNat_natCast]; show slOff 0 (i + 1) c 2 + (l.length - i) * 2 ≤ _; rw [hso1, List.length_append, hL, List.length_map, hvs]; omega) (rs' := [(1, (⟨some bv, zE, 70, 2⟩ : Blk)), (0, ⟨some b, (enE l).take ((i + 1) * 2) ++ (enE l).drop (i * 2), 70, c * 2⟩)]) (congrArg (fun cs => some [(1, (⟨some bv, zE, 70, 2⟩ : Blk)), (0, ⟨some b, cs, 70, c * 2⟩)]) k1) ?_
      (refine run ?_; repeat intro b)
      refine s_pureO rfl rfl rfl ⟨by omega, by omega, by omega⟩ ?_
      (refine run ?_; repeat intro b)
      refine s_copy 1 zE tbok rfl rfl rfl rfl rfl rfl rfl (by rw [Int.toNat_natCast]; simp [Nat.min_def]; omega) rfl (one_zE _) (Nat.le_refl _) (by rw [Int.toNat_natCast]; show slOff 0 i c 2 + 1 * 2 ≤ _; rw [hso2, List.length_append, hA, List.length_drop]; omega) (rs' := [(1, (⟨some bv, zE, 70, 2⟩ : Blk)), (0, ⟨some b, enE (insL l i), 70, c * 2⟩)]) (congrArg (fun cs => some [(1, (⟨some bv, zE, 70, 2⟩ : Blk)), (0, ⟨some b, cs, 70, c * 2⟩)]) k2) ?_
      (refine runR ?_; repeat intro b)
      refine s_vs (VS.ren (nx' := 10) [(0, 9)] [0] [(9, ⟨some b, enE (insL l i), 70, c * 2⟩)] ⟨rfl, ⟨_, rfl, rfl, rfl, rfl, .inl ⟨rfl, fun e he => all_v _ e he⟩⟩, trivial⟩ rfl rfl rfl rfl rfl rfl ?_)
      (refine run ?_; repeat intro b)
      exact ⟨b, c, rfl, rfl, rfl, by omega, rfl⟩
end Go.Proofs.YthkkgphjjmhglaaGreatDoor
