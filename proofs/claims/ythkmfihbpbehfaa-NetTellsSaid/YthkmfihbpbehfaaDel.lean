/-
slices.IndexFunc and DeleteFunc of heads, on a row of the call's own.
-/
import Derived.Test.YthkmfihbpbehfaaChainMath
import Derived.Test.YthkmfihbpbehfaaIdx
import Derived.Test.YthkmfihbpbehfaaFwD
namespace Go.Proofs.Ythkmfihbpbehfaa
set_option linter.unusedVariables false
set_option linter.unusedSimpArgs false
open Go.TR
theorem flat_at {α : Type} {f : α → List Value} {k : Nat} (hk : ∀ a, (f a).length = k) {l : List α} {j : Nat} (h : j < l.length) : (((l.flatMap f).map EV.v).take (0 + j * k + k)).drop (0 + j * k) = (f l[j]).map EV.v := by
  rw [Nat.zero_add, ← List.map_take, ← List.map_drop]
  congr 1
  have e1 : l = l.take j ++ l[j] :: l.drop (j + 1) := by rw [← List.drop_eq_getElem_cons h, List.take_append_drop]
  have e2 : l.flatMap f = (l.take j).flatMap f ++ (f l[j] ++ (l.drop (j + 1)).flatMap f) := by
    rw [← List.flatMap_cons, ← List.flatMap_append, ← e1]
  have e3 : ((l.take j).flatMap f).length = j * k := by rw [flat_len hk, List.length_take, Nat.min_eq_left (by omega)]
  rw [e2, List.drop_take, List.drop_append, e3, Nat.sub_self, List.drop_eq_nil_of_le (by omega), List.nil_append, List.drop_zero, Nat.add_sub_cancel_left, List.take_append, hk, Nat.sub_self, List.take_zero, List.append_nil, List.take_of_length_le (by rw [hk]; exact Nat.le_refl _)]
theorem flat_set {α : Type} {f : α → List Value} {k : Nat} (hk : ∀ a, (f a).length = k) {l : List α} {i : Nat} {x : α} (h : i < l.length) : ((l.flatMap f).map EV.v).take (0 + i * k) ++ (f x).map EV.v ++ ((l.flatMap f).map EV.v).drop (0 + i * k + k) = ((l.set i x).flatMap f).map EV.v := by
  rw [Nat.zero_add, ← List.map_take, ← List.map_drop, ← List.map_append, ← List.map_append]
  congr 1
  rw [← flat_take hk, ← Nat.succ_mul, ← flat_drop hk, List.set_eq_take_append_cons_drop, if_pos h, List.flatMap_append, List.flatMap_cons, List.append_assoc]
attribute [local irreducible] vc vcOps seqK blockK loopK retK retG retI loopV Plain CallOK CallIn bodied VS vcAny dropG backK brK loopPK IntKind.wrap
set_option maxRecDepth 100000
set_option maxHeartbeats 4000000
/-- slices.IndexFunc on a row of the call's own. -/
theorem head_idxin (q : Head → Bool) (g : Nat) (lb : Array Value) (hbd : bodied Try.prog g) (l : List Head) {b cap c : Nat} {F : Hp} (hl : l.length ≤ 4611686018427387904) (hp : ∀ x ∈ l, Plain Try.prog F g (.agg (Head.row x).toArray :: lb.toList) (.bool (q x))) :
    CallIn Try.prog F [(0, ⟨some b, (l.flatMap Head.row).map EV.v, 28, cap⟩)] 1 94 [.row 0 0 l.length c, .v (.func (.func g) #[] lb)] (fun e F' rs' nx' => e = .v (i64 (idxP q l)) ∧ F = F' ∧ rs' = [(0, ⟨some b, (l.flatMap Head.row).map EV.v, 28, cap⟩)] ∧ nx' = 1) := by
  refine callin_vc (N := 19) (rv := [.tmp 4]) tbok mixed Try.func94 rfl rfl rfl rfl rfl ?_
  (refine run ?_; repeat intro b)
  refine s_loopP (fun k : Nat => k ≤ l.length ∧ (l.take k).any q = false) (fun k => ⟨[(0, .row 0 0 l.length c), (1, .v (.func (.func g) #[] lb)), (7, .v (i64 (l.length : Nat))), (8, .v (i64 (k : Nat)))], F, [(0, ⟨some b, (l.flatMap Head.row).map EV.v, 28, cap⟩)], 1⟩) (fun k => l.length - k) 0 ⟨Nat.zero_le _, rfl⟩ (VS.keepN [0, 1, 7, 8] rfl rfl) ?_
  rintro k ⟨hk, hany⟩
  by_cases hlt : k < l.length
  · (refine run ?_; repeat intro b)
    refine s_if true (by rw [← decide_eq_true (p := ((k : Nat) : Int) < ((l.length : Nat) : Int)) (by omega)]; rfl) (fun _ => ?_) (fun h => by cases h)
    (refine run ?_; repeat intro b)
    refine s_pureO rfl rfl rfl ⟨by omega, by omega, ⟨_, _, rfl, rfl⟩⟩ ?_
    refine s_locXA (Head.row l[k]) rfl rfl rfl rfl rfl (by rw [Int.toNat_natCast]; show 0 + k * 4 + 4 ≤ _; rw [List.length_map, flat_len head_row]; omega) (by rw [Int.toNat_natCast]; exact flat_at head_row hlt) ?_
    (refine run ?_; repeat intro b)
    refine s_plain _ rfl rfl (by rw [forceL_eq]; rfl) hbd rfl (hp l[k] (List.getElem_mem hlt)) ?_
    (refine run ?_; repeat intro b)
    refine s_if _ rfl (fun h2 => ?_) (fun h2 => ?_)
    · (refine run ?_; repeat intro b)
      rw [idxP_found hlt hany h2]
      exact ⟨rfl, rfl, rfl, rfl⟩
    · (refine run ?_; repeat intro b)
      rw [wrap_succ (by omega)]
      refine s_loopPn (k + 1) ⟨hlt, ?_⟩ (by omega) (VS.keepN [0, 1, 7, 8] rfl rfl)
      rw [List.take_succ_eq_append_getElem hlt, List.any_append, hany]
      simp [h2]
  · have hge : k = l.length := by omega
    subst hge
    rw [List.take_length] at hany
    (refine run ?_; repeat intro b)
    refine s_if false (by rw [← decide_eq_false (p := ((l.length : Nat) : Int) < ((l.length : Nat) : Int)) (by omega)]; rfl) (fun h => by cases h) (fun _ => ?_)
    (refine run ?_; repeat intro b)
    rw [idxP_none hany]
    exact ⟨rfl, rfl, rfl, rfl⟩
/-- slices.DeleteFunc on a row of the call's own. -/
theorem head_del (q : Head → Bool) (g : Nat) (lb : Array Value) (hbd : bodied Try.prog g) (l : List Head) {b cap c : Nat} {F : Hp} (hc : l.length ≤ c) (hl : l.length ≤ 4611686018427387904) (hp : ∀ x ∈ l, Plain Try.prog F g (.agg (Head.row x).toArray :: lb.toList) (.bool (q x))) :
    CallIn Try.prog F [(0, ⟨some b, (l.flatMap Head.row).map EV.v, 28, cap⟩)] 1 34 [.row 0 0 l.length c, .v (.func (.func g) #[] lb)] (fun e F' rs' nx' => e = .row 0 0 (l.filter fun x => !q x).length c ∧ F = F' ∧ nx' = 1 ∧ ∃ cs, rs' = [(0, ⟨some b, ((l.filter fun x => !q x).flatMap Head.row ++ cs).map EV.v, 28, cap⟩)]) := by
  refine callin_vc (N := 42) (rv := [.tmp 4]) tbok mixed Try.func34 rfl rfl rfl rfl rfl ?_
  (refine run ?_; repeat intro b)
  refine s_in rfl rfl rfl bd94 rfl (head_idxin q g lb hbd l hl hp) ?_
  rintro _ _ _ _ _ _ ⟨rfl, rfl, rfl, rfl⟩
  cases hany : l.any q with
  | false =>
    have hfl : (l.filter fun x => !q x) = l := by
      rw [List.filter_eq_self]
      intro x hx
      rw [List.any_eq_false] at hany
      simpa using hany x hx
    rw [idxP_none hany, hfl]
    (refine run ?_; repeat intro b)
    exact ⟨rfl, rfl, rfl, [], by rw [List.append_nil]⟩
  | true =>
    have hx : idxP q l = ((l.findIdx q : Nat) : Int) := by unfold idxP; rw [if_pos hany]
    have hi0 : l.findIdx q < l.length := List.findIdx_lt_length_of_exists (by simpa using hany)
    have hi1 : ((l.take (l.findIdx q + 1)).filter fun x => !q x) = l.take (l.findIdx q) := by
      rw [List.take_succ_eq_append_getElem hi0, List.filter_append]
      have h2 : q l[l.findIdx q] = true := List.findIdx_getElem
      have h3 : ((l.take (l.findIdx q)).filter fun x => !q x) = l.take (l.findIdx q) := by
        rw [List.filter_eq_self]
        intro x hx
        obtain ⟨j, hj, rfl⟩ := List.getElem_of_mem hx
        rw [List.length_take] at hj
        rw [List.getElem_take]
        have := List.not_of_lt_findIdx (p := q) (xs := l) (i := j) (by omega)
        simpa using this
      rw [h3]
      simp [h2]
    rw [hx]
    generalize l.findIdx q = i0 at hi0 hi1
    (refine run ?_; repeat intro b)
    rw [wrap_succ (by omega)]
    refine s_loopP (fun s : List Head × Nat × Nat => s.1.length = l.length ∧ s.2.1 < s.2.2 ∧ s.2.2 ≤ l.length ∧ s.1.take s.2.1 = ((l.take s.2.2).filter fun x => !q x) ∧ s.1.drop s.2.2 = l.drop s.2.2) (fun s => ⟨[(0, .row 0 0 l.length c), (1, .v (.func (.func g) #[] lb)), (5, .v (i64 (s.2.1 : Nat))), (6, .v (i64 (s.2.2 : Nat)))], F, [(0, ⟨some b, (s.1.flatMap Head.row).map EV.v, 28, cap⟩)], 1⟩) (fun s => l.length - s.2.2) (l, i0, i0 + 1) ⟨rfl, Nat.lt_succ_self _, hi0, hi1.symm, rfl⟩ (VS.keepN [0, 1, 5, 6] rfl rfl) ?_
    rintro ⟨m, i, j⟩ ⟨hm, hij, hj, ht, hdr⟩
    dsimp only at hm hij hj ht hdr ⊢
    by_cases hlt : j < l.length
    · have hltm : j < m.length := by omega
      have hmj : m[j] = l[j] := by
        have h1 := List.drop_eq_getElem_cons hltm
        have h2 := List.drop_eq_getElem_cons hlt
        rw [hdr, h2] at h1
        exact (List.cons.inj h1).1.symm
      have hdr2 : m.drop (j + 1) = l.drop (j + 1) := by
        have h1 := List.drop_eq_getElem_cons hltm
        have h2 := List.drop_eq_getElem_cons hlt
        rw [hdr, h2] at h1
        exact (List.cons.inj h1).2.symm
      have hpx := hp l[j] (List.getElem_mem hlt)
      have htk := List.take_succ_eq_append_getElem hlt
      have hat : (((m.flatMap Head.row).map EV.v).take (0 + j * 4 + 4)).drop (0 + j * 4) = (Head.row l[j]).map EV.v := by rw [← hmj]; exact flat_at head_row hltm
      generalize l[j] = x at hpx htk hat
      have hrl : ∀ (m' : List Head), rlLt 1 [(0, (⟨some b, (m'.flatMap Head.row).map EV.v, 28, cap⟩ : Blk))] := fun m' => ⟨⟨by decide, fun e he => by obtain ⟨v, _, rfl⟩ := List.mem_map.1 he; trivial⟩, trivial⟩
      (refine run ?_; repeat intro b)
      refine s_if true (by rw [← decide_eq_true (p := ((j : Nat) : Int) < ((l.length : Nat) : Int)) (by omega)]; rfl) (fun _ => ?_) (fun h => by cases h)
      (refine run ?_; repeat intro b)
      refine s_pureO rfl rfl rfl ⟨by omega, by omega, ⟨_, _, rfl, rfl⟩⟩ ?_
      refine s_locXA (Head.row x) rfl rfl rfl rfl rfl (by rw [Int.toNat_natCast]; show 0 + j * 4 + 4 ≤ _; rw [List.length_map, flat_len head_row]; omega) (by rw [Int.toNat_natCast]; exact hat) ?_
      (refine run ?_; repeat intro b)
      refine s_plain _ rfl rfl (by rw [forceL_eq]; rfl) hbd rfl hpx ?_
      (refine run ?_; repeat intro b)
      refine s_if (!q x) rfl (fun h2 => ?_) (fun h2 => ?_)
      · have hti : (m.set i x).take (i + 1) = m.take i ++ [x] := by
          rw [List.take_succ_eq_append_getElem (by rw [List.length_set]; omega), List.getElem_set_self, List.take_set_of_le (Nat.le_refl _)]
        (refine run ?_; repeat intro b)
        refine s_pureO rfl rfl rfl ⟨by omega, by omega, ⟨_, _, rfl, rfl⟩⟩ ?_
        refine s_storeX (((m.set i x).flatMap Head.row).map EV.v) rfl rfl rfl rfl rfl rfl (by rw [Int.toNat_natCast]; show 0 + i * 4 + 4 ≤ _; rw [List.length_map, flat_len head_row]; omega) (by rw [Int.toNat_natCast]; exact flat_set head_row (by omega)) rfl ?_
        (refine run ?_; repeat intro b)
        rw [wrap_succ (by omega), wrap_succ (by omega)]
        exact s_loopPc (m.set i x, i + 1, j + 1) [1] [0, 1, 5, 6] ⟨by simp only [List.length_set]; exact hm, by simp only; omega, hlt, by simp only; rw [hti, ht, htk, List.filter_append]; simp [h2], by simp only; rw [List.drop_set_of_lt (by omega), hdr2]⟩ (by simp only; omega) rfl rfl rfl rfl (hrl _) rfl
      · (refine run ?_; repeat intro b)
        rw [wrap_succ (by omega)]
        exact s_loopPc (m, i, j + 1) [1] [0, 1, 5, 6] ⟨hm, by simp only; omega, hlt, by simp only; rw [ht, htk, List.filter_append]; simp [h2], hdr2⟩ (by simp only; omega) rfl rfl rfl rfl (hrl _) rfl
    · have hge : j = l.length := by omega
      subst hge
      rw [List.take_length] at ht
      have hil : (l.filter fun x => !q x).length = i := by rw [← ht, List.length_take]; omega
      have hso : slOff 0 i c 4 = i * 4 := by unfold slOff; rw [if_neg (by omega), Nat.zero_add]
      have hml := flat_len head_row m
      have hcl : ∀ vs : List Value, ((m.flatMap Head.row).map EV.v).take (slOff 0 i c 4) ++ vs.map EV.v ++ ((m.flatMap Head.row).map EV.v).drop (slOff 0 i c 4 + (l.length - i) * 4) = ((l.filter fun x => !q x).flatMap Head.row ++ vs).map EV.v := fun vs => by
        rw [hso, List.drop_eq_nil_of_le (by rw [List.length_map, hml, hm, ← Nat.add_mul]; exact Nat.mul_le_mul_right _ (by omega)), List.append_nil, List.map_append, ← ht, flat_take head_row, List.map_take]
      rw [hil]
      (refine run ?_; repeat intro b)
      refine s_if false (by rw [← decide_eq_false (p := ((l.length : Nat) : Int) < ((l.length : Nat) : Int)) (by omega)]; rfl) (fun h => by cases h) (fun _ => ?_)
      (refine run ?_; repeat intro b)
      refine s_pureO rfl rfl rfl ⟨by omega, by omega, by omega⟩ ?_
      refine s_clear tbok rfl rfl rfl rfl rfl (fun vs => [(0, (⟨some b, ((l.filter fun x => !q x).flatMap Head.row ++ vs).map EV.v, 28, cap⟩ : Blk))]) (fun vs => congrArg (fun cs => some [(0, (⟨some b, cs, 28, cap⟩ : Blk))]) (hcl vs)) (by rw [Int.toNat_natCast]; show slOff 0 i c 4 + (l.length - i) * 4 ≤ _; rw [hso, List.length_map, hml, hm, ← Nat.add_mul]; exact Nat.mul_le_mul_right _ (by omega)) (fun vs hvs => ?_)
      (refine run ?_; repeat intro b)
      refine s_pureO rfl rfl rfl ⟨by omega, by omega⟩ ?_
      rw [Int.toNat_natCast]
      (refine run ?_; repeat intro b)
      exact ⟨rfl, rfl, rfl, vs, rfl⟩
end Go.Proofs.Ythkmfihbpbehfaa
