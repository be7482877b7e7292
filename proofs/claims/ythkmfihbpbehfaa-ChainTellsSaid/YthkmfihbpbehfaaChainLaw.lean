/-
The law of package chain: Check, Grow, Part, Follows: whatever is handed in, each call answers what the reference answers.
-/
import Derived.Test.YthkmfihbpbehfaaChain3
import Derived.Test.YthkmfihbpbehfaaDel
namespace Go.Proofs.Ythkmfihbpbehfaa
set_option linter.unusedVariables false
set_option linter.unusedSimpArgs false
open Go.TR
def outside (f t : Int) (h : Head) : Bool := decide (h.epoch < f) || decide (t < h.epoch)
/-- What is left of heads whose epochs rise by one. -/
theorem filter_range (f t : Int) : ∀ (l : List Head) (a : Int), (∀ (j : Nat) (h : j < l.length), l[j].epoch = a + (j : Int)) → (l.filter fun h => !outside f t h) = (l.take (t - a + 1).toNat).drop (f - a).toNat
  | [], a, _ => by simp
  | h :: l, a, hl => by
    have h0 := hl 0 (by simp)
    simp only [List.getElem_cons_zero] at h0
    have ih := filter_range f t l (a + 1) (fun j hj => by
      have := hl (j + 1) (by simpa using hj)
      simp only [List.getElem_cons_succ] at this
      rw [this]; omega)
    rw [List.filter_cons, ih]
    unfold outside
    by_cases h1 : h.epoch < f
    · obtain ⟨m, hm⟩ : ∃ m : Nat, (f - a).toNat = m + 1 := ⟨(f - a).toNat - 1, by omega⟩
      have hm' : (f - (a + 1)).toNat = m := by omega
      rw [hm, hm', decide_eq_true h1]
      simp only [Bool.true_or, Bool.not_true, Bool.false_eq_true, if_false]
      by_cases h2 : (t - a + 1).toNat = 0
      · have : (t - (a + 1) + 1).toNat = 0 := by omega
        rw [h2, this]; simp
      · obtain ⟨k, hk⟩ : ∃ k : Nat, (t - a + 1).toNat = k + 1 := ⟨(t - a + 1).toNat - 1, by omega⟩
        have hk' : (t - (a + 1) + 1).toNat = k := by omega
        rw [hk, hk', List.take_succ_cons, List.drop_succ_cons]
    · have hm : (f - a).toNat = 0 := by omega
      have hm' : (f - (a + 1)).toNat = 0 := by omega
      rw [hm, hm', decide_eq_false h1, List.drop_zero, List.drop_zero]
      by_cases h2 : t < h.epoch
      · have e1 : (t - a + 1).toNat = 0 := by omega
        have e2 : (t - (a + 1) + 1).toNat = 0 := by omega
        rw [e1, e2, decide_eq_true h2]; simp
      · obtain ⟨k, hk⟩ : ∃ k : Nat, (t - a + 1).toNat = k + 1 := ⟨(t - a + 1).toNat - 1, by omega⟩
        have hk' : (t - (a + 1) + 1).toNat = k := by omega
        rw [hk, hk', List.take_succ_cons, decide_eq_false h2]; simp
/-- Which epochs there are. -/
theorem headOf_some {l : List Head} (h0 : 0 < l.length) (hu : unl l 1 = none) (n : Int) : (headOfE l n).isSome = (decide ((orN l.head?).epoch ≤ n) && decide (n ≤ (lastH l).epoch)) := by
  have ue := fun j hj => unl_epoch hu j hj
  rw [← lastH_of h0, headQ_of h0, ue (l.length - 1) (by omega), Bool.eq_iff_iff]
  simp only [headOfE, List.find?_isSome, decide_eq_true_eq, Bool.and_eq_true]
  constructor
  · rintro ⟨x, hx, rfl⟩
    obtain ⟨j, hj, rfl⟩ := List.getElem_of_mem hx
    rw [ue j hj]
    omega
  · rintro ⟨h1, h2⟩
    have hj : (n - l[0].epoch).toNat < l.length := by omega
    exact ⟨l[(n - l[0].epoch).toNat], List.getElem_mem hj, by rw [ue _ hj]; omega⟩
theorem fault_cases (h : Head) : h.fault = 4 ∨ h.fault = 3 ∨ h.fault = 0 := by
  unfold Head.fault
  split
  · exact .inl rfl
  · split
    · exact .inr (.inl rfl)
    · exact .inr (.inr rfl)
theorem pcell_one {F : Hp} {b : Nat} {x : Value} (h : Frow F (some ⟨b, 0, none⟩) [x]) : Pcell F (some ⟨b, 0, none⟩) = some x := by
  have := h 0 x rfl
  simpa [padd, Addr.add] using this
attribute [local irreducible] vc vcOps seqK blockK loopK retK retG retI loopV Plain CallOK CallIn bodied VS vcAny dropG backK brK loopPK IntKind.wrap
set_option maxRecDepth 100000
set_option maxHeartbeats 2000000 in
theorem out_ok (h : Head) (f t : Int) {pf pt : Option Addr} {F : Hp} (hf : Pcell F pf = some (i64 f)) (ht : Pcell F pt = some (i64 t)) : Plain Try.prog F 36 [h.v, .pointer pf, .pointer pt] (.bool (outside f t h)) := by
  refine plain_vc (N := 15) (rv := [.tmp 4]) tbok mixed Try.func36 rfl rfl rfl rfl rfl ?_
  (refine run ?_; repeat intro b)
  refine s_load (i64 f) rfl rfl rfl rfl hf ?_
  (refine run ?_; repeat intro b)
  refine s_gload (i64 t) rfl rfl rfl rfl rfl rfl (fun _ => ht) ?_
  (refine run ?_; repeat intro b)
  rw [bpick_or]
  rfl
theorem eq_head_self (l : List Head) {p1 p2 : Option Addr} {c1 c2 n : Nat} {F : Hp} (hn : n = l.length) (h1 : Frow F p1 (l.flatMap Head.row)) (h2 : Frow F p2 (l.flatMap Head.row)) (hl : l.length ≤ 4611686018427387904) : Plain Try.prog F 37 [.slice p1 l.length c1, .slice p2 n c2] (.bool true) := by
  subst hn
  have := eq_head l l (c1 := c1) (c2 := c2) h1 h2 hl
  rw [decide_eq_true rfl] at this
  exact this
set_option maxHeartbeats 8000000
/-- slices.IndexFunc on a row of the call's own. -/
theorem headL_idxin (q : Head → Bool) (g : Nat) (lb : Array Value) (hbd : bodied Try.prog g) (l : List Head) {b cap c : Nat} {F : Hp} (hl : l.length ≤ 4611686018427387904) (hp : ∀ x ∈ l, Plain Try.prog F g (.agg (Head.row x).toArray :: lb.toList) (.bool (q x))) :
    CallIn Try.prog F [(5, ⟨some b, (l.flatMap Head.row).map EV.v, 28, cap⟩)] 6 94 [.row 5 0 l.length c, .v (.func (.func g) #[] lb)] (fun e F' rs' nx' => e = .v (i64 (idxP q l)) ∧ F = F' ∧ rs' = [(5, ⟨some b, (l.flatMap Head.row).map EV.v, 28, cap⟩)] ∧ nx' = 6) := by
  refine callin_vc (N := 19) (rv := [.tmp 4]) tbok mixed Try.func94 rfl rfl rfl rfl rfl ?_
  (refine run ?_; repeat intro b)
  refine s_loopP (fun k : Nat => k ≤ l.length ∧ (l.take k).any q = false) (fun k => ⟨[(0, .row 5 0 l.length c), (1, .v (.func (.func g) #[] lb)), (7, .v (i64 (l.length : Nat))), (8, .v (i64 (k : Nat)))], F, [(5, ⟨some b, (l.flatMap Head.row).map EV.v, 28, cap⟩)], 6⟩) (fun k => l.length - k) 0 ⟨Nat.zero_le _, rfl⟩ (VS.keepN [0, 1, 7, 8] rfl rfl) ?_
  rintro k ⟨hk, hany⟩
  by_cases hlt : k < l.length
  · (refine run ?_; repeat intro b)
    refine s_if true (by rw [← decide_eq_true (p := ((k : Nat) : Int) < ((l.length : Nat) : Int)) (by omega)]; rfl) (fun _ => ?_) (fun h => by cases h)
    (refine run ?_; repeat intro b)
    refine s_pureO rfl rfl rfl ⟨by omega, by omega, ⟨_, _, rfl, rfl⟩⟩ ?_
    refine s_locXA (Head.row l[k]) rfl rfl rfl rfl rfl (by rw [Int.toNat_natCast]; show 0 + k * 4 + 4 ≤ _; rw [List.length_map, flat_len head_row]; omega) (by rw [Int.toNat_natCast]; exact flat_at head_row hlt) ?_
    (refine run ?_; repeat intro b)
    refine s_plain _ rfl rfl (by rw [forceL_eq]; rfl) hbd rfl (hp l[k] (List.getElem_mem hlt)) ?_
    (refine run ?_; repeat intro b)
    refine s_if _ rfl (fun h2 => ?_) (fun h2 => ?_)
    · (refine run ?_; repeat intro b)
      rw [idxP_found hlt hany h2]
      exact ⟨rfl, rfl, rfl, rfl⟩
    · (refine run ?_; repeat intro b)
      rw [wrap_succ (by omega)]
      refine s_loopPn (k + 1) ⟨hlt, ?_⟩ (by omega) (VS.keepN [0, 1, 7, 8] rfl rfl)
      rw [List.take_succ_eq_append_getElem hlt, List.any_append, hany]
      simp [h2]
  · have hge : k = l.length := by omega
    subst hge
    rw [List.take_length] at hany
    (refine run ?_; repeat intro b)
    refine s_if false (by rw [← decide_eq_false (p := ((l.length : Nat) : Int) < ((l.length : Nat) : Int)) (by omega)]; rfl) (fun h => by cases h) (fun _ => ?_)
    (refine run ?_; repeat intro b)
    rw [idxP_none hany]
    exact ⟨rfl, rfl, rfl, rfl⟩
/-- slices.DeleteFunc on a row of the call's own. -/
theorem headL_del (q : Head → Bool) (g : Nat) (lb : Array Value) (hbd : bodied Try.prog g) (l : List Head) {b cap c : Nat} {F : Hp} (hc : l.length ≤ c) (hl : l.length ≤ 4611686018427387904) (hp : ∀ x ∈ l, Plain Try.prog F g (.agg (Head.row x).toArray :: lb.toList) (.bool (q x))) :
    CallIn Try.prog F [(5, ⟨some b, (l.flatMap Head.row).map EV.v, 28, cap⟩)] 6 34 [.row 5 0 l.length c, .v (.func (.func g) #[] lb)] (fun e F' rs' nx' => e = .row 5 0 (l.filter fun x => !q x).length c ∧ F = F' ∧ nx' = 6 ∧ ∃ cs, rs' = [(5, ⟨some b, ((l.filter fun x => !q x).flatMap Head.row ++ cs).map EV.v, 28, cap⟩)]) := by
  refine callin_vc (N := 42) (rv := [.tmp 4]) tbok mixed Try.func34 rfl rfl rfl rfl rfl ?_
  (refine run ?_; repeat intro b)
  refine s_in rfl rfl rfl bd94 rfl (headL_idxin q g lb hbd l hl hp) ?_
  rintro _ _ _ _ _ _ ⟨rfl, rfl, rfl, rfl⟩
  cases hany : l.any q with
  | false =>
    have hfl : (l.filter fun x => !q x) = l := by
      rw [List.filter_eq_self]
      intro x hx
      rw [List.any_eq_false] at hany
      simpa using hany x hx
    rw [idxP_none hany, hfl]
    (refine run ?_; repeat intro b)
    exact ⟨rfl, rfl, rfl, [], by rw [List.append_nil]⟩
  | true =>
    have hx : idxP q l = ((l.findIdx q : Nat) : Int) := by unfold idxP; rw [if_pos hany]
    have hi0 : l.findIdx q < l.length := List.findIdx_lt_length_of_exists (by simpa using hany)
    have hi1 : ((l.take (l.findIdx q + 1)).filter fun x => !q x) = l.take (l.findIdx q) := by
      rw [List.take_succ_eq_append_getElem hi0, List.filter_append]
      have h2 : q l[l.findIdx q] = true := List.findIdx_getElem
      have h3 : ((l.take (l.findIdx q)).filter fun x => !q x) = l.take (l.findIdx q) := by
        rw [List.filter_eq_self]
        intro x hx
        obtain ⟨j, hj, rfl⟩ := List.getElem_of_mem hx
        rw [List.length_take] at hj
        rw [List.getElem_take]
        have := List.not_of_lt_findIdx (p := q) (xs := l) (i := j) (by omega)
        simpa using this
      rw [h3]
      simp [h2]
    rw [hx]
    generalize l.findIdx q = i0 at hi0 hi1
    (refine run ?_; repeat intro b)
    rw [wrap_succ (by omega)]
    refine s_loopP (fun s : List Head × Nat × Nat => s.1.length = l.length ∧ s.2.1 < s.2.2 ∧ s.2.2 ≤ l.length ∧ s.1.take s.2.1 = ((l.take s.2.2).filter fun x => !q x) ∧ s.1.drop s.2.2 = l.drop s.2.2) (fun s => ⟨[(0, .row 5 0 l.length c), (1, .v (.func (.func g) #[] lb)), (5, .v (i64 (s.2.1 : Nat))), (6, .v (i64 (s.2.2 : Nat)))], F, [(5, ⟨some b, (s.1.flatMap Head.row).map EV.v, 28, cap⟩)], 6⟩) (fun s => l.length - s.2.2) (l, i0, i0 + 1) ⟨rfl, Nat.lt_succ_self _, hi0, hi1.symm, rfl⟩ (VS.keepN [0, 1, 5, 6] rfl rfl) ?_
    rintro ⟨m, i, j⟩ ⟨hm, hij, hj, ht, hdr⟩
    dsimp only at hm hij hj ht hdr ⊢
    by_cases hlt : j < l.length
    · have hltm : j < m.length := by omega
      have hmj : m[j] = l[j] := by
        have h1 := List.drop_eq_getElem_cons hltm
        have h2 := List.drop_eq_getElem_cons hlt
        rw [hdr, h2] at h1
        exact (List.cons.inj h1).1.symm
      have hdr2 : m.drop (j + 1) = l.drop (j + 1) := by
        have h1 := List.drop_eq_getElem_cons hltm
        have h2 := List.drop_eq_getElem_cons hlt
        rw [hdr, h2] at h1
        exact (List.cons.inj h1).2.symm
      have hpx := hp l[j] (List.getElem_mem hlt)
      have htk := List.take_succ_eq_append_getElem hlt
      have hat : (((m.flatMap Head.row).map EV.v).take (0 + j * 4 + 4)).drop (0 + j * 4) = (Head.row l[j]).map EV.v := by rw [← hmj]; exact flat_at head_row hltm
      generalize l[j] = x at hpx htk hat
      have hrl : ∀ (m' : List Head), rlLt 6 [(5, (⟨some b, (m'.flatMap Head.row).map EV.v, 28, cap⟩ : Blk))] := fun m' => ⟨⟨by decide, fun e he => by obtain ⟨v, _, rfl⟩ := List.mem_map.1 he; trivial⟩, trivial⟩
      (refine run ?_; repeat intro b)
      refine s_if true (by rw [← decide_eq_true (p := ((j : Nat) : Int) < ((l.length : Nat) : Int)) (by omega)]; rfl) (fun _ => ?_) (fun h => by cases h)
      (refine run ?_; repeat intro b)
      refine s_pureO rfl rfl rfl ⟨by omega, by omega, ⟨_, _, rfl, rfl⟩⟩ ?_
      refine s_locXA (Head.row x) rfl rfl rfl rfl rfl (by rw [Int.toNat_natCast]; show 0 + j * 4 + 4 ≤ _; rw [List.length_map, flat_len head_row]; omega) (by rw [Int.toNat_natCast]; exact hat) ?_
      (refine run ?_; repeat intro b)
      refine s_plain _ rfl rfl (by rw [forceL_eq]; rfl) hbd rfl hpx ?_
      (refine run ?_; repeat intro b)
      refine s_if (!q x) rfl (fun h2 => ?_) (fun h2 => ?_)
      · have hti : (m.set i x).take (i + 1) = m.take i ++ [x] := by
          rw [List.take_succ_eq_append_getElem (by rw [List.length_set]; omega), List.getElem_set_self, List.take_set_of_le (Nat.le_refl _)]
        (refine run ?_; repeat intro b)
        refine s_pureO rfl rfl rfl ⟨by omega, by omega, ⟨_, _, rfl, rfl⟩⟩ ?_
        refine s_storeX (((m.set i x).flatMap Head.row).map EV.v) rfl rfl rfl rfl rfl rfl (by rw [Int.toNat_natCast]; show 0 + i * 4 + 4 ≤ _; rw [List.length_map, flat_len head_row]; omega) (by rw [Int.toNat_natCast]; exact flat_set head_row (by omega)) rfl ?_
        (refine run ?_; repeat intro b)
        rw [wrap_succ (by omega), wrap_succ (by omega)]
        exact s_loopPc (m.set i x, i + 1, j + 1) [6] [0, 1, 5, 6] ⟨by simp only [List.length_set]; exact hm, by simp only; omega, hlt, by simp only; rw [hti, ht, htk, List.filter_append]; simp [h2], by simp only; rw [List.drop_set_of_lt (by omega), hdr2]⟩ (by simp only; omega) rfl rfl rfl rfl (hrl _) rfl
      · (refine run ?_; repeat intro b)
        rw [wrap_succ (by omega)]
        exact s_loopPc (m, i, j + 1) [6] [0, 1, 5, 6] ⟨hm, by simp only; omega, hlt, by simp only; rw [ht, htk, List.filter_append]; simp [h2], hdr2⟩ (by simp only; omega) rfl rfl rfl rfl (hrl _) rfl
    · have hge : j = l.length := by omega
      subst hge
      rw [List.take_length] at ht
      have hil : (l.filter fun x => !q x).length = i := by rw [← ht, List.length_take]; omega
      have hso : slOff 0 i c 4 = i * 4 := by unfold slOff; rw [if_neg (by omega), Nat.zero_add]
      have hml := flat_len head_row m
      have hcl : ∀ vs : List Value, ((m.flatMap Head.row).map EV.v).take (slOff 0 i c 4) ++ vs.map EV.v ++ ((m.flatMap Head.row).map EV.v).drop (slOff 0 i c 4 + (l.length - i) * 4) = ((l.filter fun x => !q x).flatMap Head.row ++ vs).map EV.v := fun vs => by
        rw [hso, List.drop_eq_nil_of_le (by rw [List.length_map, hml, hm, ← Nat.add_mul]; exact Nat.mul_le_mul_right _ (by omega)), List.append_nil, List.map_append, ← ht, flat_take head_row, List.map_take]
      rw [hil]
      (refine run ?_; repeat intro b)
      refine s_if false (by rw [← decide_eq_false (p := ((l.length : Nat) : Int) < ((l.length : Nat) : Int)) (by omega)]; rfl) (fun h => by cases h) (fun _ => ?_)
      (refine run ?_; repeat intro b)
      refine s_pureO rfl rfl rfl ⟨by omega, by omega, by omega⟩ ?_
      refine s_clear tbok rfl rfl rfl rfl rfl (fun vs => [(5, (⟨some b, ((l.filter fun x => !q x).flatMap Head.row ++ vs).map EV.v, 28, cap⟩ : Blk))]) (fun vs => congrArg (fun cs => some [(5, (⟨some b, cs, 28, cap⟩ : Blk))]) (hcl vs)) (by rw [Int.toNat_natCast]; show slOff 0 i c 4 + (l.length - i) * 4 ≤ _; rw [hso, List.length_map, hml, hm, ← Nat.add_mul]; exact Nat.mul_le_mul_right _ (by omega)) (fun vs hvs => ?_)
      (refine run ?_; repeat intro b)
      refine s_pureO rfl rfl rfl ⟨by omega, by omega⟩ ?_
      rw [Int.toNat_natCast]
      (refine run ?_; repeat intro b)
      exact ⟨rfl, rfl, rfl, vs, rfl⟩
theorem chain_tells (l : List Head) (root : Nat) (at_ from_ to_ : Int) (h : Head) {p : Option Addr} {c : Nat} {F : Hp} (hl : l.length ≤ 4611686018427387904) (hc : l.length ≤ c) (hw : ∀ x ∈ l, x.wf) (hf : Frow F p (l.flatMap Head.row)) (hroot : root < 18446744073709551616) (hh : h.wf) :
    Plain Try.prog F 5 [.slice p l.length c, u64 root, i64 at_, i64 from_, i64 to_, h.v] (.bool true) := by
  refine plain_vc (N := 226) (rv := [.tmp 12]) tbok mixed Try.func5 rfl rfl rfl rfl rfl ?_
  (refine run ?_; repeat intro b)
  refine s_shift (VS.freeze 0 [0, 1, 2, 9, 10, 11, 31] rfl rfl rfl rfl fun F1 hs1 hf1 => VS.freeze 1 [0, 1, 2, 9, 10, 11, 31] rfl rfl rfl rfl fun F2 hs2 hf2 => VS.id ?_)
  have pA := pcell_sub hs2 (pcell_one hf1)
  have pB := pcell_one hf2
  have hfa := frow_sub (hs1.trans hs2) hf
  refine s_plain _ rfl rfl rfl bd28 rfl (chaincheck_ok l hl hw hfa) ?_
  (refine run ?_; repeat intro b)
  refine s_callF rfl rfl rfl bd29 rfl (chaingrow_ok l root at_ hl hw hfa) ?_
  rintro _ F3 hF3 ⟨p1, c1, rfl, hc1, hg1⟩
  (refine run ?_; repeat intro b)
  refine s_load (i64 from_) rfl rfl rfl rfl (pcell_sub hF3 pA) ?_
  refine s_load (i64 to_) rfl rfl rfl rfl (pcell_sub hF3 pB) ?_
  (refine run ?_; repeat intro b)
  refine s_callF rfl rfl rfl bd30 rfl (chainpart_ok l from_ to_ hl hw hc (frow_sub hF3 hfa)) ?_
  rintro _ F4 hF4 ⟨p2, c2, rfl, hc2, hg2⟩
  have hfb := frow_sub (hF3.trans hF4) hfa
  have hg1' := frow_sub hF4 hg1
  have pA' := pcell_sub (hF3.trans hF4) pA
  have pB' := pcell_sub (hF3.trans hF4) pB
  (refine run ?_; repeat intro b)
  refine s_plain _ rfl rfl rfl bd31 rfl (chainfoll_ok h l hh hl hw hfb) ?_
  (refine run ?_; repeat intro b)
  refine s_plain _ rfl rfl rfl bd24 rfl (refchain_ok l hl hw hfb) ?_
  (refine run ?_; repeat intro b)
  refine s_if false ?_ (fun h => by cases h) (fun _ => ?_)
  · refine congrArg (fun b => some (EV.v (.bool b))) ?_
    simp [bpick]
  by_cases hz : (chainF l).1 = 0
  · obtain ⟨z1, z2, z3, z4, z5⟩ := chainF_zero hz
    obtain ⟨o1, o2⟩ := frow_agg head_row (by decide) hfb 0 z1
    have wy := hw _ (List.getElem_mem z1)
    have vy := Head.ok_of (z3 _ (List.getElem_mem z1))
    have ue : ∀ (j : Nat) (hj : j < l.length), l[j].epoch = (orN l.head?).epoch + (j : Int) := fun j hj => by rw [headQ_of z1]; exact unl_epoch z4 j hj
    have hin := headOf_some z1 z4
    obtain ⟨o3, o4⟩ := frow_agg head_row (by decide) hfb (l.length - 1) (by omega)
    have wz := hw _ (List.getElem_mem (show l.length - 1 < l.length by omega))
    have vz0 := z3 _ (List.getElem_mem (show l.length - 1 < l.length by omega))
    rw [lastH_of z1] at o4 wz vz0
    have vz := Head.ok_of vz0
    rw [← headQ_of z1] at o2 wy vy
    have ew : IntKind.i64.wrap (((l.length : Nat) : Int) - 1) = ((l.length - 1 : Nat) : Int) := by rw [wrap_i64 (by omega) (by omega)]; omega
    have hz' : ¬ (chainF l).1 ≠ 0 := by simpa using hz
    have e5 : follE h l = h.fault := by unfold follE; rw [if_neg hz']
    have e6 : follB h l = (decide (h.fault = 0) && links h (orN l.head?)) := by unfold follB; rw [e5]
    have e3 : partE l from_ to_ = if from_ > to_ ∨ from_ < (orN l.head?).epoch ∨ to_ > (lastH l).epoch then 4 else 0 := by unfold partE; rw [if_neg hz']
    have e4 : partE l from_ to_ = 0 → partL l from_ to_ = l.filter fun h => !outside from_ to_ h := fun e => by
      unfold partL
      rw [if_pos e, filter_range from_ to_ l _ ue]
    have e4' : ∀ e, e ≠ 0 → partE l from_ to_ = e → partL l from_ to_ = [] := fun e he h => by unfold partL; rw [h, if_neg he]
    have e1 : growE l root at_ = if l.length = 40 then 7 else (lastH l).nextE root at_ := by unfold growE; rw [if_neg hz']
    have e2 : growE l root at_ = 0 → growL l root at_ = l ++ [((lastH l).nextH root at_).orNone ((lastH l).nextE root at_)] := fun e => by unfold growL; rw [if_pos e]
    have e2' : ∀ e, e ≠ 0 → growE l root at_ = e → growL l root at_ = [] := fun e he h => by unfold growL; rw [h, if_neg he]
    rw [z5, e5, e6]
    generalize orN l.head? = y at o2 wy vy ue e3 e4 hin
    generalize lastH l = z at o4 wz vz vz0 e3 e1 e2 hin
    (refine run ?_; repeat intro b)
    refine s_plain _ rfl rfl rfl bd32 rfl (reffault_ok h _) ?_
    (refine run ?_; repeat intro b)
    refine s_regiond (by kernel_rfl) ?_
    (refine run ?_; repeat intro b)
    refine s_gpureO rfl rfl rfl rfl rfl (fun _ => ⟨by omega, by omega, frow_some hfb (j := 0 * 4) (by rw [flat_len head_row]; omega)⟩) ?_
    refine s_gloadA y.row rfl rfl rfl rfl rfl rfl rfl (fun _ => ⟨o1, o2⟩) ?_
    (refine run ?_; repeat intro b)
    refine s_gplain _ rfl rfl rfl rfl bd33 rfl rfl (fun _ => links_ok h y hh wy _) ?_
    (refine run ?_; repeat intro b)
    refine s_if false ?_ (fun h => by cases h) (fun _ => ?_)
    · refine congrArg (fun b => some (EV.v (.bool b))) ?_
      by_cases h0 : h.fault = 0
      · cases links h y <;> simp [bpick, h0]
      · have q1 : (h.fault != 0) = true := bne_iff_ne.2 h0
        have q2 : (h.fault == 0) = false := beq_eq_false_iff_ne.2 h0
        cases links h y <;> simp [bpick, h0, q1, q2]
    (refine run ?_; repeat intro b)
    refine s_load (i64 from_) rfl rfl rfl rfl pA' ?_
    refine s_plain _ rfl rfl rfl bd25 rfl (headof_ok l from_ hl hfb) ?_
    (refine run ?_; repeat intro b)
    refine s_load (i64 to_) rfl rfl rfl rfl pB' ?_
    refine s_plain _ rfl rfl rfl bd25 rfl (headof_ok l to_ hl hfb) ?_
    (refine run ?_; repeat intro b)
    refine s_load (i64 from_) rfl rfl rfl rfl pA' ?_
    refine s_load (i64 to_) rfl rfl rfl rfl pB' ?_
    (refine run ?_; repeat intro b)
    refine s_join (β := Hp) (fun F5 => F4.sub F5) (fun F5 => ⟨[(0, .v (.slice p l.length c)), (1, .v (u64 root)), (2, .v (i64 at_)), (15, .v (.slice p1 (growL l root at_).length c1)), (16, .v (i64 (growE l root at_)))], F5, [], 6⟩) rfl (fun F5 hF5 => ?_) (fun KK2 kn kr ke => ?_)
    · have hfc := frow_sub hF5 hfb
      have hg1c := frow_sub hF5 hg1'
      have o5 : ∀ i, i < 4 → Pcell F5 (padd (padd p ((l.length - 1) * 4)) i) = z.row[i]? := fun i hi => by
        have hi' : z.row[i]? = some (z.row[i]'hi) := List.getElem?_eq_getElem hi
        rw [hi']
        exact pcell_sub hF5 ((o4 i hi).trans hi')
      (refine run ?_; repeat intro b)
      rw [ew]
      refine s_pureO rfl rfl rfl ⟨by omega, by omega, frow_some hfb (j := (l.length - 1) * 4) (by rw [flat_len head_row]; omega)⟩ ?_
      refine s_loadA z.row rfl rfl rfl rfl rfl (by rw [Int.toNat_natCast]; exact o3) (by rw [Int.toNat_natCast]; exact o5) ?_
      (refine run ?_; repeat intro b)
      refine s_if (decide (l.length = 40 ∨ z.epoch = 1000000)) ?_ (fun h9 => ?_) (fun h9 => ?_)
      · refine congrArg (fun b => some (EV.v (.bool b))) ?_
        rw [bpick_or, Bool.eq_iff_iff]
        simp
        omega
      · have g1 : growE l root at_ = 7 := by
          rw [e1]
          split
          · rfl
          · rename_i hne
            have hep : z.epoch = 1000000 := (of_decide_eq_true h9).resolve_left hne
            unfold Head.nextE
            rw [if_neg (by simpa using vz0), if_pos hep]
        rw [e2' _ (by decide) g1, g1]
        (refine run ?_; repeat intro b)
        rfl
      · have h9' := of_decide_eq_false h9
        have g1 : growE l root at_ = if MM ≤ root ∨ at_ < z.at_ ∨ 1000000000 < at_ then 4 else 0 := by
          rw [e1, if_neg (by omega), nextE_alt wz vz0 (by omega)]
        (refine run ?_; repeat intro b)
        refine s_if (decide (MM ≤ root ∨ at_ < z.at_ ∨ 1000000000 < at_)) ?_ (fun h8 => ?_) (fun h8 => ?_)
        · refine congrArg (fun b => some (EV.v (.bool b))) ?_
          rw [bpick_or, bpick_or]
          have q1 : decide ((2305843009213693951 : Int) ≤ (root : Int)) = decide (MM ≤ root) := by
            rw [Bool.eq_iff_iff, decide_eq_true_eq, decide_eq_true_eq]
            show (2305843009213693951 : Int) ≤ (root : Int) ↔ 2305843009213693951 ≤ root
            omega
          rw [q1]
          simp only [Bool.decide_or, Bool.or_assoc]
        · rw [if_pos (of_decide_eq_true h8)] at g1
          rw [e2' _ (by decide) g1, g1]
          (refine run ?_; repeat intro b)
          rfl
        · rw [if_neg (of_decide_eq_false h8)] at g1
          have g2 : z.nextE root at_ = 0 := by rw [e1, if_neg (by omega)] at g1; exact g1
          have g3 : growL l root at_ = l ++ [(⟨IntKind.i64.wrap (z.epoch + 1), root, z.mark, at_⟩ : Head)] := by
            rw [e2 g1, g2]
            show l ++ [(⟨_, _, z.markO, _⟩ : Head)] = _
            unfold Head.markO
            rw [if_pos vz0]
          rw [g3] at hg1c
          rw [g1, g3]
          (refine run ?_; repeat intro b)
          refine s_regiona [6] (by kernel_rfl) ?_
          refine s_firsts [0, 1, 2, 3, 4, 6, 7, 8, 9, 10, 12] (f' := 8) (by kernel_rfl) rfl rfl rfl ?_
          (refine run ?_; repeat intro b)
          refine s_one 5 (by kernel_rfl) rfl rfl ?_
          refine s_known rfl rfl rfl ?_
          refine s_callR (R := fun _ cs => cs = l.flatMap Head.row) (fun x F' new h => ⟨_, h, rfl⟩) rfl rfl rfl bd35 rfl (clone_head (l.flatMap Head.row) l.length (flat_len head_row _) hfc (head_one _) (by omega)) (fun hk0 _ _ _ _ _ => by omega) (fun hk1 F6 b1 c3 cs hF6 hc3 hcs => ?_)
          (refine run ?_; repeat intro b)
          refine s_br hF6 ⟨⟨rfl, rfl, rfl, rfl, rfl, trivial⟩, trivial⟩ ?_
          refine s_firsts [11, 13] (f' := 5) (by kernel_rfl) rfl rfl rfl ?_
          (refine run ?_; repeat intro b)
          refine s_plain _ rfl rfl rfl bd26 rfl (refheadmark_ok z wz _) ?_
          (refine run ?_; repeat intro b)
          refine s_one 14 (by kernel_rfl) rfl rfl ?_
          (refine run ?_; repeat intro b)
          (refine run ?_; repeat intro b)
          refine s_br (Hp.sub.refl _) ⟨⟨rfl, rfl, rfl, rfl, rfl, trivial⟩, trivial⟩ ?_
          refine s_one 15 (by kernel_rfl) rfl rfl ?_
          refine s_known rfl rfl rfl ?_
          subst hcs
          refine s_appR rfl rfl rfl rfl rfl rfl rfl rfl (src_row rfl rfl) (one_head _ ⟨IntKind.i64.wrap (z.epoch + 1), root, z.mark, at_⟩) (fun h => by cases h) hc3 rfl (by rw [List.length_map, flat_len head_row]; exact Nat.le_refl _) (by show _ * 32 ≤ _; omega) (fun h => by cases h) (fun _ b2 c4 hc4 => ?_)
          (refine run ?_; repeat intro b)
          refine s_br (Hp.sub.refl _) ⟨⟨rfl, rfl, rfl, rfl, rfl, trivial⟩, trivial⟩ ?_
          have hcells : ((l.flatMap Head.row).map EV.v).take (l.length * 4) ++ (⟨IntKind.i64.wrap (z.epoch + 1), root, z.mark, at_⟩ : Head).row.map EV.v = ((l ++ [(⟨IntKind.i64.wrap (z.epoch + 1), root, z.mark, at_⟩ : Head)]).flatMap Head.row).map EV.v := by
            rw [head_snoc, List.map_append, List.take_of_length_le (by rw [List.length_map, flat_len head_row]; exact Nat.le_refl _)]
          refine s_one 16 (by kernel_rfl) rfl rfl ?_
          refine s_known rfl rfl rfl ?_
          refine s_shift (VS.freeze 9 [210, 211, 223] rfl ((congrArg (allV _) hcells).trans (allV_map_v _)) rfl rfl fun F7 hs7 hf7 => VS.id ?_)
          refine s_plain _ rfl rfl rfl bd37 rfl (eq_head_self _ (by rw [List.length_append]; rfl) (frow_sub hs7 (frow_sub hF6 hg1c)) hf7 (by rw [List.length_append, List.length_singleton]; omega)) ?_
          (refine run ?_; repeat intro b)
          refine s_br hs7 ⟨⟨rfl, rfl, rfl, rfl, rfl, trivial⟩, trivial⟩ ?_
          refine s_firsts [17, 18] (f' := 0) (by kernel_rfl) rfl rfl rfl ?_
          (refine run ?_; repeat intro b)
          refine s_stop (by kernel_rfl) ?_
          (refine run ?_; repeat intro b)
          rfl
    · refine s_if (decide (from_ > to_ ∨ from_ < y.epoch ∨ to_ > z.epoch)) ?_ (fun h9 => ?_) (fun h9 => ?_)
      · refine congrArg (fun b => some (EV.v (.bool b))) ?_
        rw [bpick_or, bpick_or, hin, hin, Bool.eq_iff_iff]
        simp
        omega
      · rw [if_pos (of_decide_eq_true h9)] at e3
        rw [e4' _ (by decide) e3, e3]
        (refine run ?_; repeat intro b)
        exact kn _ (VS.ren (nx' := 6) [] [0, 1, 2, 15, 16] [] trivial rfl rfl rfl rfl rfl rfl ⟨_, Hp.sub.refl _, rfl⟩)
      · rw [if_neg (of_decide_eq_false h9)] at e3
        rw [e4 e3] at hg2
        rw [e3, e4 e3]
        (refine run ?_; repeat intro b)
        refine s_shift (VS.dropR [2, 3, 4] rfl (VS.keepN [0, 1, 2, 9, 10, 15, 16, 17, 18, 154] rfl ?_))
        refine s_callR (R := fun _ cs => cs = l.flatMap Head.row) (fun x F' new h => ⟨_, h, rfl⟩) rfl rfl rfl bd35 rfl (clone_head (l.flatMap Head.row) l.length (flat_len head_row _) hfb (head_one _) (by omega)) (fun hk0 _ _ _ _ _ => by omega) (fun hk1 F6 b1 c3 cs hF6 hc3 hcs => ?_)
        subst hcs
        (refine run ?_; repeat intro b)
        refine s_in rfl rfl rfl bd34 rfl (headL_del (outside from_ to_) _ #[_, _] bd36 l hc3 hl (fun x hx => out_ok x from_ to_ (pcell_sub hF6 pA') (pcell_sub hF6 pB'))) ?_
        rintro _ _ _ _ _ _ ⟨rfl, rfl, rfl, cs2, rfl⟩
        (refine run ?_; repeat intro b)
        refine s_shift (VS.freeze 5 [0, 1, 2, 15, 16, 160, 161, 162] rfl (allV_map_v _) rfl rfl fun F7 hs7 hf7 => VS.id ?_)
        have hf8 : Frow F7 (some ⟨b1, 0, none⟩) ((l.filter fun x => !outside from_ to_ x).flatMap Head.row) := by
          have := frow_take hf7 ((l.filter fun x => !outside from_ to_ x).flatMap Head.row).length
          rwa [List.take_left] at this
        refine s_plain _ rfl rfl rfl bd37 rfl (eq_head_self _ rfl (frow_sub hs7 (frow_sub hF6 hg2)) hf8 (by have := List.length_filter_le (fun x => !outside from_ to_ x) l; omega)) ?_
        (refine run ?_; repeat intro b)
        exact kn _ (VS.keepN [0, 1, 2, 15, 16] rfl ⟨_, hF6.trans hs7, rfl⟩)
  · have e1 : growE l root at_ = (chainF l).1 := by unfold growE; rw [if_pos hz]
    have e2 : growL l root at_ = [] := by unfold growL; rw [e1, if_neg hz]
    have e3 : partE l from_ to_ = (chainF l).1 := by unfold partE; rw [if_pos hz]
    have e4 : partL l from_ to_ = [] := by unfold partL; rw [e3, if_neg hz]
    have e5 : follE h l = (chainF l).1 := by unfold follE; rw [if_pos hz]
    have e6 : follB h l = false := by unfold follB; rw [e5, decide_eq_false hz]; rfl
    rw [e1, e2, e3, e4, e5, e6]
    generalize (chainF l).1 = e at hz
    (refine run ?_; repeat intro b)
    refine s_if true ?_ (fun _ => ?_) (fun h => by cases h)
    · exact congrArg (fun b => some (EV.v (.bool b))) (by rw [bne_iff_ne]; exact hz)
    (refine run ?_; repeat intro b)
    have w0 : IntKind.i64.wrap 0 = 0 := wrap_i64 (by omega) (by omega)
    simp [tupV, bpick, w0]
end Go.Proofs.Ythkmfihbpbehfaa
