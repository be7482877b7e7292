/-
The law of package net: whatever is handed in, each call answers what the reference answers.
-/
import Derived.Test.YthkmfihbpbehfaaLetSame
import Derived.Test.YthkmfihbpbehfaaNetTick
import Derived.Test.YthkmfihbpbehfaaNetRef
import Derived.Test.YthkmfihbpbehfaaDel
namespace Go.Proofs.Ythkmfihbpbehfaa
set_option linter.unusedVariables false
set_option linter.unusedSimpArgs false
open Go.TR
theorem by_wf {l : Ltr} (h : l.wf) (t : Int) : (l.by t).wf := ⟨h.heads, h.each, h.head, h.prf, h.ents, h.sides⟩
theorem wf_of_map {l : List LP} {m : List Ltr} (e : l.map LP.l = m) (h : ∀ x ∈ m, x.wf) : ∀ x ∈ l, x.l.wf := fun x hx => h _ (by rw [← e]; exact List.mem_map.2 ⟨x, hx, rfl⟩)
theorem sendL_wf {n : NP} {l : Ltr} {fs : List Int} (hn : ∀ x ∈ n.way, x.l.wf) (hl : l.wf) : ∀ x ∈ (if sendE n fs = 0 then sendL n l fs else []), x.wf := fun x hx => by
  split at hx
  · rcases List.mem_append.1 hx with hx | hx
    · obtain ⟨y, hy, rfl⟩ := List.mem_map.1 hx; exact hn y hy
    · obtain ⟨k, _, rfl⟩ := List.mem_map.1 hx; exact by_wf hl _
  · cases hx
theorem filt_wf {n : NP} {q : Ltr → Bool} (hn : ∀ x ∈ n.way, x.l.wf) : ∀ x ∈ (n.way.map LP.l).filter q, x.wf := fun x hx => by
  obtain ⟨y, hy, rfl⟩ := List.mem_map.1 (List.mem_filter.1 hx).1
  exact hn y hy
attribute [local irreducible] vc vcOps seqK blockK loopK retK retG retI loopV Plain CallOK CallIn bodied VS vcAny dropG backK brK loopPK IntKind.wrap
attribute [local irreducible] netFault sendE tickE sendL
set_option maxRecDepth 100000
set_option maxHeartbeats 4000000
/-- slices.Clone: a row of the caller's own. -/
theorem clone_let (cs : List Value) (n : Nat) {p : Option Addr} {c : Nat} {F : Hp} (hl : cs.length = n * 12) (hf : Frow F p cs) (h1 : ∀ x ∈ cs, one (.v x) = true) (hb : n * 152 ≤ 140737488355328) : CallOK Try.prog F 19 [.slice p n c] (fun x _ new => RowBack 36 12 cs n x new) := by
  refine call_vc (N := 8) (rv := [.tmp 2]) tbok mixed Try.func19 rfl rfl rfl rfl rfl ?_
  (refine run ?_; repeat intro b)
  refine s_snil (b := p.isNone) tbok rfl rfl rfl ?_
  cases p with
  | none =>
    have hn : n = 0 := by
      rcases Nat.eq_zero_or_pos n with h | h
      · exact h
      · have := frow_some hf (j := 0) (by rw [hl]; omega)
        cases this
    subst hn
    (refine run ?_; repeat intro b)
    refine s_retG (VS.id ⟨_, rfl, .inl ⟨rfl, rfl, none, rfl⟩⟩)
  | some a =>
    (refine run ?_; repeat intro b)
    refine s_appR rfl rfl rfl rfl rfl rfl rfl rfl (src_frz hl hf) (one_v _ h1) (fun h => by cases h) (Nat.le_refl 0) rfl (Nat.zero_le _) (by show (0 + n) * 152 ≤ _; omega) (fun hn => ?_) (fun hn b2 c2 hc2 => ?_)
    · subst hn
      (refine run ?_; repeat intro b)
      refine s_retG ?_
      refine VS.freeze 0 [2] rfl (cs := []) rfl rfl rfl fun F' hs1 hf1 => VS.id ⟨_, rfl, .inl ⟨rfl, rfl, _, rfl⟩⟩
    · (refine run ?_; repeat intro b)
      simp only [Nat.zero_add] at hc2 ⊢
      refine s_retGf (VSf.ren (nx' := 1) [(1, 0)] [2] [(0, ⟨some b2, cs.map EV.v, 36, c2 * 12⟩)] ⟨rfl, ⟨_, rfl, rfl, rfl, rfl, .inl ⟨rfl, fun e he => all_v _ e he⟩⟩, trivial⟩ rfl rfl rfl rfl rfl rfl ⟨_, rfl, .inr ⟨hn, b2, c2, hc2, rfl, rfl⟩⟩)
/-- slices.IndexFunc on a row of the call's own. -/
theorem letA_idxin (q : LP → Bool) (g : Nat) (lb : Array Value) (hbd : bodied Try.prog g) (l : List LP) {b cap c : Nat} {F : Hp} (hl : l.length ≤ 4611686018427387904) (hp : ∀ x ∈ l, Plain Try.prog F g (.agg (LP.row x).toArray :: lb.toList) (.bool (q x))) :
    CallIn Try.prog F [(7, ⟨some b, (l.flatMap LP.row).map EV.v, 36, cap⟩)] 8 82 [.row 7 0 l.length c, .v (.func (.func g) #[] lb)] (fun e F' rs' nx' => e = .v (i64 (idxP q l)) ∧ F = F' ∧ rs' = [(7, ⟨some b, (l.flatMap LP.row).map EV.v, 36, cap⟩)] ∧ nx' = 8) := by
  refine callin_vc (N := 19) (rv := [.tmp 4]) tbok mixed Try.func82 rfl rfl rfl rfl rfl ?_
  (refine run ?_; repeat intro b)
  refine s_loopP (fun k : Nat => k ≤ l.length ∧ (l.take k).any q = false) (fun k => ⟨[(0, .row 7 0 l.length c), (1, .v (.func (.func g) #[] lb)), (7, .v (i64 (l.length : Nat))), (8, .v (i64 (k : Nat)))], F, [(7, ⟨some b, (l.flatMap LP.row).map EV.v, 36, cap⟩)], 8⟩) (fun k => l.length - k) 0 ⟨Nat.zero_le _, rfl⟩ (VS.keepN [0, 1, 7, 8] rfl rfl) ?_
  rintro k ⟨hk, hany⟩
  by_cases hlt : k < l.length
  · (refine run ?_; repeat intro b)
    refine s_if true (by rw [← decide_eq_true (p := ((k : Nat) : Int) < ((l.length : Nat) : Int)) (by omega)]; rfl) (fun _ => ?_) (fun h => by cases h)
    (refine run ?_; repeat intro b)
    refine s_pureO rfl rfl rfl ⟨by omega, by omega, ⟨_, _, rfl, rfl⟩⟩ ?_
    refine s_locXA (LP.row l[k]) rfl rfl rfl rfl rfl (by rw [Int.toNat_natCast]; show 0 + k * 12 + 12 ≤ _; rw [List.length_map, flat_len lp_row]; omega) (by rw [Int.toNat_natCast]; exact flat_at lp_row hlt) ?_
    (refine run ?_; repeat intro b)
    refine s_plain _ rfl rfl (by rw [forceL_eq]; rfl) hbd rfl (hp l[k] (List.getElem_mem hlt)) ?_
    (refine run ?_; repeat intro b)
    refine s_if _ rfl (fun h2 => ?_) (fun h2 => ?_)
    · (refine run ?_; repeat intro b)
      rw [idxP_found hlt hany h2]
      exact ⟨rfl, rfl, rfl, rfl⟩
    · (refine run ?_; repeat intro b)
      rw [wrap_succ (by omega)]
      refine s_loopPn (k + 1) ⟨hlt, ?_⟩ (by omega) (VS.keepN [0, 1, 7, 8] rfl rfl)
      rw [List.take_succ_eq_append_getElem hlt, List.any_append, hany]
      simp [h2]
  · have hge : k = l.length := by omega
    subst hge
    rw [List.take_length] at hany
    (refine run ?_; repeat intro b)
    refine s_if false (by rw [← decide_eq_false (p := ((l.length : Nat) : Int) < ((l.length : Nat) : Int)) (by omega)]; rfl) (fun h => by cases h) (fun _ => ?_)
    (refine run ?_; repeat intro b)
    rw [idxP_none hany]
    exact ⟨rfl, rfl, rfl, rfl⟩
/-- slices.DeleteFunc on a row of the call's own. -/
theorem letA_del (q : LP → Bool) (g : Nat) (lb : Array Value) (hbd : bodied Try.prog g) (l : List LP) {b cap c : Nat} {F : Hp} (hc : l.length ≤ c) (hl : l.length ≤ 4611686018427387904) (hp : ∀ x ∈ l, Plain Try.prog F g (.agg (LP.row x).toArray :: lb.toList) (.bool (q x))) :
    CallIn Try.prog F [(7, ⟨some b, (l.flatMap LP.row).map EV.v, 36, cap⟩)] 8 18 [.row 7 0 l.length c, .v (.func (.func g) #[] lb)] (fun e F' rs' nx' => e = .row 7 0 (l.filter fun x => !q x).length c ∧ F = F' ∧ nx' = 8 ∧ ∃ cs, rs' = [(7, ⟨some b, ((l.filter fun x => !q x).flatMap LP.row ++ cs).map EV.v, 36, cap⟩)]) := by
  refine callin_vc (N := 42) (rv := [.tmp 4]) tbok mixed Try.func18 rfl rfl rfl rfl rfl ?_
  (refine run ?_; repeat intro b)
  refine s_in rfl rfl rfl bd82 rfl (letA_idxin q g lb hbd l hl hp) ?_
  rintro _ _ _ _ _ _ ⟨rfl, rfl, rfl, rfl⟩
  cases hany : l.any q with
  | false =>
    have hfl : (l.filter fun x => !q x) = l := by
      rw [List.filter_eq_self]
      intro x hx
      rw [List.any_eq_false] at hany
      simpa using hany x hx
    rw [idxP_none hany, hfl]
    (refine run ?_; repeat intro b)
    exact ⟨rfl, rfl, rfl, [], by rw [List.append_nil]⟩
  | true =>
    have hx : idxP q l = ((l.findIdx q : Nat) : Int) := by unfold idxP; rw [if_pos hany]
    have hi0 : l.findIdx q < l.length := List.findIdx_lt_length_of_exists (by simpa using hany)
    have hi1 : ((l.take (l.findIdx q + 1)).filter fun x => !q x) = l.take (l.findIdx q) := by
      rw [List.take_succ_eq_append_getElem hi0, List.filter_append]
      have h2 : q l[l.findIdx q] = true := List.findIdx_getElem
      have h3 : ((l.take (l.findIdx q)).filter fun x => !q x) = l.take (l.findIdx q) := by
        rw [List.filter_eq_self]
        intro x hx
        obtain ⟨j, hj, rfl⟩ := List.getElem_of_mem hx
        rw [List.length_take] at hj
        rw [List.getElem_take]
        have := List.not_of_lt_findIdx (p := q) (xs := l) (i := j) (by omega)
        simpa using this
      rw [h3]
      simp [h2]
    rw [hx]
    generalize l.findIdx q = i0 at hi0 hi1
    (refine run ?_; repeat intro b)
    rw [wrap_succ (by omega)]
    refine s_loopP (fun s : List LP × Nat × Nat => s.1.length = l.length ∧ s.2.1 < s.2.2 ∧ s.2.2 ≤ l.length ∧ s.1.take s.2.1 = ((l.take s.2.2).filter fun x => !q x) ∧ s.1.drop s.2.2 = l.drop s.2.2) (fun s => ⟨[(0, .row 7 0 l.length c), (1, .v (.func (.func g) #[] lb)), (5, .v (i64 (s.2.1 : Nat))), (6, .v (i64 (s.2.2 : Nat)))], F, [(7, ⟨some b, (s.1.flatMap LP.row).map EV.v, 36, cap⟩)], 8⟩) (fun s => l.length - s.2.2) (l, i0, i0 + 1) ⟨rfl, Nat.lt_succ_self _, hi0, hi1.symm, rfl⟩ (VS.keepN [0, 1, 5, 6] rfl rfl) ?_
    rintro ⟨m, i, j⟩ ⟨hm, hij, hj, ht, hdr⟩
    dsimp only at hm hij hj ht hdr ⊢
    by_cases hlt : j < l.length
    · have hltm : j < m.length := by omega
      have hmj : m[j] = l[j] := by
        have h1 := List.drop_eq_getElem_cons hltm
        have h2 := List.drop_eq_getElem_cons hlt
        rw [hdr, h2] at h1
        exact (List.cons.inj h1).1.symm
      have hdr2 : m.drop (j + 1) = l.drop (j + 1) := by
        have h1 := List.drop_eq_getElem_cons hltm
        have h2 := List.drop_eq_getElem_cons hlt
        rw [hdr, h2] at h1
        exact (List.cons.inj h1).2.symm
      have hpx := hp l[j] (List.getElem_mem hlt)
      have htk := List.take_succ_eq_append_getElem hlt
      have hat : (((m.flatMap LP.row).map EV.v).take (0 + j * 12 + 12)).drop (0 + j * 12) = (LP.row l[j]).map EV.v := by rw [← hmj]; exact flat_at lp_row hltm
      generalize l[j] = x at hpx htk hat
      have hrl : ∀ (m' : List LP), rlLt 8 [(7, (⟨some b, (m'.flatMap LP.row).map EV.v, 36, cap⟩ : Blk))] := fun m' => ⟨⟨by decide, fun e he => by obtain ⟨v, _, rfl⟩ := List.mem_map.1 he; trivial⟩, trivial⟩
      (refine run ?_; repeat intro b)
      refine s_if true (by rw [← decide_eq_true (p := ((j : Nat) : Int) < ((l.length : Nat) : Int)) (by omega)]; rfl) (fun _ => ?_) (fun h => by cases h)
      (refine run ?_; repeat intro b)
      refine s_pureO rfl rfl rfl ⟨by omega, by omega, ⟨_, _, rfl, rfl⟩⟩ ?_
      refine s_locXA (LP.row x) rfl rfl rfl rfl rfl (by rw [Int.toNat_natCast]; show 0 + j * 12 + 12 ≤ _; rw [List.length_map, flat_len lp_row]; omega) (by rw [Int.toNat_natCast]; exact hat) ?_
      (refine run ?_; repeat intro b)
      refine s_plain _ rfl rfl (by rw [forceL_eq]; rfl) hbd rfl hpx ?_
      (refine run ?_; repeat intro b)
      refine s_if (!q x) rfl (fun h2 => ?_) (fun h2 => ?_)
      · have hti : (m.set i x).take (i + 1) = m.take i ++ [x] := by
          rw [List.take_succ_eq_append_getElem (by rw [List.length_set]; omega), List.getElem_set_self, List.take_set_of_le (Nat.le_refl _)]
        (refine run ?_; repeat intro b)
        refine s_pureO rfl rfl rfl ⟨by omega, by omega, ⟨_, _, rfl, rfl⟩⟩ ?_
        refine s_storeX (((m.set i x).flatMap LP.row).map EV.v) rfl rfl rfl rfl rfl rfl (by rw [Int.toNat_natCast]; show 0 + i * 12 + 12 ≤ _; rw [List.length_map, flat_len lp_row]; omega) (by rw [Int.toNat_natCast]; exact flat_set lp_row (by omega)) rfl ?_
        (refine run ?_; repeat intro b)
        rw [wrap_succ (by omega), wrap_succ (by omega)]
        exact s_loopPc (m.set i x, i + 1, j + 1) [8] [0, 1, 5, 6] ⟨by simp only [List.length_set]; exact hm, by simp only; omega, hlt, by simp only; rw [hti, ht, htk, List.filter_append]; simp [h2], by simp only; rw [List.drop_set_of_lt (by omega), hdr2]⟩ (by simp only; omega) rfl rfl rfl rfl (hrl _) rfl
      · (refine run ?_; repeat intro b)
        rw [wrap_succ (by omega)]
        exact s_loopPc (m, i, j + 1) [8] [0, 1, 5, 6] ⟨hm, by simp only; omega, hlt, by simp only; rw [ht, htk, List.filter_append]; simp [h2], hdr2⟩ (by simp only; omega) rfl rfl rfl rfl (hrl _) rfl
    · have hge : j = l.length := by omega
      subst hge
      rw [List.take_length] at ht
      have hil : (l.filter fun x => !q x).length = i := by rw [← ht, List.length_take]; omega
      have hso : slOff 0 i c 12 = i * 12 := by unfold slOff; rw [if_neg (by omega), Nat.zero_add]
      have hml := flat_len lp_row m
      have hcl : ∀ vs : List Value, ((m.flatMap LP.row).map EV.v).take (slOff 0 i c 12) ++ vs.map EV.v ++ ((m.flatMap LP.row).map EV.v).drop (slOff 0 i c 12 + (l.length - i) * 12) = ((l.filter fun x => !q x).flatMap LP.row ++ vs).map EV.v := fun vs => by
        rw [hso, List.drop_eq_nil_of_le (by rw [List.length_map, hml, hm, ← Nat.add_mul]; exact Nat.mul_le_mul_right _ (by omega)), List.append_nil, List.map_append, ← ht, flat_take lp_row, List.map_take]
      rw [hil]
      (refine run ?_; repeat intro b)
      refine s_if false (by rw [← decide_eq_false (p := ((l.length : Nat) : Int) < ((l.length : Nat) : Int)) (by omega)]; rfl) (fun h => by cases h) (fun _ => ?_)
      (refine run ?_; repeat intro b)
      refine s_pureO rfl rfl rfl ⟨by omega, by omega, by omega⟩ ?_
      refine s_clear tbok rfl rfl rfl rfl rfl (fun vs => [(7, (⟨some b, ((l.filter fun x => !q x).flatMap LP.row ++ vs).map EV.v, 36, cap⟩ : Blk))]) (fun vs => congrArg (fun cs => some [(7, (⟨some b, cs, 36, cap⟩ : Blk))]) (hcl vs)) (by rw [Int.toNat_natCast]; show slOff 0 i c 12 + (l.length - i) * 12 ≤ _; rw [hso, List.length_map, hml, hm, ← Nat.add_mul]; exact Nat.mul_le_mul_right _ (by omega)) (fun vs hvs => ?_)
      (refine run ?_; repeat intro b)
      refine s_pureO rfl rfl rfl ⟨by omega, by omega⟩ ?_
      rw [Int.toNat_natCast]
      (refine run ?_; repeat intro b)
      exact ⟨rfl, rfl, rfl, vs, rfl⟩
/-- slices.IndexFunc on a row of the call's own. -/
theorem letB_idxin (q : LP → Bool) (g : Nat) (lb : Array Value) (hbd : bodied Try.prog g) (l : List LP) {b cap c : Nat} {F : Hp} (hl : l.length ≤ 4611686018427387904) (hp : ∀ x ∈ l, Plain Try.prog F g (.agg (LP.row x).toArray :: lb.toList) (.bool (q x))) :
    CallIn Try.prog F [(8, ⟨some b, (l.flatMap LP.row).map EV.v, 36, cap⟩)] 9 82 [.row 8 0 l.length c, .v (.func (.func g) #[] lb)] (fun e F' rs' nx' => e = .v (i64 (idxP q l)) ∧ F = F' ∧ rs' = [(8, ⟨some b, (l.flatMap LP.row).map EV.v, 36, cap⟩)] ∧ nx' = 9) := by
  refine callin_vc (N := 19) (rv := [.tmp 4]) tbok mixed Try.func82 rfl rfl rfl rfl rfl ?_
  (refine run ?_; repeat intro b)
  refine s_loopP (fun k : Nat => k ≤ l.length ∧ (l.take k).any q = false) (fun k => ⟨[(0, .row 8 0 l.length c), (1, .v (.func (.func g) #[] lb)), (7, .v (i64 (l.length : Nat))), (8, .v (i64 (k : Nat)))], F, [(8, ⟨some b, (l.flatMap LP.row).map EV.v, 36, cap⟩)], 9⟩) (fun k => l.length - k) 0 ⟨Nat.zero_le _, rfl⟩ (VS.keepN [0, 1, 7, 8] rfl rfl) ?_
  rintro k ⟨hk, hany⟩
  by_cases hlt : k < l.length
  · (refine run ?_; repeat intro b)
    refine s_if true (by rw [← decide_eq_true (p := ((k : Nat) : Int) < ((l.length : Nat) : Int)) (by omega)]; rfl) (fun _ => ?_) (fun h => by cases h)
    (refine run ?_; repeat intro b)
    refine s_pureO rfl rfl rfl ⟨by omega, by omega, ⟨_, _, rfl, rfl⟩⟩ ?_
    refine s_locXA (LP.row l[k]) rfl rfl rfl rfl rfl (by rw [Int.toNat_natCast]; show 0 + k * 12 + 12 ≤ _; rw [List.length_map, flat_len lp_row]; omega) (by rw [Int.toNat_natCast]; exact flat_at lp_row hlt) ?_
    (refine run ?_; repeat intro b)
    refine s_plain _ rfl rfl (by rw [forceL_eq]; rfl) hbd rfl (hp l[k] (List.getElem_mem hlt)) ?_
    (refine run ?_; repeat intro b)
    refine s_if _ rfl (fun h2 => ?_) (fun h2 => ?_)
    · (refine run ?_; repeat intro b)
      rw [idxP_found hlt hany h2]
      exact ⟨rfl, rfl, rfl, rfl⟩
    · (refine run ?_; repeat intro b)
      rw [wrap_succ (by omega)]
      refine s_loopPn (k + 1) ⟨hlt, ?_⟩ (by omega) (VS.keepN [0, 1, 7, 8] rfl rfl)
      rw [List.take_succ_eq_append_getElem hlt, List.any_append, hany]
      simp [h2]
  · have hge : k = l.length := by omega
    subst hge
    rw [List.take_length] at hany
    (refine run ?_; repeat intro b)
    refine s_if false (by rw [← decide_eq_false (p := ((l.length : Nat) : Int) < ((l.length : Nat) : Int)) (by omega)]; rfl) (fun h => by cases h) (fun _ => ?_)
    (refine run ?_; repeat intro b)
    rw [idxP_none hany]
    exact ⟨rfl, rfl, rfl, rfl⟩
/-- slices.DeleteFunc on a row of the call's own. -/
theorem letB_del (q : LP → Bool) (g : Nat) (lb : Array Value) (hbd : bodied Try.prog g) (l : List LP) {b cap c : Nat} {F : Hp} (hc : l.length ≤ c) (hl : l.length ≤ 4611686018427387904) (hp : ∀ x ∈ l, Plain Try.prog F g (.agg (LP.row x).toArray :: lb.toList) (.bool (q x))) :
    CallIn Try.prog F [(8, ⟨some b, (l.flatMap LP.row).map EV.v, 36, cap⟩)] 9 18 [.row 8 0 l.length c, .v (.func (.func g) #[] lb)] (fun e F' rs' nx' => e = .row 8 0 (l.filter fun x => !q x).length c ∧ F = F' ∧ nx' = 9 ∧ ∃ cs, rs' = [(8, ⟨some b, ((l.filter fun x => !q x).flatMap LP.row ++ cs).map EV.v, 36, cap⟩)]) := by
  refine callin_vc (N := 42) (rv := [.tmp 4]) tbok mixed Try.func18 rfl rfl rfl rfl rfl ?_
  (refine run ?_; repeat intro b)
  refine s_in rfl rfl rfl bd82 rfl (letB_idxin q g lb hbd l hl hp) ?_
  rintro _ _ _ _ _ _ ⟨rfl, rfl, rfl, rfl⟩
  cases hany : l.any q with
  | false =>
    have hfl : (l.filter fun x => !q x) = l := by
      rw [List.filter_eq_self]
      intro x hx
      rw [List.any_eq_false] at hany
      simpa using hany x hx
    rw [idxP_none hany, hfl]
    (refine run ?_; repeat intro b)
    exact ⟨rfl, rfl, rfl, [], by rw [List.append_nil]⟩
  | true =>
    have hx : idxP q l = ((l.findIdx q : Nat) : Int) := by unfold idxP; rw [if_pos hany]
    have hi0 : l.findIdx q < l.length := List.findIdx_lt_length_of_exists (by simpa using hany)
    have hi1 : ((l.take (l.findIdx q + 1)).filter fun x => !q x) = l.take (l.findIdx q) := by
      rw [List.take_succ_eq_append_getElem hi0, List.filter_append]
      have h2 : q l[l.findIdx q] = true := List.findIdx_getElem
      have h3 : ((l.take (l.findIdx q)).filter fun x => !q x) = l.take (l.findIdx q) := by
        rw [List.filter_eq_self]
        intro x hx
        obtain ⟨j, hj, rfl⟩ := List.getElem_of_mem hx
        rw [List.length_take] at hj
        rw [List.getElem_take]
        have := List.not_of_lt_findIdx (p := q) (xs := l) (i := j) (by omega)
        simpa using this
      rw [h3]
      simp [h2]
    rw [hx]
    generalize l.findIdx q = i0 at hi0 hi1
    (refine run ?_; repeat intro b)
    rw [wrap_succ (by omega)]
    refine s_loopP (fun s : List LP × Nat × Nat => s.1.length = l.length ∧ s.2.1 < s.2.2 ∧ s.2.2 ≤ l.length ∧ s.1.take s.2.1 = ((l.take s.2.2).filter fun x => !q x) ∧ s.1.drop s.2.2 = l.drop s.2.2) (fun s => ⟨[(0, .row 8 0 l.length c), (1, .v (.func (.func g) #[] lb)), (5, .v (i64 (s.2.1 : Nat))), (6, .v (i64 (s.2.2 : Nat)))], F, [(8, ⟨some b, (s.1.flatMap LP.row).map EV.v, 36, cap⟩)], 9⟩) (fun s => l.length - s.2.2) (l, i0, i0 + 1) ⟨rfl, Nat.lt_succ_self _, hi0, hi1.symm, rfl⟩ (VS.keepN [0, 1, 5, 6] rfl rfl) ?_
    rintro ⟨m, i, j⟩ ⟨hm, hij, hj, ht, hdr⟩
    dsimp only at hm hij hj ht hdr ⊢
    by_cases hlt : j < l.length
    · have hltm : j < m.length := by omega
      have hmj : m[j] = l[j] := by
        have h1 := List.drop_eq_getElem_cons hltm
        have h2 := List.drop_eq_getElem_cons hlt
        rw [hdr, h2] at h1
        exact (List.cons.inj h1).1.symm
      have hdr2 : m.drop (j + 1) = l.drop (j + 1) := by
        have h1 := List.drop_eq_getElem_cons hltm
        have h2 := List.drop_eq_getElem_cons hlt
        rw [hdr, h2] at h1
        exact (List.cons.inj h1).2.symm
      have hpx := hp l[j] (List.getElem_mem hlt)
      have htk := List.take_succ_eq_append_getElem hlt
      have hat : (((m.flatMap LP.row).map EV.v).take (0 + j * 12 + 12)).drop (0 + j * 12) = (LP.row l[j]).map EV.v := by rw [← hmj]; exact flat_at lp_row hltm
      generalize l[j] = x at hpx htk hat
      have hrl : ∀ (m' : List LP), rlLt 9 [(8, (⟨some b, (m'.flatMap LP.row).map EV.v, 36, cap⟩ : Blk))] := fun m' => ⟨⟨by decide, fun e he => by obtain ⟨v, _, rfl⟩ := List.mem_map.1 he; trivial⟩, trivial⟩
      (refine run ?_; repeat intro b)
      refine s_if true (by rw [← decide_eq_true (p := ((j : Nat) : Int) < ((l.length : Nat) : Int)) (by omega)]; rfl) (fun _ => ?_) (fun h => by cases h)
      (refine run ?_; repeat intro b)
      refine s_pureO rfl rfl rfl ⟨by omega, by omega, ⟨_, _, rfl, rfl⟩⟩ ?_
      refine s_locXA (LP.row x) rfl rfl rfl rfl rfl (by rw [Int.toNat_natCast]; show 0 + j * 12 + 12 ≤ _; rw [List.length_map, flat_len lp_row]; omega) (by rw [Int.toNat_natCast]; exact hat) ?_
      (refine run ?_; repeat intro b)
      refine s_plain _ rfl rfl (by rw [forceL_eq]; rfl) hbd rfl hpx ?_
      (refine run ?_; repeat intro b)
      refine s_if (!q x) rfl (fun h2 => ?_) (fun h2 => ?_)
      · have hti : (m.set i x).take (i + 1) = m.take i ++ [x] := by
          rw [List.take_succ_eq_append_getElem (by rw [List.length_set]; omega), List.getElem_set_self, List.take_set_of_le (Nat.le_refl _)]
        (refine run ?_; repeat intro b)
        refine s_pureO rfl rfl rfl ⟨by omega, by omega, ⟨_, _, rfl, rfl⟩⟩ ?_
        refine s_storeX (((m.set i x).flatMap LP.row).map EV.v) rfl rfl rfl rfl rfl rfl (by rw [Int.toNat_natCast]; show 0 + i * 12 + 12 ≤ _; rw [List.length_map, flat_len lp_row]; omega) (by rw [Int.toNat_natCast]; exact flat_set lp_row (by omega)) rfl ?_
        (refine run ?_; repeat intro b)
        rw [wrap_succ (by omega), wrap_succ (by omega)]
        exact s_loopPc (m.set i x, i + 1, j + 1) [9] [0, 1, 5, 6] ⟨by simp only [List.length_set]; exact hm, by simp only; omega, hlt, by simp only; rw [hti, ht, htk, List.filter_append]; simp [h2], by simp only; rw [List.drop_set_of_lt (by omega), hdr2]⟩ (by simp only; omega) rfl rfl rfl rfl (hrl _) rfl
      · (refine run ?_; repeat intro b)
        rw [wrap_succ (by omega)]
        exact s_loopPc (m, i, j + 1) [9] [0, 1, 5, 6] ⟨hm, by simp only; omega, hlt, by simp only; rw [ht, htk, List.filter_append]; simp [h2], hdr2⟩ (by simp only; omega) rfl rfl rfl rfl (hrl _) rfl
    · have hge : j = l.length := by omega
      subst hge
      rw [List.take_length] at ht
      have hil : (l.filter fun x => !q x).length = i := by rw [← ht, List.length_take]; omega
      have hso : slOff 0 i c 12 = i * 12 := by unfold slOff; rw [if_neg (by omega), Nat.zero_add]
      have hml := flat_len lp_row m
      have hcl : ∀ vs : List Value, ((m.flatMap LP.row).map EV.v).take (slOff 0 i c 12) ++ vs.map EV.v ++ ((m.flatMap LP.row).map EV.v).drop (slOff 0 i c 12 + (l.length - i) * 12) = ((l.filter fun x => !q x).flatMap LP.row ++ vs).map EV.v := fun vs => by
        rw [hso, List.drop_eq_nil_of_le (by rw [List.length_map, hml, hm, ← Nat.add_mul]; exact Nat.mul_le_mul_right _ (by omega)), List.append_nil, List.map_append, ← ht, flat_take lp_row, List.map_take]
      rw [hil]
      (refine run ?_; repeat intro b)
      refine s_if false (by rw [← decide_eq_false (p := ((l.length : Nat) : Int) < ((l.length : Nat) : Int)) (by omega)]; rfl) (fun h => by cases h) (fun _ => ?_)
      (refine run ?_; repeat intro b)
      refine s_pureO rfl rfl rfl ⟨by omega, by omega, by omega⟩ ?_
      refine s_clear tbok rfl rfl rfl rfl rfl (fun vs => [(8, (⟨some b, ((l.filter fun x => !q x).flatMap LP.row ++ vs).map EV.v, 36, cap⟩ : Blk))]) (fun vs => congrArg (fun cs => some [(8, (⟨some b, cs, 36, cap⟩ : Blk))]) (hcl vs)) (by rw [Int.toNat_natCast]; show slOff 0 i c 12 + (l.length - i) * 12 ≤ _; rw [hso, List.length_map, hml, hm, ← Nat.add_mul]; exact Nat.mul_le_mul_right _ (by omega)) (fun vs hvs => ?_)
      (refine run ?_; repeat intro b)
      refine s_pureO rfl rfl rfl ⟨by omega, by omega⟩ ?_
      rw [Int.toNat_natCast]
      (refine run ?_; repeat intro b)
      exact ⟨rfl, rfl, rfl, vs, rfl⟩
theorem del_nil (g : Nat) (lb : Array Value) {p : Option Addr} {c : Nat} {F : Hp} (hb : bodied Try.prog g) : Plain Try.prog F 18 [.slice p 0 c, .func (.func g) #[] lb] (.slice p 0 c) := by
  have h0 := lets_idx (fun _ => false) g lb hb [] (p := p) (c := c) (F := F) (frow_nil _ _) (by decide) (by simp)
  refine plain_vc (N := 42) (rv := [.tmp 4]) tbok mixed Try.func18 rfl rfl rfl rfl rfl ?_
  (refine run ?_; repeat intro b)
  refine s_plain _ rfl rfl (by rw [forceL_eq]; rfl) bd82 rfl h0 ?_
  (refine run ?_; repeat intro b)
  rfl
theorem due1_ok (x : LP) (t : Int) {p : Option Addr} {F : Hp} (h : Pcell F p = some (i64 t)) : Plain Try.prog F 17 [.agg x.row.toArray, .pointer p] (.bool (decide (x.l.due = t))) := by
  refine plain_vc (N := 8) (rv := [.tmp 3]) tbok mixed Try.func17 rfl rfl rfl rfl rfl ?_
  (refine run ?_; repeat intro b)
  refine s_load (i64 t) rfl rfl rfl rfl h ?_
  (refine run ?_; repeat intro b)
  simp only [tupV]
  congr 1
theorem due2_ok (x : LP) (t : Int) {p q : Option Addr} {F : Hp} (h : Pcell F p = some (i64 t)) (hq : Pcell F q = some (.func (.func 17) #[] #[.pointer p])) : Plain Try.prog F 20 [.agg x.row.toArray, .pointer q] (.bool (!decide (x.l.due = t))) := by
  refine plain_vc (N := 8) (rv := [.tmp 3]) tbok mixed Try.func20 rfl rfl rfl rfl rfl ?_
  (refine run ?_; repeat intro b)
  refine s_load (.func (.func 17) #[] #[.pointer p]) rfl rfl rfl rfl hq ?_
  (refine run ?_; repeat intro b)
  refine s_plain _ rfl rfl rfl bd17 rfl (due1_ok x t h) ?_
  (refine run ?_; repeat intro b)
  rfl
theorem net_tells (n : NP) (x : LP) (fs : List Int) {pf : Option Addr} {cf : Nat} {F : Hp} (hb : n.way.length * 152 ≤ 140737488355328) (hc : n.way.length ≤ n.c) (hw : ∀ y ∈ n.way, y.l.wf) (hn : n.at F) (wx : x.l.wf) (hx : x.at F) (hfl : fs.length ≤ 4611686018427387904) (hff : Frow F pf (fs.map i64)) :
    Plain Try.prog F 3 [n.v, .agg x.row.toArray, .slice pf fs.length cf] (.bool true) := by
  have hl : n.way.length ≤ 4611686018427387904 := by omega
  refine plain_vc (N := 122) (rv := [.tmp 6]) tbok mixed Try.func3 rfl rfl rfl rfl rfl ?_
  (refine run ?_; repeat intro b)
  refine s_callF rfl rfl rfl bd11 rfl (netsend_ok n x fs hl hw hn wx hx hfl hff) ?_
  rintro _ F1 hF1 ⟨y, rfl, y1, y2, y3, y4⟩
  have wy := wf_of_map y4 (sendL_wf hw wx)
  (refine run ?_; repeat intro b)
  refine s_callF rfl rfl rfl bd12 rfl (nettick_ok n hl hw (NP.at_sub hF1 hn)) ?_
  rintro _ F2 hF2 ⟨z, come, pc, cc, rfl, z1, z2, z3, z4, z5, z6, z7, z8⟩
  have hF := hF1.trans hF2
  have hn2 := NP.at_sub hF hn
  (refine run ?_; repeat intro b)
  refine s_plain _ rfl rfl rfl bd13 rfl (refnetfault_ok n hl hn2) ?_
  (refine run ?_; repeat intro b)
  refine s_plain _ rfl rfl rfl bd14 rfl (netcheck_ok n hl hn2) ?_
  (refine run ?_; repeat intro b)
  refine s_if false ?_ (fun h => by cases h) (fun _ => ?_)
  · refine congrArg (fun b => some (EV.v (.bool b))) ?_
    simp
  (refine run ?_; repeat intro b)
  refine s_if (decide (netFault n ≠ 0)) ?_ (fun h => ?_) (fun h => ?_)
  · refine congrArg (fun b => some (EV.v (.bool b))) ?_
    rw [Bool.eq_iff_iff]; simp
  · have h := of_decide_eq_true h
    have e1 : sendE n fs = netFault n := by unfold sendE; rw [if_pos h]
    have e2 : tickE n = netFault n := by unfold tickE; rw [if_pos h]
    rw [e1, if_neg h] at y3 y4
    rw [e2, if_neg h] at z6 z7 z8
    have g1 := samenet_ok y NP.none y3 y4 wy (NP.at_sub hF2 y1) (NP.none_at F2) y2
    have g2 := samenet_ok z NP.none z6 z7 (wf_of_map z7 (by simp)) z1 (NP.none_at F2) (by omega)
    obtain rfl : come = [] := List.map_eq_nil_iff.1 z8
    rw [e1, e2]
    (refine run ?_; repeat intro b)
    refine s_plain _ rfl rfl rfl bd15 rfl g1 ?_
    (refine run ?_; repeat intro b)
    refine s_gplain _ rfl rfl rfl rfl bd15 rfl rfl (fun _ => g2) ?_
    (refine run ?_; repeat intro b)
    simp [tupV, bpick]
  · have hz : netFault n = 0 := by have := of_decide_eq_false h; omega
    obtain ⟨r1, r2, r3⟩ := netFault_zero hz
    have hx2 := LP.at_sub hF hx
    (refine run ?_; repeat intro b)
    refine s_callF rfl rfl rfl bd16 rfl (refnetsend_ok n x fs hz hl hn2 hx2 hfl (frow_sub hF hff)) ?_
    rintro _ F3 hF3 ⟨u, rfl, u1, u2, u3, u4⟩
    (refine run ?_; repeat intro b)
    refine s_plain _ rfl rfl rfl bd15 rfl (samenet_ok y u (y3.trans u3.symm) (y4.trans u4.symm) wy (NP.at_sub (hF2.trans hF3) y1) u1 y2) ?_
    (refine run ?_; repeat intro b)
    refine s_if false ?_ (fun h => by cases h) (fun _ => ?_)
    · refine congrArg (fun b => some (EV.v (.bool b))) ?_
      simp [bpick]
    have hE : tickE n = if n.now = 1000000000 then 9 else 0 := by unfold tickE; rw [if_neg (by simpa using hz)]
    have hz1 := NP.at_sub hF3 z1
    (refine run ?_; repeat intro b)
    refine s_if (decide (n.now = 1000000000)) ?_ (fun h => ?_) (fun h => ?_)
    · refine congrArg (fun b => some (EV.v (.bool b))) ?_
      rw [Bool.eq_iff_iff]; simp
    · rw [if_pos (of_decide_eq_true h)] at hE
      rw [hE, if_neg (by decide)] at z6 z7 z8
      have g2 := samenet_ok z NP.none z6 z7 (wf_of_map z7 (by simp)) hz1 (NP.none_at F3) (by omega)
      obtain rfl : come = [] := List.map_eq_nil_iff.1 z8
      rw [hE]
      (refine run ?_; repeat intro b)
      refine s_plain _ rfl rfl rfl bd15 rfl g2 ?_
      (refine run ?_; repeat intro b)
      simp [tupV, bpick]
    · rw [if_neg (of_decide_eq_false h)] at hE
      rw [hE, if_pos rfl] at z6 z7 z8
      rw [hE]
      have ew : IntKind.i64.wrap (n.now + 1) = n.now + 1 := wrap_i64 (by omega) (by omega)
      (refine run ?_; repeat intro b)
      rw [ew]
      refine s_vs (VS.freeze 0 [3, 9, 10, 11, 15, 16] rfl rfl rfl rfl fun F5 hs5 hf5 => VS.freeze 3 [3, 9, 10, 11, 15, 16] rfl rfl rfl rfl fun F6 hs6 hf6 => VS.freeze 5 [3, 9, 10, 11, 15, 16] rfl rfl rfl rfl fun F7 hs7 hf7 => VS.freeze 6 [3, 9, 10, 11, 15, 16] rfl rfl rfl rfl fun F8 hs8 hf8 => VS.dropR [1, 2, 4] rfl (VS.id ?_))
      have k5 := frow_sub (hs6.trans (hs7.trans hs8)) hf5
      have k6 := frow_sub (hs7.trans hs8) hf6
      have k7 := frow_sub hs8 hf7
      have hF8 : F3.sub F8 := hs5.trans (hs6.trans (hs7.trans hs8))
      have hn8 := NP.at_sub (hF3.trans hF8) hn2
      have z8' := NP.at_sub hF8 hz1
      have c8 := fun (F' : Hp) (hs : F8.sub F') => frow_sub (hF3.trans (hF8.trans hs)) z4
      have d8 := fun (F' : Hp) (hs : F8.sub F') x hx => LP.at_sub (hF3.trans (hF8.trans hs)) (z5 x hx)
      have m1 : z.way.map LP.l = (n.way.filter fun x => !decide (x.l.due = n.now + 1)).map LP.l := by rw [z7, List.filter_map]; rfl
      have m2 : come.map LP.l = (n.way.filter fun x => !!decide (x.l.due = n.now + 1)).map LP.l := by rw [z8, List.filter_map]; simp only [Bool.not_not]; rfl
      have wz := wf_of_map z7 (filt_wf hw)
      have wc := wf_of_map z8 (filt_wf hw)
      refine s_regiona [] (by kernel_rfl) ?_
      refine s_firsts [0, 1, 3] (f' := 3) (by kernel_rfl) rfl rfl rfl ?_
      refine s_pureO rfl rfl rfl rfl ?_
      refine s_load (.slice n.p n.way.length n.c) rfl rfl rfl rfl (k5 1 _ rfl) ?_
      refine s_load _ rfl rfl rfl rfl (pcell_l hf8) ?_
      (refine run ?_; repeat intro b)
      refine s_one 2 (by kernel_rfl) rfl rfl ?_
      refine s_callR (R := fun _ cs => cs = n.way.flatMap LP.row) (fun x F' new h => ⟨_, h, rfl⟩) rfl rfl rfl bd19 rfl (clone_let (n.way.flatMap LP.row) n.way.length (flat_len lp_row _) hn8.way (lp_one _) hb) (fun hk0 F9 p1 cs hF9 _ => ?_) (fun hk1 F9 b9 c9 cs hF9 hc9 hcs => ?_)
      · have hw0 : n.way = [] := List.eq_nil_of_length_eq_zero hk0
        rw [hw0] at m1 m2
        (refine run ?_; repeat intro b)
        refine s_br hF9 trivial ?_
        refine s_one 4 (by kernel_rfl) rfl rfl ?_
        refine s_plain _ rfl rfl rfl bd18 rfl (del_nil _ #[_] bd17) ?_
        (refine run ?_; repeat intro b)
        refine s_br (Hp.sub.refl _) trivial ?_
        refine s_firsts [5] (f' := 0) (by kernel_rfl) rfl rfl rfl ?_
        (refine run ?_; repeat intro b)
        refine s_stop (by kernel_rfl) ?_
        (refine run ?_; repeat intro b)
        refine s_pureO rfl rfl rfl rfl ?_
        refine s_load (.slice n.p n.way.length n.c) rfl rfl rfl rfl (frow_sub hF9 k5 1 _ rfl) ?_
        refine s_callR (R := fun _ cs => cs = n.way.flatMap LP.row) (fun x F' new h => ⟨_, h, rfl⟩) rfl rfl rfl bd19 rfl (clone_let (n.way.flatMap LP.row) n.way.length (flat_len lp_row _) (NP.at_sub hF9 hn8).way (lp_one _) hb) (fun _ F10 p2 cs hF10 _ => ?_) (fun hk1 F10 b10 c10 cs hF10 hc10 hcs => by omega)
        (refine run ?_; repeat intro b)
        refine s_plain _ rfl rfl rfl bd18 rfl (del_nil _ #[_] bd20) ?_
        (refine run ?_; repeat intro b)
        have hs9 := hF9.trans hF10
        have l6 := frow_sub hs9 k6
        refine s_loadA [i64 z.now, .slice z.p z.way.length z.c] rfl rfl rfl rfl rfl rfl (fun i hi => (frow_get l6 hi).trans (List.getElem?_eq_getElem hi).symm) ?_
        (refine run ?_; repeat intro b)
        refine s_load (i64 (n.now + 1)) rfl rfl rfl rfl (pcell_l (frow_sub hs9 k7)) ?_
        (refine run ?_; repeat intro b)
        refine s_plain _ rfl rfl rfl bd15 rfl (samenet_ok z ⟨n.now + 1, [], p1, 0⟩ z6 m1 wz (NP.at_sub hs9 z8') ⟨frow_nil _ _, by simp⟩ (by omega)) ?_
        (refine run ?_; repeat intro b)
        refine s_plain _ rfl rfl rfl bd21 rfl (samelets_ok come [] m2 (p1 := pc) (p2 := p2) (c1 := cc) (c2 := 0) wc (c8 _ hs9) (frow_nil _ _) (d8 _ hs9) (by simp) (by omega)) ?_
        (refine run ?_; repeat intro b)
        rfl
      · subst hcs
        (refine run ?_; repeat intro b)
        refine s_br hF9 trivial ?_
        refine s_one 4 (by kernel_rfl) rfl rfl ?_
        refine s_in rfl rfl rfl bd18 rfl (letA_del (fun x => decide (x.l.due = n.now + 1)) _ #[_] bd17 n.way hc9 hl (fun x _ => due1_ok x (n.now + 1) (pcell_sub hF9 (pcell_l k7)))) ?_
        rintro _ _ _ _ _ _ ⟨rfl, rfl, rfl, cs2, rfl⟩
        (refine run ?_; repeat intro b)
        refine s_br (Hp.sub.refl _) trivial ?_
        refine s_firsts [5] (f' := 0) (by kernel_rfl) rfl rfl rfl ?_
        (refine run ?_; repeat intro b)
        refine s_stop (by kernel_rfl) ?_
        (refine run ?_; repeat intro b)
        refine s_shift (VS.freeze 7 [3, 9, 10, 11, 15, 16, 17] rfl (allV_map_v _) rfl rfl fun F10 hs10 hf10 => VS.id ?_)
        have j1 : Frow F10 (some ⟨b9, 0, none⟩) ((n.way.filter fun x => !decide (x.l.due = n.now + 1)).flatMap LP.row) := by
          have := frow_take hf10 ((n.way.filter fun x => !decide (x.l.due = n.now + 1)).flatMap LP.row).length
          rwa [List.take_left] at this
        have hs9 := hF9.trans hs10
        refine s_pureO rfl rfl rfl rfl ?_
        refine s_load (.slice n.p n.way.length n.c) rfl rfl rfl rfl (frow_sub hs9 k5 1 _ rfl) ?_
        refine s_callR (R := fun _ cs => cs = n.way.flatMap LP.row) (fun x F' new h => ⟨_, h, rfl⟩) rfl rfl rfl bd19 rfl (clone_let (n.way.flatMap LP.row) n.way.length (flat_len lp_row _) (NP.at_sub hs9 hn8).way (lp_one _) hb) (fun hk0 _ _ _ _ _ => by omega) (fun _ F11 b11 c11 cs hF11 hc11 hcs => ?_)
        subst hcs
        have hs11 := hs9.trans hF11
        (refine run ?_; repeat intro b)
        refine s_in rfl rfl rfl bd18 rfl (letB_del (fun x => !decide (x.l.due = n.now + 1)) _ #[_] bd20 n.way hc11 hl (fun x _ => due2_ok x (n.now + 1) (pcell_l (frow_sub hs11 k7)) (pcell_l (frow_sub hs11 hf8)))) ?_
        rintro _ _ _ _ _ _ ⟨rfl, rfl, rfl, cs3, rfl⟩
        refine s_shift (VS.freeze 8 [9, 10, 11, 15, 17, 107] rfl (allV_map_v _) rfl rfl fun F12 hs12 hf12 => VS.id ?_)
        have j2 : Frow F12 (some ⟨b11, 0, none⟩) ((n.way.filter fun x => !!decide (x.l.due = n.now + 1)).flatMap LP.row) := by
          have := frow_take hf12 ((n.way.filter fun x => !!decide (x.l.due = n.now + 1)).flatMap LP.row).length
          rwa [List.take_left] at this
        have hs13 := hs11.trans hs12
        have l6 := frow_sub hs13 k6
        (refine run ?_; repeat intro b)
        refine s_loadA [i64 z.now, .slice z.p z.way.length z.c] rfl rfl rfl rfl rfl rfl (fun i hi => (frow_get l6 hi).trans (List.getElem?_eq_getElem hi).symm) ?_
        (refine run ?_; repeat intro b)
        refine s_load (i64 (n.now + 1)) rfl rfl rfl rfl (pcell_l (frow_sub hs13 k7)) ?_
        (refine run ?_; repeat intro b)
        have hn13 := (NP.at_sub hs13 hn8).each
        refine s_plain _ rfl rfl rfl bd15 rfl (samenet_ok z ⟨n.now + 1, n.way.filter fun x => !decide (x.l.due = n.now + 1), some ⟨b9, 0, none⟩, c9⟩ z6 m1 wz (NP.at_sub hs13 z8') ⟨frow_sub (hF11.trans hs12) j1, fun x hx => hn13 x (List.mem_filter.1 hx).1⟩ (by omega)) ?_
        (refine run ?_; repeat intro b)
        refine s_plain _ rfl rfl rfl bd21 rfl (samelets_ok come (n.way.filter fun x => !!decide (x.l.due = n.now + 1)) m2 (p1 := pc) (p2 := some ⟨b11, 0, none⟩) (c1 := cc) (c2 := c11) wc (c8 _ hs13) j2 (d8 _ hs13) (fun x hx => hn13 x (List.mem_filter.1 hx).1) (by omega)) ?_
        (refine run ?_; repeat intro b)
        rfl
end Go.Proofs.Ythkmfihbpbehfaa
