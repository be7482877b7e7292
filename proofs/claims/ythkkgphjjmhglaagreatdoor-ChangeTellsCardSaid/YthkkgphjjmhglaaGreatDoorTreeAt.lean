/-
Package tree: under, at: the walks.
-/
import Derived.Test.YthkkgphjjmhglaaGreatDoorLevels
import Derived.Test.YthkkgphjjmhglaaGreatDoorSetDel
namespace Go.Proofs.YthkkgphjjmhglaaGreatDoor
set_option linter.unusedVariables false
set_option linter.unusedSimpArgs false
open Go.TR
/-- The entries under a prefix. -/
def undN (l : List Entry) (s : List UInt8) : List Entry := l.filter fun x => s.isPrefixOf (wayN x.name)
theorem undN_sub {l : List Entry} {s : List UInt8} {x : Entry} (h : x ∈ undN l s) : x ∈ l := by
  unfold undN at h
  exact (List.mem_filter.1 h).1
theorem undN_nil (s : List UInt8) : undN [] s = [] := rfl
theorem und_filter (l : List Entry) (s : List UInt8) : (l.filter fun x => !!s.isPrefixOf (wayN x.name)) = undN l s := by
  unfold undN
  simp
theorem undN_len (l : List Entry) (s : List UInt8) : (undN l s).length ≤ l.length := List.length_filter_le _ _
/-- The mark at a prefix, of the entries under it, n steps above the leaves. -/
def atN : Nat → List Entry → List UInt8 → Nat
  | 0, l, _ => markN (leafN l)
  | n + 1, l, s => if l = [] then markN (leafN l) else markN (nodeN (atN n (undN l (s ++ [48])) (s ++ [48])) (atN n (undN l (s ++ [49])) (s ++ [49])))
theorem atN_lt (n : Nat) (l : List Entry) (s : List UInt8) : atN n l s < 18446744073709551616 := by
  have h : atN n l s < MM := by
    cases n with
    | zero => exact markN_lt _
    | succ n =>
      unfold atN
      split <;> exact markN_lt _
  have : MM = 2305843009213693951 := rfl
  omega
theorem atN_end {n : Nat} {l : List Entry} {s : List UInt8} (h16 : s.length + n = 16) (h : l.length = 0 ∨ s.length = 16) : atN n l s = markN (leafN l) := by
  cases n with
  | zero => rfl
  | succ n =>
    unfold atN
    rw [if_pos]
    rcases h with h | h
    · exact List.eq_nil_of_length_eq_zero h
    · omega
theorem atN_more {n : Nat} {l : List Entry} {s : List UInt8} (h : l ≠ []) : atN (n + 1) l s = markN (nodeN (atN n (undN l (s ++ [48])) (s ++ [48])) (atN n (undN l (s ++ [49])) (s ++ [49]))) := if_neg h
theorem node_alt (a b : Nat) : (if a = noneM ∧ b = noneM then noneM else markN (two 2 a b)) = markN (nodeN a b) := by
  unfold nodeN
  split <;> rfl
theorem leaf_nil : markN (leafN []) = noneM := rfl
theorem prefix_alt (s t : List UInt8) : (decide (t.length ≤ s.length) && decide (s.take t.length = t)) = t.isPrefixOf s := by
  rw [Bool.eq_iff_iff, Bool.and_eq_true, decide_eq_true_eq, decide_eq_true_eq, List.isPrefixOf_iff_prefix, List.prefix_iff_eq_take]
  constructor
  · rintro ⟨_, h⟩
    exact h.symm
  · intro h
    refine ⟨?_, h.symm⟩
    have := congrArg List.length h
    rw [List.length_take] at this
    omega
/-- Under the prefix of a level: as the levels say. -/
theorem atN_lvl {L : List Entry} (hg : ∀ x ∈ L, goodName x.name = true) : ∀ (n : Nat) (s : List UInt8), s.length + n = 16 → atN n (undN L s) s = lvl L n s
  | 0, s, h => by
    have hu : undN L s = grp L s := by
      unfold undN grp
      apply List.filter_congr
      intro x hx
      have e : wayN x.name = pathN x.name := by unfold wayN; rw [if_pos (hg x hx)]
      rw [e, Bool.eq_iff_iff, List.isPrefixOf_iff_prefix, decide_eq_true_eq]
      constructor
      · intro hp
        exact (hp.eq_of_length_le (by rw [pathN_len]; omega)).symm
      · rintro rfl
        exact List.prefix_refl _
    show markN (leafN (undN L s)) = markN (leafN (grp L s))
    rw [hu]
  | n + 1, s, h => by
    have hund : ∀ c, undN (undN L s) (s ++ [c]) = undN L (s ++ [c]) := fun c => by
      unfold undN
      rw [List.filter_filter]
      apply List.filter_congr
      intro x _
      rw [Bool.eq_iff_iff, Bool.and_eq_true, List.isPrefixOf_iff_prefix, List.isPrefixOf_iff_prefix]
      exact ⟨fun h => h.1, fun h => ⟨h, (List.prefix_append s [c]).trans h⟩⟩
    unfold atN
    by_cases hn : undN L s = []
    · rw [if_pos hn, hn, leaf_nil]
      refine (lvl_none L _ _ ?_).symm
      unfold begun
      rw [List.any_eq_false]
      intro x hx hp
      have e : wayN x.name = pathN x.name := by unfold wayN; rw [if_pos (hg x hx)]
      unfold undN at hn
      rw [List.filter_eq_nil_iff] at hn
      exact hn x hx (by rw [e]; exact hp)
    · rw [if_neg hn, hund, hund, atN_lvl hg n _ (by rw [List.length_append]; simp; omega), atN_lvl hg n _ (by rw [List.length_append]; simp; omega)]
      rfl
attribute [local irreducible] vc vcOps seqK blockK loopK retK retG retI loopV Plain CallOK CallIn bodied VS vcAny dropG backK brK loopPK IntKind.wrap
set_option maxRecDepth 100000
set_option maxHeartbeats 2000000
theorem hasprefix0_ok (s t : List UInt8) (F : Hp) : Plain Tryz.prog F 163 [S s, S t] (.bool (t.isPrefixOf s)) := by
  refine plain_vc (N := 18) (rv := [.tmp 4]) tbok mixed Tryz.func163 rfl rfl rfl rfl rfl ?_
  (refine run ?_; repeat intro b)
  refine s_gpureO rfl rfl rfl rfl rfl (fun hg => ⟨by omega, of_decide_eq_true hg.1⟩) ?_
  (refine run ?_; repeat intro b)
  have e1 : decide ((((bl (mkB t)).length : Nat) : Int) ≤ (((bl (mkB s)).length : Nat) : Int)) = decide (t.length ≤ s.length) := by rw [decide_eq_decide, bl_S, bl_S]; omega
  simp only [tupV, bpick_and, e1]
  rw [← prefix_alt]
  rfl
theorem hasprefix_ok (s t : List UInt8) (F : Hp) : Plain Tryz.prog F 124 [S s, S t] (.bool (t.isPrefixOf s)) := by
  refine plain_vc (N := 8) (rv := [.tmp 4]) tbok mixed Tryz.func124 rfl rfl rfl rfl rfl ?_
  (refine run ?_; repeat intro b)
  refine s_plain _ rfl rfl rfl bd163 rfl (hasprefix0_ok s t F) ?_
  (refine run ?_; repeat intro b)
  rfl
attribute [local irreducible] wayN undN atN markN leafN nodeN goodName noneM two
theorem under1_ok (x : Entry) (s : List UInt8) (hx : x.wf) {p : Option Addr} {F : Hp} (hp : Pcell F p = some (S s)) : Plain Tryz.prog F 175 [.agg x.row.toArray, .pointer p] (.bool (!s.isPrefixOf (wayN x.name))) := by
  refine plain_vc (N := 10) (rv := [.tmp 3]) tbok mixed Tryz.func175 rfl rfl rfl rfl rfl ?_
  (refine run ?_; repeat intro b)
  refine s_regiond (by kernel_rfl) ?_
  (refine run ?_; repeat intro b)
  refine s_plain _ rfl rfl rfl bd176 rfl (treeway_ok x.name hx.1 F) ?_
  refine s_load (S s) rfl rfl rfl rfl hp ?_
  (refine run ?_; repeat intro b)
  refine s_plain _ rfl rfl rfl bd124 rfl (hasprefix_ok (wayN x.name) s F) ?_
  (refine run ?_; repeat intro b)
  rfl
/-- slices.Clone: a row of the caller's own. -/
theorem clone_ent (cs : List Value) (n : Nat) {p : Option Addr} {c : Nat} {F : Hp} (hl : cs.length = n * 2) (hf : Frow F p cs) (h1 : ∀ x ∈ cs, Go.TR.one (.v x) = true) (hb : n * 32 ≤ 140737488355328) : CallOK Tryz.prog F 31 [.slice p n c] (fun x _ new => RowBack 70 2 cs n x new) := by
  refine call_vc (N := 8) (rv := [.tmp 2]) tbok mixed Tryz.func31 rfl rfl rfl rfl rfl ?_
  (refine run ?_; repeat intro b)
  refine s_snil (b := p.isNone) tbok rfl rfl rfl ?_
  cases p with
  | none =>
    have hn : n = 0 := by
      rcases Nat.eq_zero_or_pos n with h | h
      · exact h
      · have := frow_some hf (j := 0) (by rw [hl]; omega)
        cases this
    subst hn
    (refine run ?_; repeat intro b)
    refine s_retG (VS.id ⟨_, rfl, .inl ⟨rfl, rfl, none, rfl⟩⟩)
  | some a =>
    (refine run ?_; repeat intro b)
    refine s_appR rfl rfl rfl rfl rfl rfl rfl rfl (src_frz hl hf) (one_v _ h1) (fun h => by cases h) (Nat.le_refl 0) rfl (Nat.zero_le _) (by show (0 + n) * 32 ≤ _; omega) (fun hn => ?_) (fun hn b2 c2 hc2 => ?_)
    · subst hn
      (refine run ?_; repeat intro b)
      refine s_retG ?_
      refine VS.freeze 0 [2] rfl (cs := []) rfl rfl rfl fun F' hs1 hf1 => VS.id ⟨_, rfl, .inl ⟨rfl, rfl, _, rfl⟩⟩
    · (refine run ?_; repeat intro b)
      simp only [Nat.zero_add] at hc2 ⊢
      refine s_retGf (VSf.ren (nx' := 1) [(1, 0)] [2] [(0, ⟨some b2, cs.map EV.v, 70, c2 * 2⟩)] ⟨rfl, ⟨_, rfl, rfl, rfl, rfl, .inl ⟨rfl, fun e he => all_v _ e he⟩⟩, trivial⟩ rfl rfl rfl rfl rfl rfl ⟨_, rfl, .inr ⟨hn, b2, c2, hc2, rfl, rfl⟩⟩)
/-- slices.IndexFunc on a row of the call's own. -/
theorem entA_idxin (q : Entry → Bool) (g : Nat) (lb : Array Value) (hbd : bodied Tryz.prog g) (l : List Entry) {b cap c : Nat} {F : Hp} (hl : l.length ≤ 4611686018427387904) (hp : ∀ x ∈ l, Plain Tryz.prog F g (.agg (Entry.row x).toArray :: lb.toList) (.bool (q x))) :
    CallIn Tryz.prog F [(1, ⟨some b, (l.flatMap Entry.row).map EV.v, 70, cap⟩)] 2 211 [.row 1 0 l.length c, .v (.func (.func g) #[] lb)] (fun e F' rs' nx' => e = .v (i64 (idxP q l)) ∧ F = F' ∧ rs' = [(1, ⟨some b, (l.flatMap Entry.row).map EV.v, 70, cap⟩)] ∧ nx' = 2) := by
  refine callin_vc (N := 19) (rv := [.tmp 4]) tbok mixed Tryz.func211 rfl rfl rfl rfl rfl ?_
  (refine run ?_; repeat intro b)
  refine s_loopP (fun k : Nat => k ≤ l.length ∧ (l.take k).any q = false) (fun k => ⟨[(0, .row 1 0 l.length c), (1, .v (.func (.func g) #[] lb)), (7, .v (i64 (l.length : Nat))), (8, .v (i64 (k : Nat)))], F, [(1, ⟨some b, (l.flatMap Entry.row).map EV.v, 70, cap⟩)], 2⟩) (fun k => l.length - k) 0 ⟨Nat.zero_le _, rfl⟩ (VS.keepN [0, 1, 7, 8] rfl rfl) ?_
  rintro k ⟨hk, hany⟩
  by_cases hlt : k < l.length
  · (refine run ?_; repeat intro b)
    refine s_if true (by rw [← decide_eq_true (p := ((k : Nat) : Int) < ((l.length : Nat) : Int)) (by omega)]; rfl) (fun _ => ?_) (fun h => by cases h)
    (refine run ?_; repeat intro b)
    refine s_pureO rfl rfl rfl ⟨by omega, by omega, ⟨_, _, rfl, rfl⟩⟩ ?_
    refine s_locXA (Entry.row l[k]) rfl rfl rfl rfl rfl (by rw [Int.toNat_natCast]; show 0 + k * 2 + 2 ≤ _; rw [List.length_map, flat_len entry_row]; omega) (by rw [Int.toNat_natCast]; exact flat_at entry_row hlt) ?_
    (refine run ?_; repeat intro b)
    refine s_plain _ rfl rfl (by rw [forceL_eq]; rfl) hbd rfl (hp l[k] (List.getElem_mem hlt)) ?_
    (refine run ?_; repeat intro b)
    refine s_if _ rfl (fun h2 => ?_) (fun h2 => ?_)
    · (refine run ?_; repeat intro b)
      rw [idxP_found hlt hany h2]
      exact ⟨rfl, rfl, rfl, rfl⟩
    · (refine run ?_; repeat intro b)
      rw [wrap_succ (by omega)]
      refine s_loopPn (k + 1) ⟨hlt, ?_⟩ (by omega) (VS.keepN [0, 1, 7, 8] rfl rfl)
      rw [List.take_succ_eq_append_getElem hlt, List.any_append, hany]
      simp [h2]
  · have hge : k = l.length := by omega
    subst hge
    rw [List.take_length] at hany
    (refine run ?_; repeat intro b)
    refine s_if false (by rw [← decide_eq_false (p := ((l.length : Nat) : Int) < ((l.length : Nat) : Int)) (by omega)]; rfl) (fun h => by cases h) (fun _ => ?_)
    (refine run ?_; repeat intro b)
    rw [idxP_none hany]
    exact ⟨rfl, rfl, rfl, rfl⟩
/-- slices.DeleteFunc on a row of the call's own. -/
theorem entA_del (q : Entry → Bool) (g : Nat) (lb : Array Value) (hbd : bodied Tryz.prog g) (l : List Entry) {b cap c : Nat} {F : Hp} (hc : l.length ≤ c) (hl : l.length ≤ 4611686018427387904) (hp : ∀ x ∈ l, Plain Tryz.prog F g (.agg (Entry.row x).toArray :: lb.toList) (.bool (q x))) :
    CallIn Tryz.prog F [(1, ⟨some b, (l.flatMap Entry.row).map EV.v, 70, cap⟩)] 2 174 [.row 1 0 l.length c, .v (.func (.func g) #[] lb)] (fun e F' rs' nx' => e = .row 1 0 (l.filter fun x => !q x).length c ∧ F = F' ∧ nx' = 2 ∧ ∃ cs, rs' = [(1, ⟨some b, ((l.filter fun x => !q x).flatMap Entry.row ++ cs).map EV.v, 70, cap⟩)]) := by
  refine callin_vc (N := 42) (rv := [.tmp 4]) tbok mixed Tryz.func174 rfl rfl rfl rfl rfl ?_
  (refine run ?_; repeat intro b)
  refine s_in rfl rfl rfl bd211 rfl (entA_idxin q g lb hbd l hl hp) ?_
  rintro _ _ _ _ _ _ ⟨rfl, rfl, rfl, rfl⟩
  cases hany : l.any q with
  | false =>
    have hfl : (l.filter fun x => !q x) = l := by
      rw [List.filter_eq_self]
      intro x hx
      rw [List.any_eq_false] at hany
      simpa using hany x hx
    rw [idxP_none hany, hfl]
    (refine run ?_; repeat intro b)
    exact ⟨rfl, rfl, rfl, [], by rw [List.append_nil]⟩
  | true =>
    have hx : idxP q l = ((l.findIdx q : Nat) : Int) := by unfold idxP; rw [if_pos hany]
    have hi0 : l.findIdx q < l.length := List.findIdx_lt_length_of_exists (by simpa using hany)
    have hi1 : ((l.take (l.findIdx q + 1)).filter fun x => !q x) = l.take (l.findIdx q) := by
      rw [List.take_succ_eq_append_getElem hi0, List.filter_append]
      have h2 : q l[l.findIdx q] = true := List.findIdx_getElem
      have h3 : ((l.take (l.findIdx q)).filter fun x => !q x) = l.take (l.findIdx q) := by
        rw [List.filter_eq_self]
        intro x hx
        obtain ⟨j, hj, rfl⟩ := List.getElem_of_mem hx
        rw [List.length_take] at hj
        rw [List.getElem_take]
        have := List.not_of_lt_findIdx (p := q) (xs := l) (i := j) (by omega)
        simpa using this
      rw [h3]
      simp [h2]
    rw [hx]
    generalize l.findIdx q = i0 at hi0 hi1
    (refine run ?_; repeat intro b)
    rw [wrap_succ (by omega)]
    refine s_loopP (fun s : List Entry × Nat × Nat => s.1.length = l.length ∧ s.2.1 < s.2.2 ∧ s.2.2 ≤ l.length ∧ s.1.take s.2.1 = ((l.take s.2.2).filter fun x => !q x) ∧ s.1.drop s.2.2 = l.drop s.2.2) (fun s => ⟨[(0, .row 1 0 l.length c), (1, .v (.func (.func g) #[] lb)), (5, .v (i64 (s.2.1 : Nat))), (6, .v (i64 (s.2.2 : Nat)))], F, [(1, ⟨some b, (s.1.flatMap Entry.row).map EV.v, 70, cap⟩)], 2⟩) (fun s => l.length - s.2.2) (l, i0, i0 + 1) ⟨rfl, Nat.lt_succ_self _, hi0, hi1.symm, rfl⟩ (VS.keepN [0, 1, 5, 6] rfl rfl) ?_
    rintro ⟨m, i, j⟩ ⟨hm, hij, hj, ht, hdr⟩
    dsimp only at hm hij hj ht hdr ⊢
    by_cases hlt : j < l.length
    · have hltm : j < m.length := by omega
      have hmj : m[j] = l[j] := by
        have h1 := List.drop_eq_getElem_cons hltm
        have h2 := List.drop_eq_getElem_cons hlt
        rw [hdr, h2] at h1
        exact (List.cons.inj h1).1.symm
      have hdr2 : m.drop (j + 1) = l.drop (j + 1) := by
        have h1 := List.drop_eq_getElem_cons hltm
        have h2 := List.drop_eq_getElem_cons hlt
        rw [hdr, h2] at h1
        exact (List.cons.inj h1).2.symm
      have hpx := hp l[j] (List.getElem_mem hlt)
      have htk := List.take_succ_eq_append_getElem hlt
      have hat : (((m.flatMap Entry.row).map EV.v).take (0 + j * 2 + 2)).drop (0 + j * 2) = (Entry.row l[j]).map EV.v := by rw [← hmj]; exact flat_at entry_row hltm
      generalize l[j] = x at hpx htk hat
      have hrl : ∀ (m' : List Entry), rlLt 2 [(1, (⟨some b, (m'.flatMap Entry.row).map EV.v, 70, cap⟩ : Blk))] := fun m' => ⟨⟨by decide, fun e he => by obtain ⟨v, _, rfl⟩ := List.mem_map.1 he; trivial⟩, trivial⟩
      (refine run ?_; repeat intro b)
      refine s_if true (by rw [← decide_eq_true (p := ((j : Nat) : Int) < ((l.length : Nat) : Int)) (by omega)]; rfl) (fun _ => ?_) (fun h => by cases h)
      (refine run ?_; repeat intro b)
      refine s_pureO rfl rfl rfl ⟨by omega, by omega, ⟨_, _, rfl, rfl⟩⟩ ?_
      refine s_locXA (Entry.row x) rfl rfl rfl rfl rfl (by rw [Int.toNat_natCast]; show 0 + j * 2 + 2 ≤ _; rw [List.length_map, flat_len entry_row]; omega) (by rw [Int.toNat_natCast]; exact hat) ?_
      (refine run ?_; repeat intro b)
      refine s_plain _ rfl rfl (by rw [forceL_eq]; rfl) hbd rfl hpx ?_
      (refine run ?_; repeat intro b)
      refine s_if (!q x) rfl (fun h2 => ?_) (fun h2 => ?_)
      · have hti : (m.set i x).take (i + 1) = m.take i ++ [x] := by
          rw [List.take_succ_eq_append_getElem (by rw [List.length_set]; omega), List.getElem_set_self, List.take_set_of_le (Nat.le_refl _)]
        (refine run ?_; repeat intro b)
        refine s_pureO rfl rfl rfl ⟨by omega, by omega, ⟨_, _, rfl, rfl⟩⟩ ?_
        refine s_storeX (((m.set i x).flatMap Entry.row).map EV.v) rfl rfl rfl rfl rfl rfl (by rw [Int.toNat_natCast]; show 0 + i * 2 + 2 ≤ _; rw [List.length_map, flat_len entry_row]; omega) (by rw [Int.toNat_natCast]; exact flat_set entry_row (by omega)) rfl ?_
        (refine run ?_; repeat intro b)
        rw [wrap_succ (by omega), wrap_succ (by omega)]
        exact s_loopPc (m.set i x, i + 1, j + 1) [2] [0, 1, 5, 6] ⟨by simp only [List.length_set]; exact hm, by simp only; omega, hlt, by simp only; rw [hti, ht, htk, List.filter_append]; simp [h2], by simp only; rw [List.drop_set_of_lt (by omega), hdr2]⟩ (by simp only; omega) rfl rfl rfl rfl (hrl _) rfl
      · (refine run ?_; repeat intro b)
        rw [wrap_succ (by omega)]
        exact s_loopPc (m, i, j + 1) [2] [0, 1, 5, 6] ⟨hm, by simp only; omega, hlt, by simp only; rw [ht, htk, List.filter_append]; simp [h2], hdr2⟩ (by simp only; omega) rfl rfl rfl rfl (hrl _) rfl
    · have hge : j = l.length := by omega
      subst hge
      rw [List.take_length] at ht
      have hil : (l.filter fun x => !q x).length = i := by rw [← ht, List.length_take]; omega
      have hso : slOff 0 i c 2 = i * 2 := by unfold slOff; rw [if_neg (by omega), Nat.zero_add]
      have hml := flat_len entry_row m
      have hcl : ∀ vs : List Value, ((m.flatMap Entry.row).map EV.v).take (slOff 0 i c 2) ++ vs.map EV.v ++ ((m.flatMap Entry.row).map EV.v).drop (slOff 0 i c 2 + (l.length - i) * 2) = ((l.filter fun x => !q x).flatMap Entry.row ++ vs).map EV.v := fun vs => by
        rw [hso, List.drop_eq_nil_of_le (by rw [List.length_map, hml, hm, ← Nat.add_mul]; exact Nat.mul_le_mul_right _ (by omega)), List.append_nil, List.map_append, ← ht, flat_take entry_row, List.map_take]
      rw [hil]
      (refine run ?_; repeat intro b)
      refine s_if false (by rw [← decide_eq_false (p := ((l.length : Nat) : Int) < ((l.length : Nat) : Int)) (by omega)]; rfl) (fun h => by cases h) (fun _ => ?_)
      (refine run ?_; repeat intro b)
      refine s_pureO rfl rfl rfl ⟨by omega, by omega, by omega⟩ ?_
      refine s_clear tbok rfl rfl rfl rfl rfl (fun vs => [(1, (⟨some b, ((l.filter fun x => !q x).flatMap Entry.row ++ vs).map EV.v, 70, cap⟩ : Blk))]) (fun vs => congrArg (fun cs => some [(1, (⟨some b, cs, 70, cap⟩ : Blk))]) (hcl vs)) (by rw [Int.toNat_natCast]; show slOff 0 i c 2 + (l.length - i) * 2 ≤ _; rw [hso, List.length_map, hml, hm, ← Nat.add_mul]; exact Nat.mul_le_mul_right _ (by omega)) (fun vs hvs => ?_)
      (refine run ?_; repeat intro b)
      refine s_pureO rfl rfl rfl ⟨by omega, by omega⟩ ?_
      rw [Int.toNat_natCast]
      (refine run ?_; repeat intro b)
      exact ⟨rfl, rfl, rfl, vs, rfl⟩
theorem entdel_nil (g : Nat) (lb : Array Value) {p : Option Addr} {c : Nat} {F : Hp} (hb : bodied Tryz.prog g) : Plain Tryz.prog F 174 [.slice p 0 c, .func (.func g) #[] lb] (.slice p 0 c) := by
  have h0 := ents_idx (fun _ => false) g lb hb [] (p := p) (c := c) (F := F) (frow_nil _ _) (by decide) (by simp)
  refine plain_vc (N := 42) (rv := [.tmp 4]) tbok mixed Tryz.func174 rfl rfl rfl rfl rfl ?_
  (refine run ?_; repeat intro b)
  refine s_plain _ rfl rfl (by rw [forceL_eq]; rfl) bd211 rfl h0 ?_
  (refine run ?_; repeat intro b)
  rfl
theorem under_ok (l : List Entry) (s : List UInt8) (hl : l.length ≤ 24) (hw : ∀ x ∈ l, x.wf) {p : Option Addr} {c : Nat} {F : Hp} (hf : Frow F p (l.flatMap Entry.row)) :
    CallF Tryz.prog F 127 [.slice p l.length c, S s] (fun x F' => ∃ p' c', x = .slice p' (undN l s).length c' ∧ Frow F' p' ((undN l s).flatMap Entry.row)) := by
  refine call_vc (N := 9) (rv := [.tmp 4]) tbok mixed Tryz.func127 rfl rfl rfl rfl rfl ?_
  (refine run ?_; repeat intro b)
  refine s_shift (VS.freeze 0 [3, 5] rfl rfl rfl rfl fun F1 hs1 hf1 => VS.id ?_)
  have hp1 : Pcell F1 (some ⟨b, 0, none⟩) = some (S s) := hf1 0 _ rfl
  have hg := frow_sub hs1 hf
  refine s_callR (R := fun _ cs => cs = l.flatMap Entry.row) (fun x F' new h => ⟨_, h, rfl⟩) rfl rfl rfl bd31 rfl (clone_ent (l.flatMap Entry.row) l.length (flat_len entry_row _) hg (entry_one l) (by omega)) (fun hk0 F9 p1 cs hF9 _ => ?_) (fun hk1 F9 b9 c9 cs hF9 hc9 hcs => ?_)
  · have hl0 : l = [] := List.eq_nil_of_length_eq_zero hk0
    subst hl0
    (refine run ?_; repeat intro b)
    refine s_plain _ rfl rfl rfl bd174 rfl (entdel_nil _ #[_] bd175) ?_
    (refine run ?_; repeat intro b)
    have e0 : undN [] s = [] := undN_nil s
    rw [e0]
    exact s_retG (VS.id ⟨_, rfl, rfl, p1, 0, rfl, frow_nil _ _⟩)
  · subst hcs
    (refine run ?_; repeat intro b)
    refine s_in rfl rfl rfl bd174 rfl (entA_del (fun x => !s.isPrefixOf (wayN x.name)) _ #[_] bd175 l hc9 (by omega) (fun x hx => under1_ok x s (hw x hx) (pcell_sub hF9 hp1))) ?_
    rintro _ _ _ _ _ _ ⟨rfl, rfl, rfl, cs2, rfl⟩
    rw [und_filter]
    (refine run ?_; repeat intro b)
    refine s_retG (VS.freeze 1 [4] rfl (allV_map_v _) rfl rfl fun F10 hs10 hf10 => VS.id ⟨_, rfl, rfl, _, _, rfl, ?_⟩)
    have := frow_take hf10 ((undN l s).flatMap Entry.row).length
    rwa [List.take_left] at this
theorem treeat_step (n : Nat) (ih : ∀ m, n = m + 1 → ∀ (l : List Entry) (s : List UInt8), s.length + m = 16 → l.length ≤ 24 → (∀ x ∈ l, x.wf) → ∀ {p : Option Addr} {c : Nat} {F : Hp}, Frow F p (l.flatMap Entry.row) → Plain Tryz.prog F 126 [.slice p l.length c, S s] (mu (atN m l s)))
    (l : List Entry) (s : List UInt8) (h16 : s.length + n = 16) (hl : l.length ≤ 24) (hw : ∀ x ∈ l, x.wf) {p : Option Addr} {c : Nat} {F : Hp} (hf : Frow F p (l.flatMap Entry.row)) : Plain Tryz.prog F 126 [.slice p l.length c, S s] (mu (atN n l s)) := by
  refine plain_vc (N := 50) (rv := [.tmp 4]) tbok mixed Tryz.func126 rfl rfl rfl rfl rfl ?_
  (refine run ?_; repeat intro b)
  refine s_if (decide (l.length = 0 ∨ s.length = 16)) ?_ (fun h => ?_) (fun h => ?_)
  · refine congrArg (fun b => some (EV.v (.bool b))) ?_
    rw [bpick_or, bl_S, Bool.eq_iff_iff]
    simp only [Bool.or_eq_true, beq_iff_eq, decide_eq_true_eq]
    omega
  · rw [atN_end h16 (of_decide_eq_true h)]
    (refine run ?_; repeat intro b)
    refine s_plain _ rfl rfl rfl bd172 rfl (treesaid_ok l hl hw hf) ?_
    refine s_plain _ rfl rfl rfl bd171 rfl (markof_ok (leafN l) (leafN_big hl) F) ?_
    (refine run ?_; repeat intro b)
    rfl
  · have h := of_decide_eq_false h
    obtain ⟨m, rfl⟩ : ∃ m, n = m + 1 := ⟨n - 1, by omega⟩
    rw [atN_more (by intro e; subst e; exact h (.inl rfl))]
    have hz : (s ++ [48]).length + m = 16 := by rw [List.length_append]; simp; omega
    have ho : (s ++ [49]).length + m = 16 := by rw [List.length_append]; simp; omega
    have lz := undN_len l (s ++ [48])
    have lo := undN_len l (s ++ [49])
    (refine run ?_; repeat intro b)
    refine s_pureO rfl rfl rfl (by show s.length + 1 ≤ 9223372036854775807; omega) ?_
    (refine run ?_; repeat intro b)
    refine s_pureO rfl rfl rfl (by show s.length + 1 ≤ 9223372036854775807; omega) ?_
    (refine run ?_; repeat intro b)
    refine s_callF rfl rfl rfl bd127 rfl (under_ok l (s ++ [48]) hl hw hf) ?_
    rintro _ F1 hF1 ⟨p1, c1, rfl, hf1⟩
    (refine run ?_; repeat intro b)
    refine s_plain _ rfl rfl rfl bd126 rfl (ih m rfl (undN l (s ++ [48])) (s ++ [48]) hz (by omega) (fun x hx => hw x (undN_sub hx)) hf1) ?_
    (refine run ?_; repeat intro b)
    refine s_callF rfl rfl rfl bd127 rfl (under_ok l (s ++ [49]) hl hw (frow_sub hF1 hf)) ?_
    rintro _ F2 hF2 ⟨p2, c2, rfl, hf2⟩
    (refine run ?_; repeat intro b)
    refine s_plain _ rfl rfl rfl bd126 rfl (ih m rfl (undN l (s ++ [49])) (s ++ [49]) ho (by omega) (fun x hx => hw x (undN_sub hx)) hf2) ?_
    have ha := atN_lt m (undN l (s ++ [48])) (s ++ [48])
    have hb := atN_lt m (undN l (s ++ [49])) (s ++ [49])
    generalize atN m (undN l (s ++ [48])) (s ++ [48]) = a at ha
    generalize atN m (undN l (s ++ [49])) (s ++ [49]) = b2 at hb
    (refine run ?_; repeat intro b)
    refine s_plain _ rfl rfl rfl bd172 rfl (treesaid_ok [] (by decide) (fun _ h => by cases h) (frow_nil F2 none)) ?_
    refine s_plain _ rfl rfl rfl bd171 rfl (markof_ok (leafN []) (leafN_big (by decide)) F2) ?_
    rw [leaf_nil, ← node_alt]
    (refine run ?_; repeat intro b)
    refine s_if (decide (a = noneM ∧ b2 = noneM)) ?_ (fun h => ?_) (fun h => ?_)
    · refine congrArg (fun b => some (EV.v (.bool b))) ?_
      rw [bpick_and, Bool.eq_iff_iff]
      simp
      omega
    · rw [if_pos (of_decide_eq_true h)]
      (refine run ?_; repeat intro b)
      rfl
    · rw [if_neg (of_decide_eq_false h)]
      (refine run ?_; repeat intro b)
      refine s_plain _ rfl rfl rfl bd173 rfl (marktwo_ok 2 a b2 (by decide) ha hb F2) ?_
      (refine run ?_; repeat intro b)
      rfl
theorem treeat_ok (n : Nat) : ∀ (l : List Entry) (s : List UInt8), s.length + n = 16 → l.length ≤ 24 → (∀ x ∈ l, x.wf) → ∀ {p : Option Addr} {c : Nat} {F : Hp}, Frow F p (l.flatMap Entry.row) → Plain Tryz.prog F 126 [.slice p l.length c, S s] (mu (atN n l s)) := by
  induction n with
  | zero => exact treeat_step 0 (fun m h => by omega)
  | succ n ih => exact treeat_step (n + 1) (fun m h => by obtain rfl : n = m := by omega
                                                          exact ih)
end Go.Proofs.YthkkgphjjmhglaaGreatDoor
