/-
Package net: own, owned, Check: the walks.
-/
import Derived.Test.YthkmfihbpbehfaaLetMath
import Derived.Test.YthkmfihbpbehfaaFwN
import Derived.Test.YthkmfihbpbehfaaIdx
namespace Go.Proofs.Ythkmfihbpbehfaa
set_option linter.unusedVariables false
set_option linter.unusedSimpArgs false
open Go.TR
theorem lp_snoc (l : List LP) (x : LP) : ((l ++ [x]).flatMap LP.row).map EV.v = (l.flatMap LP.row).map EV.v ++ x.row.map EV.v := by simp
theorem lp_cells (l : List LP) (x : LP) (k : Nat) (h : l.length = k) : ((l.flatMap LP.row).map EV.v).take (k * 12) ++ x.row.map EV.v = ((l ++ [x]).flatMap LP.row).map EV.v := by
  rw [lp_snoc, List.take_of_length_le (by rw [List.length_map, flat_len lp_row, h]; exact Nat.le_refl _)]
attribute [local irreducible] vc vcOps seqK blockK loopK retK retG retI loopV Plain CallOK CallIn bodied VS vcAny dropG backK brK loopPK IntKind.wrap
set_option maxRecDepth 100000
/-- slices.Clone: a row of the caller's own. -/
theorem clone_u64 (cs : List Value) (n : Nat) {p : Option Addr} {c : Nat} {F : Hp} (hl : cs.length = n * 1) (hf : Frow F p cs) (h1 : ∀ x ∈ cs, one (.v x) = true) (hb : n * 8 ≤ 140737488355328) : CallOK Try.prog F 132 [.slice p n c] (fun x _ new => RowBack 26 1 cs n x new) := by
  refine call_vc (N := 8) (rv := [.tmp 2]) tbok mixed Try.func132 rfl rfl rfl rfl rfl ?_
  (refine run ?_; repeat intro b)
  refine s_snil (b := p.isNone) tbok rfl rfl rfl ?_
  cases p with
  | none =>
    have hn : n = 0 := by
      rcases Nat.eq_zero_or_pos n with h | h
      · exact h
      · have := frow_some hf (j := 0) (by rw [hl]; omega)
        cases this
    subst hn
    (refine run ?_; repeat intro b)
    refine s_retG (VS.id ⟨_, rfl, .inl ⟨rfl, rfl, none, rfl⟩⟩)
  | some a =>
    (refine run ?_; repeat intro b)
    refine s_appR rfl rfl rfl rfl rfl rfl rfl rfl (src_frz hl hf) (one_v _ h1) (fun h => by cases h) (Nat.le_refl 0) rfl (Nat.zero_le _) (by show (0 + n) * 8 ≤ _; omega) (fun hn => ?_) (fun hn b2 c2 hc2 => ?_)
    · subst hn
      (refine run ?_; repeat intro b)
      refine s_retG ?_
      refine VS.freeze 0 [2] rfl (cs := []) rfl rfl rfl fun F' hs1 hf1 => VS.id ⟨_, rfl, .inl ⟨rfl, rfl, _, rfl⟩⟩
    · (refine run ?_; repeat intro b)
      simp only [Nat.zero_add] at hc2 ⊢
      refine s_retGf (VSf.ren (nx' := 1) [(1, 0)] [2] [(0, ⟨some b2, cs.map EV.v, 26, c2 * 1⟩)] ⟨rfl, ⟨_, rfl, rfl, rfl, rfl, .inl ⟨rfl, fun e he => all_v _ e he⟩⟩, trivial⟩ rfl rfl rfl rfl rfl rfl ⟨_, rfl, .inr ⟨hn, b2, c2, hc2, rfl, rfl⟩⟩)
/-- slices.Clone: a row of the caller's own. -/
theorem clone_hd (cs : List Value) (n : Nat) {p : Option Addr} {c : Nat} {F : Hp} (hl : cs.length = n * 4) (hf : Frow F p cs) (h1 : ∀ x ∈ cs, one (.v x) = true) (hb : n * 32 ≤ 140737488355328) : CallOK Try.prog F 35 [.slice p n c] (fun x _ new => RowBack 28 4 cs n x new) := by
  refine call_vc (N := 8) (rv := [.tmp 2]) tbok mixed Try.func35 rfl rfl rfl rfl rfl ?_
  (refine run ?_; repeat intro b)
  refine s_snil (b := p.isNone) tbok rfl rfl rfl ?_
  cases p with
  | none =>
    have hn : n = 0 := by
      rcases Nat.eq_zero_or_pos n with h | h
      · exact h
      · have := frow_some hf (j := 0) (by rw [hl]; omega)
        cases this
    subst hn
    (refine run ?_; repeat intro b)
    refine s_retG (VS.id ⟨_, rfl, .inl ⟨rfl, rfl, none, rfl⟩⟩)
  | some a =>
    (refine run ?_; repeat intro b)
    refine s_appR rfl rfl rfl rfl rfl rfl rfl rfl (src_frz hl hf) (one_v _ h1) (fun h => by cases h) (Nat.le_refl 0) rfl (Nat.zero_le _) (by show (0 + n) * 32 ≤ _; omega) (fun hn => ?_) (fun hn b2 c2 hc2 => ?_)
    · subst hn
      (refine run ?_; repeat intro b)
      refine s_retG ?_
      refine VS.freeze 0 [2] rfl (cs := []) rfl rfl rfl fun F' hs1 hf1 => VS.id ⟨_, rfl, .inl ⟨rfl, rfl, _, rfl⟩⟩
    · (refine run ?_; repeat intro b)
      simp only [Nat.zero_add] at hc2 ⊢
      refine s_retGf (VSf.ren (nx' := 1) [(1, 0)] [2] [(0, ⟨some b2, cs.map EV.v, 28, c2 * 4⟩)] ⟨rfl, ⟨_, rfl, rfl, rfl, rfl, .inl ⟨rfl, fun e he => all_v _ e he⟩⟩, trivial⟩ rfl rfl rfl rfl rfl rfl ⟨_, rfl, .inr ⟨hn, b2, c2, hc2, rfl, rfl⟩⟩)
/-- slices.Clone: a row of the caller's own. -/
theorem clone_en (cs : List Value) (n : Nat) {p : Option Addr} {c : Nat} {F : Hp} (hl : cs.length = n * 2) (hf : Frow F p cs) (h1 : ∀ x ∈ cs, one (.v x) = true) (hb : n * 32 ≤ 140737488355328) : CallOK Try.prog F 112 [.slice p n c] (fun x _ new => RowBack 107 2 cs n x new) := by
  refine call_vc (N := 8) (rv := [.tmp 2]) tbok mixed Try.func112 rfl rfl rfl rfl rfl ?_
  (refine run ?_; repeat intro b)
  refine s_snil (b := p.isNone) tbok rfl rfl rfl ?_
  cases p with
  | none =>
    have hn : n = 0 := by
      rcases Nat.eq_zero_or_pos n with h | h
      · exact h
      · have := frow_some hf (j := 0) (by rw [hl]; omega)
        cases this
    subst hn
    (refine run ?_; repeat intro b)
    refine s_retG (VS.id ⟨_, rfl, .inl ⟨rfl, rfl, none, rfl⟩⟩)
  | some a =>
    (refine run ?_; repeat intro b)
    refine s_appR rfl rfl rfl rfl rfl rfl rfl rfl (src_frz hl hf) (one_v _ h1) (fun h => by cases h) (Nat.le_refl 0) rfl (Nat.zero_le _) (by show (0 + n) * 32 ≤ _; omega) (fun hn => ?_) (fun hn b2 c2 hc2 => ?_)
    · subst hn
      (refine run ?_; repeat intro b)
      refine s_retG ?_
      refine VS.freeze 0 [2] rfl (cs := []) rfl rfl rfl fun F' hs1 hf1 => VS.id ⟨_, rfl, .inl ⟨rfl, rfl, _, rfl⟩⟩
    · (refine run ?_; repeat intro b)
      simp only [Nat.zero_add] at hc2 ⊢
      refine s_retGf (VSf.ren (nx' := 1) [(1, 0)] [2] [(0, ⟨some b2, cs.map EV.v, 107, c2 * 2⟩)] ⟨rfl, ⟨_, rfl, rfl, rfl, rfl, .inl ⟨rfl, fun e he => all_v _ e he⟩⟩, trivial⟩ rfl rfl rfl rfl rfl rfl ⟨_, rfl, .inr ⟨hn, b2, c2, hc2, rfl, rfl⟩⟩)
/-- slices.IndexFunc, ContainsFunc: elements of some cells. -/
theorem lets_idx (q : LP → Bool) (g : Nat) (lb : Array Value) (hb : bodied Try.prog g) (l : List LP) {p : Option Addr} {c : Nat} {F : Hp} (hf : Frow F p (l.flatMap LP.row)) (hl : l.length ≤ 4611686018427387904) (hp : ∀ x ∈ l, Plain Try.prog F g (.agg (LP.row x).toArray :: lb.toList) (.bool (q x))) :
    Plain Try.prog F 82 [.slice p l.length c, .func (.func g) #[] lb] (i64 (idxP q l)) := by
  refine plain_vc (N := 19) (rv := [.tmp 4]) tbok mixed Try.func82 rfl rfl rfl rfl rfl ?_
  (refine run ?_; repeat intro b)
  refine s_loopP (fun k : Nat => k ≤ l.length ∧ (l.take k).any q = false) (fun k => ⟨[(0, .v (.slice p l.length c)), (1, .v (.func (.func g) #[] lb)), (7, .v (i64 (l.length : Nat))), (8, .v (i64 (k : Nat)))], F, [], 0⟩) (fun k => l.length - k) 0 ⟨Nat.zero_le _, rfl⟩ (VS.keepN [0, 1, 7, 8] rfl rfl) ?_
  rintro k ⟨hk, hany⟩
  (refine run ?_; repeat intro b)
  refine s_if _ rfl (fun h => ?_) (fun h => ?_)
  · have hlt : k < l.length := by simpa using h
    obtain ⟨o1, o2⟩ := frow_agg lp_row (by decide) hf k hlt
    (refine run ?_; repeat intro b)
    refine s_pureO rfl rfl rfl ⟨by omega, by omega, frow_some hf (j := k * 12) (by rw [flat_len lp_row]; omega)⟩ ?_
    refine s_loadA (LP.row l[k]) rfl rfl rfl rfl rfl (by rw [Int.toNat_natCast]; exact o1) (by rw [Int.toNat_natCast]; exact o2) ?_
    (refine run ?_; repeat intro b)
    refine s_plain _ rfl rfl (by rw [forceL_eq]; rfl) hb rfl (hp l[k] (List.getElem_mem hlt)) ?_
    (refine run ?_; repeat intro b)
    refine s_if _ rfl (fun h2 => ?_) (fun h2 => ?_)
    · (refine run ?_; repeat intro b)
      rw [idxP_found hlt hany h2]
      rfl
    · (refine run ?_; repeat intro b)
      rw [wrap_succ (by omega)]
      refine s_loopPn (k + 1) ⟨hlt, ?_⟩ (by omega) (VS.keepN [0, 1, 7, 8] rfl rfl)
      rw [List.take_succ_eq_append_getElem hlt, List.any_append, hany]
      simp [h2]
  · have hge : k = l.length := by
      have : ¬ k < l.length := by simpa using h
      omega
    subst hge
    rw [List.take_length] at hany
    (refine run ?_; repeat intro b)
    rw [idxP_none hany]
    rfl
theorem lets_has (q : LP → Bool) (g : Nat) (lb : Array Value) (hb : bodied Try.prog g) (l : List LP) {p : Option Addr} {c : Nat} {F : Hp} (hf : Frow F p (l.flatMap LP.row)) (hl : l.length ≤ 4611686018427387904) (hp : ∀ x ∈ l, Plain Try.prog F g (.agg (LP.row x).toArray :: lb.toList) (.bool (q x))) :
    Plain Try.prog F 80 [.slice p l.length c, .func (.func g) #[] lb] (.bool (l.any q)) := by
  refine plain_vc (N := 9) (rv := [.tmp 4]) tbok mixed Try.func80 rfl rfl rfl rfl rfl ?_
  (refine run ?_; repeat intro b)
  refine s_plain _ rfl rfl rfl bd82 rfl (lets_idx q g lb hb l hf hl hp) ?_
  (refine run ?_; repeat intro b)
  rw [idxP_neg]
  rfl
set_option maxHeartbeats 4000000
theorem own_ok (x : LP) {F : Hp} (hw : x.l.wf) (hx : x.at F) : CallF Try.prog F 79 [.agg x.row.toArray] (fun v F' => ∃ y : LP, v = .agg y.row.toArray ∧ y.l = x.l ∧ y.at F') := by
  refine CallOK.drop (call_vc (N := 24) (rv := [.cell 2 36]) tbok mixed Try.func79 rfl rfl rfl rfl rfl ?_)
  (refine run ?_; repeat intro b)
  refine s_callF rfl rfl rfl bd35 rfl (CallOK.frz (fun h => by rw [List.eq_nil_of_length_eq_zero h]; rfl) (clone_hd _ _ (flat_len head_row _) hx.heads (head_one _) hw.heads)) ?_
  rintro _ F1 hF1 ⟨p1, c1, rfl, _, h1⟩
  (refine run ?_; repeat intro b)
  refine s_callF rfl rfl rfl bd112 rfl (CallOK.frz (fun h => by rw [List.eq_nil_of_length_eq_zero h]; rfl) (clone_en _ _ (flat_len entry_row _) (frow_sub hF1 hx.prf.ents) (entry_one _) hw.ents)) ?_
  rintro _ F2 hF2 ⟨p2, c2, rfl, _, h2⟩
  (refine run ?_; repeat intro b)
  refine s_callF rfl rfl rfl bd132 rfl (CallOK.frz (fun h => by rw [List.eq_nil_of_length_eq_zero h]; rfl) (clone_u64 (x.l.prf.sides.map mu) x.l.prf.sides.length (by rw [List.length_map, Nat.mul_one]) (frow_sub (hF1.trans hF2) hx.prf.sides) (fun v hv => by obtain ⟨m, _, rfl⟩ := List.mem_map.1 hv; rfl) hw.sides)) ?_
  rintro _ F3 hF3 ⟨p3, c3, rfl, _, h3⟩
  (refine run ?_; repeat intro b)
  exact s_retG (VS.id ⟨_, rfl, ⟨x.l, p1, c1, ⟨p2, c2, p3, c3⟩⟩, rfl, rfl, ⟨frow_sub (hF2.trans hF3) h1, ⟨frow_sub hF3 h2, h3⟩⟩⟩)
theorem owned_ok (L : List LP) (hL : L.length ≤ 60) {p : Option Addr} {c : Nat} {F : Hp} (hw : ∀ x ∈ L, x.l.wf) (hf : Frow F p (L.flatMap LP.row)) (ha : ∀ x ∈ L, x.at F) :
    CallOK Try.prog F 78 [.slice p L.length c] (fun v F' new => ∃ cs, RowOr 36 12 cs L.length v new ∧ ∃ M : List LP, cs = M.flatMap LP.row ∧ M.map LP.l = L.map LP.l ∧ ∀ x ∈ M, x.at F') := by
  refine call_vc (N := 19) (rv := [.tmp 2]) tbok mixed Try.func78 rfl rfl rfl rfl rfl ?_
  (refine run ?_; repeat intro b)
  refine s_loopP (fun q : Nat × List LP × Hp × Option Nat × Nat => q.1 ≤ L.length ∧ q.2.1.map LP.l = (L.take q.1).map LP.l ∧ (∀ x ∈ q.2.1, x.at q.2.2.1) ∧ F.sub q.2.2.1 ∧ (q.2.2.2.1 = none → q.1 = 0 ∧ q.2.2.2.2 = 0) ∧ q.1 ≤ q.2.2.2.2)
    (fun q => ⟨[(3, .row 0 0 q.1 q.2.2.2.2), (6, .v (.slice p L.length c)), (7, .v (i64 (L.length : Nat))), (8, .v (i64 (q.1 : Nat)))], q.2.2.1, [(0, ⟨q.2.2.2.1, (q.2.1.flatMap LP.row).map EV.v, 36, q.2.2.2.2 * 12⟩)], 1⟩) (fun q => L.length - q.1) (0, [], F, none, 0) ⟨Nat.zero_le _, rfl, by simp, Hp.sub.refl _, fun _ => ⟨rfl, rfl⟩, Nat.le_refl _⟩ (VS.nilrow 3 36 [6, 7, 8] rfl rfl (VS.id rfl)) ?_
  rintro ⟨k, M, F1, blk, cap⟩ ⟨h1, h2, h3, h4, h5, h6⟩
  dsimp only at h1 h2 h3 h4 h5 h6 ⊢
  have hM : M.length = k := by
    have := congrArg List.length h2
    simp only [List.length_map, List.length_take] at this
    omega
  by_cases hlt : k < L.length
  · obtain ⟨o1, o2⟩ := frow_agg lp_row (by decide) (frow_sub h4 hf) k hlt
    have wx := hw _ (List.getElem_mem hlt)
    have ax := LP.at_sub h4 (ha _ (List.getElem_mem hlt))
    have h2' : (M.map LP.l) ++ [L[k].l] = (L.take (k + 1)).map LP.l := by rw [h2, List.take_succ_eq_append_getElem hlt, List.map_append]; rfl
    generalize L[k] = x at o2 wx ax h2'
    (refine run ?_; repeat intro b)
    refine s_if true (by rw [← decide_eq_true (p := ((k : Nat) : Int) < ((L.length : Nat) : Int)) (by omega)]; rfl) (fun _ => ?_) (fun h => by cases h)
    (refine run ?_; repeat intro b)
    refine s_pureO rfl rfl rfl ⟨by omega, by omega, frow_some hf (j := k * 12) (by rw [flat_len lp_row]; omega)⟩ ?_
    refine s_loadA x.row rfl rfl rfl rfl rfl (by rw [Int.toNat_natCast]; exact o1) (by rw [Int.toNat_natCast]; exact o2) ?_
    (refine run ?_; repeat intro b)
    refine s_callF rfl rfl rfl bd79 rfl (own_ok x wx ax) ?_
    rintro _ F2 hF2 ⟨y, rfl, ey, ay⟩
    (refine run ?_; repeat intro b)
    refine s_appR rfl rfl rfl rfl rfl rfl rfl rfl (src_row rfl rfl) (one_v _ (lp_one [y])) h5 h6 rfl (by rw [List.length_map, flat_len lp_row, hM]; exact Nat.le_refl _) (by show _ * 152 ≤ _; omega) (fun h => by cases h) (fun _ b2 c2 hc2 => ?_)
    (refine run ?_; repeat intro b)
    have hcells := lp_cells M y k hM
    rw [wrap_succ (by omega)]
    exact s_loopPq (k + 1, M ++ [y], F2, some b2, c2) 0 [(3, 0)] [3, 6, 7, 8] [(0, ⟨some b2, ((M ++ [y]).flatMap LP.row).map EV.v, 36, c2 * 12⟩)]
      ⟨hlt, by rw [List.map_append, ← h2', ← ey]; rfl, fun z hz => by rcases List.mem_append.1 hz with hz | hz; exact LP.at_sub hF2 (h3 z hz); rw [List.mem_singleton.1 hz]; exact ay, h4.trans hF2, (fun h => by cases h), hc2⟩ (by simp only; omega) (Nat.min_le_left _ _)
      ⟨rfl, ⟨_, rfl, rfl, rfl, rfl, .inl ⟨hcells.symm, fun e he => all_v _ e (hcells ▸ he)⟩⟩, trivial⟩ rfl rfl rfl rfl rfl rfl rfl
  · have hge : k = L.length := by omega
    subst hge
    rw [List.take_length] at h2
    (refine run ?_; repeat intro b)
    refine s_if false (by rw [← decide_eq_false (p := ((L.length : Nat) : Int) < ((L.length : Nat) : Int)) (by omega)]; rfl) (fun h => by cases h) (fun _ => ?_)
    (refine run ?_; repeat intro b)
    exact s_retG (VS.keepN [2] rfl ⟨_, rfl, _, ⟨blk, cap, h6, h5, rfl, rfl⟩, M, rfl, h2, h3⟩)
theorem owned_frz (L : List LP) (hL : L.length ≤ 60) {p : Option Addr} {c : Nat} {F : Hp} (hw : ∀ x ∈ L, x.l.wf) (hf : Frow F p (L.flatMap LP.row)) (ha : ∀ x ∈ L, x.at F) :
    CallF Try.prog F 78 [.slice p L.length c] (fun v F' => ∃ (M : List LP) (p' : Option Addr) (c' : Nat), v = .slice p' L.length c' ∧ Frow F' p' (M.flatMap LP.row) ∧ M.map LP.l = L.map LP.l ∧ ∀ x ∈ M, x.at F') := by
  refine CallF.mono' (CallOK.frzN (fun F F' cs hs hr => ?_) (fun F cs hn hr => ?_) (owned_ok L hL hw hf ha)) fun x F' _ h => ?_
  · obtain ⟨M, e1, e2, e3⟩ := hr
    exact ⟨M, e1, e2, fun x hx => LP.at_sub hs (e3 x hx)⟩
  · obtain ⟨M, e1, e2, _⟩ := hr
    have : M.length = 0 := by
      have := congrArg List.length e2
      simp only [List.length_map] at this
      omega
    rw [e1, List.eq_nil_of_length_eq_zero this]
    rfl
  · obtain ⟨p', c', cs, rfl, _, h2, M, rfl, h3, h4⟩ := h
    exact ⟨M, p', c', rfl, h2, h3, h4⟩
theorem dueby_ok (x : LP) (now : Int) {pn : Option Addr} {s : Value} {F : Hp} (hn : Frow F pn [i64 now, s]) : Plain Try.prog F 81 [.agg x.row.toArray, .pointer pn] (.bool (decide (x.l.due ≤ now))) := by
  have g := hn 0 _ rfl
  have g0 := frow_some hn (j := 0) (Nat.zero_lt_succ _)
  refine plain_vc (N := 9) (rv := [.tmp 3]) tbok mixed Try.func81 rfl rfl rfl rfl rfl ?_
  (refine run ?_; repeat intro b)
  refine s_pureO rfl rfl rfl g0 ?_
  refine s_load (i64 now) rfl rfl rfl rfl g ?_
  (refine run ?_; repeat intro b)
  rfl
theorem netcheck_ok (n : NP) {F : Hp} (hl : n.way.length ≤ 4611686018427387904) (hn : n.at F) : Plain Try.prog F 14 [n.v] (i64 (netFault n)) := by
  refine plain_vc (N := 22) (rv := [.tmp 2]) tbok mixed Try.func14 rfl rfl rfl rfl rfl ?_
  (refine run ?_; repeat intro b)
  refine s_if (decide (n.now < 0 ∨ 1000000000 < n.now)) ?_ (fun h => ?_) (fun h => ?_)
  · refine congrArg (fun b => some (EV.v (.bool b))) ?_
    rw [bpick_or, Bool.decide_or]
  · have e : netFault n = 4 := by unfold netFault; rw [if_pos (of_decide_eq_true h)]
    rw [e]
    (refine run ?_; repeat intro b)
    rfl
  · have h1 := of_decide_eq_false h
    (refine run ?_; repeat intro b)
    refine s_if (decide (60 < n.way.length)) ?_ (fun h => ?_) (fun h => ?_)
    · refine congrArg (fun b => some (EV.v (.bool b))) ?_
      rw [Bool.eq_iff_iff]; simp; omega
    · have e : netFault n = 7 := by unfold netFault; rw [if_neg h1, if_pos (of_decide_eq_true h)]
      rw [e]
      (refine run ?_; repeat intro b)
      rfl
    · have e : netFault n = if (n.way.any fun x => decide (x.l.due ≤ n.now)) = true then 4 else 0 := by unfold netFault; rw [if_neg h1, if_neg (of_decide_eq_false h)]
      rw [e]
      (refine run ?_; repeat intro b)
      refine s_shift (VS.freeze 0 [19, 20] rfl rfl rfl rfl fun F1 hs1 hf1 => VS.id ?_)
      refine s_plain _ rfl rfl rfl bd80 rfl (lets_has (fun x => decide (x.l.due ≤ n.now)) _ #[_] bd81 n.way (frow_sub hs1 hn.way) hl (fun x _ => dueby_ok x n.now hf1)) ?_
      (refine run ?_; repeat intro b)
      refine s_if (n.way.any fun x => decide (x.l.due ≤ n.now)) rfl (fun h => ?_) (fun h => ?_)
      · rw [if_pos h]
        (refine run ?_; repeat intro b)
        rfl
      · rw [if_neg (by rw [h]; decide)]
        (refine run ?_; repeat intro b)
        rfl
end Go.Proofs.Ythkmfihbpbehfaa
