/-
Package chain: check, Grow, Part, Follows: the walks.
-/
import Derived.Test.YthkkgphjjmhglaaGreatDoorChain2
namespace Go.Proofs.YthkkgphjjmhglaaGreatDoor
set_option linter.unusedVariables false
set_option linter.unusedSimpArgs false
open Go.TR
/-- Some chains, each with where it lies. -/
abbrev Lie := Option Addr × List Head × Nat
@[reducible] def Lie.v (s : Lie) : Value := .slice s.1 s.2.1.length s.2.2
def checkF : List Lie → Int
  | [] => 0
  | s :: t => if (chainF s.2.1).1 = 0 then checkF t else (chainF s.2.1).1
theorem checkF_drop {l : List Lie} {j : Nat} (hj : j < l.length) : checkF (l.drop j) = if (chainF l[j].2.1).1 = 0 then checkF (l.drop (j + 1)) else (chainF l[j].2.1).1 := by
  rw [List.drop_eq_getElem_cons hj]
  rfl
theorem checkF_one (p : Option Addr) (l : List Head) (c : Nat) : checkF [(p, l, c)] = (chainF l).1 := by
  unfold checkF
  split
  · rename_i h; rw [h]; rfl
  · rfl

def lastH (l : List Head) : Head := l.getLastD Head.none
def growE (l : List Head) (root : Nat) (at_ : Int) : Int := if (chainF l).1 ≠ 0 then (chainF l).1 else if l.length = 40 then 7 else (lastH l).nextE root at_
def growL (l : List Head) (root : Nat) (at_ : Int) : List Head := if growE l root at_ = 0 then l ++ [((lastH l).nextH root at_).orNone ((lastH l).nextE root at_)] else []
def partE (l : List Head) (from_ to_ : Int) : Int := if (chainF l).1 ≠ 0 then (chainF l).1 else if from_ > to_ ∨ from_ < (orN l.head?).epoch ∨ to_ > (lastH l).epoch then 4 else 0
def partL (l : List Head) (from_ to_ : Int) : List Head := if partE l from_ to_ = 0 then (l.take ((to_ - (orN l.head?).epoch + 1).toNat)).drop ((from_ - (orN l.head?).epoch).toNat) else []
def follE (h : Head) (l : List Head) : Int := if (chainF l).1 ≠ 0 then (chainF l).1 else h.fault
def follB (h : Head) (l : List Head) : Bool := decide (follE h l = 0) && links h (orN l.head?)
attribute [local irreducible] vc vcOps seqK blockK loopK retK retG retI loopV Plain CallOK CallIn bodied VS vcAny dropG backK brK loopPK IntKind.wrap
set_option maxRecDepth 100000
/-- slices.Clone: a row of the caller's own. -/
theorem clone_head (cs : List Value) (n : Nat) {p : Option Addr} {c : Nat} {F : Hp} (hl : cs.length = n * 4) (hf : Frow F p cs) (h1 : ∀ x ∈ cs, Go.TR.one (.v x) = true) (hb : n * 32 ≤ 140737488355328) : CallOK Tryz.prog F 101 [.slice p n c] (fun x _ new => RowBack 31 4 cs n x new) := by
  refine call_vc (N := 8) (rv := [.tmp 2]) tbok mixed Tryz.func101 rfl rfl rfl rfl rfl ?_
  (refine run ?_; repeat intro b)
  refine s_snil (b := p.isNone) tbok rfl rfl rfl ?_
  cases p with
  | none =>
    have hn : n = 0 := by
      rcases Nat.eq_zero_or_pos n with h | h
      · exact h
      · have := frow_some hf (j := 0) (by rw [hl]; omega)
        cases this
    subst hn
    (refine run ?_; repeat intro b)
    refine s_retG (VS.id ⟨_, rfl, .inl ⟨rfl, rfl, none, rfl⟩⟩)
  | some a =>
    (refine run ?_; repeat intro b)
    refine s_appR rfl rfl rfl rfl rfl rfl rfl rfl (src_frz hl hf) (one_v _ h1) (fun h => by cases h) (Nat.le_refl 0) rfl (Nat.zero_le _) (by show (0 + n) * 32 ≤ _; omega) (fun hn => ?_) (fun hn b2 c2 hc2 => ?_)
    · subst hn
      (refine run ?_; repeat intro b)
      refine s_retG ?_
      refine VS.freeze 0 [2] rfl (cs := []) rfl rfl rfl fun F' hs1 hf1 => VS.id ⟨_, rfl, .inl ⟨rfl, rfl, _, rfl⟩⟩
    · (refine run ?_; repeat intro b)
      simp only [Nat.zero_add] at hc2 ⊢
      refine s_retGf (VSf.ren (nx' := 1) [(1, 0)] [2] [(0, ⟨some b2, cs.map EV.v, 31, c2 * 4⟩)] ⟨rfl, ⟨_, rfl, rfl, rfl, rfl, .inl ⟨rfl, fun e he => all_v _ e he⟩⟩, trivial⟩ rfl rfl rfl rfl rfl rfl ⟨_, rfl, .inr ⟨hn, b2, c2, hc2, rfl, rfl⟩⟩)
set_option maxHeartbeats 4000000 in
theorem chains_ok (ss : List Lie) (hn : ss.length ≤ 4611686018427387904) {pp : Option Addr} {cc : Nat} {F : Hp} (hf : Frow F pp (ss.map Lie.v)) (hs : ∀ s ∈ ss, s.2.1.length ≤ 4611686018427387904 ∧ (∀ x ∈ s.2.1, x.wf) ∧ Frow F s.1 (s.2.1.flatMap Head.row)) : Plain Tryz.prog F 100 [.slice pp ss.length cc] (i64 (checkF ss)) := by
  refine plain_vc (N := 22) (rv := [.tmp 2]) tbok mixed Tryz.func100 rfl rfl rfl rfl rfl ?_
  (refine run ?_; repeat intro b)
  refine s_loopP (fun k : Nat => k ≤ ss.length ∧ checkF ss = checkF (ss.drop k)) (fun k => ⟨[(7, .v (.slice pp ss.length cc)), (8, .v (i64 (ss.length : Nat))), (9, .v (i64 (k : Nat)))], F, [], 0⟩) (fun k => ss.length - k) 0 ⟨Nat.zero_le _, rfl⟩ (VS.keepN [7, 8, 9] rfl rfl) ?_
  rintro k ⟨hk, hu⟩
  by_cases hlt : k < ss.length
  · have g := frow_get hf (j := k) (by rw [List.length_map]; exact hlt)
    rw [List.getElem_map] at g
    obtain ⟨g1, g2, g3⟩ := hs ss[k] (List.getElem_mem hlt)
    rw [checkF_drop hlt] at hu
    generalize ss[k] = s at hu g g1 g2 g3
    obtain ⟨ps, ls, cs⟩ := s
    simp only at hu g g1 g2 g3
    (refine run ?_; repeat intro b)
    refine s_if true (by rw [← decide_eq_true (p := ((k : Nat) : Int) < ((ss.length : Nat) : Int)) (by omega)]; rfl) (fun _ => ?_) (fun h => by cases h)
    (refine run ?_; repeat intro b)
    refine s_pureO rfl rfl rfl ⟨by omega, by omega, frow_some hf (j := k) (by rw [List.length_map]; exact hlt)⟩ ?_
    refine s_load (.slice ps ls.length cs) rfl rfl rfl rfl (by rw [Int.toNat_natCast, Nat.mul_one]; exact g) ?_
    (refine run ?_; repeat intro b)
    refine s_plain _ rfl rfl rfl bd73 rfl (chaincheck_ok ls g1 g2 g3) ?_
    (refine run ?_; repeat intro b)
    refine s_if (decide ((chainF ls).1 ≠ 0)) ?_ (fun h => ?_) (fun h => ?_)
    · refine congrArg (fun b => some (EV.v (.bool b))) ?_
      rw [Bool.eq_iff_iff]; simp
    · rw [if_neg (of_decide_eq_true h)] at hu
      (refine run ?_; repeat intro b)
      rw [hu]
      rfl
    · rw [if_pos (by simpa using h)] at hu
      (refine run ?_; repeat intro b)
      rw [wrap_succ (by omega)]
      exact s_loopPn (k + 1) ⟨hlt, hu⟩ (by omega) (VS.keepN [7, 8, 9] rfl rfl)
  · have hge : k = ss.length := by omega
    subst hge
    rw [List.drop_length] at hu
    (refine run ?_; repeat intro b)
    refine s_if false (by rw [← decide_eq_false (p := ((ss.length : Nat) : Int) < ((ss.length : Nat) : Int)) (by omega)]; rfl) (fun h => by cases h) (fun _ => ?_)
    (refine run ?_; repeat intro b)
    rw [hu]
    rfl
theorem chain1_ok (l : List Head) (hl : l.length ≤ 4611686018427387904) (hw : ∀ x ∈ l, x.wf) {pp p : Option Addr} {cc c : Nat} {F : Hp} (hf : Frow F pp [.slice p l.length c]) (h1 : Frow F p (l.flatMap Head.row)) : Plain Tryz.prog F 100 [.slice pp 1 cc] (i64 (chainF l).1) := by
  have := chains_ok [(p, l, c)] (by simp) (cc := cc) hf (fun s hs => by rw [List.mem_singleton.1 hs]; exact ⟨hl, hw, h1⟩)
  rw [checkF_one] at this
  exact this
theorem clone_headF (l : List Head) (n : Nat) {p : Option Addr} {c : Nat} {F : Hp} (hn : n = l.length) (hf : Frow F p (l.flatMap Head.row)) (hb : n ≤ 1000000000000) : CallF Tryz.prog F 101 [.slice p n c] (fun x F' => ∃ p c, x = .slice p n c ∧ n ≤ c ∧ Frow F' p (l.flatMap Head.row)) :=
  CallOK.frz (fun h => by rw [List.eq_nil_of_length_eq_zero (by omega : l.length = 0)]; rfl) (clone_head (l.flatMap Head.row) n (by rw [flat_len head_row, hn]) hf (head_one _) (by omega))
theorem headQ_of {l : List Head} (h : 0 < l.length) : orN l.head? = l[0] := by
  cases l with
  | nil => simp at h
  | cons a l => rfl
theorem lastH_of {l : List Head} (h : 0 < l.length) : l[l.length - 1] = lastH l := by
  unfold lastH
  rw [List.getLastD_eq_getLast?, List.getLast?_eq_getElem?, List.getElem?_eq_getElem (by omega)]
  rfl
set_option maxHeartbeats 4000000 in
theorem chainpart_ok (l : List Head) (from_ to_ : Int) (hl : l.length ≤ 4611686018427387904) (hw : ∀ x ∈ l, x.wf) {p : Option Addr} {c : Nat} {F : Hp} (hc : l.length ≤ c) (hf : Frow F p (l.flatMap Head.row)) : CallF Tryz.prog F 43 [.slice p l.length c, i64 from_, i64 to_] (fun x F' => ∃ p' c', x = pair (.slice p' (partL l from_ to_).length c') (i64 (partE l from_ to_)) ∧ (partL l from_ to_).length ≤ c' ∧ Frow F' p' ((partL l from_ to_).flatMap Head.row)) := by
  refine CallOK.drop ?_
  refine call_vc (N := 51) (rv := [.tmp 6, .tmp 7]) tbok mixed Tryz.func43 rfl rfl rfl rfl rfl ?_
  have hE : ∀ e, e ≠ 0 → partE l from_ to_ = e → partL l from_ to_ = [] := fun e he h => by unfold partL; rw [h, if_neg he]
  (refine run ?_; repeat intro b)
  refine s_shift (VS.freeze 0 [0, 1, 2, 12] rfl rfl rfl rfl fun F1 hs1 hf1 => VS.id ?_)
  refine s_plain _ rfl rfl rfl bd100 rfl (chain1_ok l hl hw hf1 (frow_sub hs1 hf)) ?_
  (refine run ?_; repeat intro b)
  refine s_if (decide ((chainF l).1 ≠ 0)) ?_ (fun h => ?_) (fun h => ?_)
  · refine congrArg (fun b => some (EV.v (.bool b))) ?_
    rw [Bool.eq_iff_iff]; simp
  · have h0 := of_decide_eq_true h
    have e1 : partE l from_ to_ = (chainF l).1 := by unfold partE; rw [if_pos h0]
    rw [hE _ h0 e1, e1]
    (refine run ?_; repeat intro b)
    exact s_retG (VS.id ⟨_, rfl, none, 0, rfl, Nat.le_refl _, frow_nil _ _⟩)
  · have h0 : (chainF l).1 = 0 := by simpa using h
    obtain ⟨z1, z2, z3, z4, z5⟩ := chainF_zero h0
    have hf' := frow_sub hs1 hf
    obtain ⟨o1, o2⟩ := frow_agg head_row (by decide) hf' 0 z1
    obtain ⟨o3, o4⟩ := frow_agg head_row (by decide) hf' (l.length - 1) (by omega)
    have ue := unl_epoch z4 (l.length - 1) (by omega)
    have v1 := Head.ok_of (z3 _ (List.getElem_mem z1))
    have v2 := Head.ok_of (z3 _ (List.getElem_mem (show l.length - 1 < l.length by omega)))
    have hla := lastH_of z1
    rw [hla] at o4 ue v2
    rw [← headQ_of z1] at o2 ue v1
    have ew : IntKind.i64.wrap (((l.length : Nat) : Int) - 1) = ((l.length - 1 : Nat) : Int) := by rw [wrap_i64 (by omega) (by omega)]; omega
    have hP : partE l from_ to_ = if from_ > to_ ∨ from_ < (orN l.head?).epoch ∨ to_ > (lastH l).epoch then 4 else 0 := by unfold partE; rw [if_neg (by simpa using h0)]
    have hPL : partE l from_ to_ = 0 → partL l from_ to_ = (l.take ((to_ - (orN l.head?).epoch + 1).toNat)).drop ((from_ - (orN l.head?).epoch).toNat) := fun h => by unfold partL; rw [if_pos h]
    generalize orN l.head? = x at o2 ue v1 hP hPL
    generalize lastH l = y at o4 ue v2 hP
    (refine run ?_; repeat intro b)
    refine s_regiond (by kernel_rfl) ?_
    (refine run ?_; repeat intro b)
    refine s_pureO rfl rfl rfl ⟨by omega, by omega, frow_some hf (j := 0 * 4) (by rw [flat_len head_row]; omega)⟩ ?_
    (refine run ?_; repeat intro b)
    refine s_pureO rfl rfl rfl o1 ?_
    refine s_load (i64 x.epoch) rfl rfl rfl rfl (o2 0 (by decide)) ?_
    (refine run ?_; repeat intro b)
    rw [ew]
    refine s_pureO rfl rfl rfl ⟨by omega, by omega, frow_some hf (j := (l.length - 1) * 4) (by rw [flat_len head_row]; omega)⟩ ?_
    (refine run ?_; repeat intro b)
    refine s_pureO rfl rfl rfl (by rw [Int.toNat_natCast]; exact o3) ?_
    refine s_load (i64 y.epoch) rfl rfl rfl rfl (by rw [Int.toNat_natCast]; exact o4 0 (by decide)) ?_
    (refine run ?_; repeat intro b)
    refine s_if (decide (from_ > to_ ∨ from_ < x.epoch ∨ to_ > y.epoch)) ?_ (fun h => ?_) (fun h => ?_)
    · refine congrArg (fun b => some (EV.v (.bool b))) ?_
      rw [bpick_or, bpick_or, Bool.decide_or, Bool.decide_or, Bool.or_assoc]
    · rw [if_pos (of_decide_eq_true h)] at hP
      rw [hE _ (by decide) hP, hP]
      (refine run ?_; repeat intro b)
      exact s_retG (VS.id ⟨_, rfl, none, 0, rfl, Nat.le_refl _, frow_nil _ _⟩)
    · have h1 := of_decide_eq_false h
      rw [if_neg h1] at hP
      have hPL' := hPL hP
      obtain ⟨m, hm⟩ : ∃ m : Nat, m = (from_ - x.epoch).toNat := ⟨_, rfl⟩
      obtain ⟨k, hk⟩ : ∃ k : Nat, k = (to_ - x.epoch + 1).toNat := ⟨_, rfl⟩
      have em : IntKind.i64.wrap (from_ - x.epoch) = (m : Int) := by rw [wrap_i64 (by omega) (by omega)]; omega
      have ek : IntKind.i64.wrap (IntKind.i64.wrap (to_ - x.epoch) + 1) = (k : Int) := by rw [wrap_i64 (n := to_ - x.epoch) (by omega) (by omega), wrap_i64 (by omega) (by omega)]; omega
      have hkl : k ≤ l.length := by omega
      have hmk : m ≤ k := by omega
      rw [← hm, ← hk] at hPL'
      have hlen : ((l.take k).drop m).length = k - m := by rw [List.length_drop, List.length_take]; omega
      have f1 := frow_flat_drop head_row (frow_flat_take head_row hf' k) m c (by rw [List.length_take]; omega) (by rw [List.length_take]; omega)
      rw [hP, hPL']
      (refine run ?_; repeat intro b)
      rw [em, ek]
      refine s_pureO rfl rfl rfl ⟨by omega, by omega, by omega⟩ ?_
      rw [Int.toNat_natCast, Int.toNat_natCast]
      (refine run ?_; repeat intro b)
      refine s_callF rfl rfl rfl bd101 rfl (clone_headF ((l.take k).drop m) (k - m) hlen.symm f1 (by omega)) ?_
      rintro _ F2 hF2 ⟨pa, ca, rfl, hca, hfa⟩
      (refine run ?_; repeat intro b)
      exact s_retG (VS.id ⟨_, rfl, pa, ca, by rw [hlen]; rfl, by rw [hlen]; exact hca, hfa⟩)
end Go.Proofs.YthkkgphjjmhglaaGreatDoor
