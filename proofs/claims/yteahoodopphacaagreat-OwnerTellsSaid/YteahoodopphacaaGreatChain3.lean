/-
Package chain: check, Grow, Part, Follows: the walks.
-/
import Derived.Test.YteahoodopphacaaGreatChain2
namespace Go.Proofs.YteahoodopphacaaGreat
set_option linter.unusedVariables false
set_option linter.unusedSimpArgs false
open Go.TR
/-- Some chains, each with where it lies. -/
abbrev Lie := Option Addr × List Head × Nat
@[reducible] def Lie.v (s : Lie) : Value := .slice s.1 s.2.1.length s.2.2
def checkF : List Lie → Int
  | [] => 0
  | s :: t => if (chainF s.2.1).1 = 0 then checkF t else (chainF s.2.1).1
theorem checkF_drop {l : List Lie} {j : Nat} (hj : j < l.length) : checkF (l.drop j) = if (chainF l[j].2.1).1 = 0 then checkF (l.drop (j + 1)) else (chainF l[j].2.1).1 := by
  rw [List.drop_eq_getElem_cons hj]
  rfl
theorem checkF_one (p : Option Addr) (l : List Head) (c : Nat) : checkF [(p, l, c)] = (chainF l).1 := by
  unfold checkF
  split
  · rename_i h; rw [h]; rfl
  · rfl
theorem one_head (rs : RL) (h : Head) : oneAll rs (h.row.map .v) := one_v rs (by
  intro x hx
  simp only [Head.row, List.mem_cons, List.not_mem_nil, or_false] at hx
  rcases hx with rfl | rfl | rfl | rfl <;> rfl)

theorem head_snoc (l : List Head) (a : Head) : (l ++ [a]).flatMap Head.row = l.flatMap Head.row ++ a.row := by simp
def lastH (l : List Head) : Head := l.getLastD Head.none
def growE (l : List Head) (root : Nat) (at_ : Int) : Int := if (chainF l).1 ≠ 0 then (chainF l).1 else if l.length = 40 then 7 else (lastH l).nextE root at_
def growL (l : List Head) (root : Nat) (at_ : Int) : List Head := if growE l root at_ = 0 then l ++ [((lastH l).nextH root at_).orNone ((lastH l).nextE root at_)] else []
def partE (l : List Head) (from_ to_ : Int) : Int := if (chainF l).1 ≠ 0 then (chainF l).1 else if from_ > to_ ∨ from_ < (orN l.head?).epoch ∨ to_ > (lastH l).epoch then 4 else 0
def partL (l : List Head) (from_ to_ : Int) : List Head := if partE l from_ to_ = 0 then (l.take ((to_ - (orN l.head?).epoch + 1).toNat)).drop ((from_ - (orN l.head?).epoch).toNat) else []
def follE (h : Head) (l : List Head) : Int := if (chainF l).1 ≠ 0 then (chainF l).1 else h.fault
def follB (h : Head) (l : List Head) : Bool := decide (follE h l = 0) && links h (orN l.head?)
attribute [local irreducible] vc vcOps seqK blockK loopK retK retG retI loopV Plain CallOK CallIn bodied VS vcAny dropG backK brK loopPK IntKind.wrap
set_option maxRecDepth 100000
set_option maxHeartbeats 4000000 in
theorem chains_ok (ss : List Lie) (hn : ss.length ≤ 4611686018427387904) {pp : Option Addr} {cc : Nat} {F : Hp} (hf : Frow F pp (ss.map Lie.v)) (hs : ∀ s ∈ ss, s.2.1.length ≤ 4611686018427387904 ∧ (∀ x ∈ s.2.1, x.wf) ∧ Frow F s.1 (s.2.1.flatMap Head.row)) : Plain Tryz.prog F 65 [.slice pp ss.length cc] (i64 (checkF ss)) := by
  refine plain_vc (N := 22) (rv := [.tmp 2]) tbok mixed Tryz.func65 rfl rfl rfl rfl rfl ?_
  (refine run ?_; repeat intro b)
  refine s_loopP (fun k : Nat => k ≤ ss.length ∧ checkF ss = checkF (ss.drop k)) (fun k => ⟨[(7, .v (.slice pp ss.length cc)), (8, .v (i64 (ss.length : Nat))), (9, .v (i64 (k : Nat)))], F, [], 0⟩) (fun k => ss.length - k) 0 ⟨Nat.zero_le _, rfl⟩ (VS.keepN [7, 8, 9] rfl rfl) ?_
  rintro k ⟨hk, hu⟩
  by_cases hlt : k < ss.length
  · have g := frow_get hf (j := k) (by rw [List.length_map]; exact hlt)
    rw [List.getElem_map] at g
    obtain ⟨g1, g2, g3⟩ := hs ss[k] (List.getElem_mem hlt)
    rw [checkF_drop hlt] at hu
    generalize ss[k] = s at hu g g1 g2 g3
    obtain ⟨ps, ls, cs⟩ := s
    simp only at hu g g1 g2 g3
    (refine run ?_; repeat intro b)
    refine s_if true (by rw [← decide_eq_true (p := ((k : Nat) : Int) < ((ss.length : Nat) : Int)) (by omega)]; rfl) (fun _ => ?_) (fun h => by cases h)
    (refine run ?_; repeat intro b)
    refine s_pureO rfl rfl rfl ⟨by omega, by omega, frow_some hf (j := k) (by rw [List.length_map]; exact hlt)⟩ ?_
    refine s_load (.slice ps ls.length cs) rfl rfl rfl rfl (by rw [Int.toNat_natCast, Nat.mul_one]; exact g) ?_
    (refine run ?_; repeat intro b)
    refine s_plain _ rfl rfl rfl bd48 rfl (chaincheck_ok ls g1 g2 g3) ?_
    (refine run ?_; repeat intro b)
    refine s_if (decide ((chainF ls).1 ≠ 0)) ?_ (fun h => ?_) (fun h => ?_)
    · refine congrArg (fun b => some (EV.v (.bool b))) ?_
      rw [Bool.eq_iff_iff]; simp
    · rw [if_neg (of_decide_eq_true h)] at hu
      (refine run ?_; repeat intro b)
      rw [hu]
      rfl
    · rw [if_pos (by simpa using h)] at hu
      (refine run ?_; repeat intro b)
      rw [wrap_succ (by omega)]
      exact s_loopPn (k + 1) ⟨hlt, hu⟩ (by omega) (VS.keepN [7, 8, 9] rfl rfl)
  · have hge : k = ss.length := by omega
    subst hge
    rw [List.drop_length] at hu
    (refine run ?_; repeat intro b)
    refine s_if false (by rw [← decide_eq_false (p := ((ss.length : Nat) : Int) < ((ss.length : Nat) : Int)) (by omega)]; rfl) (fun h => by cases h) (fun _ => ?_)
    (refine run ?_; repeat intro b)
    rw [hu]
    rfl
theorem chain1_ok (l : List Head) (hl : l.length ≤ 4611686018427387904) (hw : ∀ x ∈ l, x.wf) {pp p : Option Addr} {cc c : Nat} {F : Hp} (hf : Frow F pp [.slice p l.length c]) (h1 : Frow F p (l.flatMap Head.row)) : Plain Tryz.prog F 65 [.slice pp 1 cc] (i64 (chainF l).1) := by
  have := chains_ok [(p, l, c)] (by simp) (cc := cc) hf (fun s hs => by rw [List.mem_singleton.1 hs]; exact ⟨hl, hw, h1⟩)
  rw [checkF_one] at this
  exact this
theorem headQ_of {l : List Head} (h : 0 < l.length) : orN l.head? = l[0] := by
  cases l with
  | nil => simp at h
  | cons a l => rfl
theorem lastH_of {l : List Head} (h : 0 < l.length) : l[l.length - 1] = lastH l := by
  unfold lastH
  rw [List.getLastD_eq_getLast?, List.getLast?_eq_getElem?, List.getElem?_eq_getElem (by omega)]
  rfl
theorem unlI_two (a b : Head) : decide (unlI [a, b] < 0) = links a b := by
  unfold unlI unl unl
  cases h : links a b <;> simp
set_option maxHeartbeats 4000000 in
theorem chainfoll_ok (h0 : Head) (l : List Head) (h0w : h0.wf) (hl : l.length ≤ 4611686018427387904) (hw : ∀ x ∈ l, x.wf) {p : Option Addr} {c : Nat} {F : Hp} (hf : Frow F p (l.flatMap Head.row)) : Plain Tryz.prog F 49 [h0.v, .slice p l.length c] (pair (.bool (follB h0 l)) (i64 (follE h0 l))) := by
  refine plain_vc (N := 24) (rv := [.tmp 4, .tmp 5]) tbok mixed Tryz.func49 rfl rfl rfl rfl rfl ?_
  (refine run ?_; repeat intro b)
  refine s_shift (VS.freeze 1 [1, 2, 8] rfl rfl rfl rfl fun F1 hs1 hf1 => VS.id ?_)
  refine s_plain _ rfl rfl rfl bd65 rfl (chain1_ok l hl hw hf1 (frow_sub hs1 hf)) ?_
  (refine run ?_; repeat intro b)
  by_cases hz : (chainF l).1 = 0
  · obtain ⟨z1, z2, z3, z4, z5⟩ := chainF_zero hz
    have hf' := frow_sub hs1 hf
    obtain ⟨o1, o2⟩ := frow_agg head_row (by decide) hf' 0 z1
    have wl := hw _ (List.getElem_mem z1)
    have vl := z3 _ (List.getElem_mem z1)
    rw [← headQ_of z1] at o2 wl vl
    have hE : follE h0 l = h0.fault := by unfold follE; rw [if_neg (by simpa using hz)]
    have hB : follB h0 l = (decide (h0.fault = 0) && links h0 (orN l.head?)) := by unfold follB; rw [hE]
    rw [hE, hB, hz]
    generalize orN l.head? = y at o2 wl vl
    (refine run ?_; repeat intro b)
    refine s_plain _ rfl rfl rfl bd21 rfl (headcheck_ok h0 F1) ?_
    (refine run ?_; repeat intro b)
    refine s_if (decide (h0.fault ≠ 0)) ?_ (fun h => ?_) (fun h => ?_)
    · refine congrArg (fun b => some (EV.v (.bool b))) ?_
      rw [Bool.eq_iff_iff]; simp
    · have h1 := of_decide_eq_true h
      rw [decide_eq_false h1]
      (refine run ?_; repeat intro b)
      rfl
    · have h1 : h0.fault = 0 := by simpa using h
      rw [decide_eq_true h1, h1]
      (refine run ?_; repeat intro b)
      refine s_regiona [0] (by kernel_rfl) ?_
      refine s_firsts [0, 1, 2, 3] (f' := 5) (by kernel_rfl) rfl rfl rfl ?_
      (refine run ?_; repeat intro b)
      refine s_pureO rfl rfl rfl ⟨by omega, by omega, frow_some hf (j := 0 * 4) (by rw [flat_len head_row]; omega)⟩ ?_
      refine s_loadA y.row rfl rfl rfl rfl rfl o1 o2 ?_
      (refine run ?_; repeat intro b)
      refine s_one 4 (by kernel_rfl) rfl rfl ?_
      (refine run ?_; repeat intro b)
      (refine run ?_; repeat intro b)
      refine s_br (Hp.sub.refl _) ⟨⟨rfl, rfl, rfl, rfl, rfl, trivial⟩, trivial⟩ ?_
      refine s_one 5 (by kernel_rfl) rfl rfl ?_
      refine s_shift (VS.freeze 2 [1, 2, 21] rfl rfl rfl rfl fun F2 hs2 hf2 => VS.id ?_)
      refine s_plain _ rfl rfl rfl bd64 rfl (linked_ok [h0, y] (by show 2 ≤ _; omega) (fun x hx => ?_) (fun x hx => ?_) hf2) ?_
      · simp only [List.mem_cons, List.not_mem_nil, or_false] at hx
        rcases hx with rfl | rfl
        · exact h0w
        · exact wl
      · simp only [List.mem_cons, List.not_mem_nil, or_false] at hx
        rcases hx with rfl | rfl
        · exact h1
        · exact vl
      (refine run ?_; repeat intro b)
      (refine run ?_; repeat intro b)
      refine s_br hs2 ⟨⟨rfl, rfl, rfl, rfl, rfl, trivial⟩, trivial⟩ ?_
      refine s_firsts [6, 7, 8] (f' := 0) (by kernel_rfl) rfl rfl rfl ?_
      (refine run ?_; repeat intro b)
      refine s_stop (by kernel_rfl) ?_
      (refine run ?_; repeat intro b)
      rw [unlI_two]
      rfl
  · have hE : follE h0 l = (chainF l).1 := by unfold follE; rw [if_pos hz]
    have hB : follB h0 l = false := by unfold follB; rw [hE, decide_eq_false hz]; rfl
    rw [hE, hB]
    generalize (chainF l).1 = e at hz
    refine s_if false ?_ (fun h => by cases h) (fun _ => ?_)
    · refine congrArg (fun b => some (EV.v (.bool b))) ?_
      rw [beq_eq_false_iff_ne]; exact hz
    (refine run ?_; repeat intro b)
    refine s_if true ?_ (fun _ => ?_) (fun h => by cases h)
    · refine congrArg (fun b => some (EV.v (.bool b))) ?_
      rw [bne_iff_ne]; exact hz
    (refine run ?_; repeat intro b)
    rfl
end Go.Proofs.YteahoodopphacaaGreat
