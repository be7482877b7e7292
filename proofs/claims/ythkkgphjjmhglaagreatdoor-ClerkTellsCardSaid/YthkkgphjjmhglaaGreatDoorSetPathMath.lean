/-
Package chain: check, Grow, Part, Follows: the walks.
-/
import Derived.Test.YthkkgphjjmhglaaGreatDoorChain2
import Derived.Test.YthkkgphjjmhglaaGreatDoorSetQueue
import Derived.Test.YthkkgphjjmhglaaGreatDoorSetHead
/-!
Package chain: check, Grow, Part, Follows: the walks.
-/
namespace Go.Proofs.YthkkgphjjmhglaaGreatDoor
set_option linter.unusedVariables false
set_option linter.unusedSimpArgs false
open Go.TR
/-- Some chains, each with where it lies. -/
abbrev Lie := Option Addr × List Head × Nat
@[reducible] def Lie.v (s : Lie) : Value := .slice s.1 s.2.1.length s.2.2
def checkF : List Lie → Int
  | [] => 0
  | s :: t => if (chainF s.2.1).1 = 0 then checkF t else (chainF s.2.1).1
theorem checkF_drop {l : List Lie} {j : Nat} (hj : j < l.length) : checkF (l.drop j) = if (chainF l[j].2.1).1 = 0 then checkF (l.drop (j + 1)) else (chainF l[j].2.1).1 := by
  rw [List.drop_eq_getElem_cons hj]
  rfl
theorem checkF_one (p : Option Addr) (l : List Head) (c : Nat) : checkF [(p, l, c)] = (chainF l).1 := by
  unfold checkF
  split
  · rename_i h; rw [h]; rfl
  · rfl
theorem one_head (rs : RL) (h : Head) : oneAll rs (h.row.map .v) := one_v rs (by
  intro x hx
  simp only [Head.row, List.mem_cons, List.not_mem_nil, or_false] at hx
  rcases hx with rfl | rfl | rfl | rfl <;> rfl)

theorem head_snoc (l : List Head) (a : Head) : (l ++ [a]).flatMap Head.row = l.flatMap Head.row ++ a.row := by simp
def lastH (l : List Head) : Head := l.getLastD Head.none
def growE (l : List Head) (root : Nat) (at_ : Int) : Int := if (chainF l).1 ≠ 0 then (chainF l).1 else if l.length = 40 then 7 else (lastH l).nextE root at_
def growL (l : List Head) (root : Nat) (at_ : Int) : List Head := if growE l root at_ = 0 then l ++ [((lastH l).nextH root at_).orNone ((lastH l).nextE root at_)] else []
def partE (l : List Head) (from_ to_ : Int) : Int := if (chainF l).1 ≠ 0 then (chainF l).1 else if from_ > to_ ∨ from_ < (orN l.head?).epoch ∨ to_ > (lastH l).epoch then 4 else 0
def partL (l : List Head) (from_ to_ : Int) : List Head := if partE l from_ to_ = 0 then (l.take ((to_ - (orN l.head?).epoch + 1).toNat)).drop ((from_ - (orN l.head?).epoch).toNat) else []
def follE (h : Head) (l : List Head) : Int := if (chainF l).1 ≠ 0 then (chainF l).1 else h.fault
def follB (h : Head) (l : List Head) : Bool := decide (follE h l = 0) && links h (orN l.head?)
attribute [local irreducible] vc vcOps seqK blockK loopK retK retG retI loopV Plain CallOK CallIn bodied VS vcAny dropG backK brK loopPK IntKind.wrap
set_option maxRecDepth 100000
/-- slices.Clone: a row of the caller's own. -/
theorem clone_head (cs : List Value) (n : Nat) {p : Option Addr} {c : Nat} {F : Hp} (hl : cs.length = n * 4) (hf : Frow F p cs) (h1 : ∀ x ∈ cs, Go.TR.one (.v x) = true) (hb : n * 32 ≤ 140737488355328) : CallOK Tryz.prog F 101 [.slice p n c] (fun x _ new => RowBack 31 4 cs n x new) := by
  refine call_vc (N := 8) (rv := [.tmp 2]) tbok mixed Tryz.func101 rfl rfl rfl rfl rfl ?_
  (refine run ?_; repeat intro b)
  refine s_snil (b := p.isNone) tbok rfl rfl rfl ?_
  cases p with
  | none =>
    have hn : n = 0 := by
      rcases Nat.eq_zero_or_pos n with h | h
      · exact h
      · have := frow_some hf (j := 0) (by rw [hl]; omega)
        cases this
    subst hn
    (refine run ?_; repeat intro b)
    refine s_retG (VS.id ⟨_, rfl, .inl ⟨rfl, rfl, none, rfl⟩⟩)
  | some a =>
    (refine run ?_; repeat intro b)
    refine s_appR rfl rfl rfl rfl rfl rfl rfl rfl (src_frz hl hf) (one_v _ h1) (fun h => by cases h) (Nat.le_refl 0) rfl (Nat.zero_le _) (by show (0 + n) * 32 ≤ _; omega) (fun hn => ?_) (fun hn b2 c2 hc2 => ?_)
    · subst hn
      (refine run ?_; repeat intro b)
      refine s_retG ?_
      refine VS.freeze 0 [2] rfl (cs := []) rfl rfl rfl fun F' hs1 hf1 => VS.id ⟨_, rfl, .inl ⟨rfl, rfl, _, rfl⟩⟩
    · (refine run ?_; repeat intro b)
      simp only [Nat.zero_add] at hc2 ⊢
      refine s_retGf (VSf.ren (nx' := 1) [(1, 0)] [2] [(0, ⟨some b2, cs.map EV.v, 31, c2 * 4⟩)] ⟨rfl, ⟨_, rfl, rfl, rfl, rfl, .inl ⟨rfl, fun e he => all_v _ e he⟩⟩, trivial⟩ rfl rfl rfl rfl rfl rfl ⟨_, rfl, .inr ⟨hn, b2, c2, hc2, rfl, rfl⟩⟩)
set_option maxHeartbeats 4000000 in
theorem chains_ok (ss : List Lie) (hn : ss.length ≤ 4611686018427387904) {pp : Option Addr} {cc : Nat} {F : Hp} (hf : Frow F pp (ss.map Lie.v)) (hs : ∀ s ∈ ss, s.2.1.length ≤ 4611686018427387904 ∧ (∀ x ∈ s.2.1, x.wf) ∧ Frow F s.1 (s.2.1.flatMap Head.row)) : Plain Tryz.prog F 100 [.slice pp ss.length cc] (i64 (checkF ss)) := by
  refine plain_vc (N := 22) (rv := [.tmp 2]) tbok mixed Tryz.func100 rfl rfl rfl rfl rfl ?_
  (refine run ?_; repeat intro b)
  refine s_loopP (fun k : Nat => k ≤ ss.length ∧ checkF ss = checkF (ss.drop k)) (fun k => ⟨[(7, .v (.slice pp ss.length cc)), (8, .v (i64 (ss.length : Nat))), (9, .v (i64 (k : Nat)))], F, [], 0⟩) (fun k => ss.length - k) 0 ⟨Nat.zero_le _, rfl⟩ (VS.keepN [7, 8, 9] rfl rfl) ?_
  rintro k ⟨hk, hu⟩
  by_cases hlt : k < ss.length
  · have g := frow_get hf (j := k) (by rw [List.length_map]; exact hlt)
    rw [List.getElem_map] at g
    obtain ⟨g1, g2, g3⟩ := hs ss[k] (List.getElem_mem hlt)
    rw [checkF_drop hlt] at hu
    generalize ss[k] = s at hu g g1 g2 g3
    obtain ⟨ps, ls, cs⟩ := s
    simp only at hu g g1 g2 g3
    (refine run ?_; repeat intro b)
    refine s_if true (by rw [← decide_eq_true (p := ((k : Nat) : Int) < ((ss.length : Nat) : Int)) (by omega)]; rfl) (fun _ => ?_) (fun h => by cases h)
    (refine run ?_; repeat intro b)
    refine s_pureO rfl rfl rfl ⟨by omega, by omega, frow_some hf (j := k) (by rw [List.length_map]; exact hlt)⟩ ?_
    refine s_load (.slice ps ls.length cs) rfl rfl rfl rfl (by rw [Int.toNat_natCast, Nat.mul_one]; exact g) ?_
    (refine run ?_; repeat intro b)
    refine s_plain _ rfl rfl rfl bd73 rfl (chaincheck_ok ls g1 g2 g3) ?_
    (refine run ?_; repeat intro b)
    refine s_if (decide ((chainF ls).1 ≠ 0)) ?_ (fun h => ?_) (fun h => ?_)
    · refine congrArg (fun b => some (EV.v (.bool b))) ?_
      rw [Bool.eq_iff_iff]; simp
    · rw [if_neg (of_decide_eq_true h)] at hu
      (refine run ?_; repeat intro b)
      rw [hu]
      rfl
    · rw [if_pos (by simpa using h)] at hu
      (refine run ?_; repeat intro b)
      rw [wrap_succ (by omega)]
      exact s_loopPn (k + 1) ⟨hlt, hu⟩ (by omega) (VS.keepN [7, 8, 9] rfl rfl)
  · have hge : k = ss.length := by omega
    subst hge
    rw [List.drop_length] at hu
    (refine run ?_; repeat intro b)
    refine s_if false (by rw [← decide_eq_false (p := ((ss.length : Nat) : Int) < ((ss.length : Nat) : Int)) (by omega)]; rfl) (fun h => by cases h) (fun _ => ?_)
    (refine run ?_; repeat intro b)
    rw [hu]
    rfl
theorem chain1_ok (l : List Head) (hl : l.length ≤ 4611686018427387904) (hw : ∀ x ∈ l, x.wf) {pp p : Option Addr} {cc c : Nat} {F : Hp} (hf : Frow F pp [.slice p l.length c]) (h1 : Frow F p (l.flatMap Head.row)) : Plain Tryz.prog F 100 [.slice pp 1 cc] (i64 (chainF l).1) := by
  have := chains_ok [(p, l, c)] (by simp) (cc := cc) hf (fun s hs => by rw [List.mem_singleton.1 hs]; exact ⟨hl, hw, h1⟩)
  rw [checkF_one] at this
  exact this
set_option maxHeartbeats 4000000 in
theorem chaingrow_ok (l : List Head) (root : Nat) (at_ : Int) (hl : l.length ≤ 4611686018427387904) (hw : ∀ x ∈ l, x.wf) {p : Option Addr} {c : Nat} {F : Hp} (hf : Frow F p (l.flatMap Head.row)) : CallF Tryz.prog F 67 [.slice p l.length c, u64 root, i64 at_] (fun x F' => ∃ p' c', x = pair (.slice p' (growL l root at_).length c') (i64 (growE l root at_)) ∧ (growL l root at_).length ≤ c' ∧ Frow F' p' ((growL l root at_).flatMap Head.row)) := by
  refine CallOK.drop ?_
  refine call_vc (N := 41) (rv := [.tmp 6, .tmp 7]) tbok mixed Tryz.func67 rfl rfl rfl rfl rfl ?_
  have hE : ∀ e, e ≠ 0 → growE l root at_ = e → growL l root at_ = [] := fun e he h => by unfold growL; rw [h, if_neg he]
  (refine run ?_; repeat intro b)
  refine s_shift (VS.freeze 0 [0, 1, 2, 11] rfl rfl rfl rfl fun F1 hs1 hf1 => VS.id ?_)
  refine s_plain _ rfl rfl rfl bd100 rfl (chain1_ok l hl hw hf1 (frow_sub hs1 hf)) ?_
  (refine run ?_; repeat intro b)
  refine s_if (decide ((chainF l).1 ≠ 0)) ?_ (fun h => ?_) (fun h => ?_)
  · refine congrArg (fun b => some (EV.v (.bool b))) ?_
    rw [Bool.eq_iff_iff]; simp
  · have h0 := of_decide_eq_true h
    have e1 : growE l root at_ = (chainF l).1 := by unfold growE; rw [if_pos h0]
    rw [hE _ h0 e1, e1]
    (refine run ?_; repeat intro b)
    exact s_retG (VS.id ⟨_, rfl, none, 0, rfl, Nat.le_refl _, frow_nil _ _⟩)
  · have h0 : (chainF l).1 = 0 := by simpa using h
    obtain ⟨z1, z2, z3, z4, z5⟩ := chainF_zero h0
    (refine run ?_; repeat intro b)
    refine s_if (decide (l.length = 40)) ?_ (fun h => ?_) (fun h => ?_)
    · refine congrArg (fun b => some (EV.v (.bool b))) ?_
      rw [Bool.eq_iff_iff, decide_eq_true_eq, beq_iff_eq]; omega
    · have e1 : growE l root at_ = 7 := by unfold growE; rw [if_neg (by simpa using h0), if_pos (of_decide_eq_true h)]
      rw [hE _ (by decide) e1, e1]
      (refine run ?_; repeat intro b)
      exact s_retG (VS.id ⟨_, rfl, none, 0, rfl, Nat.le_refl _, frow_nil _ _⟩)
    · have h1 : ¬ l.length = 40 := of_decide_eq_false h
      have e1 : growE l root at_ = (lastH l).nextE root at_ := by unfold growE; rw [if_neg (by simpa using h0), if_neg h1]
      have hlt : l.length - 1 < l.length := by omega
      obtain ⟨o1, o2⟩ := frow_agg head_row (by decide) (frow_sub hs1 hf) (l.length - 1) hlt
      have hla : l[l.length - 1] = lastH l := by
        unfold lastH
        rw [List.getLastD_eq_getLast?, List.getLast?_eq_getElem?, List.getElem?_eq_getElem hlt]
        rfl
      have wla := hw _ (List.getElem_mem hlt)
      rw [hla] at o2 wla
      have ew : IntKind.i64.wrap (((l.length : Nat) : Int) - 1) = ((l.length - 1 : Nat) : Int) := by rw [wrap_i64 (by omega) (by omega)]; omega
      (refine run ?_; repeat intro b)
      rw [ew]
      refine s_pureO rfl rfl rfl ⟨by omega, by omega, frow_some hf (j := (l.length - 1) * 4) (by rw [flat_len head_row]; omega)⟩ ?_
      refine s_loadA (lastH l).row rfl rfl rfl rfl rfl (by rw [Int.toNat_natCast]; exact o1) (by rw [Int.toNat_natCast]; exact o2) ?_
      (refine run ?_; repeat intro b)
      refine s_plain _ rfl rfl rfl bd117 rfl (headnext_ok (lastH l) wla root at_ F1) ?_
      (refine run ?_; repeat intro b)
      refine s_if (decide ((lastH l).nextE root at_ ≠ 0)) ?_ (fun h => ?_) (fun h => ?_)
      · refine congrArg (fun b => some (EV.v (.bool b))) ?_
        rw [Bool.eq_iff_iff]; simp
      · have h2 := of_decide_eq_true h
        rw [hE _ h2 e1, e1]
        (refine run ?_; repeat intro b)
        exact s_retG (VS.id ⟨_, rfl, none, 0, rfl, Nat.le_refl _, frow_nil _ _⟩)
      · have h2 : (lastH l).nextE root at_ = 0 := by simpa using h
        rw [h2] at e1
        have e2 : growL l root at_ = l ++ [((lastH l).nextH root at_).orNone ((lastH l).nextE root at_)] := by unfold growL; rw [if_pos e1]
        rw [e1, e2]
        generalize ((lastH l).nextH root at_).orNone ((lastH l).nextE root at_) = nx
        have hcl := clone_head (l.flatMap Head.row) l.length (flat_len head_row _) (frow_sub hs1 hf) (head_one _) (c := c) (by omega)
        (refine run ?_; repeat intro b)
        refine s_regiona [1] (by kernel_rfl) ?_
        refine s_firsts [0, 2] (f' := 5) (by kernel_rfl) rfl rfl rfl ?_
        (refine run ?_; repeat intro b)
        refine s_two 1 3 (by kernel_rfl) rfl rfl rfl ?_ ?_
        · refine s_callR (R := fun _ cs => cs = l.flatMap Head.row) (fun x F' new h => ⟨_, h, rfl⟩) rfl rfl rfl bd101 rfl hcl (fun hk0 F2 p1 cs hF2 hcs => by omega) (fun hk1 F2 b1 c1 cs hF2 hc1 hcs => ?_)
          (refine run ?_; repeat intro b)
          refine s_br hF2 ⟨⟨rfl, rfl, rfl, rfl, rfl, trivial⟩, trivial⟩ ?_
          refine s_one 3 (by kernel_rfl) rfl rfl ?_
          (refine run ?_; repeat intro b)
          (refine run ?_; repeat intro b)
          refine s_br (Hp.sub.refl _) ⟨⟨rfl, rfl, rfl, rfl, rfl, trivial⟩, trivial⟩ ?_
          refine s_one 4 (by kernel_rfl) rfl rfl ?_
          subst hcs
          refine s_appR rfl rfl rfl rfl rfl rfl rfl rfl (src_row rfl rfl) (one_head _ _) (fun h => by cases h) hc1 rfl (by rw [List.length_map, flat_len head_row]; exact Nat.le_refl _) (by show _ * 32 ≤ _; omega) (fun h => by cases h) (fun _ b2 c2 hc2 => ?_)
          (refine run ?_; repeat intro b)
          refine s_br (Hp.sub.refl _) ⟨⟨rfl, rfl, rfl, rfl, rfl, trivial⟩, trivial⟩ ?_
          refine s_firsts [5, 6] (f' := 0) (by kernel_rfl) rfl rfl rfl ?_
          (refine run ?_; repeat intro b)
          refine s_stop (by kernel_rfl) ?_
          (refine run ?_; repeat intro b)
          refine s_retG ?_
          have hcells : ((l.flatMap Head.row).map EV.v).take (l.length * 4) ++ nx.row.map EV.v = ((l ++ [nx]).flatMap Head.row).map EV.v := by
            rw [head_snoc, List.map_append, List.take_of_length_le (by rw [List.length_map, flat_len head_row]; exact Nat.le_refl _)]
          refine VS.freeze 4 [6, 7] rfl ((congrArg (allV _) hcells).trans (allV_map_v _)) rfl rfl fun F' hs1 hf1 => VS.id ⟨_, rfl, some ⟨b2, 0, none⟩, c2, by rw [List.length_append]; rfl, by rw [List.length_append]; exact hc2, hf1⟩
        · (refine run ?_; repeat intro b)
          (refine run ?_; repeat intro b)
          refine s_br (Hp.sub.refl _) ⟨⟨rfl, rfl, rfl, rfl, rfl, trivial⟩, trivial⟩ ?_
          refine s_one 1 (by kernel_rfl) rfl rfl ?_
          refine s_callR (R := fun _ cs => cs = l.flatMap Head.row) (fun x F' new h => ⟨_, h, rfl⟩) rfl rfl rfl bd101 rfl hcl (fun hk0 F2 p1 cs hF2 hcs => by omega) (fun hk1 F2 b1 c1 cs hF2 hc1 hcs => ?_)
          (refine run ?_; repeat intro b)
          refine s_br hF2 ⟨⟨rfl, rfl, rfl, rfl, rfl, trivial⟩, trivial⟩ ?_
          refine s_one 4 (by kernel_rfl) rfl rfl ?_
          subst hcs
          refine s_appR rfl rfl rfl rfl rfl rfl rfl rfl (src_row rfl rfl) (one_head _ _) (fun h => by cases h) hc1 rfl (by rw [List.length_map, flat_len head_row]; exact Nat.le_refl _) (by show _ * 32 ≤ _; omega) (fun h => by cases h) (fun _ b2 c2 hc2 => ?_)
          (refine run ?_; repeat intro b)
          refine s_br (Hp.sub.refl _) ⟨⟨rfl, rfl, rfl, rfl, rfl, trivial⟩, trivial⟩ ?_
          refine s_firsts [5, 6] (f' := 0) (by kernel_rfl) rfl rfl rfl ?_
          (refine run ?_; repeat intro b)
          refine s_stop (by kernel_rfl) ?_
          (refine run ?_; repeat intro b)
          refine s_retG ?_
          have hcells : ((l.flatMap Head.row).map EV.v).take (l.length * 4) ++ nx.row.map EV.v = ((l ++ [nx]).flatMap Head.row).map EV.v := by
            rw [head_snoc, List.map_append, List.take_of_length_le (by rw [List.length_map, flat_len head_row]; exact Nat.le_refl _)]
          refine VS.freeze 4 [6, 7] rfl ((congrArg (allV _) hcells).trans (allV_map_v _)) rfl rfl fun F' hs1 hf1 => VS.id ⟨_, rfl, some ⟨b2, 0, none⟩, c2, by rw [List.length_append]; rfl, by rw [List.length_append]; exact hc2, hf1⟩
end Go.Proofs.YthkkgphjjmhglaaGreatDoor
/-!
The way to a name, and the order of names, plainly.
-/
namespace Go.Proofs.YthkkgphjjmhglaaGreatDoor
set_option linter.unusedVariables false
set_option linter.unusedSimpArgs false
open Go.TR
open Go.Op (bytesLess)
theorem bl_irr : ∀ a : List UInt8, bytesLess a a = false
  | [] => rfl
  | a :: x => by
    unfold bytesLess
    rw [bl_irr x]
    simp
theorem bl_tri : ∀ a b : List UInt8, bytesLess a b = false → a ≠ b → bytesLess b a = true
  | [], [], _, h => absurd rfl h
  | [], _ :: _, h, _ => by cases h
  | _ :: _, [], _, _ => rfl
  | a :: x, b :: y, h, hn => by
    unfold bytesLess at h ⊢
    simp only [Bool.or_eq_false_iff, decide_eq_false_iff_not, Bool.and_eq_false_iff, beq_eq_false_iff_ne] at h
    obtain ⟨h1, h2⟩ := h
    by_cases hab : a = b
    · subst hab
      have h3 : bytesLess x y = false := by
        rcases h2 with h2 | h2
        · exact absurd rfl h2
        · exact h2
      have : x ≠ y := fun e => hn (by rw [e])
      simp [bl_tri x y h3 this]
    · have : b < a := by
        rcases UInt8.lt_or_lt_of_ne hab with h | h
        · exact absurd h h1
        · exact h
      simp [this]
theorem bl_trans : ∀ a b c : List UInt8, bytesLess a b = true → bytesLess b c = true → bytesLess a c = true
  | [], [], _, h, _ => by cases h
  | _ :: _, [], _, h, _ => by cases h
  | _, _ :: _, [], _, h => by cases h
  | [], _ :: _, _ :: _, _, _ => rfl
  | a :: x, b :: y, c :: z, h, k => by
    unfold bytesLess at h k ⊢
    simp only [Bool.or_eq_true, decide_eq_true_eq, Bool.and_eq_true, beq_iff_eq] at h k ⊢
    rcases h with h | ⟨rfl, h⟩
    · rcases k with k | ⟨rfl, k⟩
      · exact .inl (UInt8.lt_trans h k)
      · exact .inl h
    · rcases k with k | ⟨rfl, k⟩
      · exact .inl k
      · exact .inr ⟨rfl, bl_trans x y z h k⟩
def bitB (n : Nat) : UInt8 := UInt8.ofNat (48 + n % 2)
/-- The last k bits of a number, the first one the greatest. -/
def bitsN : Nat → Nat → List UInt8
  | 0, _ => []
  | k + 1, n => bitsN k (n / 2) ++ [bitB n]
theorem bitsN_len : ∀ k n, (bitsN k n).length = k
  | 0, _ => rfl
  | k + 1, n => by unfold bitsN; rw [List.length_append, bitsN_len k]; rfl
theorem bitsN_get : ∀ (k n i : Nat) (h : i < k), (bitsN k n)[i]'(by rw [bitsN_len]; exact h) = bitB (n / 2 ^ (k - 1 - i))
  | 0, _, _, h => by omega
  | k + 1, n, i, h => by
    have hl := bitsN_len k (n / 2)
    simp only [bitsN]
    by_cases hi : i < k
    · rw [List.getElem_append_left (by rw [hl]; exact hi), bitsN_get k (n / 2) i hi, Nat.div_div_eq_div_mul]
      congr 2
      rw [← Nat.pow_succ']
      congr 1
      omega
    · have : i = k := by omega
      subst this
      rw [List.getElem_append_right (by rw [hl]; exact Nat.le_refl _)]
      have h0 : i + 1 - 1 - i = 0 := by omega
      simp [hl, h0]
/-- The way to a name. -/
def pathN (s : List UInt8) : List UInt8 := bitsN 16 (markN s)
theorem pathN_len (s : List UInt8) : (pathN s).length = 16 := bitsN_len _ _
def wayN (s : List UInt8) : List UInt8 := if goodName s = true then pathN s else []
/-- Does a name stand ahead of another one? -/
def ahead (a b : List UInt8) : Bool := bytesLess (pathN a) (pathN b) || (decide (pathN a = pathN b) && bytesLess a b)
theorem ahead_irr (a : List UInt8) : ahead a a = false := by unfold ahead; rw [bl_irr, bl_irr]; simp
theorem ahead_trans {a b c : List UInt8} (h : ahead a b = true) (k : ahead b c = true) : ahead a c = true := by
  unfold ahead at *
  simp only [Bool.or_eq_true, Bool.and_eq_true, decide_eq_true_eq] at *
  rcases h with h | ⟨e, h⟩
  · rcases k with k | ⟨e', k⟩
    · exact .inl (bl_trans _ _ _ h k)
    · exact .inl (by rw [← e']; exact h)
  · rcases k with k | ⟨e', k⟩
    · exact .inl (by rw [e]; exact k)
    · exact .inr ⟨e.trans e', bl_trans _ _ _ h k⟩
theorem ahead_asym {a b : List UInt8} (h : ahead a b = true) : ahead b a = false := by
  by_cases k : ahead b a = true
  · have := ahead_trans h k
    rw [ahead_irr] at this
    cases this
  · simpa using k
theorem ahead_tri {a b : List UInt8} (h : ahead a b = false) (hn : a ≠ b) : ahead b a = true := by
  unfold ahead at *
  simp only [Bool.or_eq_false_iff, Bool.and_eq_false_iff, decide_eq_false_iff_not, Bool.or_eq_true, Bool.and_eq_true, decide_eq_true_eq] at *
  obtain ⟨h1, h2⟩ := h
  by_cases e : pathN a = pathN b
  · refine .inr ⟨e.symm, ?_⟩
    rcases h2 with h2 | h2
    · exact absurd e h2
    · exact bl_tri _ _ h2 hn
  · exact .inl (bl_tri _ _ h1 e)
def cmpL (a b : List UInt8) : Int := if bytesLess a b = true then -1 else if a = b then 0 else 1
/-- Which of two names stands ahead: below nought, nought, above. -/
def orderN (a b : List UInt8) : Int := if cmpL (wayN a) (wayN b) ≠ 0 then cmpL (wayN a) (wayN b) else cmpL a b
theorem orderN_good {a b : List UInt8} (ha : goodName a = true) (hb : goodName b = true) : orderN a b = if ahead a b = true then -1 else if a = b then 0 else 1 := by
  unfold orderN wayN ahead cmpL
  rw [if_pos ha, if_pos hb]
  by_cases h1 : bytesLess (pathN a) (pathN b) = true
  · simp [h1]
  · by_cases h2 : pathN a = pathN b
    · simp [h2, bl_irr]
    · have : a ≠ b := fun e => h2 (by rw [e])
      simp [h1, h2, this]
/-- An entry of a book. -/
structure Entry where
  name : List UInt8
  value : List UInt8
deriving DecidableEq
@[reducible] def Entry.row (x : Entry) : List Value := [S x.name, S x.value]
@[reducible] def Entry.v (x : Entry) : Value := .agg #[S x.name, S x.value]
theorem entry_row (x : Entry) : x.row.length = 2 := rfl
structure Entry.wf (x : Entry) : Prop where
  name : x.name.length ≤ 4611686018427387904
  value : x.value.length ≤ 4611686018427387904
theorem entry_one (l : List Entry) : ∀ x ∈ l.flatMap Entry.row, one (.v x) = true := fun x hx => by
  obtain ⟨a, _, ha⟩ := List.mem_flatMap.1 hx
  simp only [Entry.row, List.mem_cons, List.not_mem_nil, or_false] at ha
  rcases ha with rfl | rfl <;> rfl
/-- What is wrong with a book, behind a name. -/
def bookG : Option (List UInt8) → List Entry → Int
  | _, [] => 0
  | p, x :: t => if askFault x.name x.value ≠ 0 then askFault x.name x.value else if p.any (fun p => !ahead p x.name) = true then 3 else bookG (some x.name) t
def bookFault (l : List Entry) : Int := if 24 < l.length then 2 else bookG none l
/-- The name ahead of a place. -/
def prevN (l : List Entry) : Nat → Option (List UInt8)
  | 0 => none
  | k + 1 => l[k]?.map Entry.name
theorem bookG_drop {l : List Entry} {k : Nat} (h : k < l.length) : bookG (prevN l k) (l.drop k) = if askFault l[k].name l[k].value ≠ 0 then askFault l[k].name l[k].value else if (prevN l k).any (fun p => !ahead p l[k].name) = true then 3 else bookG (prevN l (k + 1)) (l.drop (k + 1)) := by
  have e : prevN l (k + 1) = some l[k].name := by
    show l[k]?.map Entry.name = _
    rw [List.getElem?_eq_getElem h]
    rfl
  rw [List.drop_eq_getElem_cons h, e]
  rfl
theorem bookG_good : ∀ {l : List Entry} {p : Option (List UInt8)}, bookG p l = 0 → ∀ x ∈ l, goodName x.name = true ∧ x.value.length ≤ 20
  | [], _, _ => by simp
  | a :: l, p, h => fun x hx => by
    unfold bookG at h
    split at h
    · rename_i h1; exact absurd h h1
    · rename_i h1
      split at h
      · cases h
      · rcases List.mem_cons.1 hx with rfl | hx
        · exact askFault_zero (by simpa using h1)
        · exact bookG_good h x hx
theorem bookFault_zero {l : List Entry} (h : bookFault l = 0) : l.length ≤ 24 ∧ (∀ x ∈ l, goodName x.name = true ∧ x.value.length ≤ 20) ∧ bookG none l = 0 := by
  unfold bookFault at h
  split at h
  · cases h
  · exact ⟨by omega, bookG_good h, h⟩
/-- The names of a book rise. -/
theorem bookG_rise : ∀ {l : List Entry} {p : Option (List UInt8)}, bookG p l = 0 → (∀ q, p = some q → ∀ x ∈ l, ahead q x.name = true) ∧ List.Pairwise (fun a b => ahead a.name b.name = true) l
  | [], _, _ => ⟨fun _ _ x hx => (by cases hx), List.Pairwise.nil⟩
  | a :: l, p, h => by
    unfold bookG at h
    split at h
    · rename_i h1; exact absurd h h1
    · split at h
      · cases h
      · rename_i _ h2
        obtain ⟨i1, i2⟩ := bookG_rise h
        have ha : ∀ q, p = some q → ahead q a.name = true := fun q e => by subst e; simpa using h2
        refine ⟨fun q e x hx => ?_, List.Pairwise.cons (fun x hx => i1 _ rfl x hx) i2⟩
        rcases List.mem_cons.1 hx with rfl | hx
        · exact ha q e
        · exact ahead_trans (ha q e) (i1 _ rfl x hx)
end Go.Proofs.YthkkgphjjmhglaaGreatDoor
