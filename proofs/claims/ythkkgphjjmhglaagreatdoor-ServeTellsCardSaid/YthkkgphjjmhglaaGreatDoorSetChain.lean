/-
A head read out of bytes.
-/
import Derived.Test.YthkkgphjjmhglaaGreatDoorHead
import Derived.Test.YthkkgphjjmhglaaGreatDoorFwB
import Derived.Test.YthkkgphjjmhglaaGreatDoorSetRows2
import Derived.Test.YthkkgphjjmhglaaGreatDoorFwC
/-!
A head read out of bytes.
-/
namespace Go.Proofs.YthkkgphjjmhglaaGreatDoor
set_option linter.unusedVariables false
set_option linter.unusedSimpArgs false
open Go.TR
def numsE (s : List UInt8) : List EV := [.v (u64 (numAt s 0 : Nat)), .v (u64 (numAt s 1 : Nat)), .v (u64 (numAt s 2 : Nat)), .v (u64 (numAt s 3 : Nat))]
def zer4 : List EV := [.v (u64 0), .v (u64 0), .v (u64 0), .v (u64 0)]
def hdr (s : List UInt8) : Bool := decide (s.length = 33) && (s.head? == some 3)
/-- What is read: a head, or none with an error. -/
def readE (s : List UInt8) : Int := if hdr s = true then (if (headOf s).fault = 0 then 0 else 3) else 3
def readH (s : List UInt8) : Head := if readE s = 0 then headOf s else Head.none
attribute [local irreducible] vc vcOps seqK blockK loopK retK retG retI loopV Plain CallOK CallIn bodied VS vcAny dropG backK brK loopPK IntKind.wrap
set_option maxRecDepth 100000
end Go.Proofs.YthkkgphjjmhglaaGreatDoor
/-!
The law of package head: whatever is handed in, each function answers what the reference answers.
-/
namespace Go.Proofs.YthkkgphjjmhglaaGreatDoor
set_option linter.unusedVariables false
set_option linter.unusedSimpArgs false
open Go.TR
theorem nextE_alt {h : Head} (hw : h.wf) {root : Nat} {at_ : Int} (h0 : h.fault = 0) (h1 : ¬ h.epoch = 1000000) : h.nextE root at_ = if MM ≤ root ∨ at_ < h.at_ ∨ 1000000000 < at_ then 4 else 0 := by
  obtain ⟨g1, g2, g3, g4, g5, g6, g7⟩ := Head.ok_of h0
  unfold Head.nextE
  rw [if_neg (by simpa using h0), if_neg h1]
  have hm : h.markO < MM := by unfold Head.markO; rw [if_pos h0]; exact markN_lt _
  have hwr : IntKind.i64.wrap (h.epoch + 1) = h.epoch + 1 := wrap_i64 (by omega) (by omega)
  by_cases h2 : at_ < h.at_
  · rw [if_pos h2, if_pos (.inr (.inl h2))]
  · rw [if_neg h2]
    unfold Head.fault Head.bad1 Head.bad2 Head.nextH
    simp only [hwr]
    by_cases h3 : MM ≤ root
    · rw [if_pos (by simp [h3]), if_pos (.inl h3)]
    · by_cases h4 : 1000000000 < at_
      · rw [if_pos (by simp [h4]), if_pos (.inr (.inr h4))]
      · rw [if_neg (by simp; omega), if_neg (by simp; omega), if_neg (by omega)]
attribute [local irreducible] vc vcOps seqK blockK loopK retK retG retI loopV Plain CallOK CallIn bodied VS vcAny dropG backK brK loopPK IntKind.wrap
set_option maxRecDepth 100000
end Go.Proofs.YthkkgphjjmhglaaGreatDoor
/-!
Chains of heads, plainly.
-/
namespace Go.Proofs.YthkkgphjjmhglaaGreatDoor
set_option linter.unusedVariables false
set_option linter.unusedSimpArgs false
open Go.TR
@[reducible] def Head.row (h : Head) : List Value := [i64 h.epoch, u64 (h.root : Nat), u64 (h.prev : Nat), i64 h.at_]
theorem head_row (h : Head) : h.row.length = 4 := rfl
theorem head_one (l : List Head) : ∀ x ∈ l.flatMap Head.row, one (.v x) = true := fun x hx => by
  obtain ⟨a, _, ha⟩ := List.mem_flatMap.1 hx
  simp only [Head.row, List.mem_cons, List.not_mem_nil, or_false] at ha
  rcases ha with rfl | rfl | rfl | rfl <;> rfl
/-- Is the one the next of the other? -/
def links (a b : Head) : Bool := decide (a.fault = 0) && decide (b.fault = 0) && decide (b.epoch = a.epoch + 1) && decide (b.prev = a.mark) && decide (a.at_ ≤ b.at_)
/-- The first that is wrong. -/
def badAt : List Head → Nat → Option (Int × Nat)
  | [], _ => none
  | h :: t, i => if h.fault = 0 then badAt t (i + 1) else some (h.fault, i)
/-- The first that does not follow. -/
def unl : List Head → Nat → Option Nat
  | [], _ => none
  | [_], _ => none
  | a :: b :: t, i => if links a b = true then unl (b :: t) (i + 1) else some i
def unlI (l : List Head) : Int := match unl l 1 with
  | some i => (i : Int)
  | none => -1
def chainT (l : List Head) : Int × Nat := match badAt l 0 with
  | some x => x
  | none => match unl l 1 with
    | some i => (8, i)
    | none => (0, 0)
def chainF (l : List Head) : Int × Nat := if l.length = 0 then (5, 0) else if 40 < l.length then (2, 0) else chainT l
theorem chainT_bad {l : List Head} {x : Int × Nat} (h : badAt l 0 = some x) : chainT l = x := by unfold chainT; rw [h]
theorem chainT_unl {l : List Head} {i : Nat} (h : badAt l 0 = none) (h2 : unl l 1 = some i) : chainT l = (8, i) := by unfold chainT; rw [h, h2]
theorem chainT_ok {l : List Head} (h : badAt l 0 = none) (h2 : unl l 1 = none) : chainT l = (0, 0) := by unfold chainT; rw [h, h2]
theorem badAt_drop {l : List Head} {j : Nat} (hj : j < l.length) : badAt (l.drop j) j = if l[j].fault = 0 then badAt (l.drop (j + 1)) (j + 1) else some (l[j].fault, j) := by
  rw [List.drop_eq_getElem_cons hj]
  rfl
theorem unl_drop {l : List Head} {j : Nat} (hj : j + 1 < l.length) : unl (l.drop j) (j + 1) = if links l[j] l[j + 1] = true then unl (l.drop (j + 1)) (j + 2) else some (j + 1) := by
  rw [List.drop_eq_getElem_cons (i := j) (by omega), List.drop_eq_getElem_cons (i := j + 1) hj]
  rfl
theorem unl_end {l : List Head} {j i : Nat} (hj : l.length ≤ j + 1) : unl (l.drop j) i = none := by
  have : (l.drop j).length ≤ 1 := by rw [List.length_drop]; omega
  match h : l.drop j with
  | [] => rfl
  | [_] => rfl
  | _ :: _ :: _ => rw [h] at this; simp at this
theorem badAt_none : ∀ {l : List Head} {i : Nat}, badAt l i = none → ∀ h ∈ l, h.fault = 0
  | [], _, _ => by simp
  | a :: l, i, h => fun x hx => by
    unfold badAt at h
    split at h
    · rename_i h0
      rcases List.mem_cons.1 hx with rfl | hx
      · exact h0
      · exact badAt_none h x hx
    · cases h
theorem Head.ext' {a b : Head} (h1 : a.epoch = b.epoch) (h2 : a.root = b.root) (h3 : a.prev = b.prev) (h4 : a.at_ = b.at_) : a = b := by
  cases a; cases b; simp_all
/-- The next of the one, and the other: what head.Next answers. -/
theorem links_next {a b : Head} (hw : a.wf) (ha : a.fault = 0) (hb : b.fault = 0) : (decide (a.nextE b.root b.at_ ≠ 0) || decide ((a.nextH b.root b.at_).orNone (a.nextE b.root b.at_) ≠ b)) = !links a b := by
  obtain ⟨g1, g2, g3, g4, g5, g6, g7⟩ := Head.ok_of ha
  obtain ⟨f1, f2, f3, f4, f5, f6, f7⟩ := Head.ok_of hb
  have hwr : IntKind.i64.wrap (a.epoch + 1) = a.epoch + 1 := wrap_i64 (by omega) (by omega)
  have hm : a.markO = a.mark := by unfold Head.markO; rw [if_pos ha]
  unfold links
  rw [decide_eq_true ha, decide_eq_true hb]
  by_cases h1 : a.epoch = 1000000
  · have : a.nextE b.root b.at_ ≠ 0 := by unfold Head.nextE; rw [if_neg (by simpa using ha), if_pos h1]; decide
    rw [decide_eq_true this]
    have : ¬ b.epoch = a.epoch + 1 := by omega
    simp [this]
  · have hn := nextE_alt (root := b.root) (at_ := b.at_) hw ha h1
    by_cases h2 : b.at_ < a.at_
    · rw [if_pos (.inr (.inl h2))] at hn
      rw [hn]
      have : ¬ a.at_ ≤ b.at_ := by omega
      simp [this]
    · rw [if_neg (by omega)] at hn
      rw [hn]
      have h3 : a.at_ ≤ b.at_ := by omega
      unfold Head.orNone Head.nextH
      rw [hwr, hm]
      by_cases h4 : b.epoch = a.epoch + 1
      · by_cases h5 : b.prev = a.mark
        · have : (⟨a.epoch + 1, b.root, a.mark, b.at_⟩ : Head) = b := Head.ext' h4.symm rfl h5.symm rfl
          simp [this, h3, h4, h5]
        · have : (⟨a.epoch + 1, b.root, a.mark, b.at_⟩ : Head) ≠ b := fun e => h5 (by rw [← e])
          simp [this, h5]
      · have : (⟨a.epoch + 1, b.root, a.mark, b.at_⟩ : Head) ≠ b := fun e => h4 (by rw [← e])
        simp [this, h4]
theorem badAt_ne : ∀ {l : List Head} {i : Nat} {x : Int × Nat}, badAt l i = some x → x.1 ≠ 0 := by
  intro l
  induction l with
  | nil => intro i x h; cases h
  | cons a l ih =>
    intro i x h
    unfold badAt at h
    split at h
    · exact ih h
    · rename_i h0
      cases h
      exact h0
theorem chainF_zero {l : List Head} (h : (chainF l).1 = 0) : 0 < l.length ∧ l.length ≤ 40 ∧ (∀ x ∈ l, x.fault = 0) ∧ unl l 1 = none ∧ chainF l = (0, 0) := by
  unfold chainF at h ⊢
  split at h
  · cases h
  · rename_i h1
    split at h
    · cases h
    · rename_i h2
      rw [if_neg h1, if_neg h2]
      cases hb : badAt l 0 with
      | some x =>
        rw [chainT_bad hb] at h
        exact absurd h (badAt_ne hb)
      | none =>
        cases hu : unl l 1 with
        | some i =>
          rw [chainT_unl hb hu] at h
          cases h
        | none => exact ⟨by omega, by omega, badAt_none hb, rfl, chainT_ok hb hu⟩
/-- The head of an epoch. -/
def headOfE (l : List Head) (n : Int) : Option Head := l.find? fun h => decide (h.epoch = n)
def orN : Option Head → Head
  | some h => h
  | none => Head.none
/-- In a chain the epochs rise by one. -/
theorem unl_epoch : ∀ {l : List Head} {i : Nat}, unl l i = none → ∀ (j : Nat) (h : j < l.length), l[j].epoch = (l[0]'(by omega)).epoch + (j : Int)
  | [], _, _, j, h => by simp at h
  | [a], _, _, j, h => by
    have : j = 0 := by simp at h; omega
    subst this
    simp
  | a :: b :: t, i, hu, 0, h => by simp
  | a :: b :: t, i, hu, j + 1, h => by
    unfold unl at hu
    split at hu
    · rename_i hl
      have := unl_epoch hu j (by simpa using h)
      simp only [List.getElem_cons_succ, List.getElem_cons_zero] at this ⊢
      rw [this]
      unfold links at hl
      simp only [Bool.and_eq_true, decide_eq_true_eq] at hl
      rw [hl.1.1.2]
      omega
    · cases hu
end Go.Proofs.YthkkgphjjmhglaaGreatDoor
/-!
Package chain: linked, Check; the reference's Links, ChainFault, HeadOf: the walks.
-/
namespace Go.Proofs.YthkkgphjjmhglaaGreatDoor
set_option linter.unusedVariables false
set_option linter.unusedSimpArgs false
open Go.TR
theorem head_ne (x y : Head) : (!(x.epoch == y.epoch && (((x.root : Nat) : Int) == (y.root : Nat) && (((x.prev : Nat) : Int) == (y.prev : Nat) && (x.at_ == y.at_ && true))))) = decide (x ≠ y) := by
  rw [Bool.eq_iff_iff]
  simp only [Bool.not_eq_true', Bool.and_eq_false_iff, beq_eq_false_iff_ne, decide_eq_true_eq, ne_eq]
  constructor
  · rintro h rfl
    simp at h
  · intro h
    by_cases h1 : x.epoch = y.epoch
    · by_cases h2 : x.root = y.root
      · by_cases h3 : x.prev = y.prev
        · by_cases h4 : x.at_ = y.at_
          · exact absurd (Head.ext' h1 h2 h3 h4) h
          · simp [h4]
        · have : ¬ ((x.prev : Nat) : Int) = (y.prev : Nat) := by omega
          simp [this]
      · have : ¬ ((x.root : Nat) : Int) = (y.root : Nat) := by omega
        simp [this]
    · simp [h1]
attribute [local irreducible] vc vcOps seqK blockK loopK retK retG retI loopV Plain CallOK CallIn bodied VS vcAny dropG backK brK loopPK IntKind.wrap
set_option maxRecDepth 100000
set_option maxHeartbeats 4000000 in
theorem eq_head (l1 l2 : List Head) {p1 p2 : Option Addr} {c1 c2 : Nat} {F : Hp} (h1 : Frow F p1 (l1.flatMap Head.row)) (h2 : Frow F p2 (l2.flatMap Head.row)) (hn : l1.length ≤ 4611686018427387904) : Plain Tryz.prog F 14 [.slice p1 l1.length c1, .slice p2 l2.length c2] (.bool (decide (l1 = l2))) := by
  refine plain_vc (N := 26) (rv := [.tmp 4]) tbok mixed Tryz.func14 rfl rfl rfl rfl rfl ?_
  (refine run ?_; repeat intro b)
  refine s_if _ rfl (fun h => ?_) (fun h => ?_)
  · (refine run ?_; repeat intro b)
    have hne : l1 ≠ l2 := by rintro rfl; simp at h
    simp [tupV, hne]
  · have hl : l1.length = l2.length := by simp at h; omega
    (refine run ?_; repeat intro b)
    refine s_loopP (fun k : Nat => k ≤ l1.length ∧ l1.take k = l2.take k) (fun k => ⟨[(0, .v (.slice p1 l1.length c1)), (1, .v (.slice p2 l2.length c2)), (12, .v (i64 l1.length)), (13, .v (i64 (k : Nat)))], F, [], 0⟩) (fun k => l1.length - k) 0 ⟨Nat.zero_le _, rfl⟩ (VS.keepN [0, 1, 12, 13] rfl rfl) ?_
    rintro k ⟨hk, ht⟩
    by_cases hlt : k < l1.length
    · have hlt2 : k < l2.length := by omega
      obtain ⟨o1, o2⟩ := frow_agg head_row (by decide) h1 k hlt
      obtain ⟨o3, o4⟩ := frow_agg head_row (by decide) h2 k hlt2
      obtain ⟨x, hx⟩ : ∃ x, x = l1[k] := ⟨_, rfl⟩
      obtain ⟨y, hy⟩ : ∃ y, y = l2[k] := ⟨_, rfl⟩
      rw [← hx] at o2
      rw [← hy] at o4
      (refine run ?_; repeat intro b)
      refine s_if true (by rw [← decide_eq_true (p := ((k : Nat) : Int) < ((l1.length : Nat) : Int)) (by omega)]; rfl) (fun _ => ?_) (fun h => by cases h)
      (refine run ?_; repeat intro b)
      refine s_regiond (by kernel_rfl) ?_
      (refine run ?_; repeat intro b)
      refine s_pureO rfl rfl rfl ⟨by omega, by omega, frow_some h1 (j := k * 4) (by rw [flat_len head_row]; omega)⟩ ?_
      refine s_loadA (Head.row x) rfl rfl rfl rfl rfl (by rw [Int.toNat_natCast]; exact o1) (by rw [Int.toNat_natCast]; exact o2) ?_
      (refine run ?_; repeat intro b)
      refine s_pureO rfl rfl rfl ⟨by omega, by omega, frow_some h2 (j := k * 4) (by rw [flat_len head_row]; omega)⟩ ?_
      refine s_loadA (Head.row y) rfl rfl rfl rfl rfl (by rw [Int.toNat_natCast]; exact o3) (by rw [Int.toNat_natCast]; exact o4) ?_
      (refine run ?_; repeat intro b)
      refine s_if (decide (x ≠ y)) (congrArg (fun b => some (EV.v (.bool b))) (head_ne x y)) (fun h4 => ?_) (fun h4 => ?_)
      · (refine run ?_; repeat intro b)
        have hne : l1 ≠ l2 := ne_of_get hlt hlt2 (by rw [← hx, ← hy]; exact of_decide_eq_true h4)
        simp [tupV, hne]
      · (refine run ?_; repeat intro b)
        rw [wrap_succ (by omega)]
        exact s_loopPn (k + 1) ⟨hlt, take_succ_eq ht hlt hlt2 (by rw [← hx, ← hy]; simpa using h4)⟩ (by omega) (VS.keepN [0, 1, 12, 13] rfl rfl)
    · have hge : k = l1.length := by omega
      subst hge
      (refine run ?_; repeat intro b)
      refine s_if false (by rw [← decide_eq_false (p := ((l1.length : Nat) : Int) < ((l1.length : Nat) : Int)) (by omega)]; rfl) (fun h => by cases h) (fun _ => ?_)
      (refine run ?_; repeat intro b)
      have he : l1 = l2 := by rw [List.take_length] at ht; rw [ht, hl, List.take_length]
      simp [tupV, he]
set_option maxHeartbeats 4000000 in
theorem linked_ok (l : List Head) (hl : l.length ≤ 4611686018427387904) (hw : ∀ x ∈ l, x.wf) (hv : ∀ x ∈ l, x.fault = 0) {p : Option Addr} {c : Nat} {F : Hp} (hf : Frow F p (l.flatMap Head.row)) : Plain Tryz.prog F 120 [.slice p l.length c] (i64 (unlI l)) := by
  refine plain_vc (N := 42) (rv := [.tmp 2]) tbok mixed Tryz.func120 rfl rfl rfl rfl rfl ?_
  (refine run ?_; repeat intro b)
  refine s_loopP (fun k : Nat => (k = 0 ∨ k + 1 ≤ l.length) ∧ unl l 1 = unl (l.drop k) (k + 1)) (fun k => ⟨[(0, .v (.slice p l.length c)), (3, .v (i64 ((k + 1 : Nat) : Nat)))], F, [], 0⟩) (fun k => l.length - k) 0 ⟨.inl rfl, rfl⟩ (VS.keepN [0, 3] rfl rfl) ?_
  rintro k ⟨hk, hu⟩
  by_cases hlt : k + 1 < l.length
  · have hlt0 : k < l.length := by omega
    obtain ⟨o1, o2⟩ := frow_agg head_row (by decide) hf k hlt0
    obtain ⟨o3, o4⟩ := frow_agg head_row (by decide) hf (k + 1) hlt
    rw [unl_drop hlt] at hu
    have w1 := hw l[k] (List.getElem_mem hlt0)
    have v1 := hv l[k] (List.getElem_mem hlt0)
    have v2 := hv l[k + 1] (List.getElem_mem hlt)
    generalize l[k] = a at hu o2 w1 v1
    generalize l[k + 1] = y at hu o4 v2
    clear hw hv
    have e1 : IntKind.i64.wrap (((k + 1 : Nat) : Int) - 1) = ((k : Nat) : Int) := by rw [wrap_i64 (by omega) (by omega)]; omega
    have hs2 : (padd p ((k + 1) * 4)).isSome = true := o3
    (refine run ?_; repeat intro b)
    refine s_if true (by rw [← decide_eq_true (p := ((k + 1 : Nat) : Int) < ((l.length : Nat) : Int)) (by omega)]; rfl) (fun _ => ?_) (fun h => by cases h)
    (refine run ?_; repeat intro b)
    refine s_regiona [] (by kernel_rfl) ?_
    refine s_firsts [0, 1, 2, 3, 4, 5, 6, 7, 8, 9, 10, 11, 12, 13, 14, 15, 16, 17, 18] (f' := 3) (by kernel_rfl) rfl rfl rfl ?_
    (refine run ?_; repeat intro b)
    rw [e1]
    refine s_pureO rfl rfl rfl ⟨by omega, by omega, frow_some hf (j := k * 4) (by rw [flat_len head_row]; omega)⟩ ?_
    refine s_loadA a.row rfl rfl rfl rfl rfl (by rw [Int.toNat_natCast]; exact o1) (by rw [Int.toNat_natCast]; exact o2) ?_
    (refine run ?_; repeat intro b)
    refine s_pureO rfl rfl rfl ⟨by omega, by omega, frow_some hf (j := (k + 1) * 4) (by rw [flat_len head_row]; omega)⟩ ?_
    (refine run ?_; repeat intro b)
    refine s_pureO rfl rfl rfl (by rw [Int.toNat_natCast]; exact o3) ?_
    refine s_load (u64 (y.root : Nat)) rfl rfl rfl rfl (by rw [Int.toNat_natCast]; exact o4 1 (by decide)) ?_
    (refine run ?_; repeat intro b)
    refine s_pureO rfl rfl rfl ⟨by omega, by omega, frow_some hf (j := (k + 1) * 4) (by rw [flat_len head_row]; omega)⟩ ?_
    (refine run ?_; repeat intro b)
    refine s_pureO rfl rfl rfl (by rw [Int.toNat_natCast]; exact o3) ?_
    refine s_load (i64 y.at_) rfl rfl rfl rfl (by rw [Int.toNat_natCast]; exact o4 3 (by decide)) ?_
    (refine run ?_; repeat intro b)
    refine s_plain _ rfl rfl rfl bd117 rfl (headnext_ok a w1 y.root y.at_ F) ?_
    (refine run ?_; repeat intro b)
    refine s_one 19 (by kernel_rfl) rfl rfl ?_
    (refine run ?_; repeat intro b)
    refine s_br (Hp.sub.refl _) trivial ?_
    refine s_one 20 (by kernel_rfl) rfl rfl ?_
    (refine run ?_; repeat intro b)
    refine s_br (Hp.sub.refl _) trivial ?_
    refine s_firsts [21] (f' := 0) (by kernel_rfl) rfl rfl rfl ?_
    (refine run ?_; repeat intro b)
    refine s_stop (by kernel_rfl) ?_
    (refine run ?_; repeat intro b)
    refine s_regiond (by kernel_rfl) ?_
    (refine run ?_; repeat intro b)
    refine s_gpureO rfl rfl rfl rfl rfl (fun _ => ⟨by omega, by omega, frow_some hf (j := (k + 1) * 4) (by rw [flat_len head_row]; omega)⟩) ?_
    refine s_gloadA y.row rfl rfl rfl rfl rfl rfl rfl (fun _ => ⟨by rw [Int.toNat_natCast]; exact o3, by rw [Int.toNat_natCast]; exact o4⟩) ?_
    (refine run ?_; repeat intro b)
    refine s_if (!links a y) ?_ (fun h => ?_) (fun h => ?_)
    · refine congrArg (fun b => some (EV.v (.bool b))) ?_
      have e0 : (a.nextE y.root y.at_ != 0) = decide (a.nextE y.root y.at_ ≠ 0) := by rw [Bool.eq_iff_iff]; simp
      rw [bpick_or, ← links_next w1 v1 v2, ← e0]
      congr 1
      exact head_ne _ _
    · have h1 : ¬ links a y = true := by simpa using h
      rw [if_neg h1] at hu
      (refine run ?_; repeat intro b)
      unfold unlI
      rw [hu]
      rfl
    · have h1 : links a y = true := by simpa using h
      rw [if_pos h1] at hu
      (refine run ?_; repeat intro b)
      rw [wrap_succ (by omega)]
      exact s_loopPc (k + 1) [0] [0, 3] ⟨.inr (by omega), hu⟩ (by omega) rfl rfl rfl rfl trivial rfl
  · have hge : l.length ≤ k + 1 := by omega
    rw [unl_end hge] at hu
    (refine run ?_; repeat intro b)
    refine s_if false (by rw [← decide_eq_false (p := ((k + 1 : Nat) : Int) < ((l.length : Nat) : Int)) (by omega)]; rfl) (fun h => by cases h) (fun _ => ?_)
    (refine run ?_; repeat intro b)
    unfold unlI
    rw [hu]
    rfl
end Go.Proofs.YthkkgphjjmhglaaGreatDoor
