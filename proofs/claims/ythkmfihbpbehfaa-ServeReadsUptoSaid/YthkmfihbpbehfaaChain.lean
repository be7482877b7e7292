/-
Package chain: linked, Check; the reference's Links, ChainFault, HeadOf: the walks.
-/
import Derived.Test.YthkmfihbpbehfaaSetLetMath
namespace Go.Proofs.Ythkmfihbpbehfaa
set_option linter.unusedVariables false
set_option linter.unusedSimpArgs false
open Go.TR
theorem head_ne (x y : Head) : (!(x.epoch == y.epoch && (((x.root : Nat) : Int) == (y.root : Nat) && (((x.prev : Nat) : Int) == (y.prev : Nat) && (x.at_ == y.at_ && true))))) = decide (x ≠ y) := by
  rw [Bool.eq_iff_iff]
  simp only [Bool.not_eq_true', Bool.and_eq_false_iff, beq_eq_false_iff_ne, decide_eq_true_eq, ne_eq]
  constructor
  · rintro h rfl
    simp at h
  · intro h
    by_cases h1 : x.epoch = y.epoch
    · by_cases h2 : x.root = y.root
      · by_cases h3 : x.prev = y.prev
        · by_cases h4 : x.at_ = y.at_
          · exact absurd (Head.ext' h1 h2 h3 h4) h
          · simp [h4]
        · have : ¬ ((x.prev : Nat) : Int) = (y.prev : Nat) := by omega
          simp [this]
      · have : ¬ ((x.root : Nat) : Int) = (y.root : Nat) := by omega
        simp [this]
    · simp [h1]
attribute [local irreducible] vc vcOps seqK blockK loopK retK retG retI loopV Plain CallOK CallIn bodied VS vcAny dropG backK brK loopPK IntKind.wrap
set_option maxRecDepth 100000
set_option maxHeartbeats 4000000 in
theorem sameheads_ok (l1 l2 : List Head) {p1 p2 : Option Addr} {c1 c2 : Nat} {F : Hp} (h1 : Frow F p1 (l1.flatMap Head.row)) (h2 : Frow F p2 (l2.flatMap Head.row)) (hn : l1.length ≤ 4611686018427387904) : Plain Try.prog F 133 [.slice p1 l1.length c1, .slice p2 l2.length c2] (.bool (decide (l1 = l2))) := by
  refine plain_vc (N := 26) (rv := [.tmp 4]) tbok mixed Try.func133 rfl rfl rfl rfl rfl ?_
  (refine run ?_; repeat intro b)
  refine s_if _ rfl (fun h => ?_) (fun h => ?_)
  · (refine run ?_; repeat intro b)
    have hne : l1 ≠ l2 := by rintro rfl; simp at h
    simp [tupV, hne]
  · have hl : l1.length = l2.length := by simp at h; omega
    (refine run ?_; repeat intro b)
    refine s_loopP (fun k : Nat => k ≤ l1.length ∧ l1.take k = l2.take k) (fun k => ⟨[(0, .v (.slice p1 l1.length c1)), (1, .v (.slice p2 l2.length c2)), (12, .v (i64 l1.length)), (13, .v (i64 (k : Nat)))], F, [], 0⟩) (fun k => l1.length - k) 0 ⟨Nat.zero_le _, rfl⟩ (VS.keepN [0, 1, 12, 13] rfl rfl) ?_
    rintro k ⟨hk, ht⟩
    by_cases hlt : k < l1.length
    · have hlt2 : k < l2.length := by omega
      obtain ⟨o1, o2⟩ := frow_agg head_row (by decide) h1 k hlt
      obtain ⟨o3, o4⟩ := frow_agg head_row (by decide) h2 k hlt2
      obtain ⟨x, hx⟩ : ∃ x, x = l1[k] := ⟨_, rfl⟩
      obtain ⟨y, hy⟩ : ∃ y, y = l2[k] := ⟨_, rfl⟩
      rw [← hx] at o2
      rw [← hy] at o4
      (refine run ?_; repeat intro b)
      refine s_if true (by rw [← decide_eq_true (p := ((k : Nat) : Int) < ((l1.length : Nat) : Int)) (by omega)]; rfl) (fun _ => ?_) (fun h => by cases h)
      (refine run ?_; repeat intro b)
      refine s_regiond (by kernel_rfl) ?_
      (refine run ?_; repeat intro b)
      refine s_pureO rfl rfl rfl ⟨by omega, by omega, frow_some h1 (j := k * 4) (by rw [flat_len head_row]; omega)⟩ ?_
      refine s_loadA (Head.row x) rfl rfl rfl rfl rfl (by rw [Int.toNat_natCast]; exact o1) (by rw [Int.toNat_natCast]; exact o2) ?_
      (refine run ?_; repeat intro b)
      refine s_pureO rfl rfl rfl ⟨by omega, by omega, frow_some h2 (j := k * 4) (by rw [flat_len head_row]; omega)⟩ ?_
      refine s_loadA (Head.row y) rfl rfl rfl rfl rfl (by rw [Int.toNat_natCast]; exact o3) (by rw [Int.toNat_natCast]; exact o4) ?_
      (refine run ?_; repeat intro b)
      refine s_if (decide (x ≠ y)) (congrArg (fun b => some (EV.v (.bool b))) (head_ne x y)) (fun h4 => ?_) (fun h4 => ?_)
      · (refine run ?_; repeat intro b)
        have hne : l1 ≠ l2 := ne_of_get hlt hlt2 (by rw [← hx, ← hy]; exact of_decide_eq_true h4)
        simp [tupV, hne]
      · (refine run ?_; repeat intro b)
        rw [wrap_succ (by omega)]
        exact s_loopPn (k + 1) ⟨hlt, take_succ_eq ht hlt hlt2 (by rw [← hx, ← hy]; simpa using h4)⟩ (by omega) (VS.keepN [0, 1, 12, 13] rfl rfl)
    · have hge : k = l1.length := by omega
      subst hge
      (refine run ?_; repeat intro b)
      refine s_if false (by rw [← decide_eq_false (p := ((l1.length : Nat) : Int) < ((l1.length : Nat) : Int)) (by omega)]; rfl) (fun h => by cases h) (fun _ => ?_)
      (refine run ?_; repeat intro b)
      have he : l1 = l2 := by rw [List.take_length] at ht; rw [ht, hl, List.take_length]
      simp [tupV, he]
set_option maxHeartbeats 4000000 in
theorem eq_head (l1 l2 : List Head) {p1 p2 : Option Addr} {c1 c2 : Nat} {F : Hp} (h1 : Frow F p1 (l1.flatMap Head.row)) (h2 : Frow F p2 (l2.flatMap Head.row)) (hn : l1.length ≤ 4611686018427387904) : Plain Try.prog F 37 [.slice p1 l1.length c1, .slice p2 l2.length c2] (.bool (decide (l1 = l2))) := by
  refine plain_vc (N := 26) (rv := [.tmp 4]) tbok mixed Try.func37 rfl rfl rfl rfl rfl ?_
  (refine run ?_; repeat intro b)
  refine s_if _ rfl (fun h => ?_) (fun h => ?_)
  · (refine run ?_; repeat intro b)
    have hne : l1 ≠ l2 := by rintro rfl; simp at h
    simp [tupV, hne]
  · have hl : l1.length = l2.length := by simp at h; omega
    (refine run ?_; repeat intro b)
    refine s_loopP (fun k : Nat => k ≤ l1.length ∧ l1.take k = l2.take k) (fun k => ⟨[(0, .v (.slice p1 l1.length c1)), (1, .v (.slice p2 l2.length c2)), (12, .v (i64 l1.length)), (13, .v (i64 (k : Nat)))], F, [], 0⟩) (fun k => l1.length - k) 0 ⟨Nat.zero_le _, rfl⟩ (VS.keepN [0, 1, 12, 13] rfl rfl) ?_
    rintro k ⟨hk, ht⟩
    by_cases hlt : k < l1.length
    · have hlt2 : k < l2.length := by omega
      obtain ⟨o1, o2⟩ := frow_agg head_row (by decide) h1 k hlt
      obtain ⟨o3, o4⟩ := frow_agg head_row (by decide) h2 k hlt2
      obtain ⟨x, hx⟩ : ∃ x, x = l1[k] := ⟨_, rfl⟩
      obtain ⟨y, hy⟩ : ∃ y, y = l2[k] := ⟨_, rfl⟩
      rw [← hx] at o2
      rw [← hy] at o4
      (refine run ?_; repeat intro b)
      refine s_if true (by rw [← decide_eq_true (p := ((k : Nat) : Int) < ((l1.length : Nat) : Int)) (by omega)]; rfl) (fun _ => ?_) (fun h => by cases h)
      (refine run ?_; repeat intro b)
      refine s_regiond (by kernel_rfl) ?_
      (refine run ?_; repeat intro b)
      refine s_pureO rfl rfl rfl ⟨by omega, by omega, frow_some h1 (j := k * 4) (by rw [flat_len head_row]; omega)⟩ ?_
      refine s_loadA (Head.row x) rfl rfl rfl rfl rfl (by rw [Int.toNat_natCast]; exact o1) (by rw [Int.toNat_natCast]; exact o2) ?_
      (refine run ?_; repeat intro b)
      refine s_pureO rfl rfl rfl ⟨by omega, by omega, frow_some h2 (j := k * 4) (by rw [flat_len head_row]; omega)⟩ ?_
      refine s_loadA (Head.row y) rfl rfl rfl rfl rfl (by rw [Int.toNat_natCast]; exact o3) (by rw [Int.toNat_natCast]; exact o4) ?_
      (refine run ?_; repeat intro b)
      refine s_if (decide (x ≠ y)) (congrArg (fun b => some (EV.v (.bool b))) (head_ne x y)) (fun h4 => ?_) (fun h4 => ?_)
      · (refine run ?_; repeat intro b)
        have hne : l1 ≠ l2 := ne_of_get hlt hlt2 (by rw [← hx, ← hy]; exact of_decide_eq_true h4)
        simp [tupV, hne]
      · (refine run ?_; repeat intro b)
        rw [wrap_succ (by omega)]
        exact s_loopPn (k + 1) ⟨hlt, take_succ_eq ht hlt hlt2 (by rw [← hx, ← hy]; simpa using h4)⟩ (by omega) (VS.keepN [0, 1, 12, 13] rfl rfl)
    · have hge : k = l1.length := by omega
      subst hge
      (refine run ?_; repeat intro b)
      refine s_if false (by rw [← decide_eq_false (p := ((l1.length : Nat) : Int) < ((l1.length : Nat) : Int)) (by omega)]; rfl) (fun h => by cases h) (fun _ => ?_)
      (refine run ?_; repeat intro b)
      have he : l1 = l2 := by rw [List.take_length] at ht; rw [ht, hl, List.take_length]
      simp [tupV, he]
set_option maxHeartbeats 4000000 in
theorem linked_ok (l : List Head) (hl : l.length ≤ 4611686018427387904) (hw : ∀ x ∈ l, x.wf) (hv : ∀ x ∈ l, x.fault = 0) {p : Option Addr} {c : Nat} {F : Hp} (hf : Frow F p (l.flatMap Head.row)) : Plain Try.prog F 92 [.slice p l.length c] (i64 (unlI l)) := by
  refine plain_vc (N := 42) (rv := [.tmp 2]) tbok mixed Try.func92 rfl rfl rfl rfl rfl ?_
  (refine run ?_; repeat intro b)
  refine s_loopP (fun k : Nat => (k = 0 ∨ k + 1 ≤ l.length) ∧ unl l 1 = unl (l.drop k) (k + 1)) (fun k => ⟨[(0, .v (.slice p l.length c)), (3, .v (i64 ((k + 1 : Nat) : Nat)))], F, [], 0⟩) (fun k => l.length - k) 0 ⟨.inl rfl, rfl⟩ (VS.keepN [0, 3] rfl rfl) ?_
  rintro k ⟨hk, hu⟩
  by_cases hlt : k + 1 < l.length
  · have hlt0 : k < l.length := by omega
    obtain ⟨o1, o2⟩ := frow_agg head_row (by decide) hf k hlt0
    obtain ⟨o3, o4⟩ := frow_agg head_row (by decide) hf (k + 1) hlt
    rw [unl_drop hlt] at hu
    have w1 := hw l[k] (List.getElem_mem hlt0)
    have v1 := hv l[k] (List.getElem_mem hlt0)
    have v2 := hv l[k + 1] (List.getElem_mem hlt)
    generalize l[k] = a at hu o2 w1 v1
    generalize l[k + 1] = y at hu o4 v2
    clear hw hv
    have e1 : IntKind.i64.wrap (((k + 1 : Nat) : Int) - 1) = ((k : Nat) : Int) := by rw [wrap_i64 (by omega) (by omega)]; omega
    have hs2 : (padd p ((k + 1) * 4)).isSome = true := o3
    (refine run ?_; repeat intro b)
    refine s_if true (by rw [← decide_eq_true (p := ((k + 1 : Nat) : Int) < ((l.length : Nat) : Int)) (by omega)]; rfl) (fun _ => ?_) (fun h => by cases h)
    (refine run ?_; repeat intro b)
    refine s_regiona [] (by kernel_rfl) ?_
    refine s_firsts [0, 1, 2, 3, 4, 5, 6, 7, 8, 9, 10, 11, 12, 13, 14, 15, 16, 17, 18] (f' := 3) (by kernel_rfl) rfl rfl rfl ?_
    (refine run ?_; repeat intro b)
    rw [e1]
    refine s_pureO rfl rfl rfl ⟨by omega, by omega, frow_some hf (j := k * 4) (by rw [flat_len head_row]; omega)⟩ ?_
    refine s_loadA a.row rfl rfl rfl rfl rfl (by rw [Int.toNat_natCast]; exact o1) (by rw [Int.toNat_natCast]; exact o2) ?_
    (refine run ?_; repeat intro b)
    refine s_pureO rfl rfl rfl ⟨by omega, by omega, frow_some hf (j := (k + 1) * 4) (by rw [flat_len head_row]; omega)⟩ ?_
    (refine run ?_; repeat intro b)
    refine s_pureO rfl rfl rfl (by rw [Int.toNat_natCast]; exact o3) ?_
    refine s_load (u64 (y.root : Nat)) rfl rfl rfl rfl (by rw [Int.toNat_natCast]; exact o4 1 (by decide)) ?_
    (refine run ?_; repeat intro b)
    refine s_pureO rfl rfl rfl ⟨by omega, by omega, frow_some hf (j := (k + 1) * 4) (by rw [flat_len head_row]; omega)⟩ ?_
    (refine run ?_; repeat intro b)
    refine s_pureO rfl rfl rfl (by rw [Int.toNat_natCast]; exact o3) ?_
    refine s_load (i64 y.at_) rfl rfl rfl rfl (by rw [Int.toNat_natCast]; exact o4 3 (by decide)) ?_
    (refine run ?_; repeat intro b)
    refine s_plain _ rfl rfl rfl bd93 rfl (headnext_ok a w1 y.root y.at_ F) ?_
    (refine run ?_; repeat intro b)
    refine s_one 19 (by kernel_rfl) rfl rfl ?_
    (refine run ?_; repeat intro b)
    refine s_br (Hp.sub.refl _) trivial ?_
    refine s_one 20 (by kernel_rfl) rfl rfl ?_
    (refine run ?_; repeat intro b)
    refine s_br (Hp.sub.refl _) trivial ?_
    refine s_firsts [21] (f' := 0) (by kernel_rfl) rfl rfl rfl ?_
    (refine run ?_; repeat intro b)
    refine s_stop (by kernel_rfl) ?_
    (refine run ?_; repeat intro b)
    refine s_regiond (by kernel_rfl) ?_
    (refine run ?_; repeat intro b)
    refine s_gpureO rfl rfl rfl rfl rfl (fun _ => ⟨by omega, by omega, frow_some hf (j := (k + 1) * 4) (by rw [flat_len head_row]; omega)⟩) ?_
    refine s_gloadA y.row rfl rfl rfl rfl rfl rfl rfl (fun _ => ⟨by rw [Int.toNat_natCast]; exact o3, by rw [Int.toNat_natCast]; exact o4⟩) ?_
    (refine run ?_; repeat intro b)
    refine s_if (!links a y) ?_ (fun h => ?_) (fun h => ?_)
    · refine congrArg (fun b => some (EV.v (.bool b))) ?_
      have e0 : (a.nextE y.root y.at_ != 0) = decide (a.nextE y.root y.at_ ≠ 0) := by rw [Bool.eq_iff_iff]; simp
      rw [bpick_or, ← links_next w1 v1 v2, ← e0]
      congr 1
      exact head_ne _ _
    · have h1 : ¬ links a y = true := by simpa using h
      rw [if_neg h1] at hu
      (refine run ?_; repeat intro b)
      unfold unlI
      rw [hu]
      rfl
    · have h1 : links a y = true := by simpa using h
      rw [if_pos h1] at hu
      (refine run ?_; repeat intro b)
      rw [wrap_succ (by omega)]
      exact s_loopPc (k + 1) [0] [0, 3] ⟨.inr (by omega), hu⟩ (by omega) rfl rfl rfl rfl trivial rfl
  · have hge : l.length ≤ k + 1 := by omega
    rw [unl_end hge] at hu
    (refine run ?_; repeat intro b)
    refine s_if false (by rw [← decide_eq_false (p := ((k + 1 : Nat) : Int) < ((l.length : Nat) : Int)) (by omega)]; rfl) (fun h => by cases h) (fun _ => ?_)
    (refine run ?_; repeat intro b)
    unfold unlI
    rw [hu]
    rfl
end Go.Proofs.Ythkmfihbpbehfaa
