/-
The law of package tree: Check, Set, Get, Drop: whatever is handed in, each call answers what the reference answers.
-/
import Derived.Test.YthkkgphjjmhglaaGreatDoorSetBookRef
namespace Go.Proofs.YthkkgphjjmhglaaGreatDoor
set_option linter.unusedVariables false
set_option linter.unusedSimpArgs false
open Go.TR
theorem entry_ne (x y : Entry) : (!(decide (bl (mkB x.name) = bl (mkB y.name)) && (decide (bl (mkB x.value) = bl (mkB y.value)) && true))) = decide (x ≠ y) := by
  obtain ⟨a, b⟩ := x
  obtain ⟨a', b'⟩ := y
  simp only [bl_S, ne_eq, Entry.mk.injEq]
  by_cases h1 : a = a' <;> by_cases h2 : b = b' <;> simp [h1, h2]
theorem get_stands {l : List Entry} {n : List UInt8} (h : findE l n = 0) : getV l n = (standsO l n).getD [] ∧ findB l n = (standsO l n).isSome := by
  obtain ⟨h1, _⟩ := findE_zero h
  have e3 : findB l n = hasN l n := by unfold findB; rw [h]; rfl
  rw [stands_has, e3]
  unfold getV
  rw [e3, stands_lb (book_of h1)]
  cases hasN l n <;> exact ⟨rfl, rfl⟩
attribute [local irreducible] ahead orderN pathN wayN goodName bookFault markN lbN hasN findE askFault dropL standsO setE dropE getV findB setO dropO setL
attribute [local irreducible] vc vcOps seqK blockK loopK retK retG retI loopV Plain CallOK CallIn bodied VS vcAny dropG backK brK loopPK IntKind.wrap
set_option maxRecDepth 100000
set_option maxHeartbeats 8000000
theorem eq_entry (l1 l2 : List Entry) {p1 p2 : Option Addr} {c1 c2 : Nat} {F : Hp} (h1 : Frow F p1 (l1.flatMap Entry.row)) (h2 : Frow F p2 (l2.flatMap Entry.row)) (hn : l1.length ≤ 4611686018427387904) : Plain Tryz.prog F 26 [.slice p1 l1.length c1, .slice p2 l2.length c2] (.bool (decide (l1 = l2))) := by
  refine plain_vc (N := 26) (rv := [.tmp 4]) tbok mixed Tryz.func26 rfl rfl rfl rfl rfl ?_
  (refine run ?_; repeat intro b)
  refine s_if _ rfl (fun h => ?_) (fun h => ?_)
  · (refine run ?_; repeat intro b)
    have hne : l1 ≠ l2 := by rintro rfl; simp at h
    simp [tupV, hne]
  · have hl : l1.length = l2.length := by simp at h; omega
    (refine run ?_; repeat intro b)
    refine s_loopP (fun k : Nat => k ≤ l1.length ∧ l1.take k = l2.take k) (fun k => ⟨[(0, .v (.slice p1 l1.length c1)), (1, .v (.slice p2 l2.length c2)), (12, .v (i64 l1.length)), (13, .v (i64 (k : Nat)))], F, [], 0⟩) (fun k => l1.length - k) 0 ⟨Nat.zero_le _, rfl⟩ (VS.keepN [0, 1, 12, 13] rfl rfl) ?_
    rintro k ⟨hk, ht⟩
    by_cases hlt : k < l1.length
    · have hlt2 : k < l2.length := by omega
      obtain ⟨o1, o2⟩ := frow_agg entry_row (by decide) h1 k hlt
      obtain ⟨o3, o4⟩ := frow_agg entry_row (by decide) h2 k hlt2
      obtain ⟨x, hx⟩ : ∃ x, x = l1[k] := ⟨_, rfl⟩
      obtain ⟨y, hy⟩ : ∃ y, y = l2[k] := ⟨_, rfl⟩
      rw [← hx] at o2
      rw [← hy] at o4
      (refine run ?_; repeat intro b)
      refine s_if true (by rw [← decide_eq_true (p := ((k : Nat) : Int) < ((l1.length : Nat) : Int)) (by omega)]; rfl) (fun _ => ?_) (fun h => by cases h)
      (refine run ?_; repeat intro b)
      refine s_regiond (by kernel_rfl) ?_
      (refine run ?_; repeat intro b)
      refine s_pureO rfl rfl rfl ⟨by omega, by omega, frow_some h1 (j := k * 2) (by rw [flat_len entry_row]; omega)⟩ ?_
      refine s_loadA (Entry.row x) rfl rfl rfl rfl rfl (by rw [Int.toNat_natCast]; exact o1) (by rw [Int.toNat_natCast]; exact o2) ?_
      (refine run ?_; repeat intro b)
      refine s_pureO rfl rfl rfl ⟨by omega, by omega, frow_some h2 (j := k * 2) (by rw [flat_len entry_row]; omega)⟩ ?_
      refine s_loadA (Entry.row y) rfl rfl rfl rfl rfl (by rw [Int.toNat_natCast]; exact o3) (by rw [Int.toNat_natCast]; exact o4) ?_
      (refine run ?_; repeat intro b)
      refine s_if (decide (x ≠ y)) (congrArg (fun b => some (EV.v (.bool b))) (entry_ne x y)) (fun h4 => ?_) (fun h4 => ?_)
      · (refine run ?_; repeat intro b)
        have hne : l1 ≠ l2 := ne_of_get hlt hlt2 (by rw [← hx, ← hy]; exact of_decide_eq_true h4)
        simp [tupV, hne]
      · (refine run ?_; repeat intro b)
        rw [wrap_succ (by omega)]
        exact s_loopPn (k + 1) ⟨hlt, take_succ_eq ht hlt hlt2 (by rw [← hx, ← hy]; simpa using h4)⟩ (by omega) (VS.keepN [0, 1, 12, 13] rfl rfl)
    · have hge : k = l1.length := by omega
      subst hge
      (refine run ?_; repeat intro b)
      refine s_if false (by rw [← decide_eq_false (p := ((l1.length : Nat) : Int) < ((l1.length : Nat) : Int)) (by omega)]; rfl) (fun h => by cases h) (fun _ => ?_)
      (refine run ?_; repeat intro b)
      have he : l1 = l2 := by rw [List.take_length] at ht; rw [ht, hl, List.take_length]
      simp [tupV, he]
theorem eq_entry_self (l : List Entry) {p1 p2 : Option Addr} {c1 c2 n : Nat} {F : Hp} (hn : n = l.length) (h1 : Frow F p1 (l.flatMap Entry.row)) (h2 : Frow F p2 (l.flatMap Entry.row)) (hl : l.length ≤ 4611686018427387904) : Plain Tryz.prog F 26 [.slice p1 l.length c1, .slice p2 n c2] (.bool true) := by
  subst hn
  have := eq_entry l l (c1 := c1) (c2 := c2) h1 h2 hl
  rw [decide_eq_true rfl] at this
  exact this
end Go.Proofs.YthkkgphjjmhglaaGreatDoor
