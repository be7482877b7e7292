/-
Package queue: the reference's SameAsks, SameQueue; Put, Take; slices.Grow and Concat of asks.
-/
import Derived.Test.YtaienbnadbadfaaQueue
import Derived.Test.YtaienbnadbadfaaCloneAsk
namespace Go.Proofs.Ytaienbnadbadfaa
set_option linter.unusedVariables false
set_option linter.unusedSimpArgs false
open Go.TR
theorem ask_ne (x y : Ask) : (!(decide (bl (mkB x.name) = bl (mkB y.name)) && (decide (bl (mkB x.value) = bl (mkB y.value)) && (((x.n : Nat) : Int) == ((y.n : Nat) : Int) && (((x.tag : Nat) : Int) == ((y.tag : Nat) : Int) && true))))) = decide (x ≠ y) := by
  obtain ⟨a, b, c, d⟩ := x
  obtain ⟨a', b', c', d'⟩ := y
  simp only [bl_S, ne_eq, Ask.mk.injEq]
  by_cases h1 : a = a' <;> by_cases h2 : b = b' <;> by_cases h3 : c = c' <;> by_cases h4 : d = d' <;> simp [h1, h2, h3, h4] <;> omega
attribute [local irreducible] vc vcOps seqK blockK loopK retK retG retI loopV Plain CallOK CallIn bodied VS vcAny dropG backK brK loopPK IntKind.wrap
set_option maxRecDepth 100000
set_option maxHeartbeats 1000000 in
theorem sameasks_ok (l1 l2 : List Ask) {p1 p2 : Option Addr} {c1 c2 : Nat} {F : Hp} (h1 : Frow F p1 (l1.flatMap Ask.cells)) (h2 : Frow F p2 (l2.flatMap Ask.cells)) (hn : l1.length ≤ 4611686018427387904) : Plain Try.prog F 55 [.slice p1 l1.length c1, .slice p2 l2.length c2] (.bool (decide (l1 = l2))) := by
  refine plain_vc (N := 26) (rv := [.tmp 4]) tbok mixed Try.func55 rfl rfl rfl rfl rfl ?_
  (refine run ?_; repeat intro b)
  refine s_if _ rfl (fun h => ?_) (fun h => ?_)
  · (refine run ?_; repeat intro b)
    have hne : l1 ≠ l2 := by rintro rfl; simp at h
    simp [tupV, hne]
  · have hl : l1.length = l2.length := by simp at h; omega
    (refine run ?_; repeat intro b)
    refine s_loopP (fun k : Nat => k ≤ l1.length ∧ l1.take k = l2.take k) (fun k => ⟨[(0, .v (.slice p1 l1.length c1)), (1, .v (.slice p2 l2.length c2)), (12, .v (i64 l1.length)), (13, .v (i64 (k : Nat)))], F, [], 0⟩) (fun k => l1.length - k) 0 ⟨Nat.zero_le _, rfl⟩ (VS.keepN [0, 1, 12, 13] rfl rfl) ?_
    rintro k ⟨hk, ht⟩
    by_cases hlt : k < l1.length
    · have hlt2 : k < l2.length := by omega
      obtain ⟨o1, o2⟩ := frow_agg ask_cells (by decide) h1 k hlt
      obtain ⟨o3, o4⟩ := frow_agg ask_cells (by decide) h2 k hlt2
      obtain ⟨x, hx⟩ : ∃ x, x = l1[k] := ⟨_, rfl⟩
      obtain ⟨y, hy⟩ : ∃ y, y = l2[k] := ⟨_, rfl⟩
      rw [← hx] at o2
      rw [← hy] at o4
      (refine run ?_; repeat intro b)
      refine s_if true (by rw [← decide_eq_true (p := ((k : Nat) : Int) < ((l1.length : Nat) : Int)) (by omega)]; rfl) (fun _ => ?_) (fun h => by cases h)
      (refine run ?_; repeat intro b)
      refine s_regiond (by kernel_rfl) ?_
      (refine run ?_; repeat intro b)
      refine s_pureO rfl rfl rfl ⟨by omega, by omega, frow_some h1 (j := k * 4) (by rw [flat_len ask_cells]; omega)⟩ ?_
      refine s_loadA x.cells rfl rfl rfl rfl rfl (by rw [Int.toNat_natCast]; exact o1) (by rw [Int.toNat_natCast]; exact o2) ?_
      (refine run ?_; repeat intro b)
      refine s_pureO rfl rfl rfl ⟨by omega, by omega, frow_some h2 (j := k * 4) (by rw [flat_len ask_cells]; omega)⟩ ?_
      refine s_loadA y.cells rfl rfl rfl rfl rfl (by rw [Int.toNat_natCast]; exact o3) (by rw [Int.toNat_natCast]; exact o4) ?_
      (refine run ?_; repeat intro b)
      refine s_if (decide (x ≠ y)) (congrArg (fun b => some (EV.v (.bool b))) (ask_ne x y)) (fun h4 => ?_) (fun h4 => ?_)
      · (refine run ?_; repeat intro b)
        have hne : l1 ≠ l2 := ne_of_get hlt hlt2 (by rw [← hx, ← hy]; exact of_decide_eq_true h4)
        simp [tupV, hne]
      · (refine run ?_; repeat intro b)
        rw [wrap_succ (by omega)]
        exact s_loopPn (k + 1) ⟨hlt, take_succ_eq ht hlt hlt2 (by rw [← hx, ← hy]; simpa using h4)⟩ (by omega) (VS.keepN [0, 1, 12, 13] rfl rfl)
    · have hge : k = l1.length := by omega
      subst hge
      (refine run ?_; repeat intro b)
      refine s_if false (by rw [← decide_eq_false (p := ((l1.length : Nat) : Int) < ((l1.length : Nat) : Int)) (by omega)]; rfl) (fun h => by cases h) (fun _ => ?_)
      (refine run ?_; repeat intro b)
      have he : l1 = l2 := by rw [List.take_length] at ht; rw [ht, hl, List.take_length]
      simp [tupV, he]
theorem samequeue_ok (q1 q2 : Queue) {p1 p2 : Option Addr} {c1 c2 : Nat} {F : Hp} (h1 : Frow F p1 (q1.wait.flatMap Ask.cells)) (h2 : Frow F p2 (q2.wait.flatMap Ask.cells)) (hn : q1.wait.length ≤ 4611686018427387904) : Plain Try.prog F 52 [qv q1.most p1 q1.wait.length c1, qv q2.most p2 q2.wait.length c2] (.bool (decide (q1 = q2))) := by
  obtain ⟨m1, l1⟩ := q1
  obtain ⟨m2, l2⟩ := q2
  simp only at h1 h2 hn ⊢
  refine plain_vc (N := 17) (rv := [.tmp 4]) tbok mixed Try.func52 rfl rfl rfl rfl rfl ?_
  (refine run ?_; repeat intro b)
  refine s_gplain _ rfl rfl rfl rfl bd55 rfl rfl (fun _ => sameasks_ok l1 l2 h1 h2 hn) ?_
  (refine run ?_; repeat intro b)
  rw [bpick_and]
  simp only [tupV]
  congr 1
  rw [Bool.eq_iff_iff]
  simp
end Go.Proofs.Ytaienbnadbadfaa
