/-
tallyrollref.SameProof: the walk, of two proofs that are the same.
-/
import Derived.Test.YtbhlpnbidmnbkaaDoorProof
namespace Go.Proofs.YtbhlpnbidmnbkaaDoor
set_option linter.unusedVariables false
set_option linter.unusedSimpArgs false
open Go.TR
theorem pentry_neq (x y : Entry) : (!(decide (bl (mkB x.name) = bl (mkB y.name)) && (decide (bl (mkB x.value) = bl (mkB y.value)) && true))) = decide (x ≠ y) := by
  obtain ⟨a, b⟩ := x
  obtain ⟨a', b'⟩ := y
  simp only [bl_S, ne_eq, Entry.mk.injEq]
  by_cases h1 : a = a' <;> by_cases h2 : b = b' <;> simp [h1, h2]
attribute [local irreducible] vc vcOps seqK blockK loopK retK retG retI loopV Plain CallOK CallIn bodied VS vcAny dropG backK brK loopPK IntKind.wrap
set_option maxRecDepth 100000
set_option maxHeartbeats 4000000
theorem psamebook_ok (l1 l2 : List Entry) {p1 p2 : Option Addr} {c1 c2 : Nat} {F : Hp} (h1 : Frow F p1 (l1.flatMap Entry.row)) (h2 : Frow F p2 (l2.flatMap Entry.row)) (hn : l1.length ≤ 4611686018427387904) : Plain Tryd.prog F 44 [.slice p1 l1.length c1, .slice p2 l2.length c2] (.bool (decide (l1 = l2))) := by
  refine plain_vc (N := 26) (rv := [.tmp 4]) tbok mixed Tryd.func44 rfl rfl rfl rfl rfl ?_
  (refine run ?_; repeat intro b)
  refine s_if _ rfl (fun h => ?_) (fun h => ?_)
  · (refine run ?_; repeat intro b)
    have hne : l1 ≠ l2 := by rintro rfl; simp at h
    simp [tupV, hne]
  · have hl : l1.length = l2.length := by simp at h; omega
    (refine run ?_; repeat intro b)
    refine s_loopP (fun k : Nat => k ≤ l1.length ∧ l1.take k = l2.take k) (fun k => ⟨[(0, .v (.slice p1 l1.length c1)), (1, .v (.slice p2 l2.length c2)), (12, .v (i64 l1.length)), (13, .v (i64 (k : Nat)))], F, [], 0⟩) (fun k => l1.length - k) 0 ⟨Nat.zero_le _, rfl⟩ (VS.keepN [0, 1, 12, 13] rfl rfl) ?_
    rintro k ⟨hk, ht⟩
    by_cases hlt : k < l1.length
    · have hlt2 : k < l2.length := by omega
      obtain ⟨o1, o2⟩ := frow_agg entry_row (by decide) h1 k hlt
      obtain ⟨o3, o4⟩ := frow_agg entry_row (by decide) h2 k hlt2
      obtain ⟨x, hx⟩ : ∃ x, x = l1[k] := ⟨_, rfl⟩
      obtain ⟨y, hy⟩ : ∃ y, y = l2[k] := ⟨_, rfl⟩
      rw [← hx] at o2
      rw [← hy] at o4
      (refine run ?_; repeat intro b)
      refine s_if true (by rw [← decide_eq_true (p := ((k : Nat) : Int) < ((l1.length : Nat) : Int)) (by omega)]; rfl) (fun _ => ?_) (fun h => by cases h)
      (refine run ?_; repeat intro b)
      refine s_regiond (by kernel_rfl) ?_
      (refine run ?_; repeat intro b)
      refine s_pureO rfl rfl rfl ⟨by omega, by omega, frow_some h1 (j := k * 2) (by rw [flat_len entry_row]; omega)⟩ ?_
      refine s_loadA (Entry.row x) rfl rfl rfl rfl rfl (by rw [Int.toNat_natCast]; exact o1) (by rw [Int.toNat_natCast]; exact o2) ?_
      (refine run ?_; repeat intro b)
      refine s_pureO rfl rfl rfl ⟨by omega, by omega, frow_some h2 (j := k * 2) (by rw [flat_len entry_row]; omega)⟩ ?_
      refine s_loadA (Entry.row y) rfl rfl rfl rfl rfl (by rw [Int.toNat_natCast]; exact o3) (by rw [Int.toNat_natCast]; exact o4) ?_
      (refine run ?_; repeat intro b)
      refine s_if (decide (x ≠ y)) (congrArg (fun b => some (EV.v (.bool b))) (pentry_neq x y)) (fun h4 => ?_) (fun h4 => ?_)
      · (refine run ?_; repeat intro b)
        have hne : l1 ≠ l2 := ne_of_get hlt hlt2 (by rw [← hx, ← hy]; exact of_decide_eq_true h4)
        simp [tupV, hne]
      · (refine run ?_; repeat intro b)
        rw [wrap_succ (by omega)]
        exact s_loopPn (k + 1) ⟨hlt, take_succ_eq ht hlt hlt2 (by rw [← hx, ← hy]; simpa using h4)⟩ (by omega) (VS.keepN [0, 1, 12, 13] rfl rfl)
    · have hge : k = l1.length := by omega
      subst hge
      (refine run ?_; repeat intro b)
      refine s_if false (by rw [← decide_eq_false (p := ((l1.length : Nat) : Int) < ((l1.length : Nat) : Int)) (by omega)]; rfl) (fun h => by cases h) (fun _ => ?_)
      (refine run ?_; repeat intro b)
      have he : l1 = l2 := by rw [List.take_length] at ht; rw [ht, hl, List.take_length]
      simp [tupV, he]
/-- slices.Equal: two slices of one-cell elements. -/
theorem psamemarks_ok (l1 l2 : List Nat) {p1 p2 : Option Addr} {c1 c2 : Nat} {F : Hp} (h1 : Frow F p1 (l1.map mu)) (h2 : Frow F p2 (l2.map mu)) (hn : l1.length ≤ 9223372036854775806) : Plain Tryd.prog F 45 [.slice p1 l1.length c1, .slice p2 l2.length c2] (.bool (decide (l1 = l2))) := by
  refine plain_vc (N := 26) (rv := [.tmp 4]) tbok mixed Tryd.func45 rfl rfl rfl rfl rfl ?_
  (refine run ?_; repeat intro b)
  refine s_if _ rfl (fun h => ?_) (fun h => ?_)
  · (refine run ?_; repeat intro b)
    have hne : l1 ≠ l2 := by rintro rfl; simp at h
    simp [tupV, hne]
  · have hl : l1.length = l2.length := by simp at h; omega
    (refine run ?_; repeat intro b)
    refine s_loopP (fun k : Nat => k ≤ l1.length ∧ l1.take k = l2.take k) (fun k => ⟨[(0, .v (.slice p1 l1.length c1)), (1, .v (.slice p2 l2.length c2)), (12, .v (i64 l1.length)), (13, .v (i64 (k : Nat)))], F, [], 0⟩) (fun k => l1.length - k) 0 ⟨Nat.zero_le _, rfl⟩ (VS.keepN [0, 1, 12, 13] rfl rfl) ?_
    rintro k ⟨hk, ht⟩
    (refine run ?_; repeat intro b)
    refine s_if _ rfl (fun h3 => ?_) (fun h3 => ?_)
    · have hlt : k < l1.length := by simpa using h3
      have g1 : k < (l1.map mu).length := by simpa using hlt
      have g2 : k < (l2.map mu).length := by simpa using (hl ▸ hlt)
      (refine run ?_; repeat intro b)
      refine s_regiond (by kernel_rfl) ?_
      (refine run ?_; repeat intro b)
      refine s_pureO rfl rfl rfl ⟨by omega, by omega, frow_some h1 g1⟩ ?_
      refine s_load (mu l1[k]) rfl rfl rfl rfl (by have := frow_get h1 g1; simpa using this) ?_
      (refine run ?_; repeat intro b)
      refine s_pureO rfl rfl rfl ⟨by omega, by omega, frow_some h2 g2⟩ ?_
      refine s_load (mu l2[k]) rfl rfl rfl rfl (by have := frow_get h2 g2; simpa using this) ?_
      (refine run ?_; repeat intro b)
      refine s_if _ rfl (fun h4 => ?_) (fun h4 => ?_)
      · (refine run ?_; repeat intro b)
        have hne : l1 ≠ l2 := ne_of_get hlt (hl ▸ hlt) (fun e => by simp [e] at h4)
        simp [tupV, hne]
      · (refine run ?_; repeat intro b)
        rw [wrap_succ (by omega)]
        exact s_loopPn (k + 1) ⟨hlt, take_succ_eq ht hlt (hl ▸ hlt) (by first | simpa using h4 | (simp at h4; exact of_decide_eq_true h4) | (simp at h4; omega))⟩ (by omega) (VS.keepN [0, 1, 12, 13] rfl rfl)
    · have hge : k = l1.length := by simp at h3; omega
      (refine run ?_; repeat intro b)
      subst hge
      have he : l1 = l2 := by rw [List.take_length] at ht; rw [ht, hl, List.take_length]
      simp [tupV, he]
theorem psamebook_self (l m : List Entry) (e : l = m) {p1 p2 : Option Addr} {c1 c2 : Nat} {F : Hp} (h1 : Frow F p1 (l.flatMap Entry.row)) (h2 : Frow F p2 (m.flatMap Entry.row)) (hn : l.length ≤ 4611686018427387904) : Plain Tryd.prog F 44 [.slice p1 l.length c1, .slice p2 m.length c2] (.bool true) := by
  have := psamebook_ok l m (c1 := c1) (c2 := c2) h1 h2 hn
  rwa [decide_eq_true e] at this
theorem psamemarks_self (l m : List Nat) (e : l = m) {p1 p2 : Option Addr} {c1 c2 : Nat} {F : Hp} (h1 : Frow F p1 (l.map mu)) (h2 : Frow F p2 (m.map mu)) (hn : l.length ≤ 4611686018427387904) : Plain Tryd.prog F 45 [.slice p1 l.length c1, .slice p2 m.length c2] (.bool true) := by
  have := psamemarks_ok l m (c1 := c1) (c2 := c2) h1 h2 (by omega)
  rwa [decide_eq_true e] at this
theorem psameproof_ok (p : Prf) (a a' : Lay) {F : Hp} (he : p.ents.length ≤ 4611686018427387904) (hs : p.sides.length ≤ 4611686018427387904) (ha : p.at F a) (hb : p.at F a') : Plain Tryd.prog F 18 [p.v a, p.v a'] (.bool true) := by
  refine plain_vc (N := 24) (rv := [.tmp 4]) tbok mixed Tryd.func18 rfl rfl rfl rfl rfl ?_
  (refine run ?_; repeat intro b)
  refine s_gplain _ rfl rfl rfl rfl bd44 rfl rfl (fun _ => psamebook_self p.ents p.ents rfl ha.ents hb.ents he) ?_
  (refine run ?_; repeat intro b)
  refine s_gplain _ rfl rfl rfl rfl bd45 rfl rfl (fun _ => psamemarks_self p.sides p.sides rfl ha.sides hb.sides hs) ?_
  (refine run ?_; repeat intro b)
  simp [tupV, bpick]
end Go.Proofs.YtbhlpnbidmnbkaaDoor
