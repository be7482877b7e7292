/-
What is wrong with a book: the walks.
-/
import Derived.Test.YthkkgphjjmhglaaGreatDoorPath
import Derived.Test.YthkkgphjjmhglaaGreatDoorSetRows2
namespace Go.Proofs.YthkkgphjjmhglaaGreatDoor
set_option linter.unusedVariables false
set_option linter.unusedSimpArgs false
open Go.TR
attribute [local irreducible] ahead orderN pathN wayN goodName
theorem prevN_get {l : List Entry} {k : Nat} (h0 : 0 < k) (h : k - 1 < l.length) : prevN l k = some l[k - 1].name := by
  obtain ⟨j, rfl⟩ : ∃ j, k = j + 1 := ⟨k - 1, by omega⟩
  show l[j]?.map Entry.name = _
  rw [List.getElem?_eq_getElem (by simpa using h)]
  rfl
attribute [local irreducible] vc vcOps seqK blockK loopK retK retG retI loopV Plain CallOK CallIn bodied VS vcAny dropG backK brK loopPK IntKind.wrap
set_option maxRecDepth 100000
set_option maxHeartbeats 1000000 in
theorem treecheck_ok (l : List Entry) (hl : l.length ≤ 4611686018427387904) (hw : ∀ x ∈ l, x.wf) {p : Option Addr} {c : Nat} {F : Hp} (hf : Frow F p (l.flatMap Entry.row)) : Plain Tryz.prog F 82 [.slice p l.length c] (i64 (bookFault l)) := by
  refine plain_vc (N := 39) (rv := [.tmp 2]) tbok mixed Tryz.func82 rfl rfl rfl rfl rfl ?_
  (refine run ?_; repeat intro b)
  refine s_if (decide (24 < l.length)) ?_ (fun h => ?_) (fun h => ?_)
  · refine congrArg (fun b => some (EV.v (.bool b))) ?_
    rw [Bool.eq_iff_iff, decide_eq_true_eq, decide_eq_true_eq]; omega
  · have e : bookFault l = 2 := by unfold bookFault; rw [if_pos (of_decide_eq_true h)]
    rw [e]
    (refine run ?_; repeat intro b)
    rfl
  · have h24 := of_decide_eq_false h
    have e : bookFault l = bookG none l := by unfold bookFault; rw [if_neg h24]
    rw [e]
    (refine run ?_; repeat intro b)
    refine s_loopP (fun k : Nat => k ≤ l.length ∧ bookG none l = bookG (prevN l k) (l.drop k) ∧ ∀ q, prevN l k = some q → goodName q = true) (fun k => ⟨[(0, .v (.slice p l.length c)), (9, .v (.slice p l.length c)), (10, .v (i64 (l.length : Nat))), (11, .v (i64 (k : Nat)))], F, [], 0⟩) (fun k => l.length - k) 0 ⟨Nat.zero_le _, rfl, fun q h => by cases h⟩ (VS.keepN [0, 9, 10, 11] rfl rfl) ?_
    rintro k ⟨hk, hu, hgo⟩
    by_cases hlt : k < l.length
    · obtain ⟨o1, o2⟩ := frow_agg entry_row (by decide) hf k hlt
      have wx := hw l[k] (List.getElem_mem hlt)
      rw [bookG_drop hlt] at hu
      have hnx : prevN l (k + 1) = some l[k].name := prevN_get (by omega) (by simpa using hlt)
      have hp0 : ∃ y : Entry, y.wf ∧ (0 < k → prevN l k = some y.name ∧ Pcell F (padd (padd p ((k - 1) * 2)) 0) = some (S y.name) ∧ (padd p ((k - 1) * 2)).isSome = true) := by
        by_cases h0 : 0 < k
        · obtain ⟨q1, q2⟩ := frow_agg entry_row (by decide) hf (k - 1) (by omega)
          exact ⟨l[k - 1], hw _ (List.getElem_mem _), fun _ => ⟨prevN_get h0 (by omega), q2 0 (by decide), q1⟩⟩
        · exact ⟨⟨[], []⟩, ⟨Nat.zero_le _, Nat.zero_le _⟩, fun h => absurd h h0⟩
      obtain ⟨y, wy, hy⟩ := hp0
      generalize l[k] = x at o2 wx hu hnx
      (refine run ?_; repeat intro b)
      refine s_if true (by rw [← decide_eq_true (p := ((k : Nat) : Int) < ((l.length : Nat) : Int)) (by omega)]; rfl) (fun _ => ?_) (fun h => by cases h)
      (refine run ?_; repeat intro b)
      refine s_pureO rfl rfl rfl ⟨by omega, by omega, frow_some hf (j := k * 2) (by rw [flat_len entry_row]; omega)⟩ ?_
      refine s_loadA x.row rfl rfl rfl rfl rfl (by rw [Int.toNat_natCast]; exact o1) (by rw [Int.toNat_natCast]; exact o2) ?_
      (refine run ?_; repeat intro b)
      refine s_plain _ rfl rfl rfl bd115 rfl (treeright_ok x.name x.value wx.name F) ?_
      (refine run ?_; repeat intro b)
      refine s_if (decide (askFault x.name x.value ≠ 0)) ?_ (fun h => ?_) (fun h => ?_)
      · refine congrArg (fun b => some (EV.v (.bool b))) ?_
        rw [Bool.eq_iff_iff]; simp
      · rw [if_pos (of_decide_eq_true h)] at hu
        rw [hu]
        (refine run ?_; repeat intro b)
        rfl
      · rw [if_neg (of_decide_eq_false h)] at hu
        obtain ⟨hg, _⟩ := askFault_zero (by simpa using h)
        (refine run ?_; repeat intro b)
        refine s_regiond (by kernel_rfl) ?_
        (refine run ?_; repeat intro b)
        have hk0 : decide ((0 : Int) < (k : Int)) = true → 0 < k := fun h => by have := of_decide_eq_true h; omega
        have ew : 0 < k → IntKind.i64.wrap ((k : Int) - 1) = ((k - 1 : Nat) : Int) := fun h => by rw [wrap_i64 (by omega) (by omega)]; omega
        refine s_gpureO rfl rfl rfl rfl rfl (fun hg => ?_) ?_
        · have h0 := hk0 hg.1
          rw [ew h0]
          exact ⟨by omega, by omega, frow_some hf (j := (k - 1) * 2) (by rw [flat_len entry_row]; omega)⟩
        (refine run ?_; repeat intro b)
        refine s_gpureO rfl rfl rfl rfl rfl (fun hg => ?_) ?_
        · have h0 := hk0 hg.1
          rw [ew h0, Int.toNat_natCast]
          exact (hy h0).2.2
        (refine run ?_; repeat intro b)
        refine s_gload (S y.name) rfl rfl rfl rfl rfl rfl (fun hg => ?_) ?_
        · have h0 := hk0 hg.1
          rw [ew h0, Int.toNat_natCast]
          exact (hy h0).2.1
        (refine run ?_; repeat intro b)
        refine s_gplain _ rfl rfl rfl rfl bd128 rfl rfl (fun hg => order_ok y.name x.name wy.name wx.name F) ?_
        (refine run ?_; repeat intro b)
        refine s_if ((prevN l k).any fun p => !ahead p x.name) ?_ (fun h => ?_) (fun h => ?_)
        · refine congrArg (fun b => some (EV.v (.bool b))) ?_
          rw [bpick_and]
          by_cases h0 : 0 < k
          · have hp := (hy h0).1
            have hgy := hgo _ hp
            have e0 : decide ((0 : Int) < (k : Int)) = true := decide_eq_true (by omega)
            rw [hp, e0, orderN_good hgy hg]
            by_cases h1 : ahead y.name x.name = true
            · simp [h1]
            · by_cases h2 : y.name = x.name
              · rw [h2] at h1 ⊢
                simp [h1]
              · simp [h1, h2]
          · obtain rfl : k = 0 := by omega
            rfl
        · rw [if_pos h] at hu
          rw [hu]
          (refine run ?_; repeat intro b)
          rfl
        · rw [if_neg (by rw [h]; decide)] at hu
          rw [hnx] at hu
          (refine run ?_; repeat intro b)
          rw [wrap_succ (by omega)]
          exact s_loopPc (k + 1) [0] [0, 9, 10, 11] ⟨hlt, by rw [hnx]; exact hu, fun q h => by rw [hnx] at h; cases h; exact hg⟩ (by omega) rfl rfl rfl rfl trivial rfl
    · have hge : k = l.length := by omega
      subst hge
      rw [List.drop_length] at hu
      rw [hu]
      (refine run ?_; repeat intro b)
      refine s_if false (by rw [← decide_eq_false (p := ((l.length : Nat) : Int) < ((l.length : Nat) : Int)) (by omega)]; rfl) (fun h => by cases h) (fun _ => ?_)
      (refine run ?_; repeat intro b)
      rfl
set_option maxHeartbeats 1000000 in
theorem bookfault_ok (l : List Entry) (hl : l.length ≤ 4611686018427387904) (hw : ∀ x ∈ l, x.wf) {p : Option Addr} {c : Nat} {F : Hp} (hf : Frow F p (l.flatMap Entry.row)) : Plain Tryz.prog F 30 [.slice p l.length c] (i64 (bookFault l)) := by
  refine plain_vc (N := 38) (rv := [.tmp 2]) tbok mixed Tryz.func30 rfl rfl rfl rfl rfl ?_
  (refine run ?_; repeat intro b)
  refine s_if (decide (24 < l.length)) ?_ (fun h => ?_) (fun h => ?_)
  · refine congrArg (fun b => some (EV.v (.bool b))) ?_
    rw [Bool.eq_iff_iff, decide_eq_true_eq, decide_eq_true_eq]; omega
  · have e : bookFault l = 2 := by unfold bookFault; rw [if_pos (of_decide_eq_true h)]
    rw [e]
    (refine run ?_; repeat intro b)
    rfl
  · have h24 := of_decide_eq_false h
    have e : bookFault l = bookG none l := by unfold bookFault; rw [if_neg h24]
    rw [e]
    (refine run ?_; repeat intro b)
    refine s_loopP (fun k : Nat => k ≤ l.length ∧ bookG none l = bookG (prevN l k) (l.drop k) ∧ ∀ q, prevN l k = some q → goodName q = true) (fun k => ⟨[(0, .v (.slice p l.length c)), (8, .v (.slice p l.length c)), (9, .v (i64 (l.length : Nat))), (10, .v (i64 (k : Nat)))], F, [], 0⟩) (fun k => l.length - k) 0 ⟨Nat.zero_le _, rfl, fun q h => by cases h⟩ (VS.keepN [0, 8, 9, 10] rfl rfl) ?_
    rintro k ⟨hk, hu, hgo⟩
    by_cases hlt : k < l.length
    · obtain ⟨o1, o2⟩ := frow_agg entry_row (by decide) hf k hlt
      have wx := hw l[k] (List.getElem_mem hlt)
      rw [bookG_drop hlt] at hu
      have hnx : prevN l (k + 1) = some l[k].name := prevN_get (by omega) (by simpa using hlt)
      have hp0 : ∃ y : Entry, y.wf ∧ (0 < k → prevN l k = some y.name ∧ Pcell F (padd (padd p ((k - 1) * 2)) 0) = some (S y.name) ∧ (padd p ((k - 1) * 2)).isSome = true) := by
        by_cases h0 : 0 < k
        · obtain ⟨q1, q2⟩ := frow_agg entry_row (by decide) hf (k - 1) (by omega)
          exact ⟨l[k - 1], hw _ (List.getElem_mem _), fun _ => ⟨prevN_get h0 (by omega), q2 0 (by decide), q1⟩⟩
        · exact ⟨⟨[], []⟩, ⟨Nat.zero_le _, Nat.zero_le _⟩, fun h => absurd h h0⟩
      obtain ⟨y, wy, hy⟩ := hp0
      generalize l[k] = x at o2 wx hu hnx
      (refine run ?_; repeat intro b)
      refine s_if true (by rw [← decide_eq_true (p := ((k : Nat) : Int) < ((l.length : Nat) : Int)) (by omega)]; rfl) (fun _ => ?_) (fun h => by cases h)
      (refine run ?_; repeat intro b)
      refine s_pureO rfl rfl rfl ⟨by omega, by omega, frow_some hf (j := k * 2) (by rw [flat_len entry_row]; omega)⟩ ?_
      refine s_loadA x.row rfl rfl rfl rfl rfl (by rw [Int.toNat_natCast]; exact o1) (by rw [Int.toNat_natCast]; exact o2) ?_
      (refine run ?_; repeat intro b)
      refine s_plain _ rfl rfl rfl bd15 rfl (goodname_ok x.name wx.name F) ?_
      (refine run ?_; repeat intro b)
      refine s_if (!goodName x.name) rfl (fun h => ?_) (fun h => ?_)
      · have e3 : askFault x.name x.value = 3 := by unfold askFault; rw [if_neg (by simpa using h)]
        rw [e3, if_pos (by decide)] at hu
        rw [hu]
        (refine run ?_; repeat intro b)
        rfl
      (refine run ?_; repeat intro b)
      refine s_if (decide (20 < x.value.length)) ?_ (fun h2 => ?_) (fun h2 => ?_)
      · refine congrArg (fun b => some (EV.v (.bool b))) ?_
        rw [decide_eq_decide, bl_S]; omega
      · have e3 : askFault x.name x.value = 2 := by unfold askFault; rw [if_pos (by simpa using h), if_pos (of_decide_eq_true h2)]
        rw [e3, if_pos (by decide)] at hu
        rw [hu]
        (refine run ?_; repeat intro b)
        rfl
      · have e3 : askFault x.name x.value = 0 := by unfold askFault; rw [if_pos (by simpa using h), if_neg (of_decide_eq_false h2)]
        rw [e3, if_neg (by decide)] at hu
        have hg : goodName x.name = true := by simpa using h
        (refine run ?_; repeat intro b)
        refine s_regiond (by kernel_rfl) ?_
        (refine run ?_; repeat intro b)
        have hk0 : decide ((0 : Int) < (k : Int)) = true → 0 < k := fun h => by have := of_decide_eq_true h; omega
        have ew : 0 < k → IntKind.i64.wrap ((k : Int) - 1) = ((k - 1 : Nat) : Int) := fun h => by rw [wrap_i64 (by omega) (by omega)]; omega
        refine s_gpureO rfl rfl rfl rfl rfl (fun hg => ?_) ?_
        · have h0 := hk0 hg.1
          rw [ew h0]
          exact ⟨by omega, by omega, frow_some hf (j := (k - 1) * 2) (by rw [flat_len entry_row]; omega)⟩
        (refine run ?_; repeat intro b)
        refine s_gpureO rfl rfl rfl rfl rfl (fun hg => ?_) ?_
        · have h0 := hk0 hg.1
          rw [ew h0, Int.toNat_natCast]
          exact (hy h0).2.2
        (refine run ?_; repeat intro b)
        refine s_gload (S y.name) rfl rfl rfl rfl rfl rfl (fun hg => ?_) ?_
        · have h0 := hk0 hg.1
          rw [ew h0, Int.toNat_natCast]
          exact (hy h0).2.1
        (refine run ?_; repeat intro b)
        refine s_gplain _ rfl rfl rfl rfl bd83 rfl rfl (fun hg => ahead_ok y.name x.name wy.name wx.name F) ?_
        (refine run ?_; repeat intro b)
        refine s_if ((prevN l k).any fun p => !ahead p x.name) ?_ (fun h => ?_) (fun h => ?_)
        · refine congrArg (fun b => some (EV.v (.bool b))) ?_
          rw [bpick_and]
          by_cases h0 : 0 < k
          · have hp := (hy h0).1
            have hgy := hgo _ hp
            have e0 : decide ((0 : Int) < (k : Int)) = true := decide_eq_true (by omega)
            rw [hp, e0]
            rfl
          · obtain rfl : k = 0 := by omega
            rfl
        · rw [if_pos h] at hu
          rw [hu]
          (refine run ?_; repeat intro b)
          rfl
        · rw [if_neg (by rw [h]; decide)] at hu
          rw [hnx] at hu
          (refine run ?_; repeat intro b)
          rw [wrap_succ (by omega)]
          exact s_loopPc (k + 1) [0] [0, 8, 9, 10] ⟨hlt, by rw [hnx]; exact hu, fun q h => by rw [hnx] at h; cases h; exact hg⟩ (by omega) rfl rfl rfl rfl trivial rfl
    · have hge : k = l.length := by omega
      subst hge
      rw [List.drop_length] at hu
      rw [hu]
      (refine run ?_; repeat intro b)
      refine s_if false (by rw [← decide_eq_false (p := ((l.length : Nat) : Int) < ((l.length : Nat) : Int)) (by omega)]; rfl) (fun h => by cases h) (fun _ => ?_)
      (refine run ?_; repeat intro b)
      rfl
end Go.Proofs.YthkkgphjjmhglaaGreatDoor
