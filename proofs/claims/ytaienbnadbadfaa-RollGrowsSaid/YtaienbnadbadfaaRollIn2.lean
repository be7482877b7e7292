/-
Package roll: In; the reference's RollIn.
-/
import Derived.Test.YtaienbnadbadfaaRollIn
namespace Go.Proofs.Ytaienbnadbadfaa
set_option linter.unusedVariables false
set_option linter.unusedSimpArgs false
open Go.TR
def inBad (l : List (List UInt8)) (i : Int) : Bool := decide (i < 0) || decide ((l.length : Int) ≤ i)
def inE (l : List (List UInt8)) (i : Int) : Int := if rollFault l = 0 then (if inBad l i = true then 4 else 0) else rollFault l
def inL (l : List (List UInt8)) (i : Int) : List Nat := if inE l i = 0 then inN l i.toNat else []
theorem inE_zero {l : List (List UInt8)} {i : Int} (h : inE l i = 0) : rollFault l = 0 ∧ 0 ≤ i ∧ i < l.length := by
  unfold inE at h
  split at h
  · rename_i h1
    split at h
    · cases h
    · rename_i h2
      unfold inBad at h2
      simp at h2
      exact ⟨h1, h2.1, h2.2⟩
  · rename_i h1
    exact absurd h h1
theorem inN_len {l : List (List UInt8)} (i : Nat) : (inN l i).length ≤ l.length := inF_len _ _ _
attribute [local irreducible] vc vcOps seqK blockK loopK retK retG retI loopV Plain CallOK CallIn bodied VS vcAny dropG backK brK loopPK IntKind.wrap
set_option maxRecDepth 100000
set_option maxHeartbeats 1000000 in
theorem In_ok (l : List (List UInt8)) (i : Int) {p : Option Addr} {c : Nat} {F : Hp} (hf : Frow F p (l.map S)) (hl : l.length ≤ 4611686018427387904) (hc : l.length ≤ c) : CallF Try.prog F 81 [.slice p l.length c, i64 i] (fun x F' => ∃ p c, x = pair (.slice p (inL l i).length c) (i64 (inE l i)) ∧ Frow F' p ((inL l i).map nu)) := by
  refine call_vc (N := 23) (rv := [.tmp 4, .tmp 5]) tbok mixed Try.func81 rfl rfl rfl rfl rfl ?_
  (refine run ?_; repeat intro b)
  refine s_plain _ rfl rfl rfl bd128 rfl (rollcheck_ok l hf hl) ?_
  (refine run ?_; repeat intro b)
  refine s_if _ rfl (fun h => ?_) (fun h => ?_)
  · have h2 : ¬ rollFault l = 0 := by simpa using h
    have e1 : inE l i = rollFault l := by unfold inE; rw [if_neg h2]
    have e2 : inL l i = [] := by unfold inL; rw [e1, if_neg h2]
    (refine run ?_; repeat intro b)
    refine s_retG (VS.id ⟨_, rfl, rfl, none, 0, by rw [e1, e2]; rfl, by rw [e2]; exact frow_nil _ _⟩)
  · have h2 : rollFault l = 0 := by simpa using h
    obtain ⟨h3, h4, h5⟩ := rollFault_zero h2
    (refine run ?_; repeat intro b)
    refine s_if (inBad l i) ?_ (fun h6 => ?_) (fun h6 => ?_)
    · refine congrArg (fun b => some (EV.v (.bool b))) ?_
      rw [bpick_or]
      rfl
    · have e1 : inE l i = 4 := by unfold inE; rw [if_pos h2, if_pos h6]
      have e2 : inL l i = [] := by unfold inL; rw [e1]; rfl
      (refine run ?_; repeat intro b)
      refine s_retG (VS.id ⟨_, rfl, rfl, none, 0, by rw [e1, e2]; rfl, by rw [e2]; exact frow_nil _ _⟩)
    · have e1 : inE l i = 0 := by unfold inE; rw [if_pos h2, if_neg (by rw [h6]; decide)]
      obtain ⟨_, h7, h8⟩ := inE_zero e1
      have e2 : inL l i = inN l i.toNat := by unfold inL; rw [if_pos e1]
      have hi : i = ((i.toNat : Nat) : Int) := (Int.toNat_of_nonneg h7).symm
      (refine run ?_; repeat intro b)
      rw [hi]
      rw [← hi, e1, e2]
      have ih := in_ok l.length l i.toNat p c F (Nat.le_refl _) (by omega) h4 hc h5 hf
      rw [← hi] at ih
      refine s_callR (R := fun _ cs => cs = (inN l i.toNat).map nu) (fun x F' new h => ⟨_, h, rfl⟩) rfl rfl rfl bd130 rfl ih (fun hk0 F1 p1 cs hF1 hcs => ?_) (fun hk1 F1 b1 c1 cs hF1 hc1 hcs => ?_)
      · have hnil : inN l i.toNat = [] := List.eq_nil_of_length_eq_zero hk0
        (refine run ?_; repeat intro b)
        refine s_retG (VS.id ⟨_, rfl, rfl, p1, 0, by rw [hnil]; rfl, by rw [hnil]; exact frow_nil _ _⟩)
      · subst hcs
        (refine run ?_; repeat intro b)
        refine s_retG ?_
        refine VS.freeze 0 [4, 5] rfl (allV_map_v _) rfl rfl fun F' hs1 hf1 => VS.id ⟨_, rfl, rfl, some ⟨b1, 0, none⟩, c1, rfl, hf1⟩
theorem one_nus {rs : RL} (l : List Nat) : oneAll rs ((l.map nu).map .v) := one_v rs fun x hx => by
  obtain ⟨n, _, rfl⟩ := List.mem_map.1 hx
  rfl
/-- The states of RollIn's loop. -/
def rinRs (out : List Nat) : Option (Nat × Nat) → RL
  | none => []
  | some (b, cap) => [(0, ⟨some b, (out.map nu).map EV.v, 42, cap * 1⟩)]
def rinE (n : Nat) : Option (Nat × Nat) → EV
  | none => .v (.slice none 0 0)
  | some (_, cap) => .row 0 0 n cap
def rinNx : Option (Nat × Nat) → Nat
  | none => 0
  | some _ => 1
set_option maxHeartbeats 2000000 in
theorem refrollin_ok (l : List (List UInt8)) (i : Nat) {p : Option Addr} {c : Nat} {F : Hp} (hf : Frow F p (l.map S)) (hl : l.length ≤ 40) (hs : ∀ s ∈ l, s.length ≤ 40) (hi : i < l.length) : CallF Try.prog F 86 [.slice p l.length c, i64 (i : Nat)] (fun x F' => ∃ p c, x = .slice p (inN l i).length c ∧ Frow F' p ((inN l i).map nu)) := by
  refine call_vc (N := 40) (rv := [.tmp 4]) tbok mixed Try.func86 rfl rfl rfl rfl rfl ?_
  (refine run ?_; repeat intro b)
  refine s_loopP (fun q : Nat × Nat × List Nat × Nat × Option (Nat × Nat) => q.1 ≤ i ∧ i < q.2.1 ∧ q.2.1 ≤ l.length ∧ inN l i = inN (cut l q.1 q.2.1) (i - q.1) ++ q.2.2.1 ∧ q.2.2.2.1 = q.2.2.1.length ∧ (q.2.2.2.2 = none → q.2.2.1 = []) ∧ (∀ x, q.2.2.2.2 = some x → q.2.2.2.1 ≤ x.2))
    (fun q => ⟨[(0, .v (.slice p l.length c)), (1, .v (i64 (i : Nat))), (5, .v (i64 (q.1 : Nat))), (6, .v (i64 (q.2.1 : Nat))), (7, rinE q.2.2.2.1 q.2.2.2.2)], F, rinRs q.2.2.1 q.2.2.2.2, rinNx q.2.2.2.2⟩) (fun q => q.2.1 - q.1) (0, l.length, [], 0, none) ⟨Nat.zero_le _, hi, Nat.le_refl _, by rw [cut_all]; simp, rfl, fun _ => rfl, by simp⟩ (VS.keepN [0, 1, 5, 6, 7] rfl rfl) ?_
  rintro ⟨from', to', out, n, u⟩ ⟨h1, h2, h3, h4, h5, h6, h7⟩
  dsimp only at h1 h2 h3 h4 h5 h6 h7 ⊢
  have hb := inN_len (l := l) i
  have hout : out.length ≤ (inN l i).length := by rw [h4]; simp
  have hcl := cut_len (l := l) (i := from') h3
  have ew : IntKind.i64.wrap ((to' : Int) - (from' : Int)) = ((to' - from' : Nat) : Int) := by rw [wrap_i64 (by omega) (by omega)]; omega
  (refine run ?_; repeat intro b)
  rw [ew]
  refine s_if (decide (1 < to' - from')) ?_ (fun h => ?_) (fun h => ?_)
  · refine congrArg (fun b => some (EV.v (.bool b))) ?_
    rw [decide_eq_decide]; omega
  · have h8 : 1 < to' - from' := of_decide_eq_true h
    have hr := half_range (n := to' - from') (by omega)
    (refine run ?_; repeat intro b)
    rw [ew]
    refine s_plain _ rfl rfl rfl bd133 rfl (refhalf_ok (to' - from') (by omega) F) ?_
    have ew2 : IntKind.i64.wrap ((from' : Int) + ((half (to' - from') : Nat) : Int)) = ((from' + half (to' - from') : Nat) : Int) := by rw [wrap_i64 (by omega) (by omega)]; omega
    (refine run ?_; repeat intro b)
    rw [ew2]
    obtain ⟨k, hk⟩ : ∃ k, k = from' + half (to' - from') := ⟨_, rfl⟩
    rw [← hk]
    refine s_plain _ rfl rfl rfl bd84 rfl (refrollmark_ok l hf hl hs to' k to' (by omega) (by omega) h3) ?_
    (refine run ?_; repeat intro b)
    refine s_if (decide (i < k)) ?_ (fun h9 => ?_) (fun h9 => ?_)
    · refine congrArg (fun b => some (EV.v (.bool b))) ?_
      rw [decide_eq_decide]; omega
    · have h10 : i < k := of_decide_eq_true h9
      have hkl : k ≤ l.length := by omega
      have h11 : inN l i = inN (cut l from' k) (i - from') ++ (rootN (cut l k to') :: out) := by
        rw [h4, inN_left (l := cut l from' to') (by omega) (by rw [hcl]; omega), hcl, cut_take (by omega), cut_drop, ← hk, List.append_assoc]
        rfl
      cases u with
      | none =>
        have hn := h6 rfl
        subst hn
        (refine run ?_; repeat intro b)
        refine s_appR rfl rfl rfl rfl rfl rfl rfl rfl (src_frz (cs := []) rfl (frow_nil _ _)) (fun e he => by simp at he) (fun h => by cases h) (Nat.le_refl 1) rfl (Nat.le_refl 1) (by decide) (fun _ => ?_) (fun h => by cases h)
        (refine run ?_; repeat intro b)
        exact s_loopPq (from', k, [(rootN (cut l k to'))], 1, some (b, 1)) 0 [(0, 0)] [0, 1, 5, 6, 7] [(0, ⟨some b, ([(rootN (cut l k to'))].map nu).map EV.v, 42, 1⟩)] ⟨h1, h10, hkl, by rw [h11], rfl, (fun h => by cases h), fun x hx => by cases hx; exact Nat.le_refl _⟩ (by simp only; omega) (Nat.min_le_left _ _)
          ⟨rfl, ⟨_, rfl, rfl, rfl, rfl, .inr rfl⟩, trivial⟩ rfl rfl rfl rfl rfl rfl rfl
      | some x =>
        obtain ⟨b0, c0⟩ := x
        (refine run ?_; repeat intro b)
        refine s_appR rfl rfl rfl rfl rfl rfl rfl rfl (src_row rfl (by simp [h5])) (one_nus out) (fun h => by cases h) (Nat.le_refl 1) rfl (Nat.le_refl 1) (by show _ * 8 ≤ _; omega) (fun hm => ?_) (fun _ b2 c2 hc2 => ?_)
        · (refine run ?_; repeat intro b)
          have hn : out = [] := List.eq_nil_of_length_eq_zero (by omega)
          subst hn
          subst hm
          exact s_loopPq (from', k, [(rootN (cut l k to'))], 1, some (b, 1)) 0 [(1, 0)] [0, 1, 5, 6, 7] [(0, ⟨some b, ([(rootN (cut l k to'))].map nu).map EV.v, 42, 1⟩)] ⟨h1, h10, hkl, by rw [h11], rfl, (fun h => by cases h), fun x hx => by cases hx; exact Nat.le_refl _⟩ (by simp only; omega) (Nat.min_le_left _ _)
            ⟨rfl, ⟨_, rfl, rfl, rfl, rfl, .inr rfl⟩, trivial⟩ rfl rfl rfl rfl rfl rfl rfl
        · (refine run ?_; repeat intro b)
          exact s_loopPq (from', k, (rootN (cut l k to')) :: out, 1 + n, some (b2, c2)) 0 [(2, 0)] [0, 1, 5, 6, 7] [(0, ⟨some b2, (((rootN (cut l k to')) :: out).map nu).map EV.v, 42, c2 * 1⟩)] ⟨h1, h10, hkl, by rw [h11], by simp only [List.length_cons]; omega, (fun h => by cases h), fun x hx => by cases hx; exact hc2⟩ (by simp only; omega) (Nat.min_le_left _ _)
            ⟨rfl, ⟨_, rfl, rfl, rfl, rfl, .inl ⟨rfl, fun e he => all_v (((rootN (cut l k to')) :: out).map nu) e he⟩⟩, trivial⟩ rfl rfl rfl rfl rfl rfl rfl
    · have h10 : ¬ i < k := of_decide_eq_false h9
      have hki : k ≤ i := by omega
      have h11 : inN l i = inN (cut l k to') (i - k) ++ (rootN (cut l from' k) :: out) := by
        rw [h4, inN_right (l := cut l from' to') (by omega) (by rw [hcl]; omega), hcl, cut_take (by omega), cut_drop, ← hk, List.append_assoc]
        have : i - from' - half (to' - from') = i - k := by omega
        rw [this]
        rfl
      (refine run ?_; repeat intro b)
      refine s_plain _ rfl rfl rfl bd84 rfl (refrollmark_ok l hf hl hs k from' k (by omega) (by omega) (by omega)) ?_
      cases u with
      | none =>
        have hn := h6 rfl
        subst hn
        (refine run ?_; repeat intro b)
        refine s_appR rfl rfl rfl rfl rfl rfl rfl rfl (src_frz (cs := []) rfl (frow_nil _ _)) (fun e he => by simp at he) (fun h => by cases h) (Nat.le_refl 1) rfl (Nat.le_refl 1) (by decide) (fun _ => ?_) (fun h => by cases h)
        (refine run ?_; repeat intro b)
        exact s_loopPq (k, to', [(rootN (cut l from' k))], 1, some (b, 1)) 0 [(0, 0)] [0, 1, 5, 6, 7] [(0, ⟨some b, ([(rootN (cut l from' k))].map nu).map EV.v, 42, 1⟩)] ⟨hki, h2, h3, by rw [h11], rfl, (fun h => by cases h), fun x hx => by cases hx; exact Nat.le_refl _⟩ (by simp only; omega) (Nat.min_le_left _ _)
          ⟨rfl, ⟨_, rfl, rfl, rfl, rfl, .inr rfl⟩, trivial⟩ rfl rfl rfl rfl rfl rfl rfl
      | some x =>
        obtain ⟨b0, c0⟩ := x
        (refine run ?_; repeat intro b)
        refine s_appR rfl rfl rfl rfl rfl rfl rfl rfl (src_row rfl (by simp [h5])) (one_nus out) (fun h => by cases h) (Nat.le_refl 1) rfl (Nat.le_refl 1) (by show _ * 8 ≤ _; omega) (fun hm => ?_) (fun _ b2 c2 hc2 => ?_)
        · (refine run ?_; repeat intro b)
          have hn : out = [] := List.eq_nil_of_length_eq_zero (by omega)
          subst hn
          subst hm
          exact s_loopPq (k, to', [(rootN (cut l from' k))], 1, some (b, 1)) 0 [(1, 0)] [0, 1, 5, 6, 7] [(0, ⟨some b, ([(rootN (cut l from' k))].map nu).map EV.v, 42, 1⟩)] ⟨hki, h2, h3, by rw [h11], rfl, (fun h => by cases h), fun x hx => by cases hx; exact Nat.le_refl _⟩ (by simp only; omega) (Nat.min_le_left _ _)
            ⟨rfl, ⟨_, rfl, rfl, rfl, rfl, .inr rfl⟩, trivial⟩ rfl rfl rfl rfl rfl rfl rfl
        · (refine run ?_; repeat intro b)
          exact s_loopPq (k, to', (rootN (cut l from' k)) :: out, 1 + n, some (b2, c2)) 0 [(2, 0)] [0, 1, 5, 6, 7] [(0, ⟨some b2, (((rootN (cut l from' k)) :: out).map nu).map EV.v, 42, c2 * 1⟩)] ⟨hki, h2, h3, by rw [h11], by simp only [List.length_cons]; omega, (fun h => by cases h), fun x hx => by cases hx; exact hc2⟩ (by simp only; omega) (Nat.min_le_left _ _)
            ⟨rfl, ⟨_, rfl, rfl, rfl, rfl, .inl ⟨rfl, fun e he => all_v (((rootN (cut l from' k)) :: out).map nu) e he⟩⟩, trivial⟩ rfl rfl rfl rfl rfl rfl rfl
  · have h8 : ¬ 1 < to' - from' := of_decide_eq_false h
    have h9 : inN l i = out := by rw [h4, inN_one (by omega)]; rfl
    cases u with
    | none =>
      have hn := h6 rfl
      subst hn
      (refine run ?_; repeat intro b)
      refine s_retG (VS.id ⟨_, rfl, rfl, none, 0, by rw [h9]; rfl, by rw [h9]; exact frow_nil _ _⟩)
    | some x =>
      obtain ⟨b0, c0⟩ := x
      (refine run ?_; repeat intro b)
      refine s_retG ?_
      refine VS.freeze 0 [4] rfl (allV_map_v _) rfl rfl fun F' hs1 hf1 => VS.id ⟨_, rfl, rfl, some ⟨b0, 0, none⟩, c0, by rw [h9, ← h5]; rfl, by rw [h9]; exact hf1⟩
end Go.Proofs.Ytaienbnadbadfaa
