/-
Package roll: Grew, IsGrown: the walks.
-/
import Derived.Test.YthkmfihbpbehfaaGrowMath
namespace Go.Proofs.Ythkmfihbpbehfaa
set_option linter.unusedVariables false
set_option linter.unusedSimpArgs false
open Go.TR
theorem eq_val {a b : Nat} : (((a : Nat) : Int) == ((b : Nat) : Int)) = decide (a = b) := by
  rw [Bool.eq_iff_iff]
  simp only [beq_iff_eq, decide_eq_true_eq]
  omega
attribute [local irreducible] vc vcOps seqK blockK loopK retK retG retI loopV Plain CallOK CallIn bodied VS vcAny dropG backK brK loopPK IntKind.wrap
set_option maxRecDepth 100000
set_option maxHeartbeats 1000000 in
theorem grew_ok : ∀ (f : Nat) (l : List (List UInt8)) (m : Nat) (w : Bool) (p : Option Addr) (c : Nat) (F : Hp), l.length ≤ f → 1 ≤ m → m ≤ l.length → l.length ≤ 40 → l.length ≤ c → (∀ s ∈ l, s.length ≤ 40) → Frow F p (l.map S) →
    CallOK Try.prog F 139 [.slice p l.length c, i64 (m : Nat), .bool w] (fun x _ new => RowBack 26 1 ((grewN l m w).map nu) (grewN l m w).length x new)
  | 0, l, m, w, p, c, F, h0, h1, hm, _, _, _, _ => by omega
  | f + 1, l, m, w, p, c, F, h0, h1, hm, h40, hc, hs, hf => by
    refine call_vc (N := 48) (rv := [.tmp 6]) tbok mixed Try.func139 rfl rfl rfl rfl rfl ?_
    (refine run ?_; repeat intro b)
    refine s_if (decide (m = l.length)) ?_ (fun h => ?_) (fun h => ?_)
    · exact congrArg (fun b => some (EV.v (.bool b))) eq_val
    · have h2 : m = l.length := of_decide_eq_true h
      have hend := grewN_end (l := l) (m := m) (w := w) (by omega) (by omega)
      (refine run ?_; repeat intro b)
      refine s_if w rfl (fun hw => ?_) (fun hw => ?_)
      · rw [if_pos hw] at hend
        (refine run ?_; repeat intro b)
        refine s_retG (VS.id ⟨_, rfl, ?_⟩)
        rw [hend]
        exact .inl ⟨rfl, rfl, none, rfl⟩
      · rw [if_neg (by rw [hw]; decide)] at hend
        (refine run ?_; repeat intro b)
        refine s_plain _ rfl rfl rfl bd138 rfl (root_ok F _ l p c (Nat.le_refl _) (by omega) h40 hc hs hf) ?_
        (refine run ?_; repeat intro b)
        refine s_retG (VS.id ⟨_, rfl, ?_⟩)
        rw [hend]
        exact .inr ⟨Nat.one_pos, b, 1, Nat.le_refl _, rfl, rfl⟩
    · have h2 : ¬ m = l.length := of_decide_eq_false h
      have hr := half_range (n := l.length) (by omega)
      have e1 : (l.take (half l.length)).length = half l.length := by rw [List.length_take]; omega
      have e2 : (l.drop (half l.length)).length = l.length - half l.length := by rw [List.length_drop]
      have fr1 : Frow F (slBase p 0 c 1) ((l.take (half l.length)).map S) := by rw [slBase_zero]; exact frow_strs_take hf _
      have fr2 : Frow F (slBase p (half l.length) c 1) ((l.drop (half l.length)).map S) := frow_strs_drop hf (by omega)
      have hs1 : ∀ s ∈ l.take (half l.length), s.length ≤ 40 := fun s h => hs s (List.mem_of_mem_take h)
      have hs2 : ∀ s ∈ l.drop (half l.length), s.length ≤ 40 := fun s h => hs s (List.mem_of_mem_drop h)
      have hrt2 : ∀ F1, F.sub F1 → Plain Try.prog F1 138 [.slice (slBase p (half l.length) c 1) (l.length - half l.length) (c - half l.length)] (u64 (rootN (l.drop (half l.length)) : Nat)) := fun F1 hF1 => by
        have := root_ok F1 _ (l.drop (half l.length)) (slBase p (half l.length) c 1) (c - half l.length) (Nat.le_refl _) (by omega) (by omega) (by omega) hs2 (frow_sub hF1 fr2)
        rw [e2] at this
        exact this
      have hrt1 : ∀ F1, F.sub F1 → Plain Try.prog F1 138 [.slice (slBase p 0 c 1) (half l.length) c] (u64 (rootN (l.take (half l.length)) : Nat)) := fun F1 hF1 => by
        have := root_ok F1 _ (l.take (half l.length)) (slBase p 0 c 1) c (Nat.le_refl _) (by omega) (by omega) (by omega) hs1 (frow_sub hF1 fr1)
        rw [e1] at this
        exact this
      (refine run ?_; repeat intro b)
      refine s_plain _ rfl rfl rfl bd166 rfl (rollhalf_ok l.length (by omega) F) ?_
      (refine run ?_; repeat intro b)
      refine s_if (decide (m ≤ half l.length)) ?_ (fun h3 => ?_) (fun h3 => ?_)
      · refine congrArg (fun b => some (EV.v (.bool b))) ?_
        rw [decide_eq_decide]; omega
      · have h4 : m ≤ half l.length := of_decide_eq_true h3
        have ih := grew_ok f (l.take (half l.length)) m w (slBase p 0 c 1) c F (by omega) h1 (by omega) (by omega) (by omega) hs1 fr1
        rw [e1] at ih
        have hlen : (grewN (l.take (half l.length)) m w).length ≤ 40 := by have := grewN_len (l := l.take (half l.length)) m w; omega
        (refine run ?_; repeat intro b)
        refine s_regiona [] (by kernel_rfl) ?_
        refine s_firsts [0, 1, 2, 3, 4, 6, 7, 8] (f' := 5) (by kernel_rfl) rfl rfl rfl ?_
        (refine run ?_; repeat intro b)
        refine s_pureO rfl rfl rfl ⟨by omega, by omega⟩ ?_
        (refine run ?_; repeat intro b)
        refine s_pureO rfl rfl rfl ⟨by omega, by omega, by omega⟩ ?_
        rw [Int.toNat_natCast]
        (refine run ?_; repeat intro b)
        have hin := grewN_left (l := l) (w := w) (by omega) h1 h4
        refine s_one 5 (by kernel_rfl) rfl rfl ?_
        refine s_callR (R := fun _ cs => cs = (grewN (l.take (half l.length)) m w).map nu) (fun x F' new h => ⟨_, h, rfl⟩) rfl rfl rfl bd139 rfl ih (fun hk0 F1 p1 cs hF1 hcs => ?_) (fun hk1 F1 b1 c1 cs hF1 hc1 hcs => ?_)
        · (refine run ?_; repeat intro b)
          refine s_br hF1 trivial ?_
          refine s_one 9 (by kernel_rfl) rfl rfl ?_
          refine s_plain _ rfl rfl rfl bd138 rfl (hrt2 F1 hF1) ?_
          (refine run ?_; repeat intro b)
          refine s_br (Hp.sub.refl _) trivial ?_
          refine s_one 10 (by kernel_rfl) rfl rfl ?_
          (refine run ?_; repeat intro b)
          refine s_br (Hp.sub.refl _) trivial ?_
          refine s_one 11 (by kernel_rfl) rfl rfl ?_
          refine s_appV [] rfl rfl rfl rfl rfl rfl rfl (frow_nil _ _) (src_row rfl rfl) one1 (by decide) (fun h => by cases h) (fun _ b2 c2 hc2 => ?_)
          (refine run ?_; repeat intro b)
          refine s_br (Hp.sub.refl _) trivial ?_
          refine s_firsts [12] (f' := 0) (by kernel_rfl) rfl rfl rfl ?_
          (refine run ?_; repeat intro b)
          refine s_stop (by kernel_rfl) ?_
          (refine run ?_; repeat intro b)
          have hnil : (grewN (l.take (half l.length)) m w) = [] := List.eq_nil_of_length_eq_zero hk0
          rw [hnil, List.nil_append] at hin
          refine s_retGf (VSf.ren (nx' := 1) [(1, 0)] [6] [(0, ⟨some b2, ((grewN l m w).map nu).map EV.v, 26, c2 * 1⟩)] ⟨rfl, ⟨_, rfl, rfl, rfl, rfl, .inl ⟨by rw [hin]; rfl, fun e he => ?_⟩⟩, trivial⟩ rfl rfl rfl rfl rfl rfl ⟨_, rfl, .inr ⟨by rw [hin]; simp, b2, c2, by rw [hin]; exact hc2, rfl, by rw [hin]; rfl⟩⟩)
          revert he
          simp only [List.map_nil, List.nil_append, List.mem_singleton]
          rintro rfl
          exact ⟨_, rfl⟩
        · (refine run ?_; repeat intro b)
          refine s_br hF1 trivial ?_
          refine s_one 9 (by kernel_rfl) rfl rfl ?_
          refine s_plain _ rfl rfl rfl bd138 rfl (hrt2 F1 hF1) ?_
          (refine run ?_; repeat intro b)
          refine s_br (Hp.sub.refl _) trivial ?_
          refine s_one 10 (by kernel_rfl) rfl rfl ?_
          (refine run ?_; repeat intro b)
          refine s_br (Hp.sub.refl _) trivial ?_
          refine s_one 11 (by kernel_rfl) rfl rfl ?_
          subst hcs
          refine s_appR rfl rfl rfl rfl rfl rfl rfl rfl (src_row rfl rfl) one1 (fun h => by cases h) hc1 rfl (by simp) (by show _ * 8 ≤ _; omega) (fun h => by cases h) (fun _ b2 c2 hc2 => ?_)
          (refine run ?_; repeat intro b)
          refine s_br (Hp.sub.refl _) trivial ?_
          refine s_firsts [12] (f' := 0) (by kernel_rfl) rfl rfl rfl ?_
          (refine run ?_; repeat intro b)
          refine s_stop (by kernel_rfl) ?_
          (refine run ?_; repeat intro b)
          have hcells := nus_cells (grewN (l.take (half l.length)) m w) (rootN (l.drop (half l.length))) _ rfl
          rw [← hin] at hcells
          have hlen2 : (grewN l m w).length = (grewN (l.take (half l.length)) m w).length + 1 := by rw [hin]; simp
          refine s_retGf (VSf.ren (nx' := 1) [(2, 0)] [6] [(0, ⟨some b2, ((grewN l m w).map nu).map EV.v, 26, c2 * 1⟩)] ⟨rfl, ⟨_, rfl, rfl, rfl, rfl, .inl ⟨hcells, fun e he => ?_⟩⟩, trivial⟩ rfl rfl rfl rfl rfl rfl ⟨_, rfl, .inr ⟨by omega, b2, c2, by omega, rfl, by rw [hlen2]; rfl⟩⟩)
          have he' := hcells ▸ he
          exact all_v _ e he'
      · have h4 : ¬ m ≤ half l.length := of_decide_eq_false h3
        have ih := grew_ok f (l.drop (half l.length)) (m - half l.length) false (slBase p (half l.length) c 1) (c - half l.length) F (by omega) (by omega) (by omega) (by omega) (by omega) hs2 fr2
        rw [e2] at ih
        have hlen : (grewN (l.drop (half l.length)) (m - half l.length) false).length ≤ 40 := by have := grewN_len (l := l.drop (half l.length)) (m - half l.length) false; omega
        have ew : IntKind.i64.wrap ((m : Int) - ((half l.length : Nat) : Int)) = ((m - half l.length : Nat) : Int) := by rw [wrap_i64 (by omega) (by omega)]; omega
        (refine run ?_; repeat intro b)
        refine s_regiona [] (by kernel_rfl) ?_
        refine s_firsts [0, 1, 2, 3, 4, 5, 7, 8, 9] (f' := 5) (by kernel_rfl) rfl rfl rfl ?_
        (refine run ?_; repeat intro b)
        refine s_pureO rfl rfl rfl ⟨by omega, by omega, by omega⟩ ?_
        (refine run ?_; repeat intro b)
        refine s_pureO rfl rfl rfl ⟨by omega, by omega⟩ ?_
        rw [Int.toNat_natCast, ew]
        (refine run ?_; repeat intro b)
        have hin := grewN_right (l := l) (w := w) (by omega) h1 h4
        refine s_one 6 (by kernel_rfl) rfl rfl ?_
        refine s_callR (R := fun _ cs => cs = (grewN (l.drop (half l.length)) (m - half l.length) false).map nu) (fun x F' new h => ⟨_, h, rfl⟩) rfl rfl rfl bd139 rfl ih (fun hk0 F1 p1 cs hF1 hcs => ?_) (fun hk1 F1 b1 c1 cs hF1 hc1 hcs => ?_)
        · (refine run ?_; repeat intro b)
          refine s_br hF1 trivial ?_
          refine s_one 10 (by kernel_rfl) rfl rfl ?_
          refine s_plain _ rfl rfl rfl bd138 rfl (hrt1 F1 hF1) ?_
          (refine run ?_; repeat intro b)
          refine s_br (Hp.sub.refl _) trivial ?_
          refine s_one 11 (by kernel_rfl) rfl rfl ?_
          (refine run ?_; repeat intro b)
          refine s_br (Hp.sub.refl _) trivial ?_
          refine s_one 12 (by kernel_rfl) rfl rfl ?_
          refine s_appV [] rfl rfl rfl rfl rfl rfl rfl (frow_nil _ _) (src_row rfl rfl) one1 (by decide) (fun h => by cases h) (fun _ b2 c2 hc2 => ?_)
          (refine run ?_; repeat intro b)
          refine s_br (Hp.sub.refl _) trivial ?_
          refine s_firsts [13] (f' := 0) (by kernel_rfl) rfl rfl rfl ?_
          (refine run ?_; repeat intro b)
          refine s_stop (by kernel_rfl) ?_
          (refine run ?_; repeat intro b)
          have hnil : (grewN (l.drop (half l.length)) (m - half l.length) false) = [] := List.eq_nil_of_length_eq_zero hk0
          rw [hnil, List.nil_append] at hin
          refine s_retGf (VSf.ren (nx' := 1) [(1, 0)] [6] [(0, ⟨some b2, ((grewN l m w).map nu).map EV.v, 26, c2 * 1⟩)] ⟨rfl, ⟨_, rfl, rfl, rfl, rfl, .inl ⟨by rw [hin]; rfl, fun e he => ?_⟩⟩, trivial⟩ rfl rfl rfl rfl rfl rfl ⟨_, rfl, .inr ⟨by rw [hin]; simp, b2, c2, by rw [hin]; exact hc2, rfl, by rw [hin]; rfl⟩⟩)
          revert he
          simp only [List.map_nil, List.nil_append, List.mem_singleton]
          rintro rfl
          exact ⟨_, rfl⟩
        · (refine run ?_; repeat intro b)
          refine s_br hF1 trivial ?_
          refine s_one 10 (by kernel_rfl) rfl rfl ?_
          refine s_plain _ rfl rfl rfl bd138 rfl (hrt1 F1 hF1) ?_
          (refine run ?_; repeat intro b)
          refine s_br (Hp.sub.refl _) trivial ?_
          refine s_one 11 (by kernel_rfl) rfl rfl ?_
          (refine run ?_; repeat intro b)
          refine s_br (Hp.sub.refl _) trivial ?_
          refine s_one 12 (by kernel_rfl) rfl rfl ?_
          subst hcs
          refine s_appR rfl rfl rfl rfl rfl rfl rfl rfl (src_row rfl rfl) one1 (fun h => by cases h) hc1 rfl (by simp) (by show _ * 8 ≤ _; omega) (fun h => by cases h) (fun _ b2 c2 hc2 => ?_)
          (refine run ?_; repeat intro b)
          refine s_br (Hp.sub.refl _) trivial ?_
          refine s_firsts [13] (f' := 0) (by kernel_rfl) rfl rfl rfl ?_
          (refine run ?_; repeat intro b)
          refine s_stop (by kernel_rfl) ?_
          (refine run ?_; repeat intro b)
          have hcells := nus_cells (grewN (l.drop (half l.length)) (m - half l.length) false) (rootN (l.take (half l.length))) _ rfl
          rw [← hin] at hcells
          have hlen2 : (grewN l m w).length = (grewN (l.drop (half l.length)) (m - half l.length) false).length + 1 := by rw [hin]; simp
          refine s_retGf (VSf.ren (nx' := 1) [(2, 0)] [6] [(0, ⟨some b2, ((grewN l m w).map nu).map EV.v, 26, c2 * 1⟩)] ⟨rfl, ⟨_, rfl, rfl, rfl, rfl, .inl ⟨hcells, fun e he => ?_⟩⟩, trivial⟩ rfl rfl rfl rfl rfl rfl ⟨_, rfl, .inr ⟨by omega, b2, c2, by omega, rfl, by rw [hlen2]; rfl⟩⟩)
          have he' := hcells ▸ he
          exact all_v _ e he'
def grewBad (l : List (List UInt8)) (m : Int) : Bool := decide (m < 1) || decide ((l.length : Int) < m)
def grewE (l : List (List UInt8)) (m : Int) : Int := if rollFault l = 0 then (if grewBad l m = true then 4 else 0) else rollFault l
def grewL (l : List (List UInt8)) (m : Int) : List Nat := if grewE l m = 0 then grewN l m.toNat true else []
theorem grewE_zero {l : List (List UInt8)} {m : Int} (h : grewE l m = 0) : rollFault l = 0 ∧ 1 ≤ m ∧ m ≤ l.length := by
  unfold grewE at h
  split at h
  · rename_i h1
    split at h
    · cases h
    · rename_i h2
      unfold grewBad at h2
      simp at h2
      exact ⟨h1, by omega, by omega⟩
  · rename_i h1
    exact absurd h h1
set_option maxHeartbeats 1000000 in
theorem Grew_ok (l : List (List UInt8)) (m : Int) {p : Option Addr} {c : Nat} {F : Hp} (hf : Frow F p (l.map S)) (hl : l.length ≤ 4611686018427387904) (hc : l.length ≤ c) : CallF Try.prog F 99 [.slice p l.length c, i64 m] (fun x F' => ∃ p c, x = pair (.slice p (grewL l m).length c) (i64 (grewE l m)) ∧ Frow F' p ((grewL l m).map nu)) := by
  refine call_vc (N := 23) (rv := [.tmp 4, .tmp 5]) tbok mixed Try.func99 rfl rfl rfl rfl rfl ?_
  (refine run ?_; repeat intro b)
  refine s_plain _ rfl rfl rfl bd137 rfl (rollcheck_ok l hf hl) ?_
  (refine run ?_; repeat intro b)
  refine s_if _ rfl (fun h => ?_) (fun h => ?_)
  · have h2 : ¬ rollFault l = 0 := by simpa using h
    have e1 : grewE l m = rollFault l := by unfold grewE; rw [if_neg h2]
    have e2 : grewL l m = [] := by unfold grewL; rw [e1, if_neg h2]
    (refine run ?_; repeat intro b)
    refine s_retG (VS.id ⟨_, rfl, rfl, none, 0, by rw [e1, e2]; rfl, by rw [e2]; exact frow_nil _ _⟩)
  · have h2 : rollFault l = 0 := by simpa using h
    obtain ⟨h3, h4, h5⟩ := rollFault_zero h2
    (refine run ?_; repeat intro b)
    refine s_if (grewBad l m) ?_ (fun h6 => ?_) (fun h6 => ?_)
    · refine congrArg (fun b => some (EV.v (.bool b))) ?_
      rw [bpick_or]
      rfl
    · have e1 : grewE l m = 4 := by unfold grewE; rw [if_pos h2, if_pos h6]
      have e2 : grewL l m = [] := by unfold grewL; rw [e1]; rfl
      (refine run ?_; repeat intro b)
      refine s_retG (VS.id ⟨_, rfl, rfl, none, 0, by rw [e1, e2]; rfl, by rw [e2]; exact frow_nil _ _⟩)
    · have e1 : grewE l m = 0 := by unfold grewE; rw [if_pos h2, if_neg (by rw [h6]; decide)]
      obtain ⟨_, h7, h8⟩ := grewE_zero e1
      have e2 : grewL l m = grewN l m.toNat true := by unfold grewL; rw [if_pos e1]
      have hi : m = ((m.toNat : Nat) : Int) := (Int.toNat_of_nonneg (by omega)).symm
      (refine run ?_; repeat intro b)
      rw [e1, e2]
      have ih := grew_ok l.length l m.toNat true p c F (Nat.le_refl _) (by omega) (by omega) h4 hc h5 hf
      rw [← hi] at ih
      refine s_callR (R := fun _ cs => cs = (grewN l m.toNat true).map nu) (fun x F' new h => ⟨_, h, rfl⟩) rfl rfl rfl bd139 rfl ih (fun hk0 F1 p1 cs hF1 hcs => ?_) (fun hk1 F1 b1 c1 cs hF1 hc1 hcs => ?_)
      · have hnil : grewN l m.toNat true = [] := List.eq_nil_of_length_eq_zero hk0
        (refine run ?_; repeat intro b)
        refine s_retG (VS.id ⟨_, rfl, rfl, p1, 0, by rw [hnil]; rfl, by rw [hnil]; exact frow_nil _ _⟩)
      · subst hcs
        (refine run ?_; repeat intro b)
        refine s_retG ?_
        refine VS.freeze 0 [4, 5] rfl (allV_map_v _) rfl rfl fun F' hs1 hf1 => VS.id ⟨_, rfl, rfl, some ⟨b1, 0, none⟩, c1, rfl, hf1⟩
@[reducible] def tri (q : Nat × Nat × Bool) : Value := .tuple #[u64 (q.1 : Nat), u64 (q.2.1 : Nat), .bool q.2.2]
def isGBad (m n : Int) : Bool := decide (n < 1) || decide (40 < n) || decide (m < 1) || decide (n < m)
def isGE (m n : Int) : Int := if isGBad m n = true then 4 else 0
def isGB (a : Nat) (m : Int) (b : Nat) (n : Int) (l : List Nat) : Bool := if isGBad m n = true then false else (bothF n.toNat a m.toNat n.toNat true l).2.2 && ((((bothF n.toNat a m.toNat n.toNat true l).1 : Nat) : Int) == (a : Nat)) && ((((bothF n.toNat a m.toNat n.toNat true l).2.1 : Nat) : Int) == (b : Nat))
end Go.Proofs.Ythkmfihbpbehfaa
