/-
Package roll and its reference: the marks beside the way to a text.
-/
import Derived.Test.YtaienbnadbadfaaRoll
namespace Go.Proofs.Ytaienbnadbadfaa
set_option linter.unusedVariables false
set_option linter.unusedSimpArgs false
open Go.TR
@[reducible] def nu (n : Nat) : Value := u64 (n : Nat)
theorem nus_cells (l : List Nat) (x n : Nat) (h : n = l.length) : ((l ++ [x]).map nu).map EV.v = ((l.map nu).map EV.v).take (n * 1) ++ [.v (u64 (x : Nat))] := by
  subst h
  rw [List.take_of_length_le (by simp)]
  simp
attribute [local irreducible] vc vcOps seqK blockK loopK retK retG retI loopV Plain CallOK CallIn bodied VS vcAny dropG backK brK loopPK IntKind.wrap
set_option maxRecDepth 100000
set_option maxHeartbeats 1000000 in
theorem in_ok : ∀ (f : Nat) (l : List (List UInt8)) (i : Nat) (p : Option Addr) (c : Nat) (F : Hp), l.length ≤ f → i < l.length → l.length ≤ 40 → l.length ≤ c → (∀ s ∈ l, s.length ≤ 40) → Frow F p (l.map S) →
    CallOK Try.prog F 130 [.slice p l.length c, i64 (i : Nat)] (fun x _ new => RowBack 42 1 ((inN l i).map nu) (inN l i).length x new)
  | 0, l, i, p, c, F, h0, h1, _, _, _, _ => by omega
  | f + 1, l, i, p, c, F, h0, h1, h40, hc, hs, hf => by
    refine call_vc (N := 39) (rv := [.tmp 4]) tbok mixed Try.func130 rfl rfl rfl rfl rfl ?_
    (refine run ?_; repeat intro b)
    refine s_if (decide (l.length = 1)) ?_ (fun h => ?_) (fun h => ?_)
    · refine congrArg (fun b => some (EV.v (.bool b))) ?_
      rw [Bool.eq_iff_iff]
      simp only [beq_iff_eq, decide_eq_true_eq]
      omega
    · have h2 : l.length = 1 := of_decide_eq_true h
      (refine run ?_; repeat intro b)
      refine s_retG (VS.id ⟨_, rfl, ?_⟩)
      rw [inN_one (by omega)]
      exact .inl ⟨rfl, rfl, none, rfl⟩
    · have h2 : ¬ l.length = 1 := of_decide_eq_false h
      have hr := half_range (n := l.length) (by omega)
      have e1 : (l.take (half l.length)).length = half l.length := by rw [List.length_take]; omega
      have e2 : (l.drop (half l.length)).length = l.length - half l.length := by rw [List.length_drop]
      have fr1 : Frow F (slBase p 0 c 1) ((l.take (half l.length)).map S) := by rw [slBase_zero]; exact frow_strs_take hf _
      have fr2 : Frow F (slBase p (half l.length) c 1) ((l.drop (half l.length)).map S) := frow_strs_drop hf (by omega)
      have hs1 : ∀ s ∈ l.take (half l.length), s.length ≤ 40 := fun s h => hs s (List.mem_of_mem_take h)
      have hs2 : ∀ s ∈ l.drop (half l.length), s.length ≤ 40 := fun s h => hs s (List.mem_of_mem_drop h)
      have hrt2 : ∀ F1, F.sub F1 → Plain Try.prog F1 129 [.slice (slBase p (half l.length) c 1) (l.length - half l.length) (c - half l.length)] (u64 (rootN (l.drop (half l.length)) : Nat)) := fun F1 hF1 => by
        have := root_ok F1 _ (l.drop (half l.length)) (slBase p (half l.length) c 1) (c - half l.length) (Nat.le_refl _) (by omega) (by omega) (by omega) hs2 (frow_sub hF1 fr2)
        rw [e2] at this
        exact this
      have hrt1 : ∀ F1, F.sub F1 → Plain Try.prog F1 129 [.slice (slBase p 0 c 1) (half l.length) c] (u64 (rootN (l.take (half l.length)) : Nat)) := fun F1 hF1 => by
        have := root_ok F1 _ (l.take (half l.length)) (slBase p 0 c 1) c (Nat.le_refl _) (by omega) (by omega) (by omega) hs1 (frow_sub hF1 fr1)
        rw [e1] at this
        exact this
      (refine run ?_; repeat intro b)
      refine s_plain _ rfl rfl rfl bd153 rfl (rollhalf_ok l.length (by omega) F) ?_
      (refine run ?_; repeat intro b)
      refine s_if (decide (i < half l.length)) ?_ (fun h3 => ?_) (fun h3 => ?_)
      · refine congrArg (fun b => some (EV.v (.bool b))) ?_
        rw [decide_eq_decide]; omega
      · have h4 : i < half l.length := of_decide_eq_true h3
        have ih := in_ok f (l.take (half l.length)) i (slBase p 0 c 1) c F (by omega) (by omega) (by omega) (by omega) hs1 fr1
        rw [e1] at ih
        have hlen : (inN (l.take (half l.length)) i).length ≤ 40 := by have := inF_len (l.take (half l.length)).length (l.take (half l.length)) i; unfold inN; omega
        (refine run ?_; repeat intro b)
        refine s_regiona [] (by kernel_rfl) ?_
        refine s_firsts [0, 1, 2, 3, 5, 6, 7] (f' := 5) (by kernel_rfl) rfl rfl rfl ?_
        (refine run ?_; repeat intro b)
        refine s_pureO rfl rfl rfl ⟨by omega, by omega⟩ ?_
        (refine run ?_; repeat intro b)
        refine s_pureO rfl rfl rfl ⟨by omega, by omega, by omega⟩ ?_
        rw [Int.toNat_natCast]
        (refine run ?_; repeat intro b)
        have hin := inN_left (l := l) (by omega) h4
        refine s_one 4 (by kernel_rfl) rfl rfl ?_
        refine s_callR (R := fun _ cs => cs = (inN (l.take (half l.length)) i).map nu) (fun x F' new h => ⟨_, h, rfl⟩) rfl rfl rfl bd130 rfl ih (fun hk0 F1 p1 cs hF1 hcs => ?_) (fun hk1 F1 b1 c1 cs hF1 hc1 hcs => ?_)
        · (refine run ?_; repeat intro b)
          refine s_br hF1 trivial ?_
          refine s_one 8 (by kernel_rfl) rfl rfl ?_
          refine s_plain _ rfl rfl rfl bd129 rfl (hrt2 F1 hF1) ?_
          (refine run ?_; repeat intro b)
          refine s_br (Hp.sub.refl _) trivial ?_
          refine s_one 9 (by kernel_rfl) rfl rfl ?_
          (refine run ?_; repeat intro b)
          refine s_br (Hp.sub.refl _) trivial ?_
          refine s_one 10 (by kernel_rfl) rfl rfl ?_
          refine s_appV [] rfl rfl rfl rfl rfl rfl rfl (frow_nil _ _) (src_row rfl rfl) one1 (by decide) (fun h => by cases h) (fun _ b2 c2 hc2 => ?_)
          (refine run ?_; repeat intro b)
          refine s_br (Hp.sub.refl _) trivial ?_
          refine s_firsts [11] (f' := 0) (by kernel_rfl) rfl rfl rfl ?_
          (refine run ?_; repeat intro b)
          refine s_stop (by kernel_rfl) ?_
          (refine run ?_; repeat intro b)
          have hnil : (inN (l.take (half l.length)) i) = [] := List.eq_nil_of_length_eq_zero hk0
          rw [hnil, List.nil_append] at hin
          refine s_retGf (VSf.ren (nx' := 1) [(1, 0)] [4] [(0, ⟨some b2, ((inN l i).map nu).map EV.v, 42, c2 * 1⟩)] ⟨rfl, ⟨_, rfl, rfl, rfl, rfl, .inl ⟨by rw [hin]; rfl, fun e he => ?_⟩⟩, trivial⟩ rfl rfl rfl rfl rfl rfl ⟨_, rfl, .inr ⟨by rw [hin]; simp, b2, c2, by rw [hin]; exact hc2, rfl, by rw [hin]; rfl⟩⟩)
          revert he
          simp only [List.map_nil, List.nil_append, List.mem_singleton]
          rintro rfl
          exact ⟨_, rfl⟩
        · (refine run ?_; repeat intro b)
          refine s_br hF1 trivial ?_
          refine s_one 8 (by kernel_rfl) rfl rfl ?_
          refine s_plain _ rfl rfl rfl bd129 rfl (hrt2 F1 hF1) ?_
          (refine run ?_; repeat intro b)
          refine s_br (Hp.sub.refl _) trivial ?_
          refine s_one 9 (by kernel_rfl) rfl rfl ?_
          (refine run ?_; repeat intro b)
          refine s_br (Hp.sub.refl _) trivial ?_
          refine s_one 10 (by kernel_rfl) rfl rfl ?_
          subst hcs
          refine s_appR rfl rfl rfl rfl rfl rfl rfl rfl (src_row rfl rfl) one1 (fun h => by cases h) hc1 rfl (by simp) (by show _ * 8 ≤ _; omega) (fun h => by cases h) (fun _ b2 c2 hc2 => ?_)
          (refine run ?_; repeat intro b)
          refine s_br (Hp.sub.refl _) trivial ?_
          refine s_firsts [11] (f' := 0) (by kernel_rfl) rfl rfl rfl ?_
          (refine run ?_; repeat intro b)
          refine s_stop (by kernel_rfl) ?_
          (refine run ?_; repeat intro b)
          have hcells := nus_cells (inN (l.take (half l.length)) i) (rootN (l.drop (half l.length))) _ rfl
          rw [← hin] at hcells
          have hlen2 : (inN l i).length = (inN (l.take (half l.length)) i).length + 1 := by rw [hin]; simp
          refine s_retGf (VSf.ren (nx' := 1) [(2, 0)] [4] [(0, ⟨some b2, ((inN l i).map nu).map EV.v, 42, c2 * 1⟩)] ⟨rfl, ⟨_, rfl, rfl, rfl, rfl, .inl ⟨hcells, fun e he => ?_⟩⟩, trivial⟩ rfl rfl rfl rfl rfl rfl ⟨_, rfl, .inr ⟨by omega, b2, c2, by omega, rfl, by rw [hlen2]; rfl⟩⟩)
          have he' := hcells ▸ he
          exact all_v _ e he'
      · have h4 : ¬ i < half l.length := of_decide_eq_false h3
        have ih := in_ok f (l.drop (half l.length)) (i - half l.length) (slBase p (half l.length) c 1) (c - half l.length) F (by omega) (by omega) (by omega) (by omega) hs2 fr2
        rw [e2] at ih
        have hlen : (inN (l.drop (half l.length)) (i - half l.length)).length ≤ 40 := by have := inF_len (l.drop (half l.length)).length (l.drop (half l.length)) (i - half l.length); unfold inN; omega
        have ew : IntKind.i64.wrap ((i : Int) - ((half l.length : Nat) : Int)) = ((i - half l.length : Nat) : Int) := by rw [wrap_i64 (by omega) (by omega)]; omega
        (refine run ?_; repeat intro b)
        refine s_regiona [] (by kernel_rfl) ?_
        refine s_firsts [0, 1, 2, 3, 4, 5, 7, 8, 9] (f' := 5) (by kernel_rfl) rfl rfl rfl ?_
        (refine run ?_; repeat intro b)
        refine s_pureO rfl rfl rfl ⟨by omega, by omega, by omega⟩ ?_
        (refine run ?_; repeat intro b)
        refine s_pureO rfl rfl rfl ⟨by omega, by omega⟩ ?_
        rw [Int.toNat_natCast, ew]
        (refine run ?_; repeat intro b)
        have hin := inN_right (l := l) (by omega) h4
        refine s_one 6 (by kernel_rfl) rfl rfl ?_
        refine s_callR (R := fun _ cs => cs = (inN (l.drop (half l.length)) (i - half l.length)).map nu) (fun x F' new h => ⟨_, h, rfl⟩) rfl rfl rfl bd130 rfl ih (fun hk0 F1 p1 cs hF1 hcs => ?_) (fun hk1 F1 b1 c1 cs hF1 hc1 hcs => ?_)
        · (refine run ?_; repeat intro b)
          refine s_br hF1 trivial ?_
          refine s_one 10 (by kernel_rfl) rfl rfl ?_
          refine s_plain _ rfl rfl rfl bd129 rfl (hrt1 F1 hF1) ?_
          (refine run ?_; repeat intro b)
          refine s_br (Hp.sub.refl _) trivial ?_
          refine s_one 11 (by kernel_rfl) rfl rfl ?_
          (refine run ?_; repeat intro b)
          refine s_br (Hp.sub.refl _) trivial ?_
          refine s_one 12 (by kernel_rfl) rfl rfl ?_
          refine s_appV [] rfl rfl rfl rfl rfl rfl rfl (frow_nil _ _) (src_row rfl rfl) one1 (by decide) (fun h => by cases h) (fun _ b2 c2 hc2 => ?_)
          (refine run ?_; repeat intro b)
          refine s_br (Hp.sub.refl _) trivial ?_
          refine s_firsts [13] (f' := 0) (by kernel_rfl) rfl rfl rfl ?_
          (refine run ?_; repeat intro b)
          refine s_stop (by kernel_rfl) ?_
          (refine run ?_; repeat intro b)
          have hnil : (inN (l.drop (half l.length)) (i - half l.length)) = [] := List.eq_nil_of_length_eq_zero hk0
          rw [hnil, List.nil_append] at hin
          refine s_retGf (VSf.ren (nx' := 1) [(1, 0)] [4] [(0, ⟨some b2, ((inN l i).map nu).map EV.v, 42, c2 * 1⟩)] ⟨rfl, ⟨_, rfl, rfl, rfl, rfl, .inl ⟨by rw [hin]; rfl, fun e he => ?_⟩⟩, trivial⟩ rfl rfl rfl rfl rfl rfl ⟨_, rfl, .inr ⟨by rw [hin]; simp, b2, c2, by rw [hin]; exact hc2, rfl, by rw [hin]; rfl⟩⟩)
          revert he
          simp only [List.map_nil, List.nil_append, List.mem_singleton]
          rintro rfl
          exact ⟨_, rfl⟩
        · (refine run ?_; repeat intro b)
          refine s_br hF1 trivial ?_
          refine s_one 10 (by kernel_rfl) rfl rfl ?_
          refine s_plain _ rfl rfl rfl bd129 rfl (hrt1 F1 hF1) ?_
          (refine run ?_; repeat intro b)
          refine s_br (Hp.sub.refl _) trivial ?_
          refine s_one 11 (by kernel_rfl) rfl rfl ?_
          (refine run ?_; repeat intro b)
          refine s_br (Hp.sub.refl _) trivial ?_
          refine s_one 12 (by kernel_rfl) rfl rfl ?_
          subst hcs
          refine s_appR rfl rfl rfl rfl rfl rfl rfl rfl (src_row rfl rfl) one1 (fun h => by cases h) hc1 rfl (by simp) (by show _ * 8 ≤ _; omega) (fun h => by cases h) (fun _ b2 c2 hc2 => ?_)
          (refine run ?_; repeat intro b)
          refine s_br (Hp.sub.refl _) trivial ?_
          refine s_firsts [13] (f' := 0) (by kernel_rfl) rfl rfl rfl ?_
          (refine run ?_; repeat intro b)
          refine s_stop (by kernel_rfl) ?_
          (refine run ?_; repeat intro b)
          have hcells := nus_cells (inN (l.drop (half l.length)) (i - half l.length)) (rootN (l.take (half l.length))) _ rfl
          rw [← hin] at hcells
          have hlen2 : (inN l i).length = (inN (l.drop (half l.length)) (i - half l.length)).length + 1 := by rw [hin]; simp
          refine s_retGf (VSf.ren (nx' := 1) [(2, 0)] [4] [(0, ⟨some b2, ((inN l i).map nu).map EV.v, 42, c2 * 1⟩)] ⟨rfl, ⟨_, rfl, rfl, rfl, rfl, .inl ⟨hcells, fun e he => ?_⟩⟩, trivial⟩ rfl rfl rfl rfl rfl rfl ⟨_, rfl, .inr ⟨by omega, b2, c2, by omega, rfl, by rw [hlen2]; rfl⟩⟩)
          have he' := hcells ▸ he
          exact all_v _ e he'
end Go.Proofs.Ytaienbnadbadfaa
