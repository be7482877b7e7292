/-
Package queue: Put, Take: the walks.
-/
import Derived.Test.YthkkgphjjmhglaaGreatDoorSetQueue2
namespace Go.Proofs.YthkkgphjjmhglaaGreatDoor
set_option linter.unusedVariables false
set_option linter.unusedSimpArgs false
open Go.TR
def qputE (q : Queue) (a : Ask) : Int := if queueFault q = 0 then (if askFault a.name a.value = 0 then (if (q.wait.length : Int) = q.most then 7 else 0) else askFault a.name a.value) else queueFault q
def qputQ (q : Queue) (a : Ask) : Queue := if qputE q a = 0 then ⟨q.most, q.wait ++ [a]⟩ else Queue.nil
def qputK (q : Queue) (a : Ask) : Int := if qputE q a = 0 then (q.wait.length : Int) else 0
theorem queueFault_zero {q : Queue} (h : queueFault q = 0) : 1 ≤ q.most ∧ q.most ≤ 30 ∧ (q.wait.length : Int) ≤ q.most := by
  unfold queueFault at h
  split at h
  · cases h
  · split at h
    · cases h
    · omega
theorem flat_snoc (l : List Ask) (a : Ask) : (l ++ [a]).flatMap Ask.cells = l.flatMap Ask.cells ++ a.cells := by simp
theorem one_ask (rs : RL) (a : Ask) : oneAll rs (a.cells.map .v) := one_v rs fun x hx => ask_one [a] x (by simpa using hx)
attribute [local irreducible] vc vcOps seqK blockK loopK retK retG retI loopV Plain CallOK CallIn bodied VS vcAny dropG backK brK loopPK IntKind.wrap
set_option maxRecDepth 100000
set_option maxHeartbeats 2000000 in
theorem queueput_ok (q : Queue) (a : Ask) (hw : q.wf) (ha : a.wf) {p : Option Addr} {c : Nat} {F : Hp} (hf : Frow F p (q.wait.flatMap Ask.cells)) : CallF Tryz.prog F 59 [qv q.most p q.wait.length c, a.v] (fun x F' => ∃ p c, x = triple (qv (qputQ q a).most p (qputQ q a).wait.length c) (i64 (qputK q a)) (i64 (qputE q a)) ∧ Frow F' p ((qputQ q a).wait.flatMap Ask.cells) ∧ (qputQ q a).wait.length ≤ c) := by
  refine CallOK.drop ?_
  refine call_vc (N := 42) (rv := [.cell 4 24, .tmp 5, .tmp 6]) tbok mixed Tryz.func59 rfl rfl rfl rfl rfl ?_
  have hchk := queuecheck_ok q hw (c := c) hf
  have hri := queueright_ok a ha F
  have hE : ∀ e, e ≠ 0 → qputE q a = e → qputQ q a = Queue.nil ∧ qputK q a = 0 := fun e he h => by
    unfold qputQ qputK
    rw [h, if_neg he, if_neg he]
    exact ⟨rfl, rfl⟩
  (refine run ?_; repeat intro b)
  refine s_plain _ rfl rfl rfl bd72 rfl hchk ?_
  (refine run ?_; repeat intro b)
  refine s_if (decide (queueFault q = 0)) ?_ (fun h => ?_) (fun h => ?_)
  · refine congrArg (fun b => some (EV.v (.bool b))) ?_
    rw [Bool.eq_iff_iff]; simp
  · have h0 : queueFault q = 0 := of_decide_eq_true h
    obtain ⟨g1, g2, g3⟩ := queueFault_zero h0
    (refine run ?_; repeat intro b)
    refine s_plain _ rfl rfl rfl bd110 rfl hri ?_
    (refine run ?_; repeat intro b)
    by_cases h1 : askFault a.name a.value = 0
    · rw [h1]
      by_cases h2 : (q.wait.length : Int) = q.most
      · have e1 : qputE q a = 7 := by unfold qputE; rw [if_pos h0, if_pos h1, if_pos h2]
        obtain ⟨e2, e3⟩ := hE 7 (by decide) e1
        rw [e1, e2, e3]
        (refine run ?_; repeat intro b)
        refine s_if true ?_ (fun _ => ?_) (fun h => by cases h)
        · refine congrArg (fun b => some (EV.v (.bool b))) ?_
          show (((q.wait.length : Nat) : Int) == q.most) = true
          rw [beq_iff_eq]; exact h2
        (refine run ?_; repeat intro b)
        exact s_retG (VS.id ⟨_, rfl, none, 0, rfl, frow_nil _ _, Nat.le_refl _⟩)
      · have e1 : qputE q a = 0 := by unfold qputE; rw [if_pos h0, if_pos h1, if_neg h2]
        have e2 : qputQ q a = ⟨q.most, q.wait ++ [a]⟩ := by unfold qputQ; rw [if_pos e1]
        have e3 : qputK q a = (q.wait.length : Int) := by unfold qputK; rw [if_pos e1]
        rw [e1, e2, e3]
        have hcl := clone_ask (q.wait.flatMap Ask.cells) q.wait.length (flat_len ask_cells _) hf (ask_one _) (c := c) (by omega)
        (refine run ?_; repeat intro b)
        refine s_if false ?_ (fun h => by cases h) (fun _ => ?_)
        · refine congrArg (fun b => some (EV.v (.bool b))) ?_
          show (((q.wait.length : Nat) : Int) == q.most) = false
          rw [beq_eq_false_iff_ne]; exact h2
        (refine run ?_; repeat intro b)
        refine s_regiona [0, 1] (by kernel_rfl) ?_
        refine s_firsts [0, 1, 2, 3, 5, 9] (f' := 7) (by kernel_rfl) rfl rfl rfl ?_
        (refine run ?_; repeat intro b)
        refine s_two 4 6 (by kernel_rfl) rfl rfl rfl ?_ ?_
        · refine s_callR (R := fun _ cs => cs = q.wait.flatMap Ask.cells) (fun x F' new h => ⟨_, h, rfl⟩) rfl rfl rfl bd111 rfl hcl (fun hk0 F1 p1 cs hF1 hcs => ?_) (fun hk1 F1 b1 c1 cs hF1 hc1 hcs => ?_)
          · (refine run ?_; repeat intro b)
            refine s_br hF1 ⟨⟨rfl, rfl, rfl, trivial⟩, ⟨rfl, rfl, rfl, rfl, rfl, trivial⟩, trivial⟩ ?_
            refine s_one 6 (by kernel_rfl) rfl rfl ?_
            (refine run ?_; repeat intro b)
            (refine run ?_; repeat intro b)
            refine s_br (Hp.sub.refl _) ⟨⟨rfl, rfl, rfl, trivial⟩, ⟨rfl, rfl, rfl, rfl, rfl, trivial⟩, trivial⟩ ?_
            refine s_one 7 (by kernel_rfl) rfl rfl ?_
            refine s_appV [] rfl rfl rfl rfl rfl rfl rfl (frow_nil _ _) (src_row rfl rfl) (one_ask _ a) (by decide) (fun h => by cases h) (fun _ b2 c2 hc2 => ?_)
            (refine run ?_; repeat intro b)
            refine s_br (Hp.sub.refl _) ⟨⟨rfl, rfl, rfl, trivial⟩, ⟨rfl, rfl, rfl, rfl, rfl, trivial⟩, trivial⟩ ?_
            refine s_firsts [8] (f' := 3) (by kernel_rfl) rfl rfl rfl ?_
            (refine run ?_; repeat intro b)
            refine s_one 10 (by kernel_rfl) rfl rfl ?_
            (refine run ?_; repeat intro b)
            refine s_br (Hp.sub.refl _) ⟨⟨rfl, rfl, rfl, trivial⟩, ⟨rfl, rfl, rfl, rfl, rfl, trivial⟩, trivial⟩ ?_
            refine s_firsts [11, 12] (f' := 0) (by kernel_rfl) rfl rfl rfl ?_
            (refine run ?_; repeat intro b)
            refine s_stop (by kernel_rfl) ?_
            (refine run ?_; repeat intro b)
            have hnil : q.wait = [] := List.eq_nil_of_length_eq_zero hk0
            rw [hnil]
            refine s_retG ?_
            refine VS.freeze 4 [4, 5, 6] rfl (allV_map_v a.cells) rfl rfl fun F' hs1 hf1 => VS.id ⟨_, rfl, some ⟨b2, 0, none⟩, c2, rfl, hf1, hc2⟩
          · (refine run ?_; repeat intro b)
            refine s_br hF1 ⟨⟨rfl, rfl, rfl, trivial⟩, ⟨rfl, rfl, rfl, rfl, rfl, trivial⟩, trivial⟩ ?_
            refine s_one 6 (by kernel_rfl) rfl rfl ?_
            (refine run ?_; repeat intro b)
            (refine run ?_; repeat intro b)
            refine s_br (Hp.sub.refl _) ⟨⟨rfl, rfl, rfl, trivial⟩, ⟨rfl, rfl, rfl, rfl, rfl, trivial⟩, trivial⟩ ?_
            refine s_one 7 (by kernel_rfl) rfl rfl ?_
            subst hcs
            refine s_appR rfl rfl rfl rfl rfl rfl rfl rfl (src_row rfl rfl) (one_ask _ a) (fun h => by cases h) hc1 rfl (by rw [List.length_map, flat_len ask_cells]; exact Nat.le_refl _) (by show _ * 48 ≤ _; omega) (fun h => by cases h) (fun _ b2 c2 hc2 => ?_)
            (refine run ?_; repeat intro b)
            refine s_br (Hp.sub.refl _) ⟨⟨rfl, rfl, rfl, trivial⟩, ⟨rfl, rfl, rfl, rfl, rfl, trivial⟩, trivial⟩ ?_
            refine s_firsts [8] (f' := 3) (by kernel_rfl) rfl rfl rfl ?_
            (refine run ?_; repeat intro b)
            refine s_one 10 (by kernel_rfl) rfl rfl ?_
            (refine run ?_; repeat intro b)
            refine s_br (Hp.sub.refl _) ⟨⟨rfl, rfl, rfl, trivial⟩, ⟨rfl, rfl, rfl, rfl, rfl, trivial⟩, trivial⟩ ?_
            refine s_firsts [11, 12] (f' := 0) (by kernel_rfl) rfl rfl rfl ?_
            (refine run ?_; repeat intro b)
            refine s_stop (by kernel_rfl) ?_
            (refine run ?_; repeat intro b)
            refine s_retG ?_
            have hcells : ((q.wait.flatMap Ask.cells).map EV.v).take (q.wait.length * 4) ++ a.cells.map EV.v = ((q.wait ++ [a]).flatMap Ask.cells).map EV.v := by
              rw [flat_snoc, List.map_append, List.take_of_length_le (by rw [List.length_map, flat_len ask_cells]; exact Nat.le_refl _)]
            refine VS.freeze 5 [4, 5, 6] rfl ((congrArg (allV _) hcells).trans (allV_map_v _)) rfl rfl fun F' hs1 hf1 => VS.id ⟨_, rfl, some ⟨b2, 0, none⟩, c2, by rw [List.length_append]; rfl, hf1, by rw [List.length_append]; exact hc2⟩
        · (refine run ?_; repeat intro b)
          (refine run ?_; repeat intro b)
          refine s_br (Hp.sub.refl _) ⟨⟨rfl, rfl, rfl, trivial⟩, ⟨rfl, rfl, rfl, rfl, rfl, trivial⟩, trivial⟩ ?_
          refine s_one 4 (by kernel_rfl) rfl rfl ?_
          refine s_callR (R := fun _ cs => cs = q.wait.flatMap Ask.cells) (fun x F' new h => ⟨_, h, rfl⟩) rfl rfl rfl bd111 rfl hcl (fun hk0 F1 p1 cs hF1 hcs => ?_) (fun hk1 F1 b1 c1 cs hF1 hc1 hcs => ?_)
          · (refine run ?_; repeat intro b)
            refine s_br hF1 ⟨⟨rfl, rfl, rfl, trivial⟩, ⟨rfl, rfl, rfl, rfl, rfl, trivial⟩, trivial⟩ ?_
            refine s_one 7 (by kernel_rfl) rfl rfl ?_
            refine s_appV [] rfl rfl rfl rfl rfl rfl rfl (frow_nil _ _) (src_row rfl rfl) (one_ask _ a) (by decide) (fun h => by cases h) (fun _ b2 c2 hc2 => ?_)
            (refine run ?_; repeat intro b)
            refine s_br (Hp.sub.refl _) ⟨⟨rfl, rfl, rfl, trivial⟩, ⟨rfl, rfl, rfl, rfl, rfl, trivial⟩, trivial⟩ ?_
            refine s_firsts [8] (f' := 3) (by kernel_rfl) rfl rfl rfl ?_
            (refine run ?_; repeat intro b)
            refine s_one 10 (by kernel_rfl) rfl rfl ?_
            (refine run ?_; repeat intro b)
            refine s_br (Hp.sub.refl _) ⟨⟨rfl, rfl, rfl, trivial⟩, ⟨rfl, rfl, rfl, rfl, rfl, trivial⟩, trivial⟩ ?_
            refine s_firsts [11, 12] (f' := 0) (by kernel_rfl) rfl rfl rfl ?_
            (refine run ?_; repeat intro b)
            refine s_stop (by kernel_rfl) ?_
            (refine run ?_; repeat intro b)
            have hnil : q.wait = [] := List.eq_nil_of_length_eq_zero hk0
            rw [hnil]
            refine s_retG ?_
            refine VS.freeze 4 [4, 5, 6] rfl (allV_map_v a.cells) rfl rfl fun F' hs1 hf1 => VS.id ⟨_, rfl, some ⟨b2, 0, none⟩, c2, rfl, hf1, hc2⟩
          · (refine run ?_; repeat intro b)
            refine s_br hF1 ⟨⟨rfl, rfl, rfl, trivial⟩, ⟨rfl, rfl, rfl, rfl, rfl, trivial⟩, trivial⟩ ?_
            refine s_one 7 (by kernel_rfl) rfl rfl ?_
            subst hcs
            refine s_appR rfl rfl rfl rfl rfl rfl rfl rfl (src_row rfl rfl) (one_ask _ a) (fun h => by cases h) hc1 rfl (by rw [List.length_map, flat_len ask_cells]; exact Nat.le_refl _) (by show _ * 48 ≤ _; omega) (fun h => by cases h) (fun _ b2 c2 hc2 => ?_)
            (refine run ?_; repeat intro b)
            refine s_br (Hp.sub.refl _) ⟨⟨rfl, rfl, rfl, trivial⟩, ⟨rfl, rfl, rfl, rfl, rfl, trivial⟩, trivial⟩ ?_
            refine s_firsts [8] (f' := 3) (by kernel_rfl) rfl rfl rfl ?_
            (refine run ?_; repeat intro b)
            refine s_one 10 (by kernel_rfl) rfl rfl ?_
            (refine run ?_; repeat intro b)
            refine s_br (Hp.sub.refl _) ⟨⟨rfl, rfl, rfl, trivial⟩, ⟨rfl, rfl, rfl, rfl, rfl, trivial⟩, trivial⟩ ?_
            refine s_firsts [11, 12] (f' := 0) (by kernel_rfl) rfl rfl rfl ?_
            (refine run ?_; repeat intro b)
            refine s_stop (by kernel_rfl) ?_
            (refine run ?_; repeat intro b)
            refine s_retG ?_
            have hcells : ((q.wait.flatMap Ask.cells).map EV.v).take (q.wait.length * 4) ++ a.cells.map EV.v = ((q.wait ++ [a]).flatMap Ask.cells).map EV.v := by
              rw [flat_snoc, List.map_append, List.take_of_length_le (by rw [List.length_map, flat_len ask_cells]; exact Nat.le_refl _)]
            refine VS.freeze 5 [4, 5, 6] rfl ((congrArg (allV _) hcells).trans (allV_map_v _)) rfl rfl fun F' hs1 hf1 => VS.id ⟨_, rfl, some ⟨b2, 0, none⟩, c2, by rw [List.length_append]; rfl, hf1, by rw [List.length_append]; exact hc2⟩
    · have e1 : qputE q a = askFault a.name a.value := by unfold qputE; rw [if_pos h0, if_neg h1]
      obtain ⟨e2, e3⟩ := hE _ h1 e1
      rw [e1, e2, e3]
      generalize askFault a.name a.value = e at h1
      (refine run ?_; repeat intro b)
      refine s_if false ?_ (fun h => by cases h) (fun _ => ?_)
      · refine congrArg (fun b => some (EV.v (.bool b))) ?_
        rw [bpick_and, beq_eq_false_iff_ne.2 h1]; rfl
      (refine run ?_; repeat intro b)
      refine s_if true ?_ (fun _ => ?_) (fun h => by cases h)
      · refine congrArg (fun b => some (EV.v (.bool b))) ?_
        rw [bne_iff_ne]; exact h1
      (refine run ?_; repeat intro b)
      exact s_retG (VS.id ⟨_, rfl, none, 0, rfl, frow_nil _ _, Nat.le_refl _⟩)
  · have h0 : ¬ queueFault q = 0 := of_decide_eq_false h
    have e1 : qputE q a = queueFault q := by unfold qputE; rw [if_neg h0]
    obtain ⟨e2, e3⟩ := hE _ h0 e1
    rw [e1, e2, e3]
    generalize queueFault q = e at h0
    (refine run ?_; repeat intro b)
    refine s_if false ?_ (fun h => by cases h) (fun _ => ?_)
    · refine congrArg (fun b => some (EV.v (.bool b))) ?_
      rw [bpick_and, beq_eq_false_iff_ne.2 h0]; rfl
    (refine run ?_; repeat intro b)
    refine s_if true ?_ (fun _ => ?_) (fun h => by cases h)
    · refine congrArg (fun b => some (EV.v (.bool b))) ?_
      rw [bne_iff_ne]; exact h0
    (refine run ?_; repeat intro b)
    exact s_retG (VS.id ⟨_, rfl, none, 0, rfl, frow_nil _ _, Nat.le_refl _⟩)
end Go.Proofs.YthkkgphjjmhglaaGreatDoor
