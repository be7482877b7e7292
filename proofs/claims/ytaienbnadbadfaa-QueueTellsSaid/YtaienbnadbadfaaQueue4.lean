/-
Package queue: Take: the walk.
-/
import Derived.Test.YtaienbnadbadfaaQueue3
namespace Go.Proofs.Ytaienbnadbadfaa
set_option linter.unusedVariables false
set_option linter.unusedSimpArgs false
open Go.TR
def takeE (q : Queue) (n : Int) : Int := if queueFault q = 0 then (if n < 0 then 4 else 0) else queueFault q
def takeM (q : Queue) (n : Int) : Nat := min n.toNat q.wait.length
def takeQ (q : Queue) (n : Int) : Queue := if takeE q n = 0 then ⟨q.most, q.wait.drop (takeM q n)⟩ else Queue.nil
def takeL (q : Queue) (n : Int) : List Ask := if takeE q n = 0 then q.wait.take (takeM q n) else []
theorem clone_askF (l : List Ask) (n : Nat) {p : Option Addr} {c : Nat} {F : Hp} (hn : n = l.length) (hf : Frow F p (l.flatMap Ask.cells)) (hb : n ≤ 1000000000000) : CallF Try.prog F 121 [.slice p n c] (fun x F' => ∃ p c, x = .slice p n c ∧ n ≤ c ∧ Frow F' p (l.flatMap Ask.cells)) :=
  CallOK.frz (fun h => by rw [List.eq_nil_of_length_eq_zero (by omega : l.length = 0)]; rfl) (clone_ask (l.flatMap Ask.cells) n (by rw [flat_len ask_cells, hn]) hf (ask_one _) (by omega))
theorem ask_loc (x : Value) : True := trivial
attribute [local irreducible] vc vcOps seqK blockK loopK retK retG retI loopV Plain CallOK CallIn bodied VS vcAny dropG backK brK loopPK IntKind.wrap
set_option maxRecDepth 100000
set_option maxHeartbeats 2000000 in
theorem queuetake_ok (q : Queue) (n : Int) (hw : q.wf) {p : Option Addr} {c : Nat} {F : Hp} (hc : q.wait.length ≤ c) (hf : Frow F p (q.wait.flatMap Ask.cells)) : CallF Try.prog F 48 [qv q.most p q.wait.length c, i64 n] (fun x F' => ∃ p c p2 c2, x = triple (qv (takeQ q n).most p (takeQ q n).wait.length c) (.slice p2 (takeL q n).length c2) (i64 (takeE q n)) ∧ Frow F' p ((takeQ q n).wait.flatMap Ask.cells) ∧ Frow F' p2 ((takeL q n).flatMap Ask.cells)) := by
  refine CallOK.drop ?_
  refine call_vc (N := 35) (rv := [.cell 4 86, .tmp 5, .tmp 6]) tbok mixed Try.func48 rfl rfl rfl rfl rfl ?_
  have hchk := queuecheck_ok q hw (c := c) hf
  have hE : ∀ e, e ≠ 0 → takeE q n = e → takeQ q n = Queue.nil ∧ takeL q n = [] := fun e he h => by
    unfold takeQ takeL
    rw [h, if_neg he, if_neg he]
    exact ⟨rfl, rfl⟩
  (refine run ?_; repeat intro b)
  refine s_plain _ rfl rfl rfl bd51 rfl hchk ?_
  (refine run ?_; repeat intro b)
  refine s_if (decide (queueFault q ≠ 0)) ?_ (fun h => ?_) (fun h => ?_)
  · refine congrArg (fun b => some (EV.v (.bool b))) ?_
    rw [Bool.eq_iff_iff]; simp
  · have h0 : queueFault q ≠ 0 := of_decide_eq_true h
    have e1 : takeE q n = queueFault q := by unfold takeE; rw [if_neg h0]
    obtain ⟨e2, e3⟩ := hE _ h0 e1
    rw [e1, e2, e3]
    (refine run ?_; repeat intro b)
    exact s_retG (VS.id ⟨_, rfl, none, 0, none, 0, rfl, frow_nil _ _, frow_nil _ _⟩)
  · have h0 : queueFault q = 0 := by simpa using h
    obtain ⟨g1, g2, g3⟩ := queueFault_zero h0
    (refine run ?_; repeat intro b)
    refine s_if (decide (n < 0)) rfl (fun h2 => ?_) (fun h2 => ?_)
    · have e1 : takeE q n = 4 := by unfold takeE; rw [if_pos h0, if_pos (of_decide_eq_true h2)]
      obtain ⟨e2, e3⟩ := hE 4 (by decide) e1
      rw [e1, e2, e3]
      (refine run ?_; repeat intro b)
      exact s_retG (VS.id ⟨_, rfl, none, 0, none, 0, rfl, frow_nil _ _, frow_nil _ _⟩)
    · have h2' : ¬ n < 0 := of_decide_eq_false h2
      have e1 : takeE q n = 0 := by unfold takeE; rw [if_pos h0, if_neg h2']
      have e2 : takeQ q n = ⟨q.most, q.wait.drop (takeM q n)⟩ := by unfold takeQ; rw [if_pos e1]
      have e3 : takeL q n = q.wait.take (takeM q n) := by unfold takeL; rw [if_pos e1]
      rw [e1, e2, e3]
      have hmin : (if ((q.wait.length : Nat) : Int) < n then ((q.wait.length : Nat) : Int) else n) = ((takeM q n : Nat) : Int) := by
        unfold takeM
        split <;> omega
      have hm : takeM q n ≤ q.wait.length := by unfold takeM; omega
      have hl1 : (q.wait.drop (takeM q n)).length = q.wait.length - takeM q n := List.length_drop
      have hl2 : (q.wait.take (takeM q n)).length = takeM q n := by rw [List.length_take]; omega
      have f1 := frow_flat_drop ask_cells hf (takeM q n) c hm hc
      have f2 : Frow F (slBase p 0 c 4) ((q.wait.take (takeM q n)).flatMap Ask.cells) := by
        have : slBase p 0 c 4 = p := by
          unfold slBase
          split
          · rfl
          · cases p with
            | none => rfl
            | some ad => simp [Addr.add]
        rw [this]
        exact frow_flat_take ask_cells hf _
      have hcl := clone_askF (q.wait.drop (takeM q n)) (q.wait.length - takeM q n) (c := c - takeM q n) hl1.symm f1 (by omega)
      (refine run ?_; repeat intro b)
      rw [hmin]
      refine s_regiona [0] (by kernel_rfl) ?_
      refine s_firsts [0, 1, 2, 3, 4, 5, 8, 9, 10, 11] (f' := 6) (by kernel_rfl) rfl rfl rfl ?_
      (refine run ?_; repeat intro b)
      refine s_pureO rfl rfl rfl ⟨by omega, by omega, hc⟩ ?_
      rw [Int.toNat_natCast]
      (refine run ?_; repeat intro b)
      refine s_pureO rfl rfl rfl ⟨by omega, by omega⟩ ?_
      rw [Int.toNat_natCast]
      (refine run ?_; repeat intro b)
      refine s_one 6 (by kernel_rfl) rfl rfl ?_
      refine s_callF rfl rfl rfl bd121 rfl hcl ?_
      rintro _ F1 hF1 ⟨pa, ca, rfl, hca, hfa⟩
      (refine run ?_; repeat intro b)
      refine s_br hF1 ⟨⟨rfl, rfl, rfl, trivial⟩, trivial⟩ ?_
      refine s_firsts [7] (f' := 4) (by kernel_rfl) rfl rfl rfl ?_
      (refine run ?_; repeat intro b)
      refine s_one 12 (by kernel_rfl) rfl rfl ?_
      refine s_callF rfl rfl rfl bd121 rfl (clone_askF (q.wait.take (takeM q n)) (takeM q n) (c := c) hl2.symm (frow_sub hF1 f2) (by omega)) ?_
      rintro _ F2 hF2 ⟨pb, cb, rfl, hcb, hfb⟩
      (refine run ?_; repeat intro b)
      refine s_br hF2 ⟨⟨rfl, rfl, rfl, trivial⟩, trivial⟩ ?_
      refine s_one 13 (by kernel_rfl) rfl rfl ?_
      (refine run ?_; repeat intro b)
      refine s_br (Hp.sub.refl _) ⟨⟨rfl, rfl, rfl, trivial⟩, trivial⟩ ?_
      refine s_firsts [14, 15] (f' := 0) (by kernel_rfl) rfl rfl rfl ?_
      (refine run ?_; repeat intro b)
      refine s_stop (by kernel_rfl) ?_
      (refine run ?_; repeat intro b)
      exact s_retG (VS.id ⟨_, rfl, pa, ca, pb, cb, by rw [hl1, hl2]; rfl, frow_sub hF2 hfa, hfb⟩)
end Go.Proofs.Ytaienbnadbadfaa
