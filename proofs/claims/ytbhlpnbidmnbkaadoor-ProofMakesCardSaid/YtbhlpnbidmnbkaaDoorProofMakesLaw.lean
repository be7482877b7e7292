/-
The law ProofMakes: the walk.
-/
import Derived.Test.YtbhlpnbidmnbkaaDoorProofOf
import Derived.Test.YtbhlpnbidmnbkaaDoorProofSame
namespace Go.Proofs.YtbhlpnbidmnbkaaDoor
set_option linter.unusedVariables false
set_option linter.unusedSimpArgs false
open Go.TR
theorem made_lens (l : List Entry) (n : List UInt8) (h : l.length ≤ 24) : (madeP l n).ents.length ≤ 4611686018427387904 ∧ (madeP l n).sides.length ≤ 4611686018427387904 := by
  have h1 := grp_len l (pathN n)
  have h2 := sidesN_len l n 16
  unfold madeP
  dsimp only
  omega
theorem makeP_made {l : List Entry} {n : List UInt8} (h : makeE l n = 0) : makeP l n = madeP l n := by unfold makeP; rw [if_pos h]
theorem none_at (F : Hp) : Prf.none.at F ⟨none, 0, none, 0⟩ := ⟨frow_nil _ _, frow_nil _ _⟩
attribute [local irreducible] vc vcOps seqK blockK loopK retK retG retI loopV Plain CallOK CallIn bodied VS vcAny dropG backK brK loopPK IntKind.wrap
attribute [local irreducible] bookFault goodName prfFault makeE makeP madeP
set_option maxRecDepth 100000
set_option maxHeartbeats 4000000
theorem proof_makes (l : List Entry) (n : List UInt8) (p : Prf) {pl : Option Addr} {cl : Nat} {a : Lay} {F : Hp} (hl32 : l.length * 32 ≤ 140737488355328) (hc : l.length ≤ cl) (hw : ∀ x ∈ l, x.wf) (hf : Frow F pl (l.flatMap Entry.row)) (hn : n.length ≤ 4611686018427387904)
    (hp : p.wf) (hce : p.ents.length ≤ a.ce) (hcs : p.sides.length ≤ a.cs) (hpe : p.ents.length * 32 ≤ 140737488355328) (hpf : p.at F a) :
    Plain Tryd.prog F 4 [.slice pl l.length cl, S n, p.v a] (.bool true) := by
  have hl : l.length ≤ 4611686018427387904 := by omega
  refine plain_vc (N := 45) (rv := [.tmp 6]) tbok mixed Tryd.func4 rfl rfl rfl rfl rfl ?_
  (refine run ?_; repeat intro b)
  revert b; intro b5
  refine s_callF rfl rfl rfl bd14 rfl (make_ok l n hl hw hn hf) ?_
  rintro _ F1 hF1 ⟨a1, rfl, hm⟩
  have hf1 := frow_sub hF1 hf
  have hpf1 := Prf.at_sub hF1 hpf
  have hgn := goodname_ok n hn F1
  have hri := proofright_ok p a hp hpf1
  have hfa := prooffault_ok p a hp hpf1
  rcases bookFault_cases l with h0 | h0 | h0
  · cases hg : goodName n with
    | true =>
      have hE := makeE_good h0 hg
      obtain ⟨h24, _, _⟩ := bookFault_zero h0
      obtain ⟨l1, l2⟩ := made_lens l n h24
      rw [makeP_made hE] at hm ⊢
      rw [hE]
      rw [hg] at hgn
      (refine run ?_; repeat intro b)
      refine s_plain _ rfl rfl rfl bd9 rfl (bookfault_ok l hl hw hf1) ?_
      rw [h0]
      (refine run ?_; repeat intro b)
      refine s_plain _ rfl rfl rfl bd15 rfl hgn ?_
      (refine run ?_; repeat intro b)
      refine s_regiond (by kernel_rfl) ?_
      (refine run ?_; repeat intro b)
      refine s_plain _ rfl rfl rfl bd16 rfl hri ?_
      (refine run ?_; repeat intro b)
      refine s_plain _ rfl rfl rfl bd17 rfl hfa ?_
      (refine run ?_; repeat intro b)
      refine s_if false ?_ (fun h => by cases h) (fun _ => ?_)
      · refine congrArg (fun b => some (EV.v (.bool b))) ?_
        simp [bpick_or]
      (refine run ?_; repeat intro b)
      refine s_regiona [1] (by kernel_rfl) ?_
      refine s_firsts [0, 1, 2] (f' := 3) (by kernel_rfl) rfl rfl rfl ?_
      (refine run ?_; repeat intro b)
      refine s_one 3 (by kernel_rfl) rfl rfl ?_
      refine s_callF rfl rfl rfl bd19 rfl (proofof_ok l n h24 hw hn hf1) ?_
      rintro _ F2 hF2 ⟨a2, rfl, hm2⟩
      (refine run ?_; repeat intro b)
      refine s_br hF2 ⟨⟨rfl, rfl, rfl, rfl, trivial⟩, trivial⟩ ?_
      refine s_one 4 (by kernel_rfl) rfl rfl ?_
      refine s_plain _ rfl rfl rfl bd18 rfl (psameproof_ok (madeP l n) a1 a2 l1 l2 (Prf.at_sub hF2 hm) hm2) ?_
      (refine run ?_; repeat intro b)
      refine s_br (Hp.sub.refl _) ⟨⟨rfl, rfl, rfl, rfl, trivial⟩, trivial⟩ ?_
      refine s_firsts [5] (f' := 0) (by kernel_rfl) rfl rfl rfl ?_
      (refine run ?_; repeat intro b)
      refine s_stop (by kernel_rfl) ?_
      (refine run ?_; repeat intro b)
      rfl
    | false =>
      have hE := makeE_form h0 hg
      rw [hg] at hgn
      rw [makeP_bad hE (by decide)] at hm ⊢
      rw [hE]
      (refine run ?_; repeat intro b)
      refine s_plain _ rfl rfl rfl bd9 rfl (bookfault_ok l hl hw hf1) ?_
      rw [h0]
      (refine run ?_; repeat intro b)
      refine s_plain _ rfl rfl rfl bd15 rfl hgn ?_
      (refine run ?_; repeat intro b)
      refine s_regiond (by kernel_rfl) ?_
      (refine run ?_; repeat intro b)
      refine s_plain _ rfl rfl rfl bd16 rfl hri ?_
      (refine run ?_; repeat intro b)
      refine s_plain _ rfl rfl rfl bd17 rfl hfa ?_
      (refine run ?_; repeat intro b)
      refine s_if false ?_ (fun h => by cases h) (fun _ => ?_)
      · refine congrArg (fun b => some (EV.v (.bool b))) ?_
        simp [bpick_or]
      (refine run ?_; repeat intro b)
      refine s_plain _ rfl rfl rfl bd18 rfl (psameproof_ok Prf.none a1 ⟨none, 0, none, 0⟩ (by decide) (by decide) hm (none_at F1)) ?_
      (refine run ?_; repeat intro b)
      rfl
  · have hE : makeE l n = 2 := by rw [makeE_fault n (by rw [h0]; decide), h0]
    rw [makeP_bad hE (by decide)] at hm ⊢
    rw [hE]
    (refine run ?_; repeat intro b)
    refine s_plain _ rfl rfl rfl bd9 rfl (bookfault_ok l hl hw hf1) ?_
    rw [h0]
    (refine run ?_; repeat intro b)
    refine s_regiond (by kernel_rfl) ?_
    (refine run ?_; repeat intro b)
    refine s_plain _ rfl rfl rfl bd16 rfl hri ?_
    (refine run ?_; repeat intro b)
    refine s_plain _ rfl rfl rfl bd17 rfl hfa ?_
    (refine run ?_; repeat intro b)
    refine s_if false ?_ (fun h => by cases h) (fun _ => ?_)
    · refine congrArg (fun b => some (EV.v (.bool b))) ?_
      simp [bpick_or]
    (refine run ?_; repeat intro b)
    refine s_plain _ rfl rfl rfl bd18 rfl (psameproof_ok Prf.none a1 ⟨none, 0, none, 0⟩ (by decide) (by decide) hm (none_at F1)) ?_
    (refine run ?_; repeat intro b)
    rfl
  · have hE : makeE l n = 3 := by rw [makeE_fault n (by rw [h0]; decide), h0]
    rw [makeP_bad hE (by decide)] at hm ⊢
    rw [hE]
    (refine run ?_; repeat intro b)
    refine s_plain _ rfl rfl rfl bd9 rfl (bookfault_ok l hl hw hf1) ?_
    rw [h0]
    (refine run ?_; repeat intro b)
    refine s_regiond (by kernel_rfl) ?_
    (refine run ?_; repeat intro b)
    refine s_plain _ rfl rfl rfl bd16 rfl hri ?_
    (refine run ?_; repeat intro b)
    refine s_plain _ rfl rfl rfl bd17 rfl hfa ?_
    (refine run ?_; repeat intro b)
    refine s_if false ?_ (fun h => by cases h) (fun _ => ?_)
    · refine congrArg (fun b => some (EV.v (.bool b))) ?_
      simp [bpick_or]
    (refine run ?_; repeat intro b)
    refine s_plain _ rfl rfl rfl bd18 rfl (psameproof_ok Prf.none a1 ⟨none, 0, none, 0⟩ (by decide) (by decide) hm (none_at F1)) ?_
    (refine run ?_; repeat intro b)
    rfl
end Go.Proofs.YtbhlpnbidmnbkaaDoor
