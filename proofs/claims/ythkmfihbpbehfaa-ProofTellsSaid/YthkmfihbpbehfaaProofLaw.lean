/-
The law of package proof: Said, Root, Tell, After: whatever is handed in, each call answers what the reference answers.
-/
import Derived.Test.YthkmfihbpbehfaaProofTell
import Derived.Test.YthkmfihbpbehfaaEqs
namespace Go.Proofs.Ythkmfihbpbehfaa
set_option linter.unusedVariables false
set_option linter.unusedSimpArgs false
open Go.TR
attribute [local irreducible] ahead orderN pathN wayN goodName bookFault markN lbN hasN findE askFault dropL standsO setE dropE getV findB setO dropO setL prfFault prfRoot heldE tellV tellB afterE afterN sayL sayF saidO rootO
attribute [local irreducible] vc vcOps seqK blockK loopK retK retG retI loopV Plain CallOK CallIn bodied VS vcAny dropG backK brK loopPK IntKind.wrap
set_option maxRecDepth 100000
set_option maxHeartbeats 8000000
theorem eq_say_self (p : Prf) {p1 p2 : Option Addr} {c1 c2 n : Nat} {F : Hp} (hn : n = 17) (h1 : Frow F p1 ((sayL p 17).map S)) (h2 : Frow F p2 ((sayL p 17).map S)) : Plain Try.prog F 67 [.slice p1 n c1, .slice p2 17 c2] (.bool true) := by
  subst hn
  have := eq_str (sayL p 17) (sayL p 17) (c1 := c1) (c2 := c2) h1 h2 (by rw [sayL_len]; decide)
  rw [decide_eq_true rfl, sayL_len] at this
  exact this
theorem proof_tells (root : Nat) (p : Prf) (v : List UInt8) {a : Lay} {F : Hp} (hroot : root < 18446744073709551616) (hp : p.wf) (hce : p.ents.length ≤ a.ce) (hcs : p.sides.length ≤ a.cs) (hpe : p.ents.length * 32 ≤ 140737488355328) (hf : p.at F a) (hv : v.length ≤ 4611686018427387904) :
    Plain Try.prog F 9 [u64 (root : Nat), p.v a, S v] (.bool true) := by
  refine plain_vc (N := 189) (rv := [.tmp 6]) tbok mixed Try.func9 rfl rfl rfl rfl rfl ?_
  (refine run ?_; repeat intro b)
  refine s_callF rfl rfl rfl bd63 rfl (proofsaid_ok p a hp hf) ?_
  rintro _ F1 hF1 ⟨p1, c1, rfl, hc1, hg1⟩
  have hf1 := Prf.at_sub hF1 hf
  (refine run ?_; repeat intro b)
  refine s_plain _ rfl rfl rfl bd64 rfl (proofroot_ok p a hp hf1) ?_
  (refine run ?_; repeat intro b)
  refine s_plain _ rfl rfl rfl bd65 rfl (tell_ok root p a hp hf1) ?_
  (refine run ?_; repeat intro b)
  refine s_plain _ rfl rfl rfl bd66 rfl (after_ok root p v a hp hv hf1) ?_
  (refine run ?_; repeat intro b)
  refine s_plain _ rfl rfl rfl bd51 rfl (prooffault_ok p a hp hf1) ?_
  by_cases h0 : prfFault p = 0
  · have e1 : saidO p = sayL p 17 := by unfold saidO; rw [if_pos h0]
    have e2 : rootO p = prfRoot p := by unfold rootO; rw [if_pos h0]
    rw [e1] at hg1
    rw [e1, e2, h0, sayL_len]
    (refine run ?_; repeat intro b)
    refine s_callF rfl rfl rfl bd52 rfl (refproofsaid_ok p a hp h0 hf1) ?_
    rintro _ F2 hF2 ⟨p2, c2, rfl, hg2⟩
    have hf2 := Prf.at_sub hF2 hf1
    have hrr := refproofroot_ok p a hp h0 hf2
    (refine run ?_; repeat intro b)
    refine s_plain _ rfl rfl rfl bd67 rfl (eq_say_self p rfl (frow_sub hF2 hg1) hg2) ?_
    (refine run ?_; repeat intro b)
    refine s_plain _ rfl rfl rfl bd68 rfl hrr ?_
    (refine run ?_; repeat intro b)
    refine s_if false (congrArg (fun b => some (EV.v (.bool b))) (by simp [bpick])) (fun h => by cases h) (fun _ => ?_)
    (refine run ?_; repeat intro b)
    refine s_plain _ rfl rfl rfl bd68 rfl hrr ?_
    (refine run ?_; repeat intro b)
    have eh : heldE root p = if prfRoot p ≠ root then 8 else 0 := by unfold heldE; rw [if_neg (by simpa using h0)]
    refine s_if (decide (prfRoot p ≠ root)) ?_ (fun h => ?_) (fun h => ?_)
    · refine congrArg (fun b => some (EV.v (.bool b))) ?_
      rw [Bool.eq_iff_iff]
      simp
      omega
    · rw [if_pos (of_decide_eq_true h)] at eh
      have e4 : tellV root p = [] := by unfold tellV; rw [eh]; rfl
      have e5 : tellB root p = false := by unfold tellB; rw [eh]; rfl
      have e6 : afterE root p v = 8 := by unfold afterE; rw [eh]; rfl
      have e7 : afterN root p v = 0 := by unfold afterN; rw [e6]; rfl
      rw [eh, e4, e5, e6, e7]
      (refine run ?_; repeat intro b)
      rfl
    · rw [if_neg (of_decide_eq_false h)] at eh
      obtain ⟨q1, q2⟩ := get_stands (prf_find h0)
      obtain ⟨z1, z2, z3, z4, z5⟩ := prfFault_zero h0
      obtain ⟨h24, _, _⟩ := bookFault_zero z2
      have hb := book_of z2
      have hh := stands_has p.ents p.name
      have e4 : tellV root p = (standsO p.ents p.name).getD [] := by unfold tellV; rw [if_pos eh, q1]
      have e5 : tellB root p = hasN p.ents p.name := by unfold tellB; rw [eh, q2, hh]; rfl
      have e6 : afterE root p v = setE p.ents p.name v := by unfold afterE; rw [if_neg (by simpa using eh)]
      have eN : afterE root p v ≠ 0 → afterN root p v = 0 := fun h => by unfold afterN; rw [if_neg h]
      rw [eh, e4, e5]
      (refine run ?_; repeat intro b)
      refine s_plain _ rfl rfl rfl bd59 rfl (refstands_ok p.ents p.name hp.ents (c := a.ce) hf2.ents) ?_
      rw [hh]
      (refine run ?_; repeat intro b)
      refine s_if false (congrArg (fun b => some (EV.v (.bool b))) (by simp [bpick])) (fun h => by cases h) (fun _ => ?_)
      have eS : setE p.ents p.name v = if askFault p.name v ≠ 0 then askFault p.name v else if hasN p.ents p.name = false ∧ p.ents.length = 24 then 7 else 0 := by unfold setE; rw [if_neg (by simpa using prf_find h0)]
      have eA : askFault p.name v = if 20 < v.length then 2 else 0 := by unfold askFault; rw [if_pos z1]
      (refine run ?_; repeat intro b)
      refine s_if (decide (20 < v.length)) ?_ (fun h => ?_) (fun h => ?_)
      · refine congrArg (fun b => some (EV.v (.bool b))) ?_
        rw [decide_eq_decide, bl_S]; omega
      · rw [if_pos (of_decide_eq_true h)] at eA
        have e : setE p.ents p.name v = 2 := by rw [eS, eA]; rfl
        rw [eN (by rw [e6, e]; decide), e6, e]
        (refine run ?_; repeat intro b)
        rfl
      · rw [if_neg (of_decide_eq_false h)] at eA
        rw [eA, if_neg (by decide)] at eS
        (refine run ?_; repeat intro b)
        refine s_if (decide (hasN p.ents p.name = false ∧ p.ents.length = 24)) ?_ (fun h => ?_) (fun h => ?_)
        · refine congrArg (fun b => some (EV.v (.bool b))) ?_
          rw [bpick_and, Bool.eq_iff_iff]
          simp
          omega
        · have e : setE p.ents p.name v = 7 := by rw [eS, if_pos (of_decide_eq_true h)]
          rw [eN (by rw [e6, e]; decide), e6, e]
          (refine run ?_; repeat intro b)
          rfl
        · have e : setE p.ents p.name v = 0 := by rw [eS, if_neg (of_decide_eq_false h)]
          have e7 : afterN root p v = prfRoot (withE p v) := by unfold afterN; rw [if_pos (by rw [e6]; exact e)]
          have hq := withE_fault h0 e
          have hwq := withE_wf hp hv e
          rw [e7, e6, e]
          (refine run ?_; repeat intro b)
          refine s_callF rfl rfl rfl bd62 rfl (bookset_ok p.ents p.name v hb (by omega) hp.each hp.name (c := a.ce) hf2.ents) ?_
          rintro _ F3 hF3 ⟨p3, c3, rfl, hg3⟩
          have hr3 := refproofroot_ok (withE p v) ⟨p3, c3, a.s, a.cs⟩ hwq hq (F := F3) ⟨hg3, frow_sub hF3 hf2.sides⟩
          (refine run ?_; repeat intro b)
          refine s_plain _ rfl rfl rfl bd68 rfl hr3 ?_
          (refine run ?_; repeat intro b)
          simp [tupV, bpick]
  · have e1 : saidO p = [] := by unfold saidO; rw [if_neg h0]
    have e2 : rootO p = 0 := by unfold rootO; rw [if_neg h0]
    have e3 : heldE root p = prfFault p := by unfold heldE; rw [if_pos h0]
    have e4 : tellV root p = [] := by unfold tellV; rw [if_neg (by rw [e3]; exact h0)]
    have e5 : tellB root p = false := by unfold tellB; rw [e3, decide_eq_false h0]; rfl
    have e6 : afterE root p v = prfFault p := by unfold afterE; rw [e3, if_pos h0]
    have e7 : afterN root p v = 0 := by unfold afterN; rw [e6, if_neg h0]
    rw [e1, e2, e3, e4, e5, e6, e7]
    rcases prfFault_cases p with h | h | h
    · exact absurd h h0
    · rw [h]
      (refine run ?_; repeat intro b)
      rfl
    · rw [h]
      (refine run ?_; repeat intro b)
      rfl
end Go.Proofs.Ythkmfihbpbehfaa
