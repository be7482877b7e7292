/-
The law of package clash: whatever is handed in, each call answers what the reference answers.
-/
import Derived.Test.YthkmfihbpbehfaaClash
import Derived.Test.YthkmfihbpbehfaaConcatStr
namespace Go.Proofs.Ythkmfihbpbehfaa
set_option linter.unusedVariables false
set_option linter.unusedSimpArgs false
open Go.TR
attribute [local irreducible] clashT clashP refclE prfFault pathN goodName sayF markN sayL
attribute [local irreducible] vc vcOps seqK blockK loopK retK retG retI loopV Plain CallOK CallIn bodied VS vcAny dropG backK brK loopPK IntKind.wrap
set_option maxRecDepth 100000
theorem clashlong_ok (s : List UInt8) (F : Hp) : Plain Try.prog F 49 [S s] (.bool (decide (1000 < s.length))) := by
  refine plain_vc (N := 6) (rv := [.tmp 2]) tbok mixed Try.func49 rfl rfl rfl rfl rfl ?_
  (refine run ?_; repeat intro b)
  have e : decide ((1000 : Int) < ((bl (mkB s)).length : Int)) = decide (1000 < s.length) := by
    rw [decide_eq_decide, bl_S]; omega
  rw [e]
  rfl
set_option maxHeartbeats 4000000 in
theorem clash_tells (xa xb : List (List UInt8)) (p q : Prf) {pa pb : Option Addr} {ca cb : Nat} {la lb : Lay} {F : Hp} (ha : xa.length * 16 ≤ 140737488355328) (sa : ∀ s ∈ xa, s.length ≤ 4611686018427387904) (hfa : Frow F pa (xa.map S)) (hb : xb.length * 16 ≤ 140737488355328) (sb : ∀ s ∈ xb, s.length ≤ 4611686018427387904) (hfb : Frow F pb (xb.map S)) (hp : p.wf) (hce : p.ents.length ≤ la.ce) (hcs : p.sides.length ≤ la.cs) (hpe : p.ents.length * 32 ≤ 140737488355328) (hfp : p.at F la) (hq : q.wf) (hce2 : q.ents.length ≤ lb.ce) (hcs2 : q.sides.length ≤ lb.cs) (hqe : q.ents.length * 32 ≤ 140737488355328) (hfq : q.at F lb) :
    Plain Try.prog F 7 [.slice pa xa.length ca, .slice pb xb.length cb, p.v la, q.v lb] (.bool true) := by
  refine plain_vc (N := 111) (rv := [.tmp 8]) tbok mixed Try.func7 rfl rfl rfl rfl rfl ?_
  (refine run ?_; repeat intro b)
  refine s_plain _ rfl rfl rfl bd45 rfl (clashtexts_ok xa xb (by omega) (by omega) sa sb hfa hfb) ?_
  (refine run ?_; repeat intro b)
  refine s_plain _ rfl rfl rfl bd46 rfl (clashproofs_ok p q la lb hp hq hfp hfq) ?_
  (refine run ?_; repeat intro b)
  refine s_shift (VS.freeze 2 [6, 7, 8, 9, 10, 11, 12, 13, 14, 0, 1, 38] rfl rfl rfl rfl fun F1 hs1 hf1 => VS.id ?_)
  refine s_callF rfl rfl rfl bd48 rfl (concat_strs xa xb (by omega) hf1 (frow_sub hs1 hfa) (frow_sub hs1 hfb)) ?_
  rintro _ F2 hF2 ⟨p2, c2, rfl, hg2⟩
  have hF02 := hs1.trans hF2
  (refine run ?_; repeat intro b)
  have hlen : (xa ++ xb).length ≤ 4611686018427387904 := by rw [List.length_append]; omega
  refine s_plain _ rfl rfl rfl bd47 rfl (strs_has (fun s => decide (1000 < s.length)) _ #[] bd49 (xa ++ xb) hg2 hlen (fun s _ => clashlong_ok s F2)) ?_
  (refine run ?_; repeat intro b)
  refine s_if _ rfl (fun h => ?_) (fun h => ?_)
  · (refine run ?_; repeat intro b)
    rfl
  (refine run ?_; repeat intro b)
  refine s_plain _ rfl rfl rfl bd50 rfl (refclash_ok xa xb (by omega) (by omega) sa sb (frow_sub hF02 hfa) (frow_sub hF02 hfb)) ?_
  (refine run ?_; repeat intro b)
  refine s_if false ?_ (fun h => by cases h) (fun _ => ?_)
  · refine congrArg (fun b => some (EV.v (.bool b))) ?_
    simp [bpick]
  (refine run ?_; repeat intro b)
  have hfp' := Prf.at_sub hF02 hfp
  have hfq' := Prf.at_sub hF02 hfq
  refine s_plain _ rfl rfl rfl bd51 rfl (prooffault_ok p la hp hfp') ?_
  by_cases hp0 : prfFault p = 0
  · rw [hp0]
    (refine run ?_; repeat intro b)
    refine s_plain _ rfl rfl rfl bd51 rfl (prooffault_ok q lb hq hfq') ?_
    by_cases hq0 : prfFault q = 0
    · rw [hq0]
      (refine run ?_; repeat intro b)
      refine s_if (!decide (p.name = q.name)) rfl (fun h => ?_) (fun h => ?_)
      · have e : clashP p q = ([], [], 3) := by
          have : refclE p q = 3 := by unfold refclE; rw [if_neg (by simpa using hp0), if_neg (by simpa using hq0), if_pos (by simpa using h)]
          unfold clashP
          rw [this]
          rfl
        rw [e]
        (refine run ?_; repeat intro b)
        rfl
      · have e : clashP p q = clashT (sayL p 17) (sayL q 17) := by
          have : refclE p q = 0 := by unfold refclE; rw [if_neg (by simpa using hp0), if_neg (by simpa using hq0), if_neg (by simpa using h)]
          unfold clashP
          rw [this]
          rfl
        rw [e]
        (refine run ?_; repeat intro b)
        refine s_regiona [0, 1] (by kernel_rfl) ?_
        refine s_firsts [0, 2] (f' := 10) (by kernel_rfl) rfl rfl rfl ?_
        (refine run ?_; repeat intro b)
        refine s_one 1 (by kernel_rfl) rfl rfl ?_
        (refine run ?_; repeat intro b)
        refine s_callF rfl rfl rfl bd52 rfl (refproofsaid_ok p la hp hp0 hfp') ?_
        rintro _ F3 hF3 ⟨p3, c3, rfl, hg3⟩
        (refine run ?_; repeat intro b)
        refine s_br hF3 ⟨⟨rfl, rfl, rfl, rfl, trivial⟩, ⟨rfl, rfl, rfl, rfl, trivial⟩, trivial⟩ ?_
        refine s_one 3 (by kernel_rfl) rfl rfl ?_
        (refine run ?_; repeat intro b)
        refine s_callF rfl rfl rfl bd52 rfl (refproofsaid_ok q lb hq hq0 (Prf.at_sub hF3 hfq')) ?_
        rintro _ F4 hF4 ⟨p4, c4, rfl, hg4⟩
        (refine run ?_; repeat intro b)
        refine s_br hF4 ⟨⟨rfl, rfl, rfl, rfl, trivial⟩, ⟨rfl, rfl, rfl, rfl, trivial⟩, trivial⟩ ?_
        refine s_firsts [4, 5, 6, 7, 8, 9, 10, 11] (f' := 0) (by kernel_rfl) rfl rfl rfl ?_
        refine s_plain _ rfl rfl rfl bd50 rfl (refclash17_ok hp0 hq0 (frow_sub hF4 hg3) hg4) ?_
        (refine run ?_; repeat intro b)
        refine s_stop (by kernel_rfl) ?_
        (refine run ?_; repeat intro b)
        simp [tupV, bpick]
    · have e : clashP p q = ([], [], prfFault q) := by
        have : refclE p q = prfFault q := by unfold refclE; rw [if_neg (by simpa using hp0), if_pos hq0]
        unfold clashP
        rw [this, if_pos hq0]
      rw [e]
      rcases prfFault_cases q with h | h | h
      · exact absurd h hq0
      · rw [h]
        (refine run ?_; repeat intro b)
        rfl
      · rw [h]
        (refine run ?_; repeat intro b)
        rfl
  · have e : clashP p q = ([], [], prfFault p) := by unfold clashP refclE; rw [if_pos hp0, if_pos hp0]
    rw [e]
    rcases prfFault_cases p with h | h | h
    · exact absurd h hp0
    · rw [h]
      (refine run ?_; repeat intro b)
      rfl
    · rw [h]
      (refine run ?_; repeat intro b)
      rfl
end Go.Proofs.Ythkmfihbpbehfaa
