/-
The law of package serve, reading: whatever is handed in, each call answers what the reference answers.
-/
import Derived.Test.YthkmfihbpbehfaaSetLetMath
import Derived.Test.YthkmfihbpbehfaaLetSame
namespace Go.Proofs.Ythkmfihbpbehfaa
set_option linter.unusedVariables false
set_option linter.unusedSimpArgs false
open Go.TR
theorem readq_cases {s : List UInt8} {x : Value} {F' : Hp} (h : ReadQ s x F') : (rrB s = false ∧ x = pair zrep (i64 3)) ∨ ∃ a, rrB s = true ∧ x = pair (repV (rrH s) (rrP s) a) (i64 0) ∧ (rrP s).at F' a := by
  unfold ReadQ at h
  cases e : rrB s with
  | false => rw [read_no e] at h; exact .inl ⟨rfl, h⟩
  | true =>
    rw [read_rr e] at h
    obtain ⟨a, h1, h2⟩ := h
    exact .inr ⟨a, rfl, h1, h2⟩
theorem rrP_wf {s : List UInt8} (h : rrB s = true) : (rrP s).wf := by
  have := read_rr h
  unfold readO at this
  cases e : rdO s with
  | none => rw [e] at this; cases this
  | some x =>
    obtain ⟨g, q⟩ := x
    rw [e] at this
    simp only at this
    split at this
    · cases this; exact (rdO_wf e).2
    · cases this
theorem zrep_eq : zrep = repV ⟨0, 0, 0, 0⟩ ⟨[], [], []⟩ ⟨none, 0, none, 0⟩ := rfl
theorem replyF_cases (h : Head) (p : Prf) : replyF h p = 0 ∨ replyF h p = 2 ∨ replyF h p = 3 ∨ replyF h p = 4 ∨ replyF h p = 8 := by
  have hf : h.fault = 0 ∨ h.fault = 3 ∨ h.fault = 4 := by
    unfold Head.fault
    split
    · simp
    · split <;> simp
  unfold replyF
  rcases hf with e | e | e
  · rw [if_neg (by simpa using e)]
    rcases heldE_cases h.root p with e | e | e | e <;> simp [e]
  · rw [if_pos (by rw [e]; decide), e]; simp
  · rw [if_pos (by rw [e]; decide), e]; simp
theorem rrq_out {s : List UInt8} {x : Value} {F' : Hp} (h : RrQ s x F') : ∃ h p a, x = pair (repV h p a) (.bool (rrB s)) ∧ p.at F' a ∧ (rrB s = true → h = rrH s ∧ p = rrP s) := h
theorem zero_at (F : Hp) : Prf.at F ⟨[], [], []⟩ ⟨none, 0, none, 0⟩ := ⟨frow_nil _ _, frow_nil _ _⟩
theorem zero_wf : Prf.wf ⟨[], [], []⟩ := ⟨by decide, by decide, (fun x hx => by cases hx), by decide, (fun x hx => by cases hx)⟩
theorem against_bad {h : Head} {p : Prf} {g : Head} {q : Prf} (h0 : replyF h p ≠ 0) : againstV h p g q = ([], [], replyF h p) := by unfold againstV; rw [if_pos h0]
theorem against_bad2 {h : Head} {p : Prf} {g : Head} {q : Prf} (h0 : replyF h p = 0) (h1 : replyF g q ≠ 0) : againstV h p g q = ([], [], replyF g q) := by unfold againstV; rw [if_neg (by simpa using h0), if_pos h1]
theorem against_part {h : Head} {p : Prf} {g : Head} {q : Prf} (h0 : replyF h p = 0) (h1 : replyF g q = 0) (h2 : parted h p g q = true) : againstV h p g q = ([], [], 3) := by unfold againstV; rw [if_neg (by simpa using h0), if_neg (by simpa using h1), if_pos h2]
def sameS (p q : Prf) : Bool := decide ((standsO p.ents p.name).getD [] = (standsO q.ents q.name).getD [] ∧ (standsO p.ents p.name).isSome = (standsO q.ents q.name).isSome)
theorem sameS_eq {h : Head} {p : Prf} {g : Head} {q : Prf} (h0 : replyF h p = 0) (h1 : replyF g q = 0) : (replyT h p = replyT g q ∧ replyB h p = replyB g q) ↔ sameS p q = true := by
  unfold replyT replyB sameS
  rw [if_pos h0, if_pos h1, decide_eq_true h0, decide_eq_true h1, decide_eq_true_eq]
  simp
theorem against_same {h : Head} {p : Prf} {g : Head} {q : Prf} (h0 : replyF h p = 0) (h1 : replyF g q = 0) (h2 : parted h p g q = false) (h3 : sameS p q = true) : againstV h p g q = ([], [], 6) := by
  unfold againstV
  rw [if_neg (by simpa using h0), if_neg (by simpa using h1), if_neg (by rw [h2]; decide), if_pos ((sameS_eq h0 h1).2 h3)]
theorem against_clash {h : Head} {p : Prf} {g : Head} {q : Prf} (h0 : replyF h p = 0) (h1 : replyF g q = 0) (h2 : parted h p g q = false) (h3 : sameS p q = false) : againstV h p g q = clashT (sayL p 17) (sayL q 17) := by
  have hne : ¬ (replyT h p = replyT g q ∧ replyB h p = replyB g q) := fun e => by rw [(sameS_eq h0 h1).1 e] at h3; cases h3
  have n : p.name = q.name := by
    unfold parted at h2
    simp only [Bool.or_eq_false_iff, decide_eq_false_iff_not] at h2
    exact Classical.not_not.1 h2.1
  have z : refclE p q = 0 := by
    unfold refclE
    rw [if_neg (by simpa using (held_zero (replyF_zero h0).2).1), if_neg (by simpa using (held_zero (replyF_zero h1).2).1), if_neg (by simpa using n)]
  unfold againstV clashP
  rw [if_neg (by simpa using h0), if_neg (by simpa using h1), if_neg (by rw [h2]; decide), if_neg hne, z]
  exact if_neg (by decide)
theorem sameS_val (p q : Prf) : bpick (decide (bl (mkB ((standsO p.ents p.name).getD [])) = bl (mkB ((standsO q.ents q.name).getD [])))) ((standsO p.ents p.name).isSome == (standsO q.ents q.name).isSome) false = sameS p q := by
  rw [bpick_and, bl_S, bl_S]
  unfold sameS
  rw [Bool.eq_iff_iff]
  simp
attribute [local irreducible] vc vcOps seqK blockK loopK retK retG retI loopV Plain CallOK CallIn bodied VS vcAny dropG backK brK loopPK IntKind.wrap
attribute [local irreducible] ssaidE ssaidO againstV replyF rsO rsB parted sameS rrB rrH rrP clashP clashT sayL standsO ReadQ RrQ prfFault
set_option maxRecDepth 100000
set_option maxHeartbeats 8000000
theorem serve_reads (h : Head) (p : Prf) (g : Head) (q : Prf) (s : List UInt8) {la lb : Lay} {F : Hp} (wh : h.wf) (wg : g.wf) (wp : p.wf) (wq : q.wf) (hs : s.length ≤ 1048576) (hf : p.at F la) (hg : q.at F lb) : Plain Try.prog F 10 [repV h p la, repV g q lb, S s] (.bool true) := by
  refine plain_vc (N := 206) (rv := [.tmp 6]) tbok mixed Try.func10 rfl rfl rfl rfl rfl ?_
  (refine run ?_; repeat intro b)
  refine s_plain _ rfl rfl rfl bd69 rfl (serveSaid_ok h p la wh wp hf) ?_
  (refine run ?_; repeat intro b)
  refine s_callF rfl rfl rfl bd70 rfl (serveread_ok s (by omega) F) ?_
  rintro x F1 hF1 hx
  obtain ⟨hh, pp, aa, ee, rfl, hat1, hy, hn⟩ : ∃ hh pp aa ee, x = pair (repV hh pp aa) (i64 ee) ∧ pp.at F1 aa ∧ ((rrB s = true → hh = rrH s ∧ pp = rrP s ∧ ee = 0) ∧ (rrB s = false → hh = ⟨0, 0, 0, 0⟩ ∧ pp = ⟨[], [], []⟩ ∧ ee = 3)) := by
    rcases readq_cases hx with ⟨h0, rfl⟩ | ⟨a, h0, rfl, hat⟩
    · exact ⟨⟨0, 0, 0, 0⟩, ⟨[], [], []⟩, ⟨none, 0, none, 0⟩, 3, rfl, ⟨frow_nil _ _, frow_nil _ _⟩, fun h => by (rw [h0] at h; cases h), fun _ => ⟨rfl, rfl, rfl⟩⟩
    · exact ⟨rrH s, rrP s, a, 0, rfl, hat, fun _ => ⟨rfl, rfl, rfl⟩, fun h => by (rw [h0] at h; cases h)⟩
  have hf1 := Prf.at_sub hF1 hf
  have hg1 := Prf.at_sub hF1 hg
  (refine run ?_; repeat intro b)
  refine s_plain _ rfl rfl rfl bd71 rfl (against_ok h p g q la lb wp wq hf1 hg1) ?_
  (refine run ?_; repeat intro b)
  refine s_plain _ rfl rfl rfl bd72 rfl (refreplyfault_ok h p la wp hf1) ?_
  (refine run ?_; repeat intro b)
  rcases replyF_cases h p with h0 | h0 | h0 | h0 | h0
  · rw [h0]
    have es : ssaidE h p = ssE h p := by unfold ssaidE; rw [if_neg (by simpa using h0)]
    have et : ssaidO h p = ssO h p := by unfold ssaidO; rw [if_neg (by simpa using h0)]
    rw [es, et]
    obtain ⟨sa, sb⟩ := ss_of_rs h p
    (refine run ?_; repeat intro b)
    refine s_plain _ rfl rfl rfl bd73 rfl (refreplysaid_ok h p la wh wp h0 hf1) ?_
    (refine runB ?_; repeat intro b)
    rename_i b0 b1
    revert b; intro b2
    refine s_join (β := Unit) (fun _ => True) (fun _ => ⟨[(2, .v (S s)), (3, .loc 0 0), (4, .loc 1 0), (9, .loc 2 0), (10, .v (i64 ee)), (11, .v (S (againstV h p g q).1)), (12, .v (S (againstV h p g q).2.1)), (13, .v (i64 (againstV h p g q).2.2)), (14, .v (i64 0))], F1, [(2, ⟨some b2, [.v (i64 hh.epoch), .v (u64 (hh.root : Nat)), .v (u64 (hh.prev : Nat)), .v (i64 hh.at_), .v (S pp.name), .v (.slice aa.e pp.ents.length aa.ce), .v (.slice aa.s pp.sides.length aa.cs)], 34, 7⟩), (1, ⟨some b1, [.v (i64 g.epoch), .v (u64 (g.root : Nat)), .v (u64 (g.prev : Nat)), .v (i64 g.at_), .v (S q.name), .v (.slice lb.e q.ents.length lb.ce), .v (.slice lb.s q.sides.length lb.cs)], 34, 7⟩), (0, ⟨some b0, [.v (i64 h.epoch), .v (u64 (h.root : Nat)), .v (u64 (h.prev : Nat)), .v (i64 h.at_), .v (S p.name), .v (.slice la.e p.ents.length la.ce), .v (.slice la.s p.sides.length la.cs)], 34, 7⟩)], 3⟩) rfl (fun _ _ => ?_) (fun KK2 kn kr ke => ?_)
    · (refine run ?_; repeat intro b)
      refine s_callF rfl rfl rfl bd74 rfl (replyread_ok s hs F1) ?_
      rintro y F2 hF2 hy2
      obtain ⟨h', p', a', rfl, hat2, hr2⟩ := rrq_out hy2
      have hf2 := Prf.at_sub hF2 hf1
      have hg2 := Prf.at_sub hF2 hg1
      cases hb : rrB s with
      | true =>
        obtain ⟨rfl, rfl, rfl⟩ := hy hb
        obtain ⟨rfl, rfl⟩ := hr2 hb
        (refine run ?_; repeat intro b)
        refine s_plain _ rfl rfl rfl bd75 rfl (samereply_ok (rrH s) (rrP s) aa a' (rrP_wf hb) (Prf.at_sub hF2 hat1) hat2) ?_
        (refine run ?_; repeat intro b)
        refine s_plain _ rfl rfl rfl bd72 rfl (refreplyfault_ok g q lb wq hg2) ?_
        rcases replyF_cases g q with h1 | h1 | h1 | h1 | h1
        · rw [h1]
          (refine run ?_; repeat intro b)
          refine s_if (parted h p g q) ?_ (fun h2 => ?_) (fun h2 => ?_)
          · refine congrArg (fun b => some (EV.v (.bool b))) ?_
            rw [bpick_or]
            exact parted_val h p g q
          · rw [against_part h0 h1 h2]
            (refine run ?_; repeat intro b)
            rfl
          · (refine run ?_; repeat intro b)
            refine s_plain _ rfl rfl rfl bd59 rfl (refstands_ok p.ents p.name wp.ents hf2.ents) ?_
            (refine run ?_; repeat intro b)
            refine s_plain _ rfl rfl rfl bd59 rfl (refstands_ok q.ents q.name wq.ents hg2.ents) ?_
            (refine run ?_; repeat intro b)
            refine s_if (sameS p q) ?_ (fun h3 => ?_) (fun h3 => ?_)
            · refine congrArg (fun b => some (EV.v (.bool b))) ?_
              exact sameS_val p q
            · rw [against_same h0 h1 h2 h3]
              (refine run ?_; repeat intro b)
              rfl
            · rw [against_clash h0 h1 h2 h3]
              obtain ⟨z1, _⟩ := held_zero (replyF_zero h0).2
              obtain ⟨z2, _⟩ := held_zero (replyF_zero h1).2
              (refine run ?_; repeat intro b)
              refine s_regiona [0, 1] (by kernel_rfl) ?_
              refine s_firsts [0, 1, 3, 4] (f' := 10) (by kernel_rfl) rfl rfl rfl ?_
              (refine run ?_; repeat intro b)
              refine s_one 2 (by kernel_rfl) rfl rfl ?_
              (refine run ?_; repeat intro b)
              refine s_callF rfl rfl rfl bd52 rfl (refproofsaid_ok p la wp z1 hf2) ?_
              rintro _ F3 hF3 ⟨p3, c3, rfl, hg3⟩
              (refine run ?_; repeat intro b)
              refine s_br hF3 ⟨⟨rfl, rfl, rfl, rfl, rfl, rfl, rfl, rfl, trivial⟩, ⟨rfl, rfl, rfl, rfl, rfl, rfl, rfl, rfl, trivial⟩, trivial⟩ ?_
              refine s_one 5 (by kernel_rfl) rfl rfl ?_
              (refine run ?_; repeat intro b)
              refine s_callF rfl rfl rfl bd52 rfl (refproofsaid_ok q lb wq z2 (Prf.at_sub hF3 hg2)) ?_
              rintro _ F4 hF4 ⟨p4, c4, rfl, hg4⟩
              (refine run ?_; repeat intro b)
              refine s_br hF4 ⟨⟨rfl, rfl, rfl, rfl, rfl, rfl, rfl, rfl, trivial⟩, ⟨rfl, rfl, rfl, rfl, rfl, rfl, rfl, rfl, trivial⟩, trivial⟩ ?_
              refine s_firsts [6, 7, 8, 9, 10, 11, 12, 13] (f' := 0) (by kernel_rfl) rfl rfl rfl ?_
              refine s_plain _ rfl rfl rfl bd50 rfl (refclash17_ok z1 z2 (frow_sub hF4 hg3) hg4) ?_
              (refine run ?_; repeat intro b)
              refine s_stop (by kernel_rfl) ?_
              (refine run ?_; repeat intro b)
              simp [tupV, bpick]
        all_goals
          have ea : againstV h p g q = ([], [], replyF g q) := against_bad2 h0 (by rw [h1]; decide)
          rw [ea, h1]
          (refine run ?_; repeat intro b)
          rfl
      | false =>
        obtain ⟨rfl, rfl, rfl⟩ := hn hb
        (refine run ?_; repeat intro b)
        refine s_plain _ rfl rfl rfl bd75 rfl (samereply_ok ⟨0, 0, 0, 0⟩ ⟨[], [], []⟩ aa ⟨none, 0, none, 0⟩ zero_wf (Prf.at_sub hF2 hat1) (zero_at _)) ?_
        (refine run ?_; repeat intro b)
        refine s_plain _ rfl rfl rfl bd72 rfl (refreplyfault_ok g q lb wq hg2) ?_
        rcases replyF_cases g q with h1 | h1 | h1 | h1 | h1
        · rw [h1]
          (refine run ?_; repeat intro b)
          refine s_if (parted h p g q) ?_ (fun h2 => ?_) (fun h2 => ?_)
          · refine congrArg (fun b => some (EV.v (.bool b))) ?_
            rw [bpick_or]
            exact parted_val h p g q
          · rw [against_part h0 h1 h2]
            (refine run ?_; repeat intro b)
            rfl
          · (refine run ?_; repeat intro b)
            refine s_plain _ rfl rfl rfl bd59 rfl (refstands_ok p.ents p.name wp.ents hf2.ents) ?_
            (refine run ?_; repeat intro b)
            refine s_plain _ rfl rfl rfl bd59 rfl (refstands_ok q.ents q.name wq.ents hg2.ents) ?_
            (refine run ?_; repeat intro b)
            refine s_if (sameS p q) ?_ (fun h3 => ?_) (fun h3 => ?_)
            · refine congrArg (fun b => some (EV.v (.bool b))) ?_
              exact sameS_val p q
            · rw [against_same h0 h1 h2 h3]
              (refine run ?_; repeat intro b)
              rfl
            · rw [against_clash h0 h1 h2 h3]
              obtain ⟨z1, _⟩ := held_zero (replyF_zero h0).2
              obtain ⟨z2, _⟩ := held_zero (replyF_zero h1).2
              (refine run ?_; repeat intro b)
              refine s_regiona [0, 1] (by kernel_rfl) ?_
              refine s_firsts [0, 1, 3, 4] (f' := 10) (by kernel_rfl) rfl rfl rfl ?_
              (refine run ?_; repeat intro b)
              refine s_one 2 (by kernel_rfl) rfl rfl ?_
              (refine run ?_; repeat intro b)
              refine s_callF rfl rfl rfl bd52 rfl (refproofsaid_ok p la wp z1 hf2) ?_
              rintro _ F3 hF3 ⟨p3, c3, rfl, hg3⟩
              (refine run ?_; repeat intro b)
              refine s_br hF3 ⟨⟨rfl, rfl, rfl, rfl, rfl, rfl, rfl, rfl, trivial⟩, ⟨rfl, rfl, rfl, rfl, rfl, rfl, rfl, rfl, trivial⟩, trivial⟩ ?_
              refine s_one 5 (by kernel_rfl) rfl rfl ?_
              (refine run ?_; repeat intro b)
              refine s_callF rfl rfl rfl bd52 rfl (refproofsaid_ok q lb wq z2 (Prf.at_sub hF3 hg2)) ?_
              rintro _ F4 hF4 ⟨p4, c4, rfl, hg4⟩
              (refine run ?_; repeat intro b)
              refine s_br hF4 ⟨⟨rfl, rfl, rfl, rfl, rfl, rfl, rfl, rfl, trivial⟩, ⟨rfl, rfl, rfl, rfl, rfl, rfl, rfl, rfl, trivial⟩, trivial⟩ ?_
              refine s_firsts [6, 7, 8, 9, 10, 11, 12, 13] (f' := 0) (by kernel_rfl) rfl rfl rfl ?_
              refine s_plain _ rfl rfl rfl bd50 rfl (refclash17_ok z1 z2 (frow_sub hF4 hg3) hg4) ?_
              (refine run ?_; repeat intro b)
              refine s_stop (by kernel_rfl) ?_
              (refine run ?_; repeat intro b)
              simp [tupV, bpick]
        all_goals
          have ea : againstV h p g q = ([], [], replyF g q) := against_bad2 h0 (by rw [h1]; decide)
          rw [ea, h1]
          (refine run ?_; repeat intro b)
          rfl
    · cases hb : rsB h p with
      | true =>
        obtain ⟨c1, c2⟩ := sa hb
        rw [c1, c2]
        (refine run ?_; repeat intro b)
        refine s_if false ?_ (fun h => by cases h) (fun _ => ?_)
        · refine congrArg (fun b => some (EV.v (.bool b))) ?_
          simp [bpick]
        · (refine run ?_; repeat intro b)
          exact kn _ (VS.keepN [2, 3, 4, 9, 10, 11, 12, 13, 14] rfl ⟨(), trivial, rfl⟩)
      | false =>
        obtain ⟨c1, c2⟩ := sb hb
        rw [c1, c2]
        (refine run ?_; repeat intro b)
        exact kn _ (VS.keepN [2, 3, 4, 9, 10, 11, 12, 13, 14] rfl ⟨(), trivial, rfl⟩)
  all_goals
    rename_i b0 b1
    have es : ssaidE h p = replyF h p := by unfold ssaidE; rw [if_pos (by rw [h0]; decide)]
    have et : ssaidO h p = [] := by unfold ssaidO; rw [if_pos (by rw [h0]; decide)]
    have ea : againstV h p g q = ([], [], replyF h p) := against_bad (by rw [h0]; decide)
    rw [es, et, ea, h0]
    (refine run ?_; repeat intro b)
    refine s_callF rfl rfl rfl bd74 rfl (replyread_ok s hs F1) ?_
    rintro y F2 hF2 hy2
    obtain ⟨h', p', a', rfl, hat2, hr2⟩ := rrq_out hy2
    have hf2 := Prf.at_sub hF2 hf1
    have hg2 := Prf.at_sub hF2 hg1
    cases hb : rrB s with
    | true =>
      obtain ⟨rfl, rfl, rfl⟩ := hy hb
      obtain ⟨rfl, rfl⟩ := hr2 hb
      (refine run ?_; repeat intro b)
      refine s_plain _ rfl rfl rfl bd75 rfl (samereply_ok (rrH s) (rrP s) aa a' (rrP_wf hb) (Prf.at_sub hF2 hat1) hat2) ?_
      (refine run ?_; repeat intro b)
      rfl
    | false =>
      obtain ⟨rfl, rfl, rfl⟩ := hn hb
      (refine run ?_; repeat intro b)
      refine s_plain _ rfl rfl rfl bd75 rfl (samereply_ok ⟨0, 0, 0, 0⟩ ⟨[], [], []⟩ aa ⟨none, 0, none, 0⟩ zero_wf (Prf.at_sub hF2 hat1) (zero_at _)) ?_
      (refine run ?_; repeat intro b)
      rfl
end Go.Proofs.Ythkmfihbpbehfaa
