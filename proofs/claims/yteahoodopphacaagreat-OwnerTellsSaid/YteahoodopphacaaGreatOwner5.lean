/-
Package owner: copied, See, Want.
-/
import Derived.Test.YteahoodopphacaaGreatOwner3
import Derived.Test.YteahoodopphacaaGreatTag
import Derived.Test.YteahoodopphacaaGreatFwN
namespace Go.Proofs.YteahoodopphacaaGreat
set_option linter.unusedVariables false
set_option linter.unusedSimpArgs false
open Go.TR
def seeK (o : Ow) (l : List Head) (h : Head) (q : Prf) : Int := if ownF o = 0 then verdK o l h q else 0
def seeO (o : Ow) (l : List Head) (h : Head) (q : Prf) : Ow := if ownF o = 0 then (if verdK o l h q = 0 then ⟨o.name, o.key, h, o.wanted, (verdN o l h q : Nat)⟩ else o) else Ow.none
def wantE (o : Ow) (value : List UInt8) : Int := if ownF o ≠ 0 then ownF o else if longB value = true then 2 else if o.wanted.length = 30 then 7 else 0
def wantO (o : Ow) (value : List UInt8) : Ow := if wantE o value = 0 then ⟨o.name, o.key, o.head, o.wanted ++ [value], o.had⟩ else Ow.none
def wantA (o : Ow) (value : List UInt8) : Ask := if wantE o value = 0 then askOf o.key o.name value o.wanted.length else Ask.none
theorem str_one (l : List (List UInt8)) : ∀ x ∈ l.map S, one (.v x) = true := fun x hx => by
  obtain ⟨s, _, rfl⟩ := List.mem_map.1 hx
  rfl
attribute [local irreducible] vc vcOps seqK blockK loopK retK retG retI loopV Plain CallOK CallIn bodied VS vcAny dropG backK brK loopPK IntKind.wrap
set_option maxRecDepth 100000
/-- slices.Clone: a row of the caller's own. -/
theorem clone_str (cs : List Value) (n : Nat) {p : Option Addr} {c : Nat} {F : Hp} (hl : cs.length = n * 1) (hf : Frow F p cs) (h1 : ∀ x ∈ cs, one (.v x) = true) (hb : n * 16 ≤ 140737488355328) : CallOK Tryz.prog F 11 [.slice p n c] (fun x _ new => RowBack 9 1 cs n x new) := by
  refine call_vc (N := 8) (rv := [.tmp 2]) tbok mixed Tryz.func11 rfl rfl rfl rfl rfl ?_
  (refine run ?_; repeat intro b)
  refine s_snil (b := p.isNone) tbok rfl rfl rfl ?_
  cases p with
  | none =>
    have hn : n = 0 := by
      rcases Nat.eq_zero_or_pos n with h | h
      · exact h
      · have := frow_some hf (j := 0) (by rw [hl]; omega)
        cases this
    subst hn
    (refine run ?_; repeat intro b)
    refine s_retG (VS.id ⟨_, rfl, .inl ⟨rfl, rfl, none, rfl⟩⟩)
  | some a =>
    (refine run ?_; repeat intro b)
    refine s_appR rfl rfl rfl rfl rfl rfl rfl rfl (src_frz hl hf) (one_v _ h1) (fun h => by cases h) (Nat.le_refl 0) rfl (Nat.zero_le _) (by show (0 + n) * 16 ≤ _; omega) (fun hn => ?_) (fun hn b2 c2 hc2 => ?_)
    · subst hn
      (refine run ?_; repeat intro b)
      refine s_retG ?_
      refine VS.freeze 0 [2] rfl (cs := []) rfl rfl rfl fun F' hs1 hf1 => VS.id ⟨_, rfl, .inl ⟨rfl, rfl, _, rfl⟩⟩
    · (refine run ?_; repeat intro b)
      simp only [Nat.zero_add] at hc2 ⊢
      refine s_retGf (VSf.ren (nx' := 1) [(1, 0)] [2] [(0, ⟨some b2, cs.map EV.v, 9, c2 * 1⟩)] ⟨rfl, ⟨_, rfl, rfl, rfl, rfl, .inl ⟨rfl, fun e he => all_v _ e he⟩⟩, trivial⟩ rfl rfl rfl rfl rfl rfl ⟨_, rfl, .inr ⟨hn, b2, c2, hc2, rfl, rfl⟩⟩)
attribute [local irreducible] ownF verdK verdN longB askOf
theorem copied_ok (o : Ow) (hw : o.wf) {p : Option Addr} {c : Nat} {F : Hp} (hf : Frow F p (o.wanted.map S)) : CallF Tryz.prog F 15 [o.v p c] (fun x F' => ∃ p c, x = o.v p c ∧ o.wanted.length ≤ c ∧ Frow F' p (o.wanted.map S)) := by
  refine CallOK.drop (call_vc (N := 8) (rv := [.cell 2 27]) tbok mixed Tryz.func15 rfl rfl rfl rfl rfl ?_)
  (refine run ?_; repeat intro b)
  refine s_callF rfl rfl rfl bd11 rfl (CallOK.frz (fun h => by rw [List.eq_nil_of_length_eq_zero h]; rfl) (clone_str (o.wanted.map S) o.wanted.length (by rw [List.length_map, Nat.mul_one]) hf (str_one _) hw.wanted)) ?_
  rintro _ F1 hF1 ⟨p1, c1, rfl, hc1, h1⟩
  (refine run ?_; repeat intro b)
  exact s_retG (VS.id ⟨_, rfl, p1, c1, rfl, hc1, h1⟩)
set_option maxHeartbeats 2000000 in
theorem see_ok (o : Ow) (l : List Head) (h : Head) (q : Prf) (a : Lay) (hw : o.wf) (hl : l.length ≤ 4611686018427387904) (hwl : ∀ x ∈ l, x.wf) (hq : q.wf) {p : Option Addr} {c : Nat} {pl : Option Addr} {cl : Nat} {F : Hp} (hf : Frow F p (o.wanted.map S)) (hfl : Frow F pl (l.flatMap Head.row)) (ha : q.at F a) :
    CallF Tryz.prog F 6 [o.v p c, .slice pl l.length cl, repV h q a] (fun x F' => ∃ p c, x = triple ((seeO o l h q).v p c) (i64 (seeK o l h q)) (i64 (ownF o)) ∧ Frow F' p ((seeO o l h q).wanted.map S)) := by
  refine CallOK.drop (call_vc (N := 36) (rv := [.cell 6 27, .tmp 7, .tmp 8]) tbok mixed Tryz.func6 rfl rfl rfl rfl rfl ?_)
  (refine run ?_; repeat intro b)
  refine s_plain _ rfl rfl rfl bd9 rfl (ownercheck_ok o hw hf) ?_
  (refine run ?_; repeat intro b)
  refine s_if (decide (ownF o ≠ 0)) ?_ (fun h0 => ?_) (fun h0 => ?_)
  · refine congrArg (fun b => some (EV.v (.bool b))) ?_
    rw [Bool.eq_iff_iff]; simp
  · have h0 := of_decide_eq_true h0
    have e1 : seeO o l h q = Ow.none := by unfold seeO; rw [if_neg h0]
    have e2 : seeK o l h q = 0 := by unfold seeK; rw [if_neg h0]
    rw [e1, e2]
    (refine run ?_; repeat intro b)
    exact s_retG (VS.id ⟨_, rfl, none, 0, rfl, frow_nil _ _⟩)
  · have h0 : ownF o = 0 := by have := of_decide_eq_false h0; omega
    have e2 : seeK o l h q = verdK o l h q := by unfold seeK; rw [if_pos h0]
    rw [e2, h0]
    (refine run ?_; repeat intro b)
    refine s_callF rfl rfl rfl bd15 rfl (copied_ok o hw hf) ?_
    rintro _ F1 hF1 ⟨p1, c1, rfl, hc1, h1⟩
    (refine run ?_; repeat intro b)
    refine s_plain _ rfl rfl rfl bd16 rfl (verdict_ok o l h q a hw h0 hl hwl hq hc1 h1 (frow_sub hF1 hfl) (Prf.at_sub hF1 ha)) ?_
    (refine run ?_; repeat intro b)
    refine s_if (decide (verdK o l h q = 0)) ?_ (fun h2 => ?_) (fun h2 => ?_)
    · refine congrArg (fun b => some (EV.v (.bool b))) ?_
      rw [Bool.eq_iff_iff]; simp
    · have h2 := of_decide_eq_true h2
      have e1 : seeO o l h q = ⟨o.name, o.key, h, o.wanted, (verdN o l h q : Nat)⟩ := by unfold seeO; rw [if_pos h0, if_pos h2]
      rw [e1, h2]
      (refine run ?_; repeat intro b)
      exact s_retG (VS.id ⟨_, rfl, p1, c1, rfl, h1⟩)
    · have h2 := of_decide_eq_false h2
      have e1 : seeO o l h q = o := by unfold seeO; rw [if_pos h0, if_neg h2]
      rw [e1]
      (refine run ?_; repeat intro b)
      exact s_retG (VS.id ⟨_, rfl, p1, c1, rfl, h1⟩)
set_option maxHeartbeats 2000000 in
theorem want_ok (o : Ow) (value : List UInt8) (hw : o.wf) {p : Option Addr} {c : Nat} {F : Hp} (hf : Frow F p (o.wanted.map S)) :
    CallF Tryz.prog F 5 [o.v p c, S value] (fun x F' => ∃ p c, x = triple ((wantO o value).v p c) (wantA o value).v (i64 (wantE o value)) ∧ Frow F' p ((wantO o value).wanted.map S)) := by
  refine CallOK.drop (call_vc (N := 52) (rv := [.cell 4 27, .cell 5 39, .tmp 6]) tbok mixed Tryz.func5 rfl rfl rfl rfl rfl ?_)
  have hE : ∀ e, e ≠ 0 → wantE o value = e → wantO o value = Ow.none ∧ wantA o value = Ask.none := fun e he h => by
    unfold wantO wantA
    rw [h, if_neg he, if_neg he]
    exact ⟨rfl, rfl⟩
  (refine run ?_; repeat intro b)
  refine s_plain _ rfl rfl rfl bd9 rfl (ownercheck_ok o hw hf) ?_
  (refine run ?_; repeat intro b)
  refine s_if (decide (ownF o ≠ 0)) ?_ (fun h0 => ?_) (fun h0 => ?_)
  · refine congrArg (fun b => some (EV.v (.bool b))) ?_
    rw [Bool.eq_iff_iff]; simp
  · have h0 := of_decide_eq_true h0
    have e0 : wantE o value = ownF o := by unfold wantE; rw [if_pos h0]
    obtain ⟨e1, e2⟩ := hE _ h0 e0
    rw [e0, e1, e2]
    (refine run ?_; repeat intro b)
    exact s_retG (VS.id ⟨_, rfl, none, 0, rfl, frow_nil _ _⟩)
  · have h0 : ownF o = 0 := by have := of_decide_eq_false h0; omega
    obtain ⟨g1, g2, g3, g4, g5, g6⟩ := ownF_zero h0
    (refine run ?_; repeat intro b)
    refine s_plain _ rfl rfl rfl bd13 rfl (long_ok value F) ?_
    (refine run ?_; repeat intro b)
    refine s_if (longB value) rfl (fun h1 => ?_) (fun h1 => ?_)
    · have e0 : wantE o value = 2 := by unfold wantE; rw [if_neg (by simpa using h0), if_pos h1]
      obtain ⟨e1, e2⟩ := hE _ (by decide) e0
      rw [e0, e1, e2]
      (refine run ?_; repeat intro b)
      exact s_retG (VS.id ⟨_, rfl, none, 0, rfl, frow_nil _ _⟩)
    · (refine run ?_; repeat intro b)
      refine s_if (decide (o.wanted.length = 30)) ?_ (fun h2 => ?_) (fun h2 => ?_)
      · refine congrArg (fun b => some (EV.v (.bool b))) ?_
        rw [Bool.eq_iff_iff, decide_eq_true_eq, beq_iff_eq]; omega
      · have e0 : wantE o value = 7 := by unfold wantE; rw [if_neg (by simpa using h0), if_neg (by rw [h1]; decide), if_pos (of_decide_eq_true h2)]
        obtain ⟨e1, e2⟩ := hE _ (by decide) e0
        rw [e0, e1, e2]
        (refine run ?_; repeat intro b)
        exact s_retG (VS.id ⟨_, rfl, none, 0, rfl, frow_nil _ _⟩)
      · have e0 : wantE o value = 0 := by unfold wantE; rw [if_neg (by simpa using h0), if_neg (by rw [h1]; decide), if_neg (of_decide_eq_false h2)]
        have e1 : wantO o value = ⟨o.name, o.key, o.head, o.wanted ++ [value], o.had⟩ := by unfold wantO; rw [if_pos e0]
        have e2 : wantA o value = askOf o.key o.name value o.wanted.length := by unfold wantA; rw [if_pos e0]
        have hcl := clone_str (o.wanted.map S) o.wanted.length (by rw [List.length_map, Nat.mul_one]) hf (str_one _) (c := c) hw.wanted
        have ew : IntKind.u64.wrap ((o.wanted.length : Nat) : Int) = ((o.wanted.length : Nat) : Int) := by rw [u64w]; omega
        rw [e0, e1, e2]
        (refine run ?_; repeat intro b)
        rw [ew]
        refine s_plain _ rfl rfl rfl bd14 rfl (tagask_ok o.key o.name value o.wanted.length hw.key hw.name (by omega) F) ?_
        (refine run ?_; repeat intro b)
        refine s_callR (R := fun _ cs => cs = o.wanted.map S) (fun x F' new h => ⟨_, h, rfl⟩) rfl rfl rfl bd11 rfl hcl (fun hk0 F1 p1 cs hF1 hcs => ?_) (fun hk1 F1 b1 c1 cs hF1 hc1 hcs => ?_)
        · (refine run ?_; repeat intro b)
          refine s_appV [] rfl rfl rfl rfl rfl rfl rfl (frow_nil _ _) (src_row rfl rfl) (one_v _ (str_one [value])) (by decide) (fun h => by cases h) (fun _ b2 c2 hc2 => ?_)
          (refine run ?_; repeat intro b)
          have hnil : o.wanted = [] := List.eq_nil_of_length_eq_zero hk0
          refine s_vs (VS.freeze 5 [2, 4, 5, 8] rfl (cs := [S value]) rfl rfl rfl fun F' hs1 hf1 => VS.id ?_)
          refine s_regiona [0, 3] (by kernel_rfl) ?_
          refine s_firsts [0, 1] (f' := 3) (by kernel_rfl) rfl rfl rfl ?_
          (refine run ?_; repeat intro b)
          refine s_one 2 (by kernel_rfl) rfl rfl ?_
          (refine run ?_; repeat intro b)
          refine s_br (Hp.sub.refl _) ⟨⟨rfl, rfl, rfl, rfl, rfl, rfl, rfl, rfl, rfl, trivial⟩, ⟨rfl, rfl, rfl, rfl, rfl, trivial⟩, trivial⟩ ?_
          refine s_one 3 (by kernel_rfl) rfl rfl ?_
          (refine run ?_; repeat intro b)
          refine s_br (Hp.sub.refl _) ⟨⟨rfl, rfl, rfl, rfl, rfl, rfl, rfl, rfl, rfl, trivial⟩, ⟨rfl, rfl, rfl, rfl, rfl, trivial⟩, trivial⟩ ?_
          refine s_firsts [4] (f' := 0) (by kernel_rfl) rfl rfl rfl ?_
          (refine run ?_; repeat intro b)
          refine s_stop (by kernel_rfl) ?_
          (refine run ?_; repeat intro b)
          exact s_retG (VS.id ⟨_, rfl, some ⟨b2, 0, none⟩, c2, by rw [hnil]; rfl, by rw [hnil]; exact hf1⟩)
        · subst hcs
          (refine run ?_; repeat intro b)
          refine s_appR rfl rfl rfl rfl rfl rfl rfl rfl (src_row rfl rfl) (one_v _ (str_one [value])) (fun h => by cases h) hc1 rfl (by simp) (by show _ * 16 ≤ _; omega) (fun h => by cases h) (fun _ b2 c2 hc2 => ?_)
          (refine run ?_; repeat intro b)
          have hcells : ((o.wanted.map S).map EV.v).take (o.wanted.length * 1) ++ [EV.v (S value)] = ((o.wanted ++ [value]).map S).map EV.v := by
            rw [List.map_append, List.map_append, List.take_of_length_le (by simp)]
            rfl
          refine s_vs (VS.freeze 6 [2, 4, 5, 8] rfl (cs := (o.wanted ++ [value]).map S) ((congrArg (allV _) hcells).trans (allV_map_v _)) rfl rfl fun F' hs1 hf1 => VS.id ?_)
          refine s_regiona [0, 3] (by kernel_rfl) ?_
          refine s_firsts [0, 1] (f' := 3) (by kernel_rfl) rfl rfl rfl ?_
          (refine run ?_; repeat intro b)
          refine s_one 2 (by kernel_rfl) rfl rfl ?_
          (refine run ?_; repeat intro b)
          refine s_br (Hp.sub.refl _) ⟨⟨rfl, rfl, rfl, rfl, rfl, rfl, rfl, rfl, rfl, trivial⟩, ⟨rfl, rfl, rfl, rfl, rfl, trivial⟩, trivial⟩ ?_
          refine s_one 3 (by kernel_rfl) rfl rfl ?_
          (refine run ?_; repeat intro b)
          refine s_br (Hp.sub.refl _) ⟨⟨rfl, rfl, rfl, rfl, rfl, rfl, rfl, rfl, rfl, trivial⟩, ⟨rfl, rfl, rfl, rfl, rfl, trivial⟩, trivial⟩ ?_
          refine s_firsts [4] (f' := 0) (by kernel_rfl) rfl rfl rfl ?_
          (refine run ?_; repeat intro b)
          refine s_stop (by kernel_rfl) ?_
          (refine run ?_; repeat intro b)
          exact s_retG (VS.id ⟨_, rfl, some ⟨b2, 0, none⟩, c2, by show _ = triple (.agg #[S o.name, u64 (o.key : Nat), i64 o.head.epoch, u64 (o.head.root : Nat), u64 (o.head.prev : Nat), i64 o.head.at_, .slice _ (o.wanted ++ [value]).length c2, i64 o.had]) _ _; rw [List.length_append]; rfl, hf1⟩)
end Go.Proofs.YteahoodopphacaaGreat
