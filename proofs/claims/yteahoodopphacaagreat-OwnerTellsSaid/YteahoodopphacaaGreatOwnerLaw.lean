/-
The law of package owner: whatever is handed in, each call answers what the reference answers.
-/
import Derived.Test.YteahoodopphacaaGreatOwner4
import Derived.Test.YteahoodopphacaaGreatOwner5
namespace Go.Proofs.YteahoodopphacaaGreat
set_option linter.unusedVariables false
set_option linter.unusedSimpArgs false
open Go.TR
theorem newO_wanted (name : List UInt8) (key : Nat) (h : Head) : (newO name key h).wanted = [] := by
  unfold newO
  split <;> rfl
theorem seeO_wanted {o : Ow} (l : List Head) (h : Head) (q : Prf) (h0 : ownF o = 0) : (seeO o l h q).wanted = o.wanted := by
  unfold seeO
  rw [if_pos h0]
  split <;> rfl
theorem newO_good {name : List UInt8} {key : Nat} {h : Head} (e : ownF (Ow.fresh name key h) = 0) : newO name key h = Ow.fresh name key h := if_pos e
theorem newO_bad {name : List UInt8} {key : Nat} {h : Head} (e : ownF (Ow.fresh name key h) ≠ 0) : newO name key h = Ow.none := if_neg e
theorem see_bad {o : Ow} (l : List Head) (h : Head) (q : Prf) (e : ownF o ≠ 0) : seeO o l h q = Ow.none ∧ seeK o l h q = 0 := ⟨if_neg e, if_neg e⟩
theorem seeK_good {o : Ow} (l : List Head) (h : Head) (q : Prf) (e : ownF o = 0) : seeK o l h q = verdK o l h q := if_pos e
theorem seeO_fine {o : Ow} {l : List Head} {h : Head} {q : Prf} (e : ownF o = 0) (e2 : verdK o l h q = 0) : seeO o l h q = ⟨o.name, o.key, h, o.wanted, (verdN o l h q : Nat)⟩ := by unfold seeO; rw [if_pos e, if_pos e2]
theorem seeO_odd {o : Ow} {l : List Head} {h : Head} {q : Prf} (e : ownF o = 0) (e2 : verdK o l h q ≠ 0) : seeO o l h q = o := by unfold seeO; rw [if_pos e, if_neg e2]
theorem want_bad {o : Ow} {value : List UInt8} (e : wantE o value ≠ 0) : wantO o value = Ow.none ∧ wantA o value = Ask.none := ⟨if_neg e, if_neg e⟩
theorem want_good {o : Ow} {value : List UInt8} (e : wantE o value = 0) : wantO o value = ⟨o.name, o.key, o.head, o.wanted ++ [value], o.had⟩ ∧ wantA o value = askOf o.key o.name value o.wanted.length := ⟨if_pos e, if_pos e⟩
theorem wantE_own {o : Ow} {value : List UInt8} (e : ownF o ≠ 0) : wantE o value = ownF o := if_pos e
theorem wantE_long {o : Ow} {value : List UInt8} (e : ownF o = 0) (e2 : longB value = true) : wantE o value = 2 := by unfold wantE; rw [if_neg (by simpa using e), if_pos e2]
theorem wantE_full {o : Ow} {value : List UInt8} (e : ownF o = 0) (e2 : longB value = false) (e3 : o.wanted.length = 30) : wantE o value = 7 := by unfold wantE; rw [if_neg (by simpa using e), if_neg (by rw [e2]; decide), if_pos e3]
theorem wantE_good {o : Ow} {value : List UInt8} (e : ownF o = 0) (e2 : longB value = false) (e3 : ¬ o.wanted.length = 30) : wantE o value = 0 := by unfold wantE; rw [if_neg (by simpa using e), if_neg (by rw [e2]; decide), if_neg e3]
theorem askOf_good {o : Ow} {value : List UInt8} (e : ownF o = 0) (e2 : longB value = false) (n : Nat) : askOf o.key o.name value n = ⟨o.name, value, n, tagN o.key (askSaid o.name value n)⟩ := by
  have h1 := (ownF_zero e).1
  unfold longB at e2
  have h2 := of_decide_eq_false e2
  unfold askOf askFault
  rw [if_pos (by rw [if_pos h1, if_neg h2])]
attribute [local irreducible] vc vcOps seqK blockK loopK retK retG retI loopV Plain CallOK CallIn bodied VS vcAny dropG backK brK loopPK IntKind.wrap
set_option maxRecDepth 100000
attribute [local irreducible] ownF verdK verdN longB askOf newO seeO seeK wantO wantA wantE
set_option maxHeartbeats 8000000 in
theorem owner_tells (name : List UInt8) (key : Nat) (h : Head) (o : Ow) (value : List UInt8) (l : List Head) (hr : Head) (q : Prf) {a : Lay} {p : Option Addr} {c : Nat} {pl : Option Addr} {cl : Nat} {F : Hp} (hn : name.length ≤ 4611686018427387904) (hk : key < 18446744073709551616) (hh : h.wf) (hw : o.wf) (hc : o.wanted.length ≤ c) (hf : Frow F p (o.wanted.map S)) (hv : value.length ≤ 4611686018427387904)
    (hl : l.length ≤ 4611686018427387904) (hwl : ∀ x ∈ l, x.wf) (hfl : Frow F pl (l.flatMap Head.row)) (hhr : hr.wf) (hq : q.wf) (ha : q.at F a) :
    Plain Tryz.prog F 3 [S name, u64 (key : Nat), h.v, o.v p c, S value, .slice pl l.length cl, repV hr q a] (.bool true) := by
  have hwf : (Ow.fresh name key h).wf := ⟨hn, hk, hh, by simp [Ow.fresh], fun s hs => (by simp [Ow.fresh] at hs), by simp [Ow.fresh]⟩
  refine plain_vc (N := 205) (rv := [.tmp 14]) tbok mixed Tryz.func3 rfl rfl rfl rfl rfl ?_
  (refine run ?_; repeat intro b)
  rename_i b0 b1
  revert b
  intro b2
  refine s_plain _ rfl rfl rfl bd4 rfl (ownernew_ok name key h hn hk hh) ?_
  (refine run ?_; repeat intro b)
  revert b
  intro b3
  refine s_callF rfl rfl rfl bd5 rfl (want_ok o value hw hf) ?_
  rintro _ F1 hF1 ⟨p1, c1, rfl, f1⟩
  (refine run ?_; repeat intro b)
  rename_i b4
  revert b
  intro b5
  refine s_callF rfl rfl rfl bd6 rfl (see_ok o l hr q a hw hl hwl hq (frow_sub hF1 hf) (frow_sub hF1 hfl) (Prf.at_sub hF1 ha)) ?_
  rintro _ F2 hF2 ⟨p2, c2, rfl, f2⟩
  have f1' := frow_sub hF2 f1
  have hf' := frow_sub (hF1.trans hF2) hf
  have hfl' := frow_sub (hF1.trans hF2) hfl
  have ha' := Prf.at_sub (hF1.trans hF2) ha
  (refine run ?_; repeat intro b)
  rename_i b6 b7
  revert b
  intro b8
  refine s_plain _ rfl rfl rfl bd7 rfl (ownerfault_ok (Ow.fresh name key h) hwf (p := none) (c := 0) (frow_nil _ _)) ?_
  (refine run ?_; repeat intro b)
  refine s_gplain (.bool true) rfl rfl rfl rfl bd8 rfl rfl (fun hg => ?_) ?_
  · have hne : ownF (Ow.fresh name key h) ≠ 0 := bne_iff_ne.1 hg.2.1
    rw [newO_bad hne]
    exact sameowner_self Ow.none rfl rfl (by decide) (frow_nil _ _) (frow_nil _ _)
  (refine run ?_; repeat intro b)
  refine s_gplain (.bool true) rfl rfl rfl rfl bd8 rfl rfl (fun hg => ?_) ?_
  · have he : ownF (Ow.fresh name key h) = 0 := beq_iff_eq.1 hg.2.1
    rw [newO_good he]
    exact sameowner_self (Ow.fresh name key h) rfl rfl (by simp [Ow.fresh]) (frow_nil _ _) (frow_nil _ _)
  (refine run ?_; repeat intro b)
  refine s_if false ?_ (fun h => by cases h) (fun _ => ?_)
  · refine congrArg (fun b => some (EV.v (.bool b))) ?_
    rw [bne_self_eq_false]
    cases (ownF (Ow.fresh name key h) != 0) <;> cases (ownF (Ow.fresh name key h) == 0) <;> rfl
  (refine run ?_; repeat intro b)
  refine s_plain _ rfl rfl rfl bd7 rfl (ownerfault_ok o hw hf') ?_
  (refine run ?_; repeat intro b)
  refine s_plain _ rfl rfl rfl bd9 rfl (ownercheck_ok o hw hf') ?_
  (refine run ?_; repeat intro b)
  refine s_if false (congrArg (fun b => some (EV.v (.bool b))) (bne_self_eq_false _)) (fun h => by cases h) (fun _ => ?_)
  by_cases h0 : ownF o = 0
  · obtain ⟨g1, g2, g3, g4, g5, g6⟩ := ownF_zero h0
    have eK := seeK_good l hr q h0
    have sw := seeO_wanted l hr q h0
    rw [h0, eK]
    (refine run ?_; repeat intro b)
    revert b
    intro b9
    refine s_plain _ rfl rfl rfl bd10 rfl (judged_ok o l hr q a hw h0 hl hwl hq hf' hfl' ha') ?_
    (refine run ?_; repeat intro b)
    refine s_join (β := Unit) (fun _ => True) (fun _ => ⟨[(4, .v (S value)), (10, .loc 1 0), (17, .loc 4 0), (18, .loc 5 0), (19, .v (i64 (wantE o value))), (20, .loc 6 0), (21, .v (i64 (verdK o l hr q))), (22, .v (i64 0)), (23, .loc 7 0), (26, .v (i64 0)), (27, .loc 9 0), (28, .v (i64 (verdK o l hr q)))], F2,
      [(9, ⟨some b9, [.v (S (seeO o l hr q).name), .v (u64 ((seeO o l hr q).key : Nat)), .v (i64 (seeO o l hr q).head.epoch), .v (u64 ((seeO o l hr q).head.root : Nat)), .v (u64 ((seeO o l hr q).head.prev : Nat)), .v (i64 (seeO o l hr q).head.at_), .v (.slice p o.wanted.length c), .v (i64 (seeO o l hr q).had)], 27, 8⟩),
       (7, ⟨some b7, [.v (S []), .v (u64 0), .v (i64 0), .v (u64 0), .v (u64 0), .v (i64 0), .v (.slice none 0 0), .v (i64 0)], 27, 8⟩), (6, ⟨some b6, [.v (S (seeO o l hr q).name), .v (u64 ((seeO o l hr q).key : Nat)), .v (i64 (seeO o l hr q).head.epoch), .v (u64 ((seeO o l hr q).head.root : Nat)), .v (u64 ((seeO o l hr q).head.prev : Nat)), .v (i64 (seeO o l hr q).head.at_), .v (.slice p2 (seeO o l hr q).wanted.length c2), .v (i64 (seeO o l hr q).had)], 27, 8⟩),
       (5, ⟨some b5, [.v (S (wantA o value).name), .v (S (wantA o value).value), .v (u64 ((wantA o value).n : Nat)), .v (u64 ((wantA o value).tag : Nat))], 39, 4⟩), (4, ⟨some b4, [.v (S (wantO o value).name), .v (u64 ((wantO o value).key : Nat)), .v (i64 (wantO o value).head.epoch), .v (u64 ((wantO o value).head.root : Nat)), .v (u64 ((wantO o value).head.prev : Nat)), .v (i64 (wantO o value).head.at_), .v (.slice p1 (wantO o value).wanted.length c1), .v (i64 (wantO o value).had)], 27, 8⟩),
       (1, ⟨some b1, [.v (S o.name), .v (u64 (o.key : Nat)), .v (i64 o.head.epoch), .v (u64 (o.head.root : Nat)), .v (u64 (o.head.prev : Nat)), .v (i64 o.head.at_), .v (.slice p o.wanted.length c), .v (i64 o.had)], 27, 8⟩)], 10⟩) rfl (fun _ _ => ?_) (fun KK2 kn kr ke => ?_)
    · (refine run ?_; repeat intro b)
      refine s_plain _ rfl rfl rfl bd8 rfl (sameowner_self (seeO o l hr q) rfl (congrArg List.length sw).symm (by rw [sw]; omega) f2 (by rw [sw]; exact hf')) ?_
      (refine run ?_; repeat intro b)
      refine s_if false ?_ (fun h => by cases h) (fun _ => ?_)
      · refine congrArg (fun b => some (EV.v (.bool b))) ?_
        rw [bne_self_eq_false]
        rfl
      (refine run ?_; repeat intro b)
      refine s_if (longB value) (congrArg (fun b => some (EV.v (.bool b))) (longB_int value)) (fun h1 => ?_) (fun h1 => ?_)
      · have eW := wantE_long h0 h1
        obtain ⟨eO, eA⟩ := want_bad (o := o) (value := value) (by rw [eW]; decide)
        rw [eW, eO, eA]
        (refine run ?_; repeat intro b)
        refine s_plain _ rfl rfl rfl bd8 rfl (sameowner_self Ow.none rfl rfl (by decide) (frow_nil _ _) (frow_nil _ _)) ?_
        (refine run ?_; repeat intro b)
        rfl
      · (refine run ?_; repeat intro b)
        refine s_if (decide (o.wanted.length = 30)) ?_ (fun h2 => ?_) (fun h2 => ?_)
        · refine congrArg (fun b => some (EV.v (.bool b))) ?_
          rw [Bool.eq_iff_iff, decide_eq_true_eq, beq_iff_eq]; omega
        · have eW := wantE_full h0 h1 (of_decide_eq_true h2)
          obtain ⟨eO, eA⟩ := want_bad (o := o) (value := value) (by rw [eW]; decide)
          rw [eW, eO, eA]
          (refine run ?_; repeat intro b)
          refine s_plain _ rfl rfl rfl bd8 rfl (sameowner_self Ow.none rfl rfl (by decide) (frow_nil _ _) (frow_nil _ _)) ?_
          (refine run ?_; repeat intro b)
          rfl
        · have eW := wantE_good h0 h1 (of_decide_eq_false h2)
          obtain ⟨eO, eA⟩ := want_good eW
          rw [askOf_good h0 h1] at eA
          rw [eO] at f1'
          rw [eW, eO, eA]
          have ew : IntKind.u64.wrap ((o.wanted.length : Nat) : Int) = ((o.wanted.length : Nat) : Int) := by rw [u64w]; omega
          have hcl := clone_str (o.wanted.map S) o.wanted.length (by rw [List.length_map, Nat.mul_one]) hf' (str_one _) (c := c) hw.wanted
          (refine run ?_; repeat intro b)
          rw [ew]
          refine s_callR (R := fun _ cs => cs = o.wanted.map S) (fun x F' new h => ⟨_, h, rfl⟩) rfl rfl rfl bd11 rfl hcl (fun hk0 F3 p3 cs hF3 hcs => ?_) (fun hk1 F3 b10 c10 cs hF3 hc10 hcs => ?_)
          · (refine run ?_; repeat intro b)
            refine s_appV [] rfl rfl rfl rfl rfl rfl rfl (frow_nil _ _) (src_row rfl rfl) (one_v _ (str_one [value])) (by decide) (fun h => by cases h) (fun _ b12 c12 hc12 => ?_)
            (refine run ?_; repeat intro b)
            have hnil : o.wanted = [] := List.eq_nil_of_length_eq_zero hk0
            refine s_vs (VS.freeze 11 [4, 10, 17, 18, 19, 27, 30] rfl (cs := [S value]) rfl rfl rfl fun F4 hs4 hf4 => VS.id ?_)
            refine s_regiond (by kernel_rfl) ?_
            (refine run ?_; repeat intro b)
            refine s_plain _ rfl rfl rfl bd8 rfl (sameowner_self ⟨o.name, o.key, o.head, o.wanted ++ [value], o.had⟩ rfl (by rw [hnil]; rfl) (by simp only [List.length_append, List.length_singleton]; omega) (frow_sub (hF3.trans hs4) f1') (by rw [hnil]; exact hf4)) ?_
            (refine run ?_; repeat intro b)
            refine s_plain _ rfl rfl rfl bd12 rfl (asktag_ok o.key o.name value o.wanted.length hw.key (by omega) F4) ?_
            (refine run ?_; repeat intro b)
            simp [tupV]
          · subst hcs
            (refine run ?_; repeat intro b)
            refine s_appR rfl rfl rfl rfl rfl rfl rfl rfl (src_row rfl rfl) (one_v _ (str_one [value])) (fun h => by cases h) hc10 rfl (by simp) (by show _ * 16 ≤ _; omega) (fun h => by cases h) (fun _ b12 c12 hc12 => ?_)
            (refine run ?_; repeat intro b)
            have hcells : ((o.wanted.map S).map EV.v).take (o.wanted.length * 1) ++ [EV.v (S value)] = ((o.wanted ++ [value]).map S).map EV.v := by
              rw [List.map_append, List.map_append, List.take_of_length_le (by simp)]
              rfl
            refine s_vs (VS.freeze 12 [4, 10, 17, 18, 19, 27, 30] rfl (cs := (o.wanted ++ [value]).map S) ((congrArg (allV _) hcells).trans (allV_map_v _)) rfl rfl fun F4 hs4 hf4 => VS.id ?_)
            refine s_regiond (by kernel_rfl) ?_
            (refine run ?_; repeat intro b)
            refine s_plain _ rfl rfl rfl bd8 rfl (sameowner_self ⟨o.name, o.key, o.head, o.wanted ++ [value], o.had⟩ rfl (by simp only [List.length_append, List.length_singleton]) (by simp only [List.length_append, List.length_singleton]; omega) (frow_sub (hF3.trans hs4) f1') hf4) ?_
            (refine run ?_; repeat intro b)
            refine s_plain _ rfl rfl rfl bd12 rfl (asktag_ok o.key o.name value o.wanted.length hw.key (by omega) F4) ?_
            (refine run ?_; repeat intro b)
            simp [tupV]
    · refine s_if (decide (verdK o l hr q = 0)) ?_ (fun h1 => ?_) (fun h1 => ?_)
      · refine congrArg (fun b => some (EV.v (.bool b))) ?_
        rw [Bool.eq_iff_iff]; simp
      · have eS := seeO_fine (l := l) (h := hr) (q := q) h0 (of_decide_eq_true h1)
        (refine run ?_; repeat intro b)
        exact kn _ (VS.dropR [0, 2, 3, 8] rfl (VS.keepN [4, 10, 17, 18, 19, 20, 21, 22, 23, 26, 27, 28] rfl ⟨(), trivial, by rw [eS]; rfl⟩))
      · have eS := seeO_odd (l := l) (h := hr) (q := q) h0 (of_decide_eq_false h1)
        (refine run ?_; repeat intro b)
        exact kn _ (VS.dropR [0, 2, 3, 8] rfl (VS.keepN [4, 10, 17, 18, 19, 20, 21, 22, 23, 26, 27, 28] rfl ⟨(), trivial, by rw [eS]; rfl⟩))
  · have eW := wantE_own (value := value) h0
    obtain ⟨eO, eA⟩ := want_bad (o := o) (value := value) (by rw [eW]; exact h0)
    obtain ⟨eS, eK⟩ := see_bad l hr q h0
    rw [eW, eO, eA, eS, eK]
    rcases ownF_cases o with e | e | e | e
    · exact absurd e h0
    all_goals
      rw [e]
      (refine run ?_; repeat intro b)
      refine s_plain _ rfl rfl rfl bd8 rfl (sameowner_self Ow.none rfl rfl (by decide) (frow_nil _ _) (frow_nil _ _)) ?_
      (refine run ?_; repeat intro b)
      refine s_plain _ rfl rfl rfl bd8 rfl (sameowner_self Ow.none rfl rfl (by decide) (frow_nil _ _) (frow_nil _ _)) ?_
      (refine run ?_; repeat intro b)
      rfl
end Go.Proofs.YteahoodopphacaaGreat
