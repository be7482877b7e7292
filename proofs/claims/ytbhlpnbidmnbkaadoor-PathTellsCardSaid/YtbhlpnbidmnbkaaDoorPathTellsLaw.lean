/-
The law of package path: whatever is handed in, each call answers what the reference answers.
-/
import Derived.Test.YtbhlpnbidmnbkaaDoorPathSort
import Derived.Test.YtbhlpnbidmnbkaaDoorOrd
import Derived.Test.YtbhlpnbidmnbkaaDoorEqs
namespace Go.Proofs.YtbhlpnbidmnbkaaDoor
set_option linter.unusedVariables false
set_option linter.unusedSimpArgs false
open Go.TR
theorem way_good {s : List UInt8} (h : goodName s = true) : wayN s = pathN s := if_pos h
theorem way_bad {s : List UInt8} (h : goodName s = false) : wayN s = [] := if_neg (by rw [h]; decide)
theorem bit_form {p : List UInt8} (k : Int) (h : ¬ (p.length = 16 ∧ p.all (inS [48, 49]) = true)) : bitE p k = 3 ∧ bitO p k = 0 := by
  have e : bitE p k = 3 := if_neg h
  exact ⟨e, by unfold bitO; rw [if_neg (by rw [e]; decide)]⟩
theorem bit_range {p : List UInt8} {k : Int} (h : p.length = 16 ∧ p.all (inS [48, 49]) = true) (hk : ¬ (0 ≤ k ∧ k ≤ 15)) : bitE p k = 4 ∧ bitO p k = 0 := by
  have e : bitE p k = 4 := by unfold bitE; rw [if_pos h, if_neg hk]
  exact ⟨e, by unfold bitO; rw [if_neg (by rw [e]; decide)]⟩
theorem bit_good {p : List UInt8} {k : Int} (h : p.length = 16 ∧ p.all (inS [48, 49]) = true) (hk : 0 ≤ k ∧ k ≤ 15) : bitE p k = 0 ∧ ∃ hlt : k.toNat < p.length, (p[k.toNat].toNat = 48 ∨ p[k.toNat].toNat = 49) ∧ bitO p k = ((p[k.toNat].toNat : Nat) : Int) - 48 := by
  have e : bitE p k = 0 := by unfold bitE; rw [if_pos h, if_pos hk]
  have hlt : k.toNat < p.length := by omega
  refine ⟨e, hlt, in01 (List.all_eq_true.1 h.2 _ (List.getElem_mem hlt)), ?_⟩
  unfold bitO
  rw [if_pos e]
  simp [List.getD, hlt]
theorem sort_form {l : List (List UInt8)} (h : (l.any fun s => !goodName s) = true) : sortE l = 3 ∧ sortO l = [] := by
  have e : sortE l = 3 := if_pos h
  exact ⟨e, by unfold sortO; rw [if_neg (by rw [e]; decide)]⟩
theorem sort_good {l : List (List UInt8)} (h : (l.any fun s => !goodName s) = false) : sortE l = 0 ∧ sortO l = ordN l := by
  have e : sortE l = 0 := if_neg (by rw [h]; decide)
  exact ⟨e, if_pos e⟩
theorem pre_bad (p : List UInt8) : (!goodPre p || decide (((p.length : Nat) : Int) < 16)) = !decide (p.length = 16 ∧ p.all (inS [48, 49]) = true) := by
  unfold goodPre
  rw [Bool.eq_iff_iff]
  simp only [Bool.or_eq_true, Bool.not_eq_true', Bool.and_eq_false_iff, decide_eq_false_iff_not, decide_eq_true_eq]
  constructor
  · rintro ((h | h) | h) ⟨h1, h2⟩
    · rw [h2] at h; cases h
    · omega
    · omega
  · intro h
    by_cases h1 : p.length = 16
    · exact .inl (.inl (by
        cases ha : p.all (inS [48, 49]) with
        | true => exact absurd ⟨h1, ha⟩ h
        | false => rfl))
    · by_cases h2 : p.length < 16
      · exact .inr (by omega)
      · exact .inl (.inr (by omega))
attribute [local irreducible] vc vcOps seqK blockK loopK retK retG retI loopV Plain CallOK CallIn bodied VS vcAny dropG backK brK loopPK IntKind.wrap
attribute [local irreducible] sortE sortO ordN goodName pathN wayN commonN bitE bitO goodPre
set_option maxRecDepth 100000
set_option maxHeartbeats 4000000
theorem lawnot_ok (s : List UInt8) (hs : s.length ≤ 4611686018427387904) (F : Hp) : Plain Tryd.prog F 26 [S s] (.bool (!goodName s)) := by
  refine plain_vc (N := 6) (rv := [.tmp 2]) tbok mixed Tryd.func26 rfl rfl rfl rfl rfl ?_
  (refine run ?_; repeat intro b)
  refine s_plain _ rfl rfl rfl bd15 rfl (goodname_ok s hs F) ?_
  (refine run ?_; repeat intro b)
  rfl
theorem path_tells (s p q : List UInt8) (k : Int) (l : List (List UInt8)) {pl : Option Addr} {cl : Nat} {F : Hp} (hs : s.length ≤ 4611686018427387904) (hp : p.length ≤ 4611686018427387904) (hq : q.length ≤ 4611686018427387904) (hl : l.length * 16 ≤ 140737488355328) (hls : ∀ x ∈ l, x.length ≤ 4611686018427387904) (hf : Frow F pl (l.map S)) :
    Plain Tryd.prog F 5 [S s, S p, S q, i64 k, .slice pl l.length cl] (.bool true) := by
  refine plain_vc (N := 150) (rv := [.tmp 10]) tbok mixed Tryd.func5 rfl rfl rfl rfl rfl ?_
  (refine run ?_; repeat intro b)
  refine s_plain _ rfl rfl rfl bd20 rfl (pathof_ok s hs F) ?_
  (refine run ?_; repeat intro b)
  refine s_plain _ rfl rfl rfl bd21 rfl (pathbit_ok p k hp F) ?_
  (refine run ?_; repeat intro b)
  refine s_callF rfl rfl rfl bd22 rfl (pathsort_ok l hl hls hf) ?_
  rintro _ F1 hF1 ⟨pa, ca, rfl, hfa⟩
  have hf1 := frow_sub hF1 hf
  (refine run ?_; repeat intro b)
  refine s_plain _ rfl rfl rfl bd23 rfl (name_ok s hs F1) ?_
  (refine run ?_; repeat intro b)
  refine s_plain _ rfl rfl rfl bd15 rfl (goodname_ok s hs F1) ?_
  (refine run ?_; repeat intro b)
  refine s_if false ?_ (fun h => by cases h) (fun _ => ?_)
  · refine congrArg (fun b => some (EV.v (.bool b))) ?_
    simp
  (refine run ?_; repeat intro b)
  refine s_plain _ rfl rfl rfl bd15 rfl (goodname_ok s hs F1) ?_
  (refine run ?_; repeat intro b)
  refine s_gplain _ rfl rfl rfl rfl bd10 rfl rfl (fun _ => refpath_ok s hs F1) ?_
  (refine run ?_; repeat intro b)
  refine s_gplain _ rfl rfl rfl rfl bd15 rfl rfl (fun _ => goodname_ok s hs F1) ?_
  (refine run ?_; repeat intro b)
  refine s_if false ?_ (fun h => by cases h) (fun _ => ?_)
  · refine congrArg (fun b => some (EV.v (.bool b))) ?_
    cases hg : goodName s with
    | true => rw [way_good hg]; simp [bpick]
    | false => rw [way_bad hg]; rw [bl_S]; rfl
  (refine run ?_; repeat intro b)
  have hcl := commonN_le p q
  have hm : (if (((bl (mkB q)).length : Nat) : Int) < (((bl (mkB p)).length : Nat) : Int) then (((bl (mkB q)).length : Nat) : Int) else (((bl (mkB p)).length : Nat) : Int)) = ((min p.length q.length : Nat) : Int) := by
    rw [bl_S, bl_S]
    split <;> omega
  rw [hm]
  refine s_loopP (fun i : Nat => i ≤ p.length ∧ i ≤ q.length) (fun i => ⟨[(1, .v (S p)), (2, .v (S q)), (3, .v (i64 k)), (4, .v (.slice pl l.length cl)), (13, .v (i64 (bitO p k))), (14, .v (i64 (bitE p k))), (15, .v (.slice pa (sortO l).length ca)), (16, .v (i64 (sortE l))), (17, .v (i64 ((min (commonN p q) i : Nat) : Int))), (69, .v (i64 ((min p.length q.length : Nat) : Int))), (70, .v (i64 (i : Nat)))], F1, [], 0⟩) (fun i => p.length - i) 0 ⟨Nat.zero_le _, Nat.zero_le _⟩ (VS.keepN [1, 2, 3, 4, 13, 14, 15, 16, 17, 69, 70] rfl (by rw [Nat.min_zero]; rfl)) ?_
  rintro i ⟨h1, h2⟩
  by_cases hlt : i < p.length ∧ i < q.length
  · obtain ⟨g1, g2⟩ := hlt
    have hst := common_step g1 g2
    have hgp : (bl (mkB p)).getD i 0 = p[i] := by rw [bl_S]; simp [List.getD, g1]
    have hgq : (bl (mkB q)).getD i 0 = q[i] := by rw [bl_S]; simp [List.getD, g2]
    generalize min (commonN p q) i = n at hst
    (refine run ?_; repeat intro b)
    refine s_if true (by rw [← decide_eq_true (p := ((i : Nat) : Int) < ((min p.length q.length : Nat) : Int)) (by omega)]; rfl) (fun _ => ?_) (fun h => by cases h)
    (refine run ?_; repeat intro b)
    refine s_regiond (by kernel_rfl) ?_
    (refine run ?_; repeat intro b)
    refine s_gpureO rfl rfl rfl rfl rfl (fun hg => ⟨by omega, by rw [bl_S]; omega⟩) ?_
    (refine run ?_; repeat intro b)
    refine s_gpureO rfl rfl rfl rfl rfl (fun hg => ⟨by omega, by rw [bl_S]; omega⟩) ?_
    (refine run ?_; repeat intro b)
    rw [Int.toNat_natCast, hgp, hgq]
    refine s_if (decide (n = i ∧ p[i] = q[i])) ?_ (fun h => ?_) (fun h => ?_)
    · refine congrArg (fun b => some (EV.v (.bool b))) ?_
      rw [bpick_and, Bool.eq_iff_iff]
      simp only [Bool.and_eq_true, decide_eq_true_eq, beq_iff_eq, Int.ofNat_inj, UInt8.toNat_inj]
    · obtain ⟨rfl, e⟩ := of_decide_eq_true h
      rw [if_pos ⟨rfl, e⟩] at hst
      (refine run ?_; repeat intro b)
      rw [wrap_succ (by omega)]
      refine s_loopPn (n + 1) ⟨g1, g2⟩ (by omega) (VS.keepN [1, 2, 3, 4, 13, 14, 15, 16, 17, 69, 70] rfl (by rw [hst]))
    · rw [if_neg (of_decide_eq_false h)] at hst
      (refine run ?_; repeat intro b)
      rw [wrap_succ (by omega)]
      refine s_loopPn (i + 1) ⟨g1, g2⟩ (by omega) (VS.keepN [1, 2, 3, 4, 13, 14, 15, 16, 17, 69, 70] rfl (by rw [hst]))
  · have hmin : min (commonN p q) i = commonN p q := by omega
    rw [hmin]
    (refine run ?_; repeat intro b)
    refine s_if false (by rw [← decide_eq_false (p := ((i : Nat) : Int) < ((min p.length q.length : Nat) : Int)) (by omega)]; rfl) (fun h => by cases h) (fun _ => ?_)
    (refine run ?_; repeat intro b)
    refine s_plain _ rfl rfl rfl bd24 rfl (common_ok p q hp hq F1) ?_
    (refine run ?_; repeat intro b)
    refine s_if false ?_ (fun h => by cases h) (fun _ => ?_)
    · refine congrArg (fun b => some (EV.v (.bool b))) ?_
      simp
    (refine run ?_; repeat intro b)
    refine s_plain _ rfl rfl rfl bd13 rfl (goodprefix_ok p hp F1) ?_
    (refine run ?_; repeat intro b)
    refine s_if (!decide (p.length = 16 ∧ p.all (inS [48, 49]) = true)) ?_ (fun h => ?_) (fun h => ?_)
    · refine congrArg (fun b => some (EV.v (.bool b))) ?_
      rw [bpick_or, bl_S, pre_bad]
    · obtain ⟨e1, e2⟩ := bit_form k (by simpa only [Bool.not_eq_true', decide_eq_false_iff_not] using h)
      rw [e1, e2]
      (refine run ?_; repeat intro b)
      refine s_plain _ rfl rfl rfl bd25 rfl (strs_has (fun s => !goodName s) 26 #[] bd26 l hf1 (by omega) (fun x hx => lawnot_ok x (hls x hx) F1)) ?_
      (refine run ?_; repeat intro b)
      refine s_if (l.any fun s => !goodName s) rfl (fun h9 => ?_) (fun h9 => ?_)
      · obtain ⟨z1, z2⟩ := sort_form h9
        rw [z1, z2]
        (refine run ?_; repeat intro b)
        rfl
      · obtain ⟨z1, z2⟩ := sort_good h9
        rw [z2] at hfa
        rw [z1, z2]
        (refine run ?_; repeat intro b)
        refine s_callF rfl rfl rfl bd28 rfl (ordered_ok l hl hls hf1) ?_
        rintro _ F2 hF2 ⟨po, co, rfl, hfo⟩
        (refine run ?_; repeat intro b)
        refine s_plain _ rfl rfl rfl bd27 rfl (eq_str (ordN l) (ordN l) (frow_sub hF2 hfa) hfo (by have := ordN_len l; omega)) ?_
        rw [decide_eq_true (p := ordN l = ordN l) rfl]
        (refine run ?_; repeat intro b)
        rfl
    · have hc : p.length = 16 ∧ p.all (inS [48, 49]) = true := by simpa only [Bool.not_eq_false', decide_eq_true_eq] using h
      (refine run ?_; repeat intro b)
      refine s_if (!decide (0 ≤ k ∧ k ≤ 15)) ?_ (fun h2 => ?_) (fun h2 => ?_)
      · refine congrArg (fun b => some (EV.v (.bool b))) ?_
        rw [bpick_or, Bool.eq_iff_iff]
        simp only [Bool.or_eq_true, decide_eq_true_eq, Bool.not_eq_true', decide_eq_false_iff_not]
        omega
      · obtain ⟨e1, e2⟩ := bit_range hc (by simpa only [Bool.not_eq_true', decide_eq_false_iff_not] using h2)
        rw [e1, e2]
        (refine run ?_; repeat intro b)
        refine s_plain _ rfl rfl rfl bd25 rfl (strs_has (fun s => !goodName s) 26 #[] bd26 l hf1 (by omega) (fun x hx => lawnot_ok x (hls x hx) F1)) ?_
        (refine run ?_; repeat intro b)
        refine s_if (l.any fun s => !goodName s) rfl (fun h9 => ?_) (fun h9 => ?_)
        · obtain ⟨z1, z2⟩ := sort_form h9
          rw [z1, z2]
          (refine run ?_; repeat intro b)
          rfl
        · obtain ⟨z1, z2⟩ := sort_good h9
          rw [z2] at hfa
          rw [z1, z2]
          (refine run ?_; repeat intro b)
          refine s_callF rfl rfl rfl bd28 rfl (ordered_ok l hl hls hf1) ?_
          rintro _ F2 hF2 ⟨po, co, rfl, hfo⟩
          (refine run ?_; repeat intro b)
          refine s_plain _ rfl rfl rfl bd27 rfl (eq_str (ordN l) (ordN l) (frow_sub hF2 hfa) hfo (by have := ordN_len l; omega)) ?_
          rw [decide_eq_true (p := ordN l = ordN l) rfl]
          (refine run ?_; repeat intro b)
          rfl
      · have hk : 0 ≤ k ∧ k ≤ 15 := by simpa only [Bool.not_eq_false', decide_eq_true_eq] using h2
        obtain ⟨e1, hlt, h01, e2⟩ := bit_good hc hk
        have hget : (bl (mkB p)).getD k.toNat 0 = p[k.toNat] := by rw [bl_S]; simp [List.getD, hlt]
        rw [e1, e2]
        (refine run ?_; repeat intro b)
        refine s_pureO rfl rfl rfl ⟨by omega, by rw [bl_S]; omega⟩ ?_
        rw [hget]
        have ew := bitw h01
        (refine run ?_; repeat intro b)
        rw [ew]
        refine s_if false ?_ (fun h => by cases h) (fun _ => ?_)
        · refine congrArg (fun b => some (EV.v (.bool b))) ?_
          simp [bpick]
        (refine run ?_; repeat intro b)
        refine s_plain _ rfl rfl rfl bd25 rfl (strs_has (fun s => !goodName s) 26 #[] bd26 l hf1 (by omega) (fun x hx => lawnot_ok x (hls x hx) F1)) ?_
        (refine run ?_; repeat intro b)
        refine s_if (l.any fun s => !goodName s) rfl (fun h9 => ?_) (fun h9 => ?_)
        · obtain ⟨z1, z2⟩ := sort_form h9
          rw [z1, z2]
          (refine run ?_; repeat intro b)
          rfl
        · obtain ⟨z1, z2⟩ := sort_good h9
          rw [z2] at hfa
          rw [z1, z2]
          (refine run ?_; repeat intro b)
          refine s_callF rfl rfl rfl bd28 rfl (ordered_ok l hl hls hf1) ?_
          rintro _ F2 hF2 ⟨po, co, rfl, hfo⟩
          (refine run ?_; repeat intro b)
          refine s_plain _ rfl rfl rfl bd27 rfl (eq_str (ordN l) (ordN l) (frow_sub hF2 hfa) hfo (by have := ordN_len l; omega)) ?_
          rw [decide_eq_true (p := ordN l = ordN l) rfl]
          (refine run ?_; repeat intro b)
          rfl
end Go.Proofs.YtbhlpnbidmnbkaaDoor
