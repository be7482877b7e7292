/-
slices.Index of strings; package owner: verdict.
-/
import Derived.Test.YteahoodopphacaaGreatOwner2
namespace Go.Proofs.YteahoodopphacaaGreat
set_option linter.unusedVariables false
set_option linter.unusedSimpArgs false
open Go.TR
theorem replyF_cases (h : Head) (p : Prf) : replyF h p = 0 ∨ replyF h p = 2 ∨ replyF h p = 3 ∨ replyF h p = 4 ∨ replyF h p = 8 := by
  unfold replyF
  split
  · unfold Head.fault
    split
    · simp
    · split <;> simp
  · rcases heldE_cases h.root p with e | e | e | e <;> simp [e]
theorem strs_drop {F : Hp} {p : Option Addr} {l : List (List UInt8)} (h : Frow F p (l.map S)) {n c : Nat} (hn : n ≤ l.length) (hc : l.length ≤ c) : Frow F (slBase p n c 1) ((l.drop n).map S) := by
  unfold slBase
  split
  · rename_i h1
    rw [List.drop_eq_nil_of_le (by omega)]
    exact frow_nil _ _
  · have := frow_drop h n
    rw [List.map_drop, Nat.mul_one]
    cases p with
    | none => exact this
    | some a => exact this
attribute [local irreducible] vc vcOps seqK blockK loopK retK retG retI loopV Plain CallOK CallIn bodied VS vcAny dropG backK brK loopPK IntKind.wrap
set_option maxRecDepth 100000
theorem index_ok (v : List UInt8) (l : List (List UInt8)) {m : Nat} (hm : m = l.length) (hl : l.length ≤ 4611686018427387904) {p : Option Addr} {c : Nat} {F : Hp} (hf : Frow F p (l.map S)) : Plain Tryz.prog F 36 [.slice p m c, S v] (i64 (idxP (fun w => decide (w = v)) l)) := by
  subst hm
  refine plain_vc (N := 19) (rv := [.tmp 4]) tbok mixed Tryz.func36 rfl rfl rfl rfl rfl ?_
  (refine run ?_; repeat intro b)
  refine s_loopP (fun k : Nat => k ≤ l.length ∧ (l.take k).any (fun w => decide (w = v)) = false) (fun k => ⟨[(0, .v (.slice p l.length c)), (1, .v (S v)), (7, .v (i64 (l.length : Nat))), (8, .v (i64 (k : Nat)))], F, [], 0⟩) (fun k => l.length - k) 0 ⟨Nat.zero_le _, rfl⟩ (VS.keepN [0, 1, 7, 8] rfl rfl) ?_
  rintro k ⟨hk, hany⟩
  by_cases hlt : k < l.length
  · have hget : Pcell F (padd p (k * 1)) = some (S l[k]) := by
      have := frow_get hf (j := k) (by simpa using hlt)
      simpa using this
    (refine run ?_; repeat intro b)
    refine s_if true (by rw [← decide_eq_true (p := ((k : Nat) : Int) < ((l.length : Nat) : Int)) (by omega)]; rfl) (fun _ => ?_) (fun h => by cases h)
    (refine run ?_; repeat intro b)
    refine s_pureO rfl rfl rfl ⟨by omega, by omega, frow_some hf (j := k * 1) (by simpa using hlt)⟩ ?_
    refine s_load (S l[k]) rfl rfl rfl rfl (by rw [Int.toNat_natCast]; exact hget) ?_
    (refine run ?_; repeat intro b)
    refine s_if (decide (l[k] = v)) ?_ (fun h2 => ?_) (fun h2 => ?_)
    · refine congrArg (fun b => some (EV.v (.bool b))) ?_
      rw [bl_S, bl_S, Bool.eq_iff_iff, decide_eq_true_eq, decide_eq_true_eq]
      exact eq_comm
    · (refine run ?_; repeat intro b)
      rw [idxP_found hlt hany h2]
      rfl
    · (refine run ?_; repeat intro b)
      rw [wrap_succ (by omega)]
      exact s_loopPn (k + 1) ⟨hlt, any_take_succ hlt hany h2⟩ (by omega) (VS.keepN [0, 1, 7, 8] rfl rfl)
  · have hge : k = l.length := by omega
    subst hge
    rw [List.take_length] at hany
    (refine run ?_; repeat intro b)
    refine s_if false (by rw [← decide_eq_false (p := ((l.length : Nat) : Int) < ((l.length : Nat) : Int)) (by omega)]; rfl) (fun h => by cases h) (fun _ => ?_)
    (refine run ?_; repeat intro b)
    rw [idxP_none hany]
    rfl
set_option maxHeartbeats 4000000 in
theorem verdict_ok (o : Ow) (l : List Head) (h : Head) (q : Prf) (a : Lay) (hw : o.wf) (h0 : ownF o = 0) (hl : l.length ≤ 4611686018427387904) (hwl : ∀ x ∈ l, x.wf) (hq : q.wf) {p : Option Addr} {c : Nat} (hc : o.wanted.length ≤ c) {pl : Option Addr} {cl : Nat} {F : Hp} (hf : Frow F p (o.wanted.map S)) (hfl : Frow F pl (l.flatMap Head.row)) (ha : q.at F a) :
    Plain Tryz.prog F 16 [o.v p c, .slice pl l.length cl, repV h q a] (pair (i64 (verdK o l h q)) (i64 (verdN o l h q : Nat))) := by
  obtain ⟨g1, g2, g3, g4, g5, g6⟩ := ownF_zero h0
  refine plain_vc (N := 76) (rv := [.tmp 6, .tmp 7]) tbok mixed Tryz.func16 rfl rfl rfl rfl rfl ?_
  (refine run ?_; repeat intro b)
  refine s_plain _ rfl rfl rfl bd34 rfl (ownlinks_ok o.head l hw.head g2 hl hwl hfl) ?_
  (refine run ?_; repeat intro b)
  have hK : linkK o.head l ≠ 0 → verdK o l h q = linkK o.head l ∧ verdN o l h q = 0 := fun hh => by
    unfold verdK verdN
    rw [if_pos hh, if_pos hh]
    exact ⟨rfl, rfl⟩
  have hbad : ∀ e : Int, e ≠ 0 → linkK o.head l = e → verdK o l h q = e ∧ verdN o l h q = 0 := fun e he hh => by
    have := hK (by rw [hh]; exact he)
    rw [hh] at this
    exact this
  rcases linkK_cases o.head l with e | e | e | e
  · have hz : (chainF l).1 = 0 := by
      unfold linkK at e
      by_cases hz : (chainF l).1 = 0
      · exact hz
      · rw [if_pos hz] at e
        cases e
    obtain ⟨z1, _⟩ := chainF_zero hz
    have hz' : l.length - 1 < l.length := by omega
    obtain ⟨o3, o4⟩ := frow_agg head_row (by decide) hfl (l.length - 1) hz'
    rw [lastH_of z1] at o4
    have ew : IntKind.i64.wrap (((l.length : Nat) : Int) - 1) = ((l.length - 1 : Nat) : Int) := by rw [wrap_i64 (by omega) (by omega)]; omega
    have hK2 : verdK o l h q = if replyF h q ≠ 0 ∨ h ≠ lastH l ∨ q.name ≠ o.name then 4
        else match standsO q.ents q.name with
          | Option.none => if 0 < o.had then 5 else 0
          | some v => if jdg v o.had o.wanted 0 = 0 then 6 else 0 := by
      exact if_neg (by simpa using e)
    have hN2 : verdN o l h q = if replyF h q ≠ 0 ∨ h ≠ lastH l ∨ q.name ≠ o.name then 0
        else match standsO q.ents q.name with
          | Option.none => 0
          | some v => jdg v o.had o.wanted 0 := by
      exact if_neg (by simpa using e)
    rw [hK2, hN2, e]
    generalize lastH l = z at o4
    (refine run ?_; repeat intro b)
    refine s_plain _ rfl rfl rfl bd35 rfl (servetell_ok h q a hq ha) ?_
    (refine run ?_; repeat intro b)
    refine s_regiond (by kernel_rfl) ?_
    rcases replyF_cases h q with hr | hr | hr | hr | hr
    · have hT : replyT h q = (standsO q.ents q.name).getD [] := by unfold replyT; rw [if_pos hr]
      have hB : replyB h q = (standsO q.ents q.name).isSome := by unfold replyB; rw [hr]; rfl
      rw [hr, hT, hB]
      (refine run ?_; repeat intro b)
      rw [ew]
      refine s_pureO rfl rfl rfl ⟨by omega, by omega, frow_some hfl (j := (l.length - 1) * 4) (by rw [flat_len head_row]; omega)⟩ ?_
      (refine run ?_; repeat intro b)
      refine s_loadA z.row rfl rfl rfl rfl rfl (by rw [Int.toNat_natCast]; exact o3) (by rw [Int.toNat_natCast]; exact o4) ?_
      (refine run ?_; repeat intro b)
      refine s_if (decide (h ≠ z ∨ q.name ≠ o.name)) ?_ (fun h1 => ?_) (fun h1 => ?_)
      · refine congrArg (fun b => some (EV.v (.bool b))) ?_
        rw [bpick_or, head_ne, bl_S, bl_S, Bool.eq_iff_iff]
        simp
      · have h1 := of_decide_eq_true h1
        rw [if_pos (.inr h1), if_pos (.inr h1)]
        (refine run ?_; repeat intro b)
        rfl
      · have h1 : ¬ (h ≠ z ∨ q.name ≠ o.name) := of_decide_eq_false h1
        have h2 : ¬ ((0 : Int) ≠ 0 ∨ h ≠ z ∨ q.name ≠ o.name) := fun hh => hh.elim (fun e => e rfl) h1
        rw [if_neg h2, if_neg h2]
        cases standsO q.ents q.name with
        | none =>
          (refine run ?_; repeat intro b)
          refine s_if (decide (0 < o.had)) rfl (fun h3 => ?_) (fun h3 => ?_)
          · rw [if_pos (of_decide_eq_true h3)]
            (refine run ?_; repeat intro b)
            rfl
          · rw [if_neg (of_decide_eq_false h3)]
            (refine run ?_; repeat intro b)
            rfl
        | some v =>
          dsimp only [Option.getD_some, Option.isSome_some]
          (refine run ?_; repeat intro b)
          have hn : ∃ n : Nat, (n : Int) = (if o.had - 1 < 0 then 0 else o.had - 1) := ⟨(if o.had - 1 < 0 then 0 else o.had - 1).toNat, by split <;> omega⟩
          obtain ⟨n, hn⟩ := hn
          have hw1 : IntKind.i64.wrap (o.had - 1) = o.had - 1 := wrap_i64 (by omega) (by omega)
          have hmx : (if (0 : Int) > IntKind.i64.wrap (o.had - 1) then 0 else IntKind.i64.wrap (o.had - 1)) = ((n : Nat) : Int) := by rw [hw1, hn]
          have hnl : n ≤ o.wanted.length := by split at hn <;> omega
          have hj := jdg_idx (v := v) (l := o.wanted) g5 hn
          have hil : idxP (fun w => decide (w = v)) (o.wanted.drop n) < 100 := by
            unfold idxP
            split
            · rename_i hany
              have := List.findIdx_lt_length_of_exists (p := fun w => decide (w = v)) (xs := o.wanted.drop n) (by simpa using hany)
              rw [List.length_drop] at this
              omega
            · omega
          rw [hmx]
          refine s_pureO rfl rfl rfl ⟨by omega, by omega, hc⟩ ?_
          rw [Int.toNat_natCast]
          (refine run ?_; repeat intro b)
          refine s_plain _ rfl rfl rfl bd36 rfl (index_ok v (o.wanted.drop n) List.length_drop.symm (by rw [List.length_drop]; omega) (strs_drop hf hnl hc)) ?_
          generalize idxP (fun w => decide (w = v)) (o.wanted.drop n) = ix at hj hil
          (refine run ?_; repeat intro b)
          refine s_if (decide (ix < 0)) rfl (fun h3 => ?_) (fun h3 => ?_)
          · have h3 := of_decide_eq_true h3
            rw [if_pos h3] at hj
            have hj0 : jdg v o.had o.wanted 0 = 0 := by omega
            rw [hj0, if_pos rfl]
            (refine run ?_; repeat intro b)
            rfl
          · have h3 := of_decide_eq_false h3
            rw [if_neg h3] at hj
            have hj0 : ¬ jdg v o.had o.wanted 0 = 0 := by omega
            have e1 : IntKind.i64.wrap ((n : Nat) + ix) = (n : Nat) + ix := wrap_i64 (by omega) (by omega)
            have e2 : IntKind.i64.wrap ((n : Nat) + ix + 1) = (n : Nat) + ix + 1 := wrap_i64 (by omega) (by omega)
            rw [if_neg hj0, hj]
            (refine run ?_; repeat intro b)
            rw [e1, e2]
            rfl
    all_goals
      have h2 : replyF h q ≠ 0 ∨ h ≠ z ∨ q.name ≠ o.name := .inl (by rw [hr]; decide)
      rw [if_pos h2, if_pos h2, hr]
      (refine run ?_; repeat intro b)
      rfl
  all_goals
    obtain ⟨e1, e2⟩ := hbad _ (by decide) e
    rw [e, e1, e2]
    (refine run ?_; repeat intro b)
    rfl
end Go.Proofs.YteahoodopphacaaGreat
