/-
Package owner: links.
-/
import Derived.Test.YteahoodopphacaaGreatOwner
namespace Go.Proofs.YteahoodopphacaaGreat
set_option linter.unusedVariables false
set_option linter.unusedSimpArgs false
open Go.TR
theorem chain_errs (l : List Head) : (chainF l).1 = 0 ∨ (chainF l).1 = 2 ∨ (chainF l).1 = 3 ∨ (chainF l).1 = 4 ∨ (chainF l).1 = 5 ∨ (chainF l).1 = 8 := by
  unfold chainF
  split
  · simp
  · split
    · simp
    · cases hb : badAt l 0 with
      | some x =>
        rw [chainT_bad hb]
        have h2 : ∀ {l : List Head} {i : Nat} {x : Int × Nat}, badAt l i = some x → ∃ h : Head, x.1 = h.fault := by
          intro l
          induction l with
          | nil => intro i x h; cases h
          | cons a l ih =>
            intro i x h
            unfold badAt at h
            split at h
            · exact ih h
            · cases h
              exact ⟨a, rfl⟩
        obtain ⟨h, e⟩ := h2 hb
        rw [e]
        unfold Head.fault
        split
        · simp
        · split <;> simp
      | none =>
        cases hu : unl l 1 with
        | some i => rw [chainT_unl hb hu]; simp
        | none => rw [chainT_ok hb hu]; simp
attribute [local irreducible] vc vcOps seqK blockK loopK retK retG retI loopV Plain CallOK CallIn bodied VS vcAny dropG backK brK loopPK IntKind.wrap
set_option maxRecDepth 100000
/-- slices.IndexFunc, ContainsFunc: elements of some cells. -/
theorem hds_idx (q : Head → Bool) (g : Nat) (lb : Array Value) (hb : bodied Tryz.prog g) (l : List Head) {p : Option Addr} {c : Nat} {F : Hp} (hf : Frow F p (l.flatMap Head.row)) (hl : l.length ≤ 4611686018427387904) (hp : ∀ x ∈ l, Plain Tryz.prog F g (.agg (Head.row x).toArray :: lb.toList) (.bool (q x))) :
    Plain Tryz.prog F 66 [.slice p l.length c, .func (.func g) #[] lb] (i64 (idxP q l)) := by
  refine plain_vc (N := 19) (rv := [.tmp 4]) tbok mixed Tryz.func66 rfl rfl rfl rfl rfl ?_
  (refine run ?_; repeat intro b)
  refine s_loopP (fun k : Nat => k ≤ l.length ∧ (l.take k).any q = false) (fun k => ⟨[(0, .v (.slice p l.length c)), (1, .v (.func (.func g) #[] lb)), (7, .v (i64 (l.length : Nat))), (8, .v (i64 (k : Nat)))], F, [], 0⟩) (fun k => l.length - k) 0 ⟨Nat.zero_le _, rfl⟩ (VS.keepN [0, 1, 7, 8] rfl rfl) ?_
  rintro k ⟨hk, hany⟩
  (refine run ?_; repeat intro b)
  refine s_if _ rfl (fun h => ?_) (fun h => ?_)
  · have hlt : k < l.length := by simpa using h
    obtain ⟨o1, o2⟩ := frow_agg head_row (by decide) hf k hlt
    (refine run ?_; repeat intro b)
    refine s_pureO rfl rfl rfl ⟨by omega, by omega, frow_some hf (j := k * 4) (by rw [flat_len head_row]; omega)⟩ ?_
    refine s_loadA (Head.row l[k]) rfl rfl rfl rfl rfl (by rw [Int.toNat_natCast]; exact o1) (by rw [Int.toNat_natCast]; exact o2) ?_
    (refine run ?_; repeat intro b)
    refine s_plain _ rfl rfl (by rw [forceL_eq]; rfl) hb rfl (hp l[k] (List.getElem_mem hlt)) ?_
    (refine run ?_; repeat intro b)
    refine s_if _ rfl (fun h2 => ?_) (fun h2 => ?_)
    · (refine run ?_; repeat intro b)
      rw [idxP_found hlt hany h2]
      rfl
    · (refine run ?_; repeat intro b)
      rw [wrap_succ (by omega)]
      refine s_loopPn (k + 1) ⟨hlt, ?_⟩ (by omega) (VS.keepN [0, 1, 7, 8] rfl rfl)
      rw [List.take_succ_eq_append_getElem hlt, List.any_append, hany]
      simp [h2]
  · have hge : k = l.length := by
      have : ¬ k < l.length := by simpa using h
      omega
    subst hge
    rw [List.take_length] at hany
    (refine run ?_; repeat intro b)
    rw [idxP_none hany]
    rfl
theorem hds_has (q : Head → Bool) (g : Nat) (lb : Array Value) (hb : bodied Tryz.prog g) (l : List Head) {p : Option Addr} {c : Nat} {F : Hp} (hf : Frow F p (l.flatMap Head.row)) (hl : l.length ≤ 4611686018427387904) (hp : ∀ x ∈ l, Plain Tryz.prog F g (.agg (Head.row x).toArray :: lb.toList) (.bool (q x))) :
    Plain Tryz.prog F 50 [.slice p l.length c, .func (.func g) #[] lb] (.bool (l.any q)) := by
  refine plain_vc (N := 9) (rv := [.tmp 4]) tbok mixed Tryz.func50 rfl rfl rfl rfl rfl ?_
  (refine run ?_; repeat intro b)
  refine s_plain _ rfl rfl rfl bd66 rfl (hds_idx q g lb hb l hf hl hp) ?_
  (refine run ?_; repeat intro b)
  rw [idxP_neg]
  rfl
theorem links1_ok (x h : Head) {p : Option Addr} {F : Hp} (hf : Frow F p h.row) : Plain Tryz.prog F 51 [.agg x.row.toArray, .pointer p] (.bool (decide (x.epoch = h.epoch) && decide (x ≠ h))) := by
  have hs : p.isSome = true := frow_some hf (j := 0) (Nat.succ_pos 3)
  refine plain_vc (N := 14) (rv := [.tmp 3]) tbok mixed Tryz.func51 rfl rfl rfl rfl rfl ?_
  (refine run ?_; repeat intro b)
  refine s_pureO rfl rfl rfl hs ?_
  refine s_load (i64 h.epoch) rfl rfl rfl rfl (hf 0 _ rfl) ?_
  (refine run ?_; repeat intro b)
  refine s_gloadA h.row rfl rfl rfl rfl rfl rfl rfl (fun _ => ⟨hs, fun j hj => by
    have hl : j < h.row.length := hj
    rw [List.getElem?_eq_getElem hl]
    exact hf j _ (List.getElem?_eq_getElem hl)⟩) ?_
  (refine run ?_; repeat intro b)
  refine congrArg Value.bool ?_
  rw [bpick_and, head_ne]
  congr 1
set_option maxHeartbeats 4000000 in
theorem ownlinks_ok (h : Head) (l : List Head) (hh : h.wf) (h0 : h.fault = 0) (hl : l.length ≤ 4611686018427387904) (hw : ∀ x ∈ l, x.wf) {p : Option Addr} {c : Nat} {F : Hp} (hf : Frow F p (l.flatMap Head.row)) : Plain Tryz.prog F 34 [h.v, .slice p l.length c] (i64 (linkK h l)) := by
  obtain ⟨v1, v2, _⟩ := Head.ok_of h0
  have ew : IntKind.i64.wrap (h.epoch + 1) = h.epoch + 1 := wrap_i64 (by omega) (by omega)
  refine plain_vc (N := 55) (rv := [.tmp 4]) tbok mixed Tryz.func34 rfl rfl rfl rfl rfl ?_
  (refine run ?_; repeat intro b)
  refine s_plain _ rfl rfl rfl bd48 rfl (chaincheck_ok l hl hw hf) ?_
  (refine run ?_; repeat intro b)
  unfold linkK
  by_cases hz : (chainF l).1 = 0
  · obtain ⟨z1, z2, z3, z4, z5⟩ := chainF_zero hz
    have hz' : l.length - 1 < l.length := by omega
    obtain ⟨o1, o2⟩ := frow_agg head_row (by decide) hf 0 z1
    obtain ⟨o3, o4⟩ := frow_agg head_row (by decide) hf (l.length - 1) hz'
    have vy := Head.ok_of (z3 _ (List.getElem_mem z1))
    rw [← headQ_of z1] at o2 vy
    rw [lastH_of z1] at o4
    have ewl : IntKind.i64.wrap (((l.length : Nat) : Int) - 1) = ((l.length - 1 : Nat) : Int) := by rw [wrap_i64 (by omega) (by omega)]; omega
    have hfol : follB h l = links h (orN l.head?) := by
      unfold follB follE
      rw [if_neg (by simpa using hz), h0]
      rfl
    rw [if_neg (by simpa using hz), hz]
    have hfl := chainfoll_ok h l hh hl hw (c := c) hf
    rw [hfol] at hfl
    generalize orN l.head? = y at o2 vy hfl
    generalize lastH l = z at o4
    refine s_regiond (by kernel_rfl) ?_
    (refine run ?_; repeat intro b)
    refine s_pureO rfl rfl rfl ⟨by omega, by omega, frow_some hf (j := 0 * 4) (by rw [flat_len head_row]; omega)⟩ ?_
    (refine run ?_; repeat intro b)
    refine s_pureO rfl rfl rfl o1 ?_
    (refine run ?_; repeat intro b)
    refine s_load (i64 y.epoch) rfl rfl rfl rfl (o2 0 (by decide)) ?_
    (refine run ?_; repeat intro b)
    rw [ew]
    refine s_if (decide (h.epoch + 1 < y.epoch)) rfl (fun h1 => ?_) (fun h1 => ?_)
    · rw [if_pos (of_decide_eq_true h1)]
      (refine run ?_; repeat intro b)
      rfl
    · rw [if_neg (of_decide_eq_false h1)]
      (refine run ?_; repeat intro b)
      refine s_regiond (by kernel_rfl) ?_
      (refine run ?_; repeat intro b)
      refine s_pureO rfl rfl rfl ⟨by omega, by omega, frow_some hf (j := 0 * 4) (by rw [flat_len head_row]; omega)⟩ ?_
      refine s_pureO rfl rfl rfl o1 ?_
      refine s_load (i64 y.epoch) rfl rfl rfl rfl (o2 0 (by decide)) ?_
      (refine run ?_; repeat intro b)
      rw [ew]
      refine s_join (β := Unit) (fun _ => ¬ (y.epoch = h.epoch + 1 ∧ links h y = false)) (fun _ => ⟨[(1, .v (.slice p l.length c)), (2, .loc 0 0)], F, [(0, ⟨some b, [.v (i64 h.epoch), .v (u64 (h.root : Nat)), .v (u64 (h.prev : Nat)), .v (i64 h.at_)], 24, 4⟩)], 1⟩) rfl (fun _ hbad => ?_) (fun KK2 kn kr ke => ?_)
      · rw [if_neg hbad]
        (refine run ?_; repeat intro b)
        refine s_shift (VS.freeze 0 [1, 2, 42, 43] rfl rfl rfl rfl fun F1 hs1 hf1 => VS.id ?_)
        refine s_plain _ rfl rfl rfl bd50 rfl (hds_has (fun x => decide (x.epoch = h.epoch) && decide (x ≠ h)) _ #[_] bd51 l (frow_sub hs1 hf) hl (fun x hx => links1_ok x h hf1)) ?_
        (refine run ?_; repeat intro b)
        generalize (l.any fun x => decide (x.epoch = h.epoch) && decide (x ≠ h)) = y2
        cases y2 with
        | true =>
          (refine run ?_; repeat intro b)
          rfl
        | false =>
          (refine run ?_; repeat intro b)
          refine s_regiond (by kernel_rfl) ?_
          (refine run ?_; repeat intro b)
          rw [ewl]
          refine s_pureO rfl rfl rfl ⟨by omega, by omega, frow_some hf (j := (l.length - 1) * 4) (by rw [flat_len head_row]; omega)⟩ ?_
          refine s_pureO rfl rfl rfl (by rw [Int.toNat_natCast]; exact o3) ?_
          refine s_load (i64 z.epoch) rfl rfl rfl rfl (by rw [Int.toNat_natCast]; exact pcell_sub hs1 (o4 0 (by decide))) ?_
          refine s_pureO rfl rfl rfl rfl ?_
          refine s_load (i64 h.epoch) rfl rfl rfl rfl (hf1 0 _ rfl) ?_
          (refine run ?_; repeat intro b)
          refine s_if (decide (z.epoch ≤ h.epoch)) rfl (fun h5 => ?_) (fun h5 => ?_)
          · rw [if_pos (of_decide_eq_true h5)]
            (refine run ?_; repeat intro b)
            rfl
          · rw [if_neg (of_decide_eq_false h5)]
            (refine run ?_; repeat intro b)
            rfl
      · refine s_if (decide (y.epoch = h.epoch + 1)) ?_ (fun h2 => ?_) (fun h2 => ?_)
        · refine congrArg (fun b => some (EV.v (.bool b))) ?_
          rw [Bool.eq_iff_iff]; simp
        · have h2 := of_decide_eq_true h2
          (refine run ?_; repeat intro b)
          refine s_plain _ rfl rfl rfl bd49 rfl hfl ?_
          (refine run ?_; repeat intro b)
          refine s_if (!links h y) rfl (fun h3 => ?_) (fun h3 => ?_)
          · have h3 : links h y = false := by simpa using h3
            (refine run ?_; repeat intro b)
            refine kr _ ?_
            rw [if_pos ⟨h2, h3⟩]
            exact s_end rfl rfl
          · have h3 : ¬ links h y = false := by simpa using h3
            (refine run ?_; repeat intro b)
            exact kn _ (VS.keepN [1, 2] rfl ⟨(), fun hh => h3 hh.2, rfl⟩)
        · have h2 := of_decide_eq_false h2
          (refine run ?_; repeat intro b)
          exact kn _ (VS.keepN [1, 2] rfl ⟨(), fun hh => h2 hh.1, rfl⟩)
  · rw [if_pos hz]
    rcases chain_errs l with h | h | h | h | h | h
    · exact absurd h hz
    all_goals
      rw [h]
      refine s_regiond (by kernel_rfl) ?_
      (refine run ?_; repeat intro b)
      rfl
end Go.Proofs.YteahoodopphacaaGreat
