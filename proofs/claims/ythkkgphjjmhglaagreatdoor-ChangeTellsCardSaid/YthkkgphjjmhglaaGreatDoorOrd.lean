/-
The reference's Ordered: the walk.
-/
import Derived.Test.YthkkgphjjmhglaaGreatDoorOrdMath
import Derived.Test.YthkkgphjjmhglaaGreatDoorSetClash
import Derived.Test.YthkkgphjjmhglaaGreatDoorSetFwK
import Derived.Test.YthkkgphjjmhglaaGreatDoorSetProofSay
namespace Go.Proofs.YthkkgphjjmhglaaGreatDoor
set_option linter.unusedVariables false
set_option linter.unusedSimpArgs false
open Go.TR
theorem bestF_le {p : Option (List UInt8)} {l : List (List UInt8)} (h : ∀ s ∈ l, s.length ≤ 4611686018427387904) : ((bestF p l).getD []).length ≤ 4611686018427387904 := by
  have key := foldl_best p l none (fun q h => by cases h)
  unfold bestF
  cases hb : l.foldl (bestS p) none with
  | none => exact Nat.zero_le _
  | some q =>
    rw [hb] at key
    rcases key.1 with e | e
    · cases e
    · exact h q e
attribute [local irreducible] ahead behind bestF ordN
attribute [local irreducible] vc vcOps seqK blockK loopK retK retG retI loopV Plain CallOK CallIn bodied VS vcAny dropG backK brK loopPK IntKind.wrap
set_option maxRecDepth 100000
set_option maxHeartbeats 4000000 in
theorem ordered_ok (xs : List (List UInt8)) (hn : xs.length * 16 ≤ 140737488355328) (hs : ∀ s ∈ xs, s.length ≤ 4611686018427387904) {p : Option Addr} {c : Nat} {F : Hp} (hf : Frow F p (xs.map S)) : CallF Tryz.prog F 84 [.slice p xs.length c] (fun x F' => ∃ p' c', x = .slice p' (ordN xs).length c' ∧ Frow F' p' ((ordN xs).map S)) := by
  refine call_vc (N := 45) (rv := [.tmp 2]) tbok mixed Tryz.func84 rfl rfl rfl rfl rfl ?_
  have hnext := bestF_next xs
  have hLn := ordN_len xs
  have hLs : ∀ s ∈ ordN xs, s.length ≤ 4611686018427387904 := fun s h => hs s ((ordN_mem xs s).1 h)
  generalize ordN xs = L at hnext hLn hLs
  (refine run ?_; repeat intro b)
  refine s_loopP (fun q : Nat × Option Nat × Nat => q.1 ≤ L.length ∧ (q.2.1 = none → q.1 = 0 ∧ q.2.2 = 0) ∧ q.1 ≤ q.2.2)
    (fun q => ⟨[(0, .v (.slice p xs.length c)), (3, .row 0 0 q.1 q.2.2)], F, [(0, ⟨q.2.1, ((L.take q.1).map S).map EV.v, 9, q.2.2 * 1⟩)], 1⟩) (fun q => L.length - q.1) (0, none, 0) ⟨Nat.zero_le _, fun _ => ⟨rfl, rfl⟩, Nat.le_refl _⟩ (VS.trans (VS.nilrow 3 9 [0] rfl rfl (VS.id (VS.keepN [0, 3] rfl rfl)))) ?_
  rintro ⟨k, blk, cap⟩ ⟨h1, h3, h4⟩
  dsimp only at h1 h3 h4 ⊢
  have hnx : bestF (if k = 0 then none else L[k - 1]?) xs = L[k]? := by
    rcases hnext k with h | h
    · exact h
    · omega
  cases k with
  | zero =>
    rw [if_pos rfl] at hnx
    (refine run ?_; repeat intro b)
    have hb0 : bestF none (xs.take 0) = none := by rw [List.take_zero]; unfold bestF; rfl
    refine s_loopP (fun j : Nat => j ≤ xs.length) (fun j => ⟨[(0, .v (.slice p xs.length c)), (3, .row 0 0 0 cap), (4, .v (S ((bestF none (xs.take j)).getD []))), (5, .v (.bool (bestF none (xs.take j)).isSome)), (8, .v (.slice p xs.length c)), (9, .v (i64 (xs.length : Nat))), (10, .v (i64 (j : Nat)))], F, [(0, ⟨blk, ((L.take 0).map S).map EV.v, 9, cap * 1⟩)], 1⟩) (fun j => xs.length - j) 0 (Nat.zero_le _) (VS.keepN [0, 3, 4, 5, 8, 9, 10] rfl (by rw [hb0]; rfl)) ?_
    intro j hj
    by_cases hlt : j < xs.length
    · have g := get_str hf (k := j) hlt
      have hsn := bestF_snoc none hlt
      have hls := hs xs[j] (List.getElem_mem hlt)
      have hbl := bestF_le (p := none) (l := xs.take j) (fun s h => hs s (List.mem_of_mem_take h))
      have hgd : xs.getD j [] = xs[j] := by rw [List.getD_eq_getElem?_getD, List.getElem?_eq_getElem hlt]; rfl
      rw [hgd] at g
      generalize xs[j] = s at g hsn hls
      generalize bestF none (xs.take j) = best at hsn hbl
      (refine run ?_; repeat intro b)
      refine s_if true (by rw [← decide_eq_true (p := ((j : Nat) : Int) < ((xs.length : Nat) : Int)) (by omega)]; rfl) (fun _ => ?_) (fun h => by cases h)
      (refine run ?_; repeat intro b)
      refine s_pureO rfl rfl rfl ⟨by omega, by omega, frow_some hf (j := j) (by rw [List.length_map]; omega)⟩ ?_
      refine s_load (S s) rfl rfl rfl rfl (by rw [Int.toNat_natCast, Nat.mul_one]; exact g) ?_
      (refine run ?_; repeat intro b)
      refine s_gplain _ rfl rfl rfl rfl bd83 rfl rfl (fun _ => ahead_ok s (best.getD []) hls hbl F) ?_
      (refine run ?_; repeat intro b)
      refine s_if (behind none s && best.all fun q => ahead s q) ?_ (fun h => ?_) (fun h => ?_)
      · refine congrArg (fun b => some (EV.v (.bool b))) ?_
        unfold behind
        cases best <;> simp [bpick_and, bpick_or]
      · have e : bestS none best s = some s := by unfold bestS; rw [if_pos (by simpa using h)]
        (refine run ?_; repeat intro b)
        rw [wrap_succ (by omega)]
        exact s_loopPn (j + 1) hlt (by omega) (VS.keepN [0, 3, 4, 5, 8, 9, 10] rfl (by rw [hsn, e]; rfl))
      · have e : bestS none best s = best := by unfold bestS; rw [if_neg (by simpa using h)]
        (refine run ?_; repeat intro b)
        rw [wrap_succ (by omega)]
        exact s_loopPn (j + 1) hlt (by omega) (VS.keepN [0, 3, 4, 5, 8, 9, 10] rfl (by rw [hsn, e]))
    · skip
      have hge : j = xs.length := by omega
      subst hge
      rw [List.take_length, hnx]
      have hlk : (L.take 0).length = 0 := by rw [List.length_take]; omega
      (refine run ?_; repeat intro b)
      refine s_if false (by rw [← decide_eq_false (p := ((xs.length : Nat) : Int) < ((xs.length : Nat) : Int)) (by omega)]; rfl) (fun h => by cases h) (fun _ => ?_)
      cases hLk : L[0]? with
      | none =>
        have hll : L.length ≤ 0 := List.getElem?_eq_none_iff.1 hLk
        have hll2 : L.length = 0 := by omega
        (refine run ?_; repeat intro b)
        refine s_retG (VS.shut (fun p' => [(2, .v (.slice p' 0 cap))]) 0 [2] rfl (allV_map_v _) (fun _ => rfl) rfl (fun _ => rfl) rfl fun F' p' hF hg => ⟨_, rfl, rfl, p', cap, by rw [hll2]; rfl, ?_⟩)
        rw [List.take_of_length_le hll] at hg
        exact hg
      | some s =>
        obtain ⟨hkL, hks⟩ := List.getElem?_eq_some_iff.1 hLk
        have hsn : ((L.take (0 + 1)).map S).map EV.v = ((L.take 0).map S).map EV.v ++ [EV.v (S s)] := by
          rw [List.take_succ_eq_append_getElem hkL, hks]; simp
        (refine run ?_; repeat intro b)
        refine s_appR rfl rfl rfl rfl rfl rfl rfl rfl (src_row rfl rfl) one1 h3 h4 rfl (by rw [List.length_map, List.length_map, hlk, Nat.mul_one]; exact Nat.le_refl _) (by show _ * 16 ≤ _; omega) (fun h => by cases h) (fun _ b2 c2 hc2 => ?_)
        (refine run ?_; repeat intro b)
        have hcells : (((L.take 0).map S).map EV.v).take (0 * 1) ++ [EV.v (S s)] = ((L.take (0 + 1)).map S).map EV.v := by
          rw [hsn, List.take_of_length_le (by rw [List.length_map, List.length_map, hlk, Nat.mul_one]; exact Nat.le_refl _)]
        exact s_loopPq (0 + 1, some b2, c2) 0 [(2, 0)] [0, 3] [(0, ⟨some b2, ((L.take (0 + 1)).map S).map EV.v, 9, c2 * 1⟩)] ⟨by omega, (fun h => by cases h), hc2⟩ (by simp only; omega) (Nat.min_le_left _ _)
          ⟨rfl, ⟨_, rfl, rfl, rfl, rfl, .inl ⟨hcells.symm, fun e he => all_v _ e (hcells ▸ he)⟩⟩, trivial⟩ rfl rfl rfl rfl rfl rfl rfl
  | succ k =>
    have hkl : k < L.length := by omega
    have hget : (((L.take (k + 1)).map S).map EV.v)[k]? = some (EV.v (S L[k])) := by
      rw [List.getElem?_map, List.getElem?_map, List.getElem?_take, if_pos (by omega), List.getElem?_eq_getElem hkl]
      rfl
    have hll := hLs L[k] (List.getElem_mem hkl)
    rw [if_neg (by omega), Nat.add_sub_cancel, List.getElem?_eq_getElem hkl] at hnx
    generalize L[k] = last at hnx hget hll
    have ew : IntKind.i64.wrap (((k + 1 : Nat) : Int) - 1) = (k : Int) := by rw [wrap_i64 (by omega) (by omega)]; omega
    cases blk with
    | none => exact absurd (h3 rfl).1 (by omega)
    | some blk =>
      (refine run ?_; repeat intro b)
      have hb0 : bestF (some last) (xs.take 0) = none := by rw [List.take_zero]; unfold bestF; rfl
      refine s_loopP (fun j : Nat => j ≤ xs.length) (fun j => ⟨[(0, .v (.slice p xs.length c)), (3, .row 0 0 (k + 1) cap), (4, .v (S ((bestF (some last) (xs.take j)).getD []))), (5, .v (.bool (bestF (some last) (xs.take j)).isSome)), (8, .v (.slice p xs.length c)), (9, .v (i64 (xs.length : Nat))), (10, .v (i64 (j : Nat)))], F, [(0, ⟨some blk, ((L.take (k + 1)).map S).map EV.v, 9, cap * 1⟩)], 1⟩) (fun j => xs.length - j) 0 (Nat.zero_le _) (VS.keepN [0, 3, 4, 5, 8, 9, 10] rfl (by rw [hb0]; rfl)) ?_
      intro j hj
      by_cases hlt : j < xs.length
      · have g := get_str hf (k := j) hlt
        have hsn := bestF_snoc (some last) hlt
        have hls := hs xs[j] (List.getElem_mem hlt)
        have hbl := bestF_le (p := (some last)) (l := xs.take j) (fun s h => hs s (List.mem_of_mem_take h))
        have hgd : xs.getD j [] = xs[j] := by rw [List.getD_eq_getElem?_getD, List.getElem?_eq_getElem hlt]; rfl
        rw [hgd] at g
        generalize xs[j] = s at g hsn hls
        generalize bestF (some last) (xs.take j) = best at hsn hbl
        (refine run ?_; repeat intro b)
        refine s_if true (by rw [← decide_eq_true (p := ((j : Nat) : Int) < ((xs.length : Nat) : Int)) (by omega)]; rfl) (fun _ => ?_) (fun h => by cases h)
        (refine run ?_; repeat intro b)
        refine s_pureO rfl rfl rfl ⟨by omega, by omega, frow_some hf (j := j) (by rw [List.length_map]; omega)⟩ ?_
        refine s_load (S s) rfl rfl rfl rfl (by rw [Int.toNat_natCast, Nat.mul_one]; exact g) ?_
        (refine run ?_; repeat intro b)
        rw [ew]
        refine s_pureO rfl rfl rfl ⟨by omega, by omega, _, _, rfl, rfl⟩ ?_
        (refine run ?_; repeat intro b)
        refine s_locX (S last) rfl rfl rfl rfl rfl (by rw [Int.toNat_natCast, Nat.zero_add]; show (((L.take (k + 1)).map S).map EV.v)[k * 1]? = _; rw [Nat.mul_one]; exact hget) ?_
        (refine run ?_; repeat intro b)
        refine s_plain _ rfl rfl rfl bd83 rfl (ahead_ok last s hll hls F) ?_
        (refine run ?_; repeat intro b)
        refine s_gplain _ rfl rfl rfl rfl bd83 rfl rfl (fun _ => ahead_ok s (best.getD []) hls hbl F) ?_
        (refine run ?_; repeat intro b)
        refine s_if (behind (some last) s && best.all fun q => ahead s q) ?_ (fun h => ?_) (fun h => ?_)
        · refine congrArg (fun b => some (EV.v (.bool b))) ?_
          unfold behind
          cases best <;> simp [bpick_and, bpick_or]
        · have e : bestS (some last) best s = some s := by unfold bestS; rw [if_pos (by simpa using h)]
          (refine run ?_; repeat intro b)
          rw [wrap_succ (by omega)]
          exact s_loopPn (j + 1) hlt (by omega) (VS.keepN [0, 3, 4, 5, 8, 9, 10] rfl (by rw [hsn, e]; rfl))
        · have e : bestS (some last) best s = best := by unfold bestS; rw [if_neg (by simpa using h)]
          (refine run ?_; repeat intro b)
          rw [wrap_succ (by omega)]
          exact s_loopPn (j + 1) hlt (by omega) (VS.keepN [0, 3, 4, 5, 8, 9, 10] rfl (by rw [hsn, e]))
      · skip
        have hge : j = xs.length := by omega
        subst hge
        rw [List.take_length, hnx]
        have hlk : (L.take (k + 1)).length = (k + 1) := by rw [List.length_take]; omega
        (refine run ?_; repeat intro b)
        refine s_if false (by rw [← decide_eq_false (p := ((xs.length : Nat) : Int) < ((xs.length : Nat) : Int)) (by omega)]; rfl) (fun h => by cases h) (fun _ => ?_)
        cases hLk : L[(k + 1)]? with
        | none =>
          have hll : L.length ≤ (k + 1) := List.getElem?_eq_none_iff.1 hLk
          have hll2 : L.length = (k + 1) := by omega
          (refine run ?_; repeat intro b)
          refine s_retG (VS.shut (fun p' => [(2, .v (.slice p' (k + 1) cap))]) 0 [2] rfl (allV_map_v _) (fun _ => rfl) rfl (fun _ => rfl) rfl fun F' p' hF hg => ⟨_, rfl, rfl, p', cap, by rw [hll2]; rfl, ?_⟩)
          rw [List.take_of_length_le hll] at hg
          exact hg
        | some s =>
          obtain ⟨hkL, hks⟩ := List.getElem?_eq_some_iff.1 hLk
          have hsn : ((L.take ((k + 1) + 1)).map S).map EV.v = ((L.take (k + 1)).map S).map EV.v ++ [EV.v (S s)] := by
            rw [List.take_succ_eq_append_getElem hkL, hks]; simp
          (refine run ?_; repeat intro b)
          refine s_appR rfl rfl rfl rfl rfl rfl rfl rfl (src_row rfl rfl) one1 h3 h4 rfl (by rw [List.length_map, List.length_map, hlk, Nat.mul_one]; exact Nat.le_refl _) (by show _ * 16 ≤ _; omega) (fun h => by cases h) (fun _ b2 c2 hc2 => ?_)
          (refine run ?_; repeat intro b)
          have hcells : (((L.take (k + 1)).map S).map EV.v).take ((k + 1) * 1) ++ [EV.v (S s)] = ((L.take ((k + 1) + 1)).map S).map EV.v := by
            rw [hsn, List.take_of_length_le (by rw [List.length_map, List.length_map, hlk, Nat.mul_one]; exact Nat.le_refl _)]
          exact s_loopPq ((k + 1) + 1, some b2, c2) 0 [(2, 0)] [0, 3] [(0, ⟨some b2, ((L.take ((k + 1) + 1)).map S).map EV.v, 9, c2 * 1⟩)] ⟨by omega, (fun h => by cases h), hc2⟩ (by simp only; omega) (Nat.min_le_left _ _)
            ⟨rfl, ⟨_, rfl, rfl, rfl, rfl, .inl ⟨hcells.symm, fun e he => all_v _ e (hcells ▸ he)⟩⟩, trivial⟩ rfl rfl rfl rfl rfl rfl rfl
end Go.Proofs.YthkkgphjjmhglaaGreatDoor
