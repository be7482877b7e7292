/-
Package change: names, differ, check, Diff, Apply: the walks.
-/
import Derived.Test.YthkkgphjjmhglaaGreatDoorChangeMath
import Derived.Test.YthkkgphjjmhglaaGreatDoorSetFwY
import Derived.Test.YthkkgphjjmhglaaGreatDoorSetBookRef
import Derived.Test.YthkkgphjjmhglaaGreatDoorTreeLaw
namespace Go.Proofs.YthkkgphjjmhglaaGreatDoor
set_option linter.unusedVariables false
set_option linter.unusedSimpArgs false
open Go.TR
theorem opt_ne (x y : Option (List UInt8)) : ((x.isSome != y.isSome) || !decide (x.getD [] = y.getD [])) = decide (x ≠ y) := by
  cases x <;> cases y <;> simp
theorem both_mem {a b : List Entry} {n : List UInt8} (h : n ∈ bothN a b) : ∃ x : Entry, (x ∈ a ∨ x ∈ b) ∧ x.name = n := by
  unfold bothN at h
  rw [ordN_mem, List.mem_append] at h
  rcases h with h | h
  · obtain ⟨x, hx, rfl⟩ := List.mem_map.1 h
    exact ⟨x, .inl hx, rfl⟩
  · obtain ⟨x, hx, rfl⟩ := List.mem_map.1 h
    exact ⟨x, .inr hx, rfl⟩
theorem both_good {a b : List Entry} (ha : bookFault a = 0) (hb : bookFault b = 0) {n : List UInt8} (h : n ∈ bothN a b) : goodName n = true := by
  obtain ⟨x, hx | hx, rfl⟩ := both_mem h
  · exact ((bookFault_zero ha).2.1 x hx).1
  · exact ((bookFault_zero hb).2.1 x hx).1
theorem both_big {a b : List Entry} (ha : ∀ x ∈ a, x.wf) (hb : ∀ x ∈ b, x.wf) {n : List UInt8} (h : n ∈ bothN a b) : n.length ≤ 4611686018427387904 := by
  obtain ⟨x, hx | hx, rfl⟩ := both_mem h
  · exact (ha x hx).1
  · exact (hb x hx).1
theorem find_good {l : List Entry} {n : List UInt8} (h : bookFault l = 0) (hn : goodName n = true) : findE l n = 0 := by
  unfold findE
  rw [if_neg (by rw [h]; decide), if_pos hn]
/-- The names under a prefix in which two books differ, out of the first so many. -/
def diffL (a b : List Entry) (p : List UInt8) (k : Nat) : List (List UInt8) := ((bothN a b).take k).filter fun n => p.isPrefixOf (pathN n) && unlikeN a b n
theorem diffL_zero (a b : List Entry) (p : List UInt8) : diffL a b p 0 = [] := rfl
theorem diffL_all (a b : List Entry) (p : List UInt8) : diffL a b p (bothN a b).length = differP a b p := by
  unfold diffL differP
  rw [List.take_length]
theorem diffL_step {a b : List Entry} {p : List UInt8} {k : Nat} (h : k < (bothN a b).length) : diffL a b p (k + 1) = if (p.isPrefixOf (pathN (bothN a b)[k]) && unlikeN a b (bothN a b)[k]) = true then diffL a b p k ++ [(bothN a b)[k]] else diffL a b p k := by
  unfold diffL
  rw [List.take_succ_eq_append_getElem h, List.filter_append]
  cases hc : (p.isPrefixOf (pathN (bothN a b)[k]) && unlikeN a b (bothN a b)[k]) <;> simp [hc]
theorem diffL_len (a b : List Entry) (p : List UInt8) (k : Nat) : (diffL a b p k).length ≤ k := by
  unfold diffL
  exact Nat.le_trans (List.length_filter_le _ _) (by rw [List.length_take]; omega)
theorem S_snoc (L : List (List UInt8)) (s : List UInt8) (n : Nat) (h : L.length = n) : ((L.map S).map EV.v).take (n * 1) ++ [EV.v (S s)] = ((L ++ [s]).map S).map EV.v := by
  rw [List.take_of_length_le (by simp [h])]
  simp
def chkE (a b : List Entry) : Int := if bookFault a ≠ 0 then bookFault a else bookFault b
def diffE (a b : List Entry) : Int := chkE a b
def diffO (a b : List Entry) : List (List UInt8) := if chkE a b = 0 then differN a b else []
theorem chk_zero {a b : List Entry} (h : chkE a b = 0) : bookFault a = 0 ∧ bookFault b = 0 := by
  unfold chkE at h
  split at h
  · rename_i h0; exact absurd h h0
  · rename_i h0; exact ⟨Classical.not_not.1 h0, h⟩
/-- Changes one by one: the book, or what is wrong. -/
def applyF : List Entry → List Entry → Int × List Entry
  | l, [] => (0, l)
  | l, x :: t => if setE l x.name x.value ≠ 0 then (setE l x.name x.value, []) else applyF (setL l x.name x.value) t
def appE (l c : List Entry) : Int := if bookFault l ≠ 0 then bookFault l else (applyF l c).1
def appO (l c : List Entry) : List Entry := if bookFault l ≠ 0 then [] else (applyF l c).2
attribute [local irreducible] vc vcOps seqK blockK loopK retK retG retI loopV Plain CallOK CallIn bodied VS vcAny dropG backK brK loopPK IntKind.wrap
attribute [local irreducible] bookFault bothN unlikeN pathN wayN goodName findE findB getV standsO differP differN ordN sortE sortO diffL setE setL setO
set_option maxRecDepth 100000
set_option maxHeartbeats 4000000
theorem cnames_ok (l : List Entry) (hl : l.length ≤ 1000000) {p : Option Addr} {c : Nat} {F : Hp} (hf : Frow F p (l.flatMap Entry.row)) : CallOK Tryz.prog F 123 [.slice p l.length c] (fun v F' new => ∃ cs, RowOr 9 1 cs l.length v new ∧ cs = (l.map Entry.name).map S) := by
  refine call_vc (N := 19) (rv := [.tmp 2]) tbok mixed Tryz.func123 rfl rfl rfl rfl rfl ?_
  (refine run ?_; repeat intro b)
  refine s_loopP (fun q : Nat × Option Nat × Nat => q.1 ≤ l.length ∧ (q.2.1 = none → q.1 = 0 ∧ q.2.2 = 0) ∧ q.1 ≤ q.2.2)
    (fun q => ⟨[(3, .row 0 0 q.1 q.2.2), (6, .v (.slice p l.length c)), (7, .v (i64 (l.length : Nat))), (8, .v (i64 (q.1 : Nat)))], F, [(0, ⟨q.2.1, (((l.take q.1).map Entry.name).map S).map EV.v, 9, q.2.2 * 1⟩)], 1⟩) (fun q => l.length - q.1) (0, none, 0) ⟨Nat.zero_le _, fun _ => ⟨rfl, rfl⟩, Nat.le_refl _⟩ (VS.nilrow 3 9 [6, 7, 8] rfl rfl (VS.id rfl)) ?_
  rintro ⟨k, blk, cap⟩ ⟨h1, h3, h4⟩
  dsimp only at h1 h3 h4 ⊢
  by_cases hlt : k < l.length
  · obtain ⟨o1, o2⟩ := frow_agg entry_row (by decide) hf k hlt
    have hst : (l.take (k + 1)).map Entry.name = (l.take k).map Entry.name ++ [l[k].name] := by rw [List.take_succ_eq_append_getElem hlt, List.map_append]; rfl
    have hlen : ((l.take k).map Entry.name).length = k := by rw [List.length_map, List.length_take]; omega
    generalize l[k] = x at o2 hst
    generalize (l.take k).map Entry.name = L at hst hlen ⊢
    (refine run ?_; repeat intro b)
    refine s_if true (by rw [← decide_eq_true (p := ((k : Nat) : Int) < ((l.length : Nat) : Int)) (by omega)]; rfl) (fun _ => ?_) (fun h => by cases h)
    (refine run ?_; repeat intro b)
    refine s_pureO rfl rfl rfl ⟨by omega, by omega, frow_some hf (j := k * 2) (by rw [flat_len entry_row]; omega)⟩ ?_
    refine s_loadA x.row rfl rfl rfl rfl rfl (by rw [Int.toNat_natCast]; exact o1) (by rw [Int.toNat_natCast]; exact o2) ?_
    (refine run ?_; repeat intro b)
    refine s_appR rfl rfl rfl rfl rfl rfl rfl rfl (src_row rfl rfl) (one_v _ (l := [S x.name]) (fun v hv => by rw [List.mem_singleton.1 hv]; rfl)) h3 h4 rfl (by rw [List.length_map, List.length_map, hlen]; exact Nat.le_of_eq (Nat.mul_one _)) (by show _ * 16 ≤ _; omega) (fun h => by cases h) (fun _ b2 c2 hc2 => ?_)
    (refine run ?_; repeat intro b)
    have hcells := S_snoc L x.name k hlen
    rw [wrap_succ (by omega)]
    exact s_loopPq (k + 1, some b2, c2) 0 [(3, 0)] [3, 6, 7, 8] [(0, ⟨some b2, (((l.take (k + 1)).map Entry.name).map S).map EV.v, 9, c2 * 1⟩)]
      ⟨hlt, (fun h => by cases h), hc2⟩ (by simp only; omega) (Nat.min_le_left _ _)
      ⟨rfl, ⟨_, rfl, rfl, rfl, rfl, .inl ⟨by rw [hst]; exact hcells.symm, fun e he => all_v _ e (hcells ▸ he)⟩⟩, trivial⟩ rfl rfl rfl rfl rfl rfl rfl
  · have hge : k = l.length := by omega
    subst hge
    rw [List.take_length]
    (refine run ?_; repeat intro b)
    refine s_if false (by rw [← decide_eq_false (p := ((l.length : Nat) : Int) < ((l.length : Nat) : Int)) (by omega)]; rfl) (fun h => by cases h) (fun _ => ?_)
    (refine run ?_; repeat intro b)
    exact s_retG (VS.keepN [2] rfl ⟨_, rfl, _, ⟨blk, cap, h4, h3, rfl, rfl⟩, rfl⟩)
theorem cnames_frz (l : List Entry) (hl : l.length ≤ 1000000) {p : Option Addr} {c : Nat} {F : Hp} (hf : Frow F p (l.flatMap Entry.row)) : CallF Tryz.prog F 123 [.slice p l.length c] (fun v F' => ∃ p' c', v = .slice p' l.length c' ∧ Frow F' p' ((l.map Entry.name).map S)) := by
  refine CallF.mono' (CallOK.frzN (R := fun _ cs => cs = (l.map Entry.name).map S) (fun _ _ _ _ h => h) (fun _ cs hn h => ?_) (cnames_ok l hl hf)) fun x F' _ h => ?_
  · rw [h, List.eq_nil_of_length_eq_zero hn]; rfl
  · obtain ⟨p', c', cs, rfl, _, h2, rfl⟩ := h
    exact ⟨p', c', rfl, h2⟩
theorem differ_ok (A B : List Entry) (p : List UInt8) (ha : bookFault A = 0) (hb : bookFault B = 0) (hwa : ∀ x ∈ A, x.wf) (hwb : ∀ x ∈ B, x.wf) {pa pb : Option Addr} {ca cb : Nat} {F : Hp} (hfa : Frow F pa (A.flatMap Entry.row)) (hfb : Frow F pb (B.flatMap Entry.row)) :
    CallF Tryz.prog F 79 [.slice pa A.length ca, .slice pb B.length cb, S p] (fun x F' => ∃ p' c', x = .slice p' (differP A B p).length c' ∧ Frow F' p' ((differP A B p).map S)) := by
  have hla := (bookFault_zero ha).1
  have hlb := (bookFault_zero hb).1
  have hbl := both_len A B
  have hsE : sortE (A.map Entry.name ++ B.map Entry.name) = 0 := by
    unfold sortE
    rw [if_neg]
    rw [Bool.not_eq_true, List.any_eq_false]
    intro s hs
    have : s ∈ bothN A B := by unfold bothN; exact (ordN_mem _ s).2 hs
    rw [both_good ha hb this]
    decide
  have hsO : sortO (A.map Entry.name ++ B.map Entry.name) = bothN A B := by
    unfold sortO bothN
    rw [if_pos hsE]
  refine CallOK.drop (call_vc (N := 73) (rv := [.tmp 6]) tbok mixed Tryz.func79 rfl rfl rfl rfl rfl ?_)
  (refine run ?_; repeat intro b)
  refine s_callN (fun v F' new h => h) rfl rfl rfl bd123 rfl (cnames_ok A (by omega) hfa) (fun F1 blk c1 cs hF1 hc1 hb1 hR => ?_)
  subst hR
  (refine run ?_; repeat intro b)
  refine s_callF rfl rfl rfl bd123 rfl (cnames_frz B (by omega) (frow_sub hF1 hfb)) ?_
  rintro _ F2 hF2 ⟨p2, c2, rfl, hf2⟩
  have hF02 := hF1.trans hF2
  (refine run ?_; repeat intro b)
  refine s_appR rfl rfl rfl rfl rfl rfl rfl rfl (src_frz (by rw [List.length_map, List.length_map, Nat.mul_one]) hf2) (one_v _ (str_one' _)) hb1 hc1 rfl (by rw [List.length_map, List.length_map, List.length_map]; exact Nat.le_of_eq (Nat.mul_one _)) (by show _ * 16 ≤ _; omega) (fun hm => ?_) (fun hm b3 c3 hc3 => ?_)
  · have hnb : B.map Entry.name = [] := by rw [List.map_eq_nil_iff]; exact List.eq_nil_of_length_eq_zero hm
    refine s_shift (VS.trans (VS.shut (fun pp => [(0, .v (.slice pa A.length ca)), (1, .v (.slice pb B.length cb)), (2, .v (S p)), (25, .v (.slice pp A.length c1))]) 0 [0, 1, 2, 25] rfl (allV_map_v _) (fun _ => rfl) rfl (fun _ => rfl) rfl fun F3 p3 hs3 hf3 => VS.ren (nx' := 5) [] [0, 1, 2, 25] [] trivial rfl rfl rfl rfl rfl rfl ?_))
    have hps := pathsort_ok (A.map Entry.name ++ B.map Entry.name) (c := c1) (p := p3) (F := F3) (by rw [List.length_append, List.length_map, List.length_map]; omega) (fun s hs => both_big hwa hwb (by unfold bothN; exact (ordN_mem _ s).2 hs)) (by rw [hnb, List.append_nil]; exact hf3)
    rw [hsE, hsO, hnb, List.append_nil, List.length_map] at hps
    refine s_callF rfl rfl rfl bd122 rfl hps ?_
    rintro _ F4 hF4 ⟨p4, c4, rfl, hf4⟩
    have hF04 := hF02.trans (hs3.trans hF4)
    have hga := frow_sub hF04 hfa
    have hgb := frow_sub hF04 hfb
    (refine run ?_; repeat intro b)
    refine s_loopP (fun q : Nat × Option Nat × Nat => q.1 ≤ (bothN A B).length ∧ (q.2.1 = none → (diffL A B p q.1).length = 0 ∧ q.2.2 = 0) ∧ (diffL A B p q.1).length ≤ q.2.2)
      (fun q => ⟨[(9, .row 5 0 (diffL A B p q.1).length q.2.2), (0, .v (.slice pa A.length ca)), (1, .v (.slice pb B.length cb)), (2, .v (S p)), (29, .v (.slice p4 (bothN A B).length c4)), (30, .v (i64 ((bothN A B).length : Nat))), (31, .v (i64 (q.1 : Nat)))], F4, [(5, ⟨q.2.1, ((diffL A B p q.1).map S).map EV.v, 9, q.2.2 * 1⟩)], 6⟩) (fun q => (bothN A B).length - q.1) (0, none, 0) ⟨Nat.zero_le _, fun _ => ⟨by rw [diffL_zero]; rfl, rfl⟩, by rw [diffL_zero]; exact Nat.le_refl _⟩ (VS.nilrow 9 9 [0, 1, 2, 29, 30, 31] rfl rfl (VS.id (by rw [diffL_zero]; rfl))) ?_
    rintro ⟨k, blk2, cap⟩ ⟨g1, g3, g4⟩
    dsimp only at g1 g3 g4 ⊢
    have hdl := diffL_len A B p k
    by_cases hlt : k < (bothN A B).length
    · have g := frow_get hf4 (j := k) (by rw [List.length_map]; exact hlt)
      rw [List.getElem_map] at g
      have hst := diffL_step (p := p) hlt
      have hm := List.getElem_mem hlt
      have hgn := both_good ha hb hm
      have hbn := both_big hwa hwb hm
      have ua : unlikeN A B (bothN A B)[k] = decide (standsO A (bothN A B)[k] ≠ standsO B (bothN A B)[k]) := by unfold unlikeN; rfl
      generalize (bothN A B)[k] = n at g hst hgn hbn ua
      have ga := find_good ha hgn
      have gb := find_good hb hgn
      obtain ⟨v1, v2⟩ := get_stands ga
      obtain ⟨v3, v4⟩ := get_stands gb
      have ew : wayN n = pathN n := by unfold wayN; rw [if_pos hgn]
      have hta := treeget_ok A n (by omega) hwa hbn (c := ca) hga
      have htb := treeget_ok B n (by omega) hwb hbn (c := cb) hgb
      rw [ga, v1, v2] at hta
      rw [gb, v3, v4] at htb
      have hpo := pathof_ok n hbn F4
      rw [ew, if_pos hgn] at hpo
      rw [← opt_ne] at ua
      generalize hL : diffL A B p k = L at *
      (refine run ?_; repeat intro b)
      refine s_if true (by rw [← decide_eq_true (p := ((k : Nat) : Int) < (((bothN A B).length : Nat) : Int)) (by omega)]; rfl) (fun _ => ?_) (fun h => by cases h)
      (refine run ?_; repeat intro b)
      refine s_pureO rfl rfl rfl ⟨by omega, by omega, frow_some hf4 (j := k) (by rw [List.length_map]; exact hlt)⟩ ?_
      refine s_load (S n) rfl rfl rfl rfl (by rw [Int.toNat_natCast, Nat.mul_one]; exact g) ?_
      (refine run ?_; repeat intro b)
      refine s_plain _ rfl rfl rfl bd98 rfl hpo ?_
      (refine run ?_; repeat intro b)
      refine s_plain _ rfl rfl rfl bd103 rfl hta ?_
      (refine run ?_; repeat intro b)
      refine s_plain _ rfl rfl rfl bd103 rfl htb ?_
      (refine run ?_; repeat intro b)
      refine s_plain _ rfl rfl rfl bd124 rfl (hasprefix_ok (pathN n) p F4) ?_
      (refine run ?_; repeat intro b)
      refine s_if (p.isPrefixOf (pathN n) && unlikeN A B n) ?_ (fun h => ?_) (fun h => ?_)
      · refine congrArg (fun B => some (EV.v (.bool B))) ?_
        rw [bpick_and, bpick_or, ua, bl_S, bl_S]
        rfl
      · rw [if_pos h] at hst
        have hL2 : (diffL A B p (k + 1)).length = L.length + 1 := by rw [hst, List.length_append]; rfl
        (refine run ?_; repeat intro b)
        refine s_appR rfl rfl rfl rfl rfl rfl rfl rfl (src_row rfl rfl) (one_v _ (l := [S n]) (fun v hv => by rw [List.mem_singleton.1 hv]; rfl)) g3 g4 rfl (by rw [List.length_map, List.length_map]; exact Nat.le_of_eq (Nat.mul_one _)) (by show _ * 16 ≤ _; omega) (fun h => by cases h) (fun _ b5 c5 hc5 => ?_)
        (refine run ?_; repeat intro b)
        have hcells := S_snoc L n L.length rfl
        rw [wrap_succ (by omega)]
        rw [← hL2] at hc5
        exact s_loopPq (k + 1, some b5, c5) 5 [(7, 5)] [9, 0, 1, 2, 29, 30, 31] [(5, ⟨some b5, ((diffL A B p (k + 1)).map S).map EV.v, 9, c5 * 1⟩)]
          ⟨hlt, (fun h => by cases h), hc5⟩ (by simp only; omega) (by simp)
          ⟨rfl, ⟨_, rfl, rfl, rfl, rfl, .inl ⟨by rw [hst]; exact hcells.symm, fun e he => all_v _ e (hcells ▸ he)⟩⟩, trivial⟩ rfl rfl rfl rfl rfl rfl (by rw [hL2])
      · rw [if_neg (by rw [h]; decide)] at hst
        (refine run ?_; repeat intro b)
        rw [wrap_succ (by omega)]
        exact s_loopPq (k + 1, blk2, cap) 5 [(5, 5)] [9, 0, 1, 2, 29, 30, 31] [(5, ⟨blk2, ((diffL A B p (k + 1)).map S).map EV.v, 9, cap * 1⟩)]
          ⟨hlt, by rw [hst]; exact g3, by rw [hst]; exact g4⟩ (by simp only; omega) (by simp)
          ⟨rfl, ⟨_, rfl, rfl, rfl, rfl, .inl ⟨by rw [hst], fun e he => all_v _ e he⟩⟩, trivial⟩ rfl rfl rfl rfl rfl rfl (by rw [hst])
    · have hge : k = (bothN A B).length := by omega
      subst hge
      rw [diffL_all]
      (refine run ?_; repeat intro b)
      refine s_if false (by rw [← decide_eq_false (p := (((bothN A B).length : Nat) : Int) < (((bothN A B).length : Nat) : Int)) (by omega)]; rfl) (fun h => by cases h) (fun _ => ?_)
      (refine run ?_; repeat intro b)
      exact s_retG (VS.shut (fun pp => [(6, .v (.slice pp (differP A B p).length cap))]) 5 [6] rfl (allV_map_v _) (fun _ => rfl) rfl (fun _ => rfl) rfl fun F5 p5 hs5 hf5 => ⟨_, rfl, p5, cap, rfl, hf5⟩)
  · refine s_shift (VS.trans (VS.shut (fun pp => [(0, .v (.slice pa A.length ca)), (1, .v (.slice pb B.length cb)), (2, .v (S p)), (25, .v (.slice pp (A.length + B.length) c3))]) 1 [0, 1, 2, 25] rfl (cs := (A.map Entry.name ++ B.map Entry.name).map S) (by
      rw [List.take_of_length_le (by rw [List.length_map, List.length_map, List.length_map]; exact Nat.le_of_eq (Nat.mul_one _).symm), ← List.map_append, ← List.map_append]
      exact allV_map_v _) (fun _ => rfl) rfl (fun _ => rfl) rfl fun F3 p3 hs3 hf3 => VS.ren (nx' := 5) [] [0, 1, 2, 25] [] trivial rfl rfl rfl rfl rfl rfl ?_))
    have hps := pathsort_ok (A.map Entry.name ++ B.map Entry.name) (c := c3) (p := p3) (F := F3) (by rw [List.length_append, List.length_map, List.length_map]; omega) (fun s hs => both_big hwa hwb (by unfold bothN; exact (ordN_mem _ s).2 hs)) hf3
    rw [hsE, hsO, List.length_append, List.length_map, List.length_map] at hps
    refine s_callF rfl rfl rfl bd122 rfl hps ?_
    rintro _ F4 hF4 ⟨p4, c4, rfl, hf4⟩
    have hF04 := hF02.trans (hs3.trans hF4)
    have hga := frow_sub hF04 hfa
    have hgb := frow_sub hF04 hfb
    (refine run ?_; repeat intro b)
    refine s_loopP (fun q : Nat × Option Nat × Nat => q.1 ≤ (bothN A B).length ∧ (q.2.1 = none → (diffL A B p q.1).length = 0 ∧ q.2.2 = 0) ∧ (diffL A B p q.1).length ≤ q.2.2)
      (fun q => ⟨[(9, .row 5 0 (diffL A B p q.1).length q.2.2), (0, .v (.slice pa A.length ca)), (1, .v (.slice pb B.length cb)), (2, .v (S p)), (29, .v (.slice p4 (bothN A B).length c4)), (30, .v (i64 ((bothN A B).length : Nat))), (31, .v (i64 (q.1 : Nat)))], F4, [(5, ⟨q.2.1, ((diffL A B p q.1).map S).map EV.v, 9, q.2.2 * 1⟩)], 6⟩) (fun q => (bothN A B).length - q.1) (0, none, 0) ⟨Nat.zero_le _, fun _ => ⟨by rw [diffL_zero]; rfl, rfl⟩, by rw [diffL_zero]; exact Nat.le_refl _⟩ (VS.nilrow 9 9 [0, 1, 2, 29, 30, 31] rfl rfl (VS.id (by rw [diffL_zero]; rfl))) ?_
    rintro ⟨k, blk2, cap⟩ ⟨g1, g3, g4⟩
    dsimp only at g1 g3 g4 ⊢
    have hdl := diffL_len A B p k
    by_cases hlt : k < (bothN A B).length
    · have g := frow_get hf4 (j := k) (by rw [List.length_map]; exact hlt)
      rw [List.getElem_map] at g
      have hst := diffL_step (p := p) hlt
      have hm := List.getElem_mem hlt
      have hgn := both_good ha hb hm
      have hbn := both_big hwa hwb hm
      have ua : unlikeN A B (bothN A B)[k] = decide (standsO A (bothN A B)[k] ≠ standsO B (bothN A B)[k]) := by unfold unlikeN; rfl
      generalize (bothN A B)[k] = n at g hst hgn hbn ua
      have ga := find_good ha hgn
      have gb := find_good hb hgn
      obtain ⟨v1, v2⟩ := get_stands ga
      obtain ⟨v3, v4⟩ := get_stands gb
      have ew : wayN n = pathN n := by unfold wayN; rw [if_pos hgn]
      have hta := treeget_ok A n (by omega) hwa hbn (c := ca) hga
      have htb := treeget_ok B n (by omega) hwb hbn (c := cb) hgb
      rw [ga, v1, v2] at hta
      rw [gb, v3, v4] at htb
      have hpo := pathof_ok n hbn F4
      rw [ew, if_pos hgn] at hpo
      rw [← opt_ne] at ua
      generalize hL : diffL A B p k = L at *
      (refine run ?_; repeat intro b)
      refine s_if true (by rw [← decide_eq_true (p := ((k : Nat) : Int) < (((bothN A B).length : Nat) : Int)) (by omega)]; rfl) (fun _ => ?_) (fun h => by cases h)
      (refine run ?_; repeat intro b)
      refine s_pureO rfl rfl rfl ⟨by omega, by omega, frow_some hf4 (j := k) (by rw [List.length_map]; exact hlt)⟩ ?_
      refine s_load (S n) rfl rfl rfl rfl (by rw [Int.toNat_natCast, Nat.mul_one]; exact g) ?_
      (refine run ?_; repeat intro b)
      refine s_plain _ rfl rfl rfl bd98 rfl hpo ?_
      (refine run ?_; repeat intro b)
      refine s_plain _ rfl rfl rfl bd103 rfl hta ?_
      (refine run ?_; repeat intro b)
      refine s_plain _ rfl rfl rfl bd103 rfl htb ?_
      (refine run ?_; repeat intro b)
      refine s_plain _ rfl rfl rfl bd124 rfl (hasprefix_ok (pathN n) p F4) ?_
      (refine run ?_; repeat intro b)
      refine s_if (p.isPrefixOf (pathN n) && unlikeN A B n) ?_ (fun h => ?_) (fun h => ?_)
      · refine congrArg (fun B => some (EV.v (.bool B))) ?_
        rw [bpick_and, bpick_or, ua, bl_S, bl_S]
        rfl
      · rw [if_pos h] at hst
        have hL2 : (diffL A B p (k + 1)).length = L.length + 1 := by rw [hst, List.length_append]; rfl
        (refine run ?_; repeat intro b)
        refine s_appR rfl rfl rfl rfl rfl rfl rfl rfl (src_row rfl rfl) (one_v _ (l := [S n]) (fun v hv => by rw [List.mem_singleton.1 hv]; rfl)) g3 g4 rfl (by rw [List.length_map, List.length_map]; exact Nat.le_of_eq (Nat.mul_one _)) (by show _ * 16 ≤ _; omega) (fun h => by cases h) (fun _ b5 c5 hc5 => ?_)
        (refine run ?_; repeat intro b)
        have hcells := S_snoc L n L.length rfl
        rw [wrap_succ (by omega)]
        rw [← hL2] at hc5
        exact s_loopPq (k + 1, some b5, c5) 5 [(7, 5)] [9, 0, 1, 2, 29, 30, 31] [(5, ⟨some b5, ((diffL A B p (k + 1)).map S).map EV.v, 9, c5 * 1⟩)]
          ⟨hlt, (fun h => by cases h), hc5⟩ (by simp only; omega) (by simp)
          ⟨rfl, ⟨_, rfl, rfl, rfl, rfl, .inl ⟨by rw [hst]; exact hcells.symm, fun e he => all_v _ e (hcells ▸ he)⟩⟩, trivial⟩ rfl rfl rfl rfl rfl rfl (by rw [hL2])
      · rw [if_neg (by rw [h]; decide)] at hst
        (refine run ?_; repeat intro b)
        rw [wrap_succ (by omega)]
        exact s_loopPq (k + 1, blk2, cap) 5 [(5, 5)] [9, 0, 1, 2, 29, 30, 31] [(5, ⟨blk2, ((diffL A B p (k + 1)).map S).map EV.v, 9, cap * 1⟩)]
          ⟨hlt, by rw [hst]; exact g3, by rw [hst]; exact g4⟩ (by simp only; omega) (by simp)
          ⟨rfl, ⟨_, rfl, rfl, rfl, rfl, .inl ⟨by rw [hst], fun e he => all_v _ e he⟩⟩, trivial⟩ rfl rfl rfl rfl rfl rfl (by rw [hst])
    · have hge : k = (bothN A B).length := by omega
      subst hge
      rw [diffL_all]
      (refine run ?_; repeat intro b)
      refine s_if false (by rw [← decide_eq_false (p := (((bothN A B).length : Nat) : Int) < (((bothN A B).length : Nat) : Int)) (by omega)]; rfl) (fun h => by cases h) (fun _ => ?_)
      (refine run ?_; repeat intro b)
      exact s_retG (VS.shut (fun pp => [(6, .v (.slice pp (differP A B p).length cap))]) 5 [6] rfl (allV_map_v _) (fun _ => rfl) rfl (fun _ => rfl) rfl fun F5 p5 hs5 hf5 => ⟨_, rfl, p5, cap, rfl, hf5⟩)
end Go.Proofs.YthkkgphjjmhglaaGreatDoor
