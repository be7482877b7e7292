/-
Package change: check, Diff, Apply, Look: the walks.
-/
import Derived.Test.YthkkgphjjmhglaaGreatDoorChange
import Derived.Test.YthkkgphjjmhglaaGreatDoorSetFwZ
namespace Go.Proofs.YthkkgphjjmhglaaGreatDoor
set_option linter.unusedVariables false
set_option linter.unusedSimpArgs false
open Go.TR
theorem applyF_step {l : List Entry} {c : List Entry} {k : Nat} (h : k < c.length) : applyF l (c.drop k) = if setE l c[k].name c[k].value ≠ 0 then (setE l c[k].name c[k].value, []) else applyF (setL l c[k].name c[k].value) (c.drop (k + 1)) := by
  rw [List.drop_eq_getElem_cons h]
  rfl
theorem applyF_end (l : List Entry) (c : List Entry) : applyF l (c.drop c.length) = (0, l) := by
  rw [List.drop_length]
  rfl
theorem apply_good {l : List Entry} (h : bookFault l = 0) (c : List Entry) : appE l c = (applyF l c).1 ∧ appO l c = (applyF l c).2 := by
  unfold appE appO
  rw [if_neg (by rw [h]; decide), if_neg (by rw [h]; decide)]
  exact ⟨rfl, rfl⟩
theorem apply_bad {l : List Entry} (h : bookFault l ≠ 0) (c : List Entry) : appE l c = bookFault l ∧ appO l c = [] := by
  unfold appE appO
  rw [if_pos h, if_pos h]
  exact ⟨rfl, rfl⟩
def chgO (A B : List Entry) : List (List UInt8) := if chkE A B = 0 then seenN A B 16 [] else []
def chgN (A B : List Entry) : Nat := if chkE A B = 0 then cntN A B 16 [] else 0
theorem seen_same {A B : List Entry} {k : Nat} {p : List UInt8} (h : lvlN A p = lvlN B p) : seenN A B k p = [] ∧ cntN A B k p = 1 := by
  cases k with
  | zero => unfold seenN cntN; rw [if_pos h]; exact ⟨rfl, rfl⟩
  | succ k => unfold seenN cntN; rw [if_pos h, if_pos h]; exact ⟨rfl, rfl⟩
theorem seen_leaf {A B : List Entry} {p : List UInt8} (h : ¬ lvlN A p = lvlN B p) : seenN A B 0 p = differP A B p ∧ cntN A B 0 p = 1 := by
  unfold seenN cntN
  rw [if_neg h]
  exact ⟨rfl, rfl⟩
theorem seen_node {A B : List Entry} {k : Nat} {p : List UInt8} (h : ¬ lvlN A p = lvlN B p) : seenN A B (k + 1) p = seenN A B k (p ++ [48]) ++ seenN A B k (p ++ [49]) ∧ cntN A B (k + 1) p = 1 + (cntN A B k (p ++ [48]) + cntN A B k (p ++ [49])) := by
  refine ⟨?_, ?_⟩
  · conv => lhs; unfold seenN
    rw [if_neg h]
  · conv => lhs; unfold cntN
    rw [if_neg h]
/-- What the closure of Look turns: the names found, how many prefixes were looked at. -/
@[reducible] def lkRs (bo bm : Nat) (blk : Option Nat) (cap : Nat) (L : List (List UInt8)) (m : Nat) : RL := [(2, ⟨blk, (L.map S).map EV.v, 9, cap * 1⟩), (1, ⟨some bm, [.v (i64 (m : Nat))], 3, 1⟩), (0, ⟨some bo, [.row 2 0 L.length cap], 72, 1⟩)]
theorem lkRs_shift (n bo bm : Nat) (blk : Option Nat) (cap : Nat) (L : List (List UInt8)) (m : Nat) : shiftR n (lkRs bo bm blk cap L m) = [(n + 2, ⟨blk, (L.map S).map EV.v, 9, cap * 1⟩), (n + 1, ⟨some bm, [.v (i64 (m : Nat))], 3, 1⟩), (n, ⟨some bo, [.row (n + 2) 0 L.length cap], 72, 1⟩)] := by
  unfold shiftR shiftB lkRs
  simp only [List.map_cons, List.map_nil, shift_vals]
  rfl
def LkQ (A B : List Entry) (bo bm : Nat) (F : Hp) (L : List (List UInt8)) (m : Nat) (e : EV) (F' : Hp) (r : RL) (k : Nat) : Prop :=
  e = .v (.tuple #[]) ∧ k = 3 ∧ F.sub F' ∧ ∃ blk cap, (blk = none → L.length = 0 ∧ cap = 0) ∧ L.length ≤ cap ∧ r = lkRs bo bm blk cap L m
def LkC (A B : List Entry) (bo bm : Nat) (F : Hp) (pA pB pL : Option Addr) (p : List UInt8) (blk : Option Nat) (cap : Nat) (L L' : List (List UInt8)) (m m' : Nat) : Prop :=
  CallIn Tryz.prog F (lkRs bo bm blk cap L m) 3 80 [.v (S p), .loc 1 0, .v (.pointer pA), .v (.pointer pB), .loc 0 0, .v (.pointer pL)] (fun e F' rs' nx' => ∃ r k e0, rs' = shiftR 3 r ∧ nx' = 3 + k ∧ e = shiftE 3 e0 ∧ LkQ A B bo bm F L' m' e0 F' r k)
attribute [local irreducible] vc vcOps seqK blockK loopK retK retG retI loopV Plain CallOK CallIn bodied VS vcAny dropG backK brK loopPK IntKind.wrap
attribute [local irreducible] bookFault bothN unlikeN pathN wayN goodName findE findB getV standsO differP differN ordN setE setL setO applyF appE appO chkE diffO lvlN seenN cntN goodPre
set_option maxRecDepth 100000
set_option maxHeartbeats 4000000
theorem cchk_ok (A B : List Entry) (hla : A.length ≤ 4611686018427387904) (hlb : B.length ≤ 4611686018427387904) (hwa : ∀ x ∈ A, x.wf) (hwb : ∀ x ∈ B, x.wf) {pa pb : Option Addr} {ca cb : Nat} {F : Hp} (hfa : Frow F pa (A.flatMap Entry.row)) (hfb : Frow F pb (B.flatMap Entry.row)) :
    Plain Tryz.prog F 78 [.slice pa A.length ca, .slice pb B.length cb] (i64 (chkE A B)) := by
  refine plain_vc (N := 13) (rv := [.tmp 4]) tbok mixed Tryz.func78 rfl rfl rfl rfl rfl ?_
  (refine run ?_; repeat intro b)
  refine s_plain _ rfl rfl rfl bd82 rfl (treecheck_ok A hla hwa hfa) ?_
  (refine run ?_; repeat intro b)
  refine s_if (decide (bookFault A ≠ 0)) ?_ (fun h0 => ?_) (fun h0 => ?_)
  · refine congrArg (fun b => some (EV.v (.bool b))) ?_
    rw [Bool.eq_iff_iff]; simp
  · have e : chkE A B = bookFault A := by unfold chkE; rw [if_pos (of_decide_eq_true h0)]
    rw [e]
    (refine run ?_; repeat intro b)
    rfl
  · have e : chkE A B = bookFault B := by unfold chkE; rw [if_neg (of_decide_eq_false h0)]
    rw [e]
    (refine run ?_; repeat intro b)
    refine s_plain _ rfl rfl rfl bd82 rfl (treecheck_ok B hlb hwb hfb) ?_
    (refine run ?_; repeat intro b)
    rfl
theorem cdiff_ok (A B : List Entry) (hla : A.length ≤ 4611686018427387904) (hlb : B.length ≤ 4611686018427387904) (hwa : ∀ x ∈ A, x.wf) (hwb : ∀ x ∈ B, x.wf) {pa pb : Option Addr} {ca cb : Nat} {F : Hp} (hfa : Frow F pa (A.flatMap Entry.row)) (hfb : Frow F pb (B.flatMap Entry.row)) :
    CallF Tryz.prog F 27 [.slice pa A.length ca, .slice pb B.length cb] (fun x F' => ∃ p' c', x = pair (.slice p' (diffO A B).length c') (i64 (chkE A B)) ∧ Frow F' p' ((diffO A B).map S)) := by
  refine CallOK.drop (call_vc (N := 16) (rv := [.tmp 4, .tmp 5]) tbok mixed Tryz.func27 rfl rfl rfl rfl rfl ?_)
  (refine run ?_; repeat intro b)
  refine s_plain _ rfl rfl rfl bd78 rfl (cchk_ok A B hla hlb hwa hwb hfa hfb) ?_
  (refine run ?_; repeat intro b)
  refine s_if (decide (chkE A B ≠ 0)) ?_ (fun h0 => ?_) (fun h0 => ?_)
  · refine congrArg (fun b => some (EV.v (.bool b))) ?_
    rw [Bool.eq_iff_iff]; simp
  · have e : diffO A B = [] := by unfold diffO; rw [if_neg (of_decide_eq_true h0)]
    rw [e]
    (refine run ?_; repeat intro b)
    exact s_retG (VS.id ⟨_, rfl, none, 0, rfl, frow_nil _ _⟩)
  · have h0 : chkE A B = 0 := by have := of_decide_eq_false h0; omega
    obtain ⟨h1, h2⟩ := chk_zero h0
    have e : diffO A B = differP A B [] := by unfold diffO; rw [if_pos h0, differP_nil]
    rw [e, h0]
    (refine run ?_; repeat intro b)
    refine s_callF rfl rfl rfl bd79 rfl (differ_ok A B [] h1 h2 hwa hwb hfa hfb) ?_
    rintro _ F1 hF1 ⟨p1, c1, rfl, hf1⟩
    (refine run ?_; repeat intro b)
    exact s_retG (VS.id ⟨_, rfl, p1, c1, rfl, hf1⟩)
theorem capply_ok (l C : List Entry) (hl : l.length ≤ 4611686018427387904) (hC : C.length ≤ 4611686018427387904) (hwl : ∀ x ∈ l, x.wf) (hwc : ∀ x ∈ C, x.wf) {pl pc : Option Addr} {cl cc : Nat} {F : Hp} (hfl : Frow F pl (l.flatMap Entry.row)) (hfc : Frow F pc (C.flatMap Entry.row)) :
    CallF Tryz.prog F 29 [.slice pl l.length cl, .slice pc C.length cc] (fun x F' => ∃ p' c', x = pair (.slice p' (appO l C).length c') (i64 (appE l C)) ∧ Frow F' p' ((appO l C).flatMap Entry.row)) := by
  refine CallOK.drop (call_vc (N := 38) (rv := [.tmp 4, .tmp 5]) tbok mixed Tryz.func29 rfl rfl rfl rfl rfl ?_)
  (refine run ?_; repeat intro b)
  refine s_plain _ rfl rfl rfl bd82 rfl (treecheck_ok l hl hwl hfl) ?_
  (refine run ?_; repeat intro b)
  refine s_if (decide (bookFault l ≠ 0)) ?_ (fun h0 => ?_) (fun h0 => ?_)
  · refine congrArg (fun b => some (EV.v (.bool b))) ?_
    rw [Bool.eq_iff_iff]; simp
  · obtain ⟨e1, e2⟩ := apply_bad (of_decide_eq_true h0) C
    rw [e1, e2]
    (refine run ?_; repeat intro b)
    exact s_retG (VS.id ⟨_, rfl, none, 0, rfl, frow_nil _ _⟩)
  have h0 : bookFault l = 0 := by have := of_decide_eq_false h0; omega
  obtain ⟨e1, e2⟩ := apply_good h0 C
  have h24 := (bookFault_zero h0).1
  rw [e1, e2]
  (refine run ?_; repeat intro b)
  refine s_appV [] rfl rfl rfl rfl rfl rfl rfl (frow_nil _ _) (src_frz (flat_len entry_row _) hfl) (one_v _ (entry_one _)) (by show (0 + _) * 32 ≤ _; omega) (fun hm => ?_) (fun hm b2 c2 hc2 => ?_)
  · have hnil : l = [] := List.eq_nil_of_length_eq_zero hm
    have hf0 : Frow F none (l.flatMap Entry.row) := by rw [hnil]; exact frow_nil _ _
    (refine run ?_; repeat intro b)
    refine s_loopP (fun q : Nat × List Entry × Option Addr × Nat × Hp => q.1 ≤ C.length ∧ F.sub q.2.2.2.2 ∧ Frow q.2.2.2.2 q.2.2.1 (q.2.1.flatMap Entry.row) ∧ bookFault q.2.1 = 0 ∧ (∀ x ∈ q.2.1, x.wf) ∧ applyF l C = applyF q.2.1 (C.drop q.1))
      (fun q => ⟨[(7, .v (.slice q.2.2.1 q.2.1.length q.2.2.2.1)), (18, .v (.slice pc C.length cc)), (19, .v (i64 (C.length : Nat))), (20, .v (i64 (q.1 : Nat)))], q.2.2.2.2, [], 5⟩) (fun q => C.length - q.1) (0, l, none, 0, F) ⟨Nat.zero_le _, Hp.sub.refl _, hf0, h0, hwl, rfl⟩ (VS.ren (nx' := 5) [] [7, 18, 19, 20] [] trivial rfl rfl rfl rfl rfl rfl (by simp only [hm, Int.ofNat_zero, Int.natCast_zero] )) ?_
    rintro ⟨k, L, p, c, G⟩ ⟨g1, g2, g3, g4, g5, g6⟩
    dsimp only at g1 g2 g3 g4 g5 g6 ⊢
    have hl24 := (bookFault_zero g4).1
    by_cases hlt : k < C.length
    · obtain ⟨o1, o2⟩ := frow_agg entry_row (by decide) (frow_sub g2 hfc) k hlt
      have hst := applyF_step (l := L) hlt
      have hwx := hwc _ (List.getElem_mem hlt)
      generalize C[k] = x at o2 hst hwx
      rw [hst] at g6
      have hset := treeset_ok L x.name x.value (by omega) g5 hwx.1 (c := c) g3
      (refine run ?_; repeat intro b)
      refine s_if true (by rw [← decide_eq_true (p := ((k : Nat) : Int) < ((C.length : Nat) : Int)) (by omega)]; rfl) (fun _ => ?_) (fun h => by cases h)
      (refine run ?_; repeat intro b)
      refine s_pureO rfl rfl rfl ⟨by omega, by omega, frow_some hfc (j := k * 2) (by rw [flat_len entry_row]; omega)⟩ ?_
      refine s_loadA x.row rfl rfl rfl rfl rfl (by rw [Int.toNat_natCast]; exact o1) (by rw [Int.toNat_natCast]; exact o2) ?_
      (refine run ?_; repeat intro b)
      refine s_callF rfl rfl rfl bd66 rfl hset ?_
      rintro _ G2 hG2 ⟨p5, c5, rfl, hf5⟩
      (refine run ?_; repeat intro b)
      refine s_if (decide (setE L x.name x.value ≠ 0)) ?_ (fun h2 => ?_) (fun h2 => ?_)
      · refine congrArg (fun b => some (EV.v (.bool b))) ?_
        rw [Bool.eq_iff_iff]; simp
      · rw [if_pos (of_decide_eq_true h2)] at g6
        rw [g6]
        (refine run ?_; repeat intro b)
        exact s_retG (VS.id ⟨_, rfl, none, 0, rfl, frow_nil _ _⟩)
      · have h2 : setE L x.name x.value = 0 := by have := of_decide_eq_false h2; omega
        rw [if_neg (by rw [h2]; decide)] at g6
        obtain ⟨s1, s2⟩ := set_fault h2
        have eO : setO L x.name x.value = setL L x.name x.value := by unfold setO; rw [if_pos h2]
        rw [eO] at hf5
        rw [eO]
        (refine run ?_; repeat intro b)
        rw [wrap_succ (by omega)]
        exact s_loopPq (k + 1, setL L x.name x.value, p5, c5, G2) 5 [] [7, 18, 19, 20] [] ⟨hlt, g2.trans hG2, hf5, s1, fun y hy => by rcases s2 y hy with rfl | hy; exact ⟨hwx.1, hwx.2⟩; exact g5 y hy, g6⟩ (by simp only; omega) (by simp) trivial rfl rfl rfl rfl rfl rfl rfl
    · have hge : k = C.length := by omega
      subst hge
      rw [applyF_end] at g6
      rw [g6]
      (refine run ?_; repeat intro b)
      refine s_if false (by rw [← decide_eq_false (p := ((C.length : Nat) : Int) < ((C.length : Nat) : Int)) (by omega)]; rfl) (fun h => by cases h) (fun _ => ?_)
      (refine run ?_; repeat intro b)
      exact s_retG (VS.id ⟨_, rfl, p, c, rfl, g3⟩)
  · rw [Nat.zero_add] at hc2 ⊢
    refine s_shift (VS.freeze 0 [1, 17] rfl (allV_map_v _) rfl rfl fun F1 hs1 hf1 => VS.id ?_)
    (refine run ?_; repeat intro b)
    refine s_loopP (fun q : Nat × List Entry × Option Addr × Nat × Hp => q.1 ≤ C.length ∧ F.sub q.2.2.2.2 ∧ Frow q.2.2.2.2 q.2.2.1 (q.2.1.flatMap Entry.row) ∧ bookFault q.2.1 = 0 ∧ (∀ x ∈ q.2.1, x.wf) ∧ applyF l C = applyF q.2.1 (C.drop q.1))
      (fun q => ⟨[(7, .v (.slice q.2.2.1 q.2.1.length q.2.2.2.1)), (18, .v (.slice pc C.length cc)), (19, .v (i64 (C.length : Nat))), (20, .v (i64 (q.1 : Nat)))], q.2.2.2.2, [], 5⟩) (fun q => C.length - q.1) (0, l, some ⟨b2, 0, none⟩, c2, F1) ⟨Nat.zero_le _, hs1, hf1, h0, hwl, rfl⟩ (VS.ren (nx' := 5) [] [7, 18, 19, 20] [] trivial rfl rfl rfl rfl rfl rfl rfl) ?_
    rintro ⟨k, L, p, c, G⟩ ⟨g1, g2, g3, g4, g5, g6⟩
    dsimp only at g1 g2 g3 g4 g5 g6 ⊢
    have hl24 := (bookFault_zero g4).1
    by_cases hlt : k < C.length
    · obtain ⟨o1, o2⟩ := frow_agg entry_row (by decide) (frow_sub g2 hfc) k hlt
      have hst := applyF_step (l := L) hlt
      have hwx := hwc _ (List.getElem_mem hlt)
      generalize C[k] = x at o2 hst hwx
      rw [hst] at g6
      have hset := treeset_ok L x.name x.value (by omega) g5 hwx.1 (c := c) g3
      (refine run ?_; repeat intro b)
      refine s_if true (by rw [← decide_eq_true (p := ((k : Nat) : Int) < ((C.length : Nat) : Int)) (by omega)]; rfl) (fun _ => ?_) (fun h => by cases h)
      (refine run ?_; repeat intro b)
      refine s_pureO rfl rfl rfl ⟨by omega, by omega, frow_some hfc (j := k * 2) (by rw [flat_len entry_row]; omega)⟩ ?_
      refine s_loadA x.row rfl rfl rfl rfl rfl (by rw [Int.toNat_natCast]; exact o1) (by rw [Int.toNat_natCast]; exact o2) ?_
      (refine run ?_; repeat intro b)
      refine s_callF rfl rfl rfl bd66 rfl hset ?_
      rintro _ G2 hG2 ⟨p5, c5, rfl, hf5⟩
      (refine run ?_; repeat intro b)
      refine s_if (decide (setE L x.name x.value ≠ 0)) ?_ (fun h2 => ?_) (fun h2 => ?_)
      · refine congrArg (fun b => some (EV.v (.bool b))) ?_
        rw [Bool.eq_iff_iff]; simp
      · rw [if_pos (of_decide_eq_true h2)] at g6
        rw [g6]
        (refine run ?_; repeat intro b)
        exact s_retG (VS.id ⟨_, rfl, none, 0, rfl, frow_nil _ _⟩)
      · have h2 : setE L x.name x.value = 0 := by have := of_decide_eq_false h2; omega
        rw [if_neg (by rw [h2]; decide)] at g6
        obtain ⟨s1, s2⟩ := set_fault h2
        have eO : setO L x.name x.value = setL L x.name x.value := by unfold setO; rw [if_pos h2]
        rw [eO] at hf5
        rw [eO]
        (refine run ?_; repeat intro b)
        rw [wrap_succ (by omega)]
        exact s_loopPq (k + 1, setL L x.name x.value, p5, c5, G2) 5 [] [7, 18, 19, 20] [] ⟨hlt, g2.trans hG2, hf5, s1, fun y hy => by rcases s2 y hy with rfl | hy; exact ⟨hwx.1, hwx.2⟩; exact g5 y hy, g6⟩ (by simp only; omega) (by simp) trivial rfl rfl rfl rfl rfl rfl rfl
    · have hge : k = C.length := by omega
      subst hge
      rw [applyF_end] at g6
      rw [g6]
      (refine run ?_; repeat intro b)
      refine s_if false (by rw [← decide_eq_false (p := ((C.length : Nat) : Int) < ((C.length : Nat) : Int)) (by omega)]; rfl) (fun h => by cases h) (fun _ => ?_)
      (refine run ?_; repeat intro b)
      exact s_retG (VS.id ⟨_, rfl, p, c, rfl, g3⟩)
theorem looked_in (A B : List Entry) (ha : bookFault A = 0) (hb : bookFault B = 0) (hwa : ∀ x ∈ A, x.wf) (hwb : ∀ x ∈ B, x.wf) {pa pb pA pB pL : Option Addr} {ca cb bo bm : Nat} : ∀ (k : Nat) (p : List UInt8) (L : List (List UInt8)) (m : Nat) (blk : Option Nat) (cap : Nat) (F : Hp), p.length + k = 16 → p.all (inS [48, 49]) = true →
    Frow F pa (A.flatMap Entry.row) → Frow F pb (B.flatMap Entry.row) → Pcell F pA = some (.slice pa A.length ca) → Pcell F pB = some (.slice pb B.length cb) → Pcell F pL = some (.func (.func 80) #[] #[.pointer (some ⟨bm, 0, none⟩), .pointer pA, .pointer pB, .pointer (some ⟨bo, 0, none⟩), .pointer pL]) →
    L.length + (seenN A B k p).length ≤ 1000000 → m + cntN A B k p ≤ 1000000000000 → (blk = none → L.length = 0 ∧ cap = 0) → L.length ≤ cap →
    LkC A B bo bm F pA pB pL p blk cap L (L ++ seenN A B k p) m (m + cntN A B k p)
  | k, p, L, m, blk, cap, F, hpk, hpa, hfa, hfb, hA, hB, hL, hlen, hcnt, hok, hnc => by
    have hla := (bookFault_zero ha).1
    have hlb := (bookFault_zero hb).1
    have hg : goodPre p = true := by
      unfold goodPre
      rw [hpa]
      exact decide_eq_true (by omega)
    have hc1 := cntN_pos A B k p
    obtain ⟨a1, a2⟩ := at_good ha hg
    obtain ⟨b1, b2⟩ := at_good hb hg
    have hta := treeAt_ok A p (by omega) hwa (by omega) (c := ca) hfa
    have htb := treeAt_ok B p (by omega) hwb (by omega) (c := cb) hfb
    rw [a1, a2] at hta
    rw [b1, b2] at htb
    refine CallIn.norm 3 (Nat.le_refl 3) (callin_vc (N := 47) (rv := []) tbok mixed Tryz.func80 rfl rfl rfl rfl rfl ?_)
    unfold lkRs
    (refine run ?_; repeat intro b)
    rw [wrap_i64 (by omega) (by omega)]
    refine s_load (.slice pa A.length ca) rfl rfl rfl rfl hA ?_
    (refine run ?_; repeat intro b)
    refine s_plain _ rfl rfl rfl bd81 rfl hta ?_
    (refine run ?_; repeat intro b)
    refine s_load (.slice pb B.length cb) rfl rfl rfl rfl hB ?_
    (refine run ?_; repeat intro b)
    refine s_plain _ rfl rfl rfl bd81 rfl htb ?_
    (refine run ?_; repeat intro b)
    refine s_if (decide (lvlN A p = lvlN B p)) ?_ (fun h => ?_) (fun h => ?_)
    · refine congrArg (fun b => some (EV.v (.bool b))) ?_
      rw [Bool.eq_iff_iff]; simp; omega
    · obtain ⟨e1, e2⟩ := seen_same (k := k) (of_decide_eq_true h)
      rw [e1, e2, List.append_nil]
      (refine run ?_; repeat intro b)
      refine ⟨0, lkRs bo bm blk cap L (m + 1), 3, .v (.tuple #[]), ?_, rfl, rfl, rfl, rfl, Hp.sub.refl _, blk, cap, hok, hnc, rfl⟩
      rw [lkRs_shift]
      rfl
    have hne := of_decide_eq_false h
    cases k with
    | zero =>
      obtain ⟨e1, e2⟩ := seen_leaf hne
      rw [e1] at hlen ⊢
      rw [e2]
      have hd := fun F => differ_ok A B p ha hb hwa hwb (pa := pa) (pb := pb) (ca := ca) (cb := cb) (F := F) 
      (refine run ?_; repeat intro b)
      refine s_if true ?_ (fun _ => ?_) (fun h => by cases h)
      · refine congrArg (fun b => some (EV.v (.bool b))) ?_
        rw [bl_S]; simp; omega
      (refine run ?_; repeat intro b)
      refine s_regiona [] (by kernel_rfl) ?_
      refine s_firsts [1, 2, 3] (f' := 4) (by kernel_rfl) rfl rfl rfl ?_
      refine s_load (.slice pa A.length ca) rfl rfl rfl rfl hA ?_
      refine s_load (.slice pb B.length cb) rfl rfl rfl rfl hB ?_
      (refine run ?_; repeat intro b)
      refine s_two 0 4 (by kernel_rfl) rfl rfl rfl ?_ ?_
      · (refine run ?_; repeat intro b)
        refine s_br (Hp.sub.refl _) trivial ?_
        refine s_one 4 (by kernel_rfl) rfl rfl ?_
        refine s_callF rfl rfl rfl bd79 rfl (hd F hfa hfb) ?_
        rintro _ F1 hF1 ⟨p1, c1, rfl, hf1⟩
        (refine run ?_; repeat intro b)
        refine s_br hF1 trivial ?_
        refine s_one 5 (by kernel_rfl) rfl rfl ?_
        refine s_appR rfl rfl rfl rfl rfl rfl rfl rfl (src_frz (by rw [List.length_map, Nat.mul_one]) hf1) (one_v _ (str_one' _)) hok hnc rfl (by rw [List.length_map, List.length_map]; exact Nat.le_of_eq (Nat.mul_one _)) (by show _ * 16 ≤ _; omega) (fun hm => ?_) (fun hm b3 c3 hc3 => ?_)
        · (refine run ?_; repeat intro b)
          refine s_br (Hp.sub.refl _) trivial ?_
          refine s_one 6 (by kernel_rfl) rfl rfl ?_
          (refine run ?_; repeat intro b)
          refine s_br (Hp.sub.refl _) trivial ?_
          have hz : differP A B p = [] := List.eq_nil_of_length_eq_zero hm
          rw [hz, List.append_nil]
          refine s_stopV (by kernel_rfl) (VS.id ?_)
          (refine run ?_; repeat intro b)
          refine ⟨0, lkRs bo bm blk cap L (m + 1), 3, .v (.tuple #[]), ?_, rfl, rfl, rfl, rfl, hF1, blk, cap, hok, hnc, rfl⟩
          rw [lkRs_shift]
          rfl
        · (refine run ?_; repeat intro b)
          refine s_br (Hp.sub.refl _) trivial ?_
          refine s_one 6 (by kernel_rfl) rfl rfl ?_
          (refine run ?_; repeat intro b)
          refine s_br (Hp.sub.refl _) trivial ?_
          have hcl : ((L.map S).map EV.v).take (L.length * 1) ++ ((differP A B p).map S).map EV.v = ((L ++ differP A B p).map S).map EV.v := by
            rw [List.take_of_length_le (by simp)]
            simp
          have hl2 : (L ++ differP A B p).length = L.length + (differP A B p).length := List.length_append
          refine s_stopV (by kernel_rfl) (VS.ren (nx' := 7) [(3, 6), (1, 5), (0, 4)] [] [(6, ⟨some b3, ((L ++ differP A B p).map S).map EV.v, 9, c3 * 1⟩), (5, ⟨some bm, [.v (i64 ((m + 1 : Nat) : Nat))], 3, 1⟩), (4, ⟨some bo, [.row 6 0 (L.length + (differP A B p).length) c3], 72, 1⟩)] ⟨rfl, ⟨_, rfl, rfl, rfl, rfl, .inl ⟨hcl.symm, fun e he => all_v _ e (hcl ▸ he)⟩⟩, rfl, ⟨_, rfl, rfl, rfl, rfl, .inr rfl⟩, rfl, ⟨_, rfl, rfl, rfl, rfl, .inr rfl⟩, trivial⟩ rfl rfl rfl rfl rfl rfl ?_)
          (refine run ?_; repeat intro b)
          refine ⟨4, lkRs bo bm (some b3) c3 (L ++ differP A B p) (m + 1), 3, .v (.tuple #[]), ?_, rfl, rfl, rfl, rfl, hF1, some b3, c3, (fun h => by cases h), hl2 ▸ hc3, rfl⟩
          rw [lkRs_shift, hl2]
      · refine s_callF rfl rfl rfl bd79 rfl (hd F hfa hfb) ?_
        rintro _ F1 hF1 ⟨p1, c1, rfl, hf1⟩
        (refine run ?_; repeat intro b)
        refine s_br hF1 trivial ?_
        refine s_one 0 (by kernel_rfl) rfl rfl ?_
        (refine run ?_; repeat intro b)
        refine s_br (Hp.sub.refl _) trivial ?_
        refine s_one 5 (by kernel_rfl) rfl rfl ?_
        refine s_appR rfl rfl rfl rfl rfl rfl rfl rfl (src_frz (by rw [List.length_map, Nat.mul_one]) hf1) (one_v _ (str_one' _)) hok hnc rfl (by rw [List.length_map, List.length_map]; exact Nat.le_of_eq (Nat.mul_one _)) (by show _ * 16 ≤ _; omega) (fun hm => ?_) (fun hm b3 c3 hc3 => ?_)
        · (refine run ?_; repeat intro b)
          refine s_br (Hp.sub.refl _) trivial ?_
          refine s_one 6 (by kernel_rfl) rfl rfl ?_
          (refine run ?_; repeat intro b)
          refine s_br (Hp.sub.refl _) trivial ?_
          have hz : differP A B p = [] := List.eq_nil_of_length_eq_zero hm
          rw [hz, List.append_nil]
          refine s_stopV (by kernel_rfl) (VS.id ?_)
          (refine run ?_; repeat intro b)
          refine ⟨0, lkRs bo bm blk cap L (m + 1), 3, .v (.tuple #[]), ?_, rfl, rfl, rfl, rfl, hF1, blk, cap, hok, hnc, rfl⟩
          rw [lkRs_shift]
          rfl
        · (refine run ?_; repeat intro b)
          refine s_br (Hp.sub.refl _) trivial ?_
          refine s_one 6 (by kernel_rfl) rfl rfl ?_
          (refine run ?_; repeat intro b)
          refine s_br (Hp.sub.refl _) trivial ?_
          have hcl : ((L.map S).map EV.v).take (L.length * 1) ++ ((differP A B p).map S).map EV.v = ((L ++ differP A B p).map S).map EV.v := by
            rw [List.take_of_length_le (by simp)]
            simp
          have hl2 : (L ++ differP A B p).length = L.length + (differP A B p).length := List.length_append
          refine s_stopV (by kernel_rfl) (VS.ren (nx' := 7) [(3, 6), (1, 5), (0, 4)] [] [(6, ⟨some b3, ((L ++ differP A B p).map S).map EV.v, 9, c3 * 1⟩), (5, ⟨some bm, [.v (i64 ((m + 1 : Nat) : Nat))], 3, 1⟩), (4, ⟨some bo, [.row 6 0 (L.length + (differP A B p).length) c3], 72, 1⟩)] ⟨rfl, ⟨_, rfl, rfl, rfl, rfl, .inl ⟨hcl.symm, fun e he => all_v _ e (hcl ▸ he)⟩⟩, rfl, ⟨_, rfl, rfl, rfl, rfl, .inr rfl⟩, rfl, ⟨_, rfl, rfl, rfl, rfl, .inr rfl⟩, trivial⟩ rfl rfl rfl rfl rfl rfl ?_)
          (refine run ?_; repeat intro b)
          refine ⟨4, lkRs bo bm (some b3) c3 (L ++ differP A B p) (m + 1), 3, .v (.tuple #[]), ?_, rfl, rfl, rfl, rfl, hF1, some b3, c3, (fun h => by cases h), hl2 ▸ hc3, rfl⟩
          rw [lkRs_shift, hl2]
    | succ k =>
      obtain ⟨e1, e2⟩ := seen_node (k := k) hne
      rw [e1, List.length_append] at hlen
      rw [e2] at hcnt
      have hl0 := cntN_pos A B k (p ++ [48])
      have i0 := looked_in A B ha hb hwa hwb (pa := pa) (pb := pb) (ca := ca) (cb := cb) (bo := bo) (bm := bm) (pA := pA) (pB := pB) (pL := pL) k (p ++ [48]) L (m + 1) blk cap F (by rw [List.length_append]; simp; omega) (by rw [List.all_append, hpa]; rfl) hfa hfb hA hB hL (by omega) (by omega) hok hnc
      rw [e1, e2]
      unfold LkC at i0
      (refine run ?_; repeat intro b)
      refine s_if false ?_ (fun h => by cases h) (fun _ => ?_)
      · refine congrArg (fun b => some (EV.v (.bool b))) ?_
        rw [bl_S]; simp; omega
      (refine run ?_; repeat intro b)
      refine s_load _ rfl rfl rfl rfl hL ?_
      (refine run ?_; repeat intro b)
      refine s_pureO rfl rfl rfl (by show p.length + 1 ≤ 9223372036854775807; omega) ?_
      have es0 : S (bl (mkB p) ++ bl ⟨#[48]⟩) = S (p ++ [48]) := rfl
      rw [es0]
      refine s_shift (VS.env (env' := [(25, .v (.func (.func 80) #[] #[.pointer (some ⟨bm, 0, none⟩), .pointer pA, .pointer pB, .pointer (some ⟨bo, 0, none⟩), .pointer pL])), (27, .v (S (p ++ [48]))), (0, .v (S p)), (5, .v (.pointer pL))]) ⟨⟨_, _, rfl, rfl, rfl⟩, ⟨_, _, rfl, rfl, rfl⟩, ⟨_, _, rfl, rfl, rfl⟩, ⟨_, _, rfl, rfl, rfl⟩, trivial⟩ ?_)
      refine s_in rfl rfl rfl bd80 rfl (CallIn.args i0 rfl) ?_
      rintro _ F1 _ _ _ _ ⟨_, _, _, rfl, rfl, rfl, rfl, rfl, hs1, blk1, cap1, ok1, nc1, rfl⟩
      have i1 := looked_in A B ha hb hwa hwb (pa := pa) (pb := pb) (ca := ca) (cb := cb) (bo := bo) (bm := bm) (pA := pA) (pB := pB) (pL := pL) k (p ++ [49]) (L ++ seenN A B k (p ++ [48])) (m + 1 + cntN A B k (p ++ [48])) blk1 cap1 F1 (by rw [List.length_append]; simp; omega) (by rw [List.all_append, hpa]; rfl) (frow_sub hs1 hfa) (frow_sub hs1 hfb) (pcell_sub hs1 hA) (pcell_sub hs1 hB) (pcell_sub hs1 hL) (by rw [List.length_append]; omega) (by omega) ok1 nc1
      unfold LkC at i1
      rw [lkRs_shift]
      (refine run ?_; repeat intro b)
      refine s_load _ rfl rfl rfl rfl (pcell_sub hs1 hL) ?_
      (refine run ?_; repeat intro b)
      refine s_pureO rfl rfl rfl (by show p.length + 1 ≤ 9223372036854775807; omega) ?_
      have es1 : S (bl (mkB p) ++ bl ⟨#[49]⟩) = S (p ++ [49]) := rfl
      rw [es1]
      refine s_in rfl rfl rfl bd80 rfl ((CallIn.args (args' := [.v (S (p ++ [49])), .v (.pointer (some ⟨bm, 0, none⟩)), .v (.pointer pA), .v (.pointer pB), .v (.pointer (some ⟨bo, 0, none⟩)), .v (.pointer pL)]) i1 rfl).named (m := 3) (rs0 := lkRs bo bm blk1 cap1 (L ++ seenN A B k (p ++ [48])) (m + 1 + cntN A B k (p ++ [48]))) [(5, 2), (4, 1), (3, 0)] ⟨rfl, ⟨_, rfl, rfl, rfl, rfl, .inl ⟨rfl, fun e he => all_v _ e he⟩⟩, rfl, ⟨_, rfl, rfl, rfl, rfl, .inr rfl⟩, rfl, ⟨_, rfl, rfl, rfl, rfl, .inr rfl⟩, trivial⟩ rfl rfl rfl rfl rfl rfl rfl named_new) ?_
      rintro _ F2 _ _ _ _ ⟨_, _, _, ⟨_, _, _, rfl, rfl, rfl, rfl, rfl, hs2, blk2, cap2, ok2, nc2, rfl⟩, rfl, rfl, rfl⟩
      (refine run ?_; repeat intro b)
      refine ⟨6, lkRs bo bm blk2 cap2 _ _, 3, .v (.tuple #[]), shiftR_add 3 3 _, rfl, rfl, rfl, rfl, hs1.trans hs2, blk2, cap2, ?_, ?_, ?_⟩
      · rw [← List.append_assoc]; exact ok2
      · rw [← List.append_assoc]; exact nc2
      · rw [← List.append_assoc]
        have e : m + (1 + (cntN A B k (p ++ [48]) + cntN A B k (p ++ [49]))) = m + 1 + cntN A B k (p ++ [48]) + cntN A B k (p ++ [49]) := by omega
        rw [e]
theorem clook_ok (A B : List Entry) (hla : A.length ≤ 4611686018427387904) (hlb : B.length ≤ 4611686018427387904) (hwa : ∀ x ∈ A, x.wf) (hwb : ∀ x ∈ B, x.wf) {pa pb : Option Addr} {ca cb : Nat} {F : Hp} (hfa : Frow F pa (A.flatMap Entry.row)) (hfb : Frow F pb (B.flatMap Entry.row)) :
    CallF Tryz.prog F 28 [.slice pa A.length ca, .slice pb B.length cb] (fun x F' => ∃ p' c', x = triple (.slice p' (chgO A B).length c') (i64 (chgN A B : Nat)) (i64 (chkE A B)) ∧ Frow F' p' ((chgO A B).map S)) := by
  refine CallOK.drop (call_vc (N := 22) (rv := [.tmp 4, .tmp 5, .tmp 6]) tbok mixed Tryz.func28 rfl rfl rfl rfl rfl ?_)
  (refine run ?_; repeat intro b)
  rename_i bA
  revert b; intro bB
  refine s_plain _ rfl rfl rfl bd78 rfl (cchk_ok A B hla hlb hwa hwb hfa hfb) ?_
  (refine run ?_; repeat intro b)
  refine s_if (decide (chkE A B ≠ 0)) ?_ (fun h0 => ?_) (fun h0 => ?_)
  · refine congrArg (fun b => some (EV.v (.bool b))) ?_
    rw [Bool.eq_iff_iff]; simp
  · have e : chgO A B = [] := by unfold chgO; rw [if_neg (of_decide_eq_true h0)]
    have e2 : chgN A B = 0 := by unfold chgN; rw [if_neg (of_decide_eq_true h0)]
    rw [e, e2]
    (refine run ?_; repeat intro b)
    exact s_retG (VS.id ⟨_, rfl, none, 0, rfl, frow_nil _ _⟩)
  have h0 : chkE A B = 0 := by have := of_decide_eq_false h0; omega
  obtain ⟨h1, h2⟩ := chk_zero h0
  have e : chgO A B = seenN A B 16 [] := by unfold chgO; rw [if_pos h0]
  have e2 : chgN A B = cntN A B 16 [] := by unfold chgN; rw [if_pos h0]
  have hl1 := (bookFault_zero h1).1
  have hl2 := (bookFault_zero h2).1
  have hsl := seenN_len A B 16 []
  have hcl := cntN_le A B 16 []
  have hcl2 : cntN A B 16 [] ≤ 200000 := by
    have : (2 : Nat) ^ (16 + 1) = 131072 := by decide
    omega
  rw [e, e2, h0]
  (refine run ?_; repeat intro b)
  rename_i bO bM
  revert b; intro bL
  refine s_shift (VS.trans (VS.freeze 0 [8, 9, 10, 18] rfl rfl rfl rfl fun F1 hs1 hf1 => VS.trans (VS.freeze 1 [8, 9, 10, 18] rfl rfl rfl rfl fun F2 hs2 hf2 => VS.trans (VS.freeze 4 [8, 9, 10, 18] rfl rfl rfl rfl fun F3 hs3 hf3 => ?_))))
  have i0 := looked_in A B h1 h2 hwa hwb (pa := pa) (pb := pb) (ca := ca) (cb := cb) (bo := bO) (bm := bM) (pA := some ⟨bA, 0, none⟩) (pB := some ⟨bB, 0, none⟩) (pL := some ⟨bL, 0, none⟩) 16 [] [] 0 none 0 F3 rfl rfl (frow_sub (hs1.trans (hs2.trans hs3)) hfa) (frow_sub (hs1.trans (hs2.trans hs3)) hfb) (pcell_sub (hs2.trans hs3) (pcell_1 hf1)) (pcell_sub hs3 (pcell_1 hf2)) (pcell_1 hf3) (by simp only [List.length_nil]; omega) (by omega) (fun _ => ⟨rfl, rfl⟩) (Nat.le_refl _)
  unfold LkC at i0
  rw [List.nil_append, Nat.zero_add] at i0
  refine VS.id (VS.id (VS.addnil 9 (VS.recell 2 [.row 5 0 0 0] rfl ⟨⟨(by decide : 5 < 6), rfl⟩, trivial⟩ rfl (VS.env (env' := [(8, .v (.pointer (some ⟨bO, 0, none⟩))), (9, .v (.pointer (some ⟨bM, 0, none⟩))), (18, .v (.func (.func 80) #[] #[.pointer (some ⟨bM, 0, none⟩), .pointer (some ⟨bA, 0, none⟩), .pointer (some ⟨bB, 0, none⟩), .pointer (some ⟨bO, 0, none⟩), .pointer (some ⟨bL, 0, none⟩)]))]) ⟨⟨_, _, rfl, rfl, rfl⟩, ⟨_, _, rfl, rfl, rfl⟩, ⟨_, _, rfl, rfl, rfl⟩, trivial⟩ (VS.id ?_)))))
  refine s_in (first := #[]) (captured := #[.pointer (some ⟨bM, 0, none⟩), .pointer (some ⟨bA, 0, none⟩), .pointer (some ⟨bB, 0, none⟩), .pointer (some ⟨bO, 0, none⟩), .pointer (some ⟨bL, 0, none⟩)]) (es := [.v (S [])]) rfl rfl rfl bd80 rfl ((CallIn.args (args' := [.v (S []), .v (.pointer (some ⟨bM, 0, none⟩)), .v (.pointer (some ⟨bA, 0, none⟩)), .v (.pointer (some ⟨bB, 0, none⟩)), .v (.pointer (some ⟨bO, 0, none⟩)), .v (.pointer (some ⟨bL, 0, none⟩))]) i0 rfl).named (m := 3) (rs2 := [(5, ⟨none, [], 9, 0⟩), (3, ⟨some bM, [.v (i64 0)], 3, 1⟩), (2, ⟨some bO, [.row 5 0 0 0], 72, 1⟩)]) (args2 := [.v (S []), .v (.pointer (some ⟨bM, 0, none⟩)), .v (.pointer (some ⟨bA, 0, none⟩)), .v (.pointer (some ⟨bB, 0, none⟩)), .v (.pointer (some ⟨bO, 0, none⟩)), .v (.pointer (some ⟨bL, 0, none⟩))]) (rs0 := lkRs bO bM none 0 [] 0) [(5, 2), (3, 1), (2, 0)] ⟨rfl, ⟨_, rfl, rfl, rfl, rfl, .inl ⟨rfl, fun e he => by cases he⟩⟩, rfl, ⟨_, rfl, rfl, rfl, rfl, .inr rfl⟩, rfl, ⟨_, rfl, rfl, rfl, rfl, .inr rfl⟩, trivial⟩ rfl rfl rfl rfl rfl rfl rfl named_new) ?_
  rintro _ F4 _ _ _ _ ⟨_, _, _, ⟨_, _, _, rfl, rfl, rfl, rfl, rfl, hs4, blk, cap, ok, nc, rfl⟩, rfl, rfl, rfl⟩
  rw [shiftR_add, lkRs_shift]
  (refine run ?_; repeat intro b)
  refine s_vs (VS.env (env' := [(8, .loc 6 0), (9, .loc 7 0)]) ⟨⟨_, _, rfl, rfl, rfl⟩, ⟨_, _, rfl, rfl, rfl⟩, trivial⟩ ?_)
  refine s_regiond (by kernel_rfl) ?_
  (refine run ?_; repeat intro b)
  exact s_retG (VS.dropR [7, 6] rfl (VS.shut (fun pp => [(4, .v (.slice pp (seenN A B 16 []).length cap)), (5, .v (i64 (cntN A B 16 [] : Nat))), (6, .v (i64 0))]) 8 [4, 5, 6] rfl (allV_map_v _) (fun _ => rfl) rfl (fun _ => rfl) rfl fun F5 p5 hs5 hf5 => ⟨_, rfl, p5, cap, rfl, hf5⟩))
end Go.Proofs.YthkkgphjjmhglaaGreatDoor
