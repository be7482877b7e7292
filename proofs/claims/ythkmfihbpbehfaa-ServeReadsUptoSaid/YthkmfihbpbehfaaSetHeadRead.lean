/-
Package serve: said, Said; tallyrollref.ReplySaid.
-/
import Derived.Test.YthkmfihbpbehfaaSetWireLaw
import Derived.Test.YthkmfihbpbehfaaSetFwJ
import Derived.Test.YthkmfihbpbehfaaHead
/-!
Package serve: said, Said; tallyrollref.ReplySaid.
-/
namespace Go.Proofs.Ythkmfihbpbehfaa
set_option linter.unusedVariables false
set_option linter.unusedSimpArgs false
open Go.TR
def sidesS (l : List Nat) : List UInt8 := l.flatMap num
def entsL (l : List Entry) : List (List UInt8) := l.flatMap fun x => [x.name, x.value]
theorem sidesS_take {l : List Nat} {k : Nat} (h : k < l.length) : sidesS (l.take (k + 1)) = sidesS (l.take k) ++ num l[k] := by
  unfold sidesS
  rw [List.take_succ_eq_append_getElem h, List.flatMap_append]
  simp
theorem sidesS_len (l : List Nat) : (sidesS l).length = l.length * 8 := by
  unfold sidesS
  induction l with
  | nil => rfl
  | cons a l ih => rw [List.flatMap_cons, List.length_append, ih, num_length, List.length_cons]; omega
theorem sidesS_zero (l : List Nat) : sidesS (l.take 0) = [] := rfl
theorem entsL_nil (l : List Entry) : [] = entsL (l.take 0) := rfl
theorem entsL_take {l : List Entry} {k : Nat} (h : k < l.length) : entsL (l.take (k + 1)) = entsL (l.take k) ++ [l[k].name, l[k].value] := by
  unfold entsL
  rw [List.take_succ_eq_append_getElem h, List.flatMap_append]
  simp
theorem entsL_len (l : List Entry) : (entsL l).length = l.length * 2 := by
  unfold entsL
  induction l with
  | nil => rfl
  | cons a l ih => rw [List.flatMap_cons, List.length_append, ih, List.length_cons]; simp; omega
def fourL (h : Head) (p : Prf) : List (List UInt8) := [h.said, p.name, sidesS p.sides, putO (entsL p.ents)]
/-- What is said of a reply that is right. -/
def ssE (h : Head) (p : Prf) : Int := if putE (entsL p.ents) ≠ 0 then putE (entsL p.ents) else putE (fourL h p)
def ssO (h : Head) (p : Prf) : List UInt8 := if putE (entsL p.ents) ≠ 0 then [] else putO (fourL h p)
theorem right_of {h : Head} {p : Prf} (e : replyF h p = 0) : h.fault = 0 ∧ p.sides.length = 16 ∧ p.ents.length ≤ 24 := by
  obtain ⟨h1, h2⟩ := replyF_zero e
  obtain ⟨h3, _⟩ := held_zero h2
  obtain ⟨_, h4, _, h5, _⟩ := prfFault_zero h3
  exact ⟨h1, h5, (bookFault_zero h4).1⟩
theorem two_cells (l : List (List UInt8)) (x y : List UInt8) (k : Nat) (h : l.length = k) : ((l.map S).map EV.v).take (k * 1) ++ [EV.v (S x), EV.v (S y)] = ((l ++ [x, y]).map S).map EV.v := by
  rw [List.take_of_length_le (by simp; omega)]
  simp
attribute [local irreducible] vc vcOps seqK blockK loopK retK retG retI loopV Plain CallOK CallIn bodied VS vcAny dropG backK brK loopPK IntKind.wrap
attribute [local irreducible] replyF num sidesS entsL putO putE partsOut partsOk Head.said
set_option maxRecDepth 100000
set_option maxHeartbeats 4000000
theorem servesaid_ok (h : Head) (p : Prf) (a : Lay) (hh : h.wf) (hw : p.wf) (h0 : replyF h p = 0) {F : Hp} (hf : p.at F a) : Plain Try.prog F 124 [repV h p a] (pair (S (ssO h p)) (i64 (ssE h p))) := by
  obtain ⟨f1, f2⟩ := hf
  obtain ⟨r1, r2, r3⟩ := right_of h0
  have hs := headsaid_ok h hh F
  have hse : h.saidO = h.said := by unfold Head.saidO; rw [if_pos r1]
  rw [hse] at hs
  refine plain_vc (N := 67) (rv := [.tmp 2, .tmp 3]) tbok mixed Try.func124 rfl rfl rfl rfl rfl ?_
  (refine run ?_; repeat intro b)
  generalize b = b0
  refine s_plain _ rfl rfl rfl bd88 rfl hs ?_
  (refine run ?_; repeat intro b)
  refine s_loopP (fun k : Nat => k ≤ p.sides.length) (fun k => ⟨[(1, .loc 0 0), (4, .v (S h.said)), (6, .v (S (sidesS (p.sides.take k)))), (22, .v (.slice a.s p.sides.length a.cs)), (23, .v (i64 (p.sides.length : Nat))), (24, .v (i64 (k : Nat)))], F, [(0, ⟨some b0, [.v (i64 h.epoch), .v (u64 (h.root : Nat)), .v (u64 (h.prev : Nat)), .v (i64 h.at_), .v (S p.name), .v (.slice a.e p.ents.length a.ce), .v (.slice a.s p.sides.length a.cs)], 34, 7⟩)], 1⟩) (fun k => p.sides.length - k) 0 (Nat.zero_le _) (VS.keepN [1, 4, 6, 22, 23, 24] rfl (by rw [sidesS_zero]; rfl)) ?_
  intro k hk
  by_cases hlt : k < p.sides.length
  · have g := frow_get f2 (j := k) (by rw [List.length_map]; exact hlt)
    rw [List.getElem_map] at g
    have ht := sidesS_take hlt
    have hl := sidesS_len (p.sides.take k)
    rw [List.length_take] at hl
    generalize p.sides[k] = m at g ht
    (refine run ?_; repeat intro b)
    refine s_if true (by rw [← decide_eq_true (p := ((k : Nat) : Int) < ((p.sides.length : Nat) : Int)) (by omega)]; rfl) (fun _ => ?_) (fun h => by cases h)
    (refine run ?_; repeat intro b)
    refine s_pureO rfl rfl rfl ⟨by omega, by omega, frow_some f2 (j := k) (by rw [List.length_map]; exact hlt)⟩ ?_
    refine s_load (mu m) rfl rfl rfl rfl (by rw [Int.toNat_natCast, Nat.mul_one]; exact g) ?_
    (refine run ?_; repeat intro b)
    refine s_plain _ rfl rfl rfl bd135 rfl (wirenum_ok m F) ?_
    (refine run ?_; repeat intro b)
    refine s_pureO rfl rfl rfl (by rw [bl_S, bl_S, hl, num_length]; unfold maxInt; omega) ?_
    (refine run ?_; repeat intro b)
    rw [wrap_succ (by omega), bl_S, bl_S, ← ht]
    exact s_loopPn (k + 1) hlt (by omega) (VS.keepN [1, 4, 6, 22, 23, 24] rfl rfl)
  · have hge : k = p.sides.length := by omega
    subst hge
    rw [List.take_length]
    (refine run ?_; repeat intro b)
    refine s_if false (by rw [← decide_eq_false (p := ((p.sides.length : Nat) : Int) < ((p.sides.length : Nat) : Int)) (by omega)]; rfl) (fun h => by cases h) (fun _ => ?_)
    (refine run ?_; repeat intro b)
    refine s_loopP (fun q : Nat × List (List UInt8) × Option Nat × Nat => q.1 ≤ p.ents.length ∧ q.2.1 = entsL (p.ents.take q.1) ∧ (q.2.2.1 = none → 2 * q.1 = 0 ∧ q.2.2.2 = 0) ∧ 2 * q.1 ≤ q.2.2.2) (fun q => ⟨[(9, .row 1 0 (2 * q.1) q.2.2.2), (1, .loc 0 0), (4, .v (S h.said)), (6, .v (S (sidesS p.sides))), (35, .v (.slice a.e p.ents.length a.ce)), (36, .v (i64 (p.ents.length : Nat))), (37, .v (i64 (q.1 : Nat)))], F, [(1, ⟨q.2.2.1, (q.2.1.map S).map .v, 9, q.2.2.2 * 1⟩), (0, ⟨some b0, [.v (i64 h.epoch), .v (u64 (h.root : Nat)), .v (u64 (h.prev : Nat)), .v (i64 h.at_), .v (S p.name), .v (.slice a.e p.ents.length a.ce), .v (.slice a.s p.sides.length a.cs)], 34, 7⟩)], 2⟩) (fun q => p.ents.length - q.1) (0, [], none, 0) ⟨Nat.zero_le _, entsL_nil _, fun _ => ⟨rfl, rfl⟩, Nat.le_refl _⟩ (VS.nilrow 9 9 [1, 4, 6, 35, 36, 37] rfl rfl (VS.id rfl)) ?_
    rintro ⟨k, L, blk, cap⟩ ⟨h1, h2, h3, h4⟩
    dsimp only at h1 h2 h3 h4 ⊢
    have hL : L.length = 2 * k := by
      rw [h2, entsL_len, List.length_take]
      omega
    by_cases hlt : k < p.ents.length
    · obtain ⟨o1, o2⟩ := frow_agg entry_row (by decide) f1 k hlt
      have ht := entsL_take hlt
      rw [← h2] at ht
      generalize p.ents[k] = x at o2 ht
      (refine run ?_; repeat intro b)
      refine s_if true (by rw [← decide_eq_true (p := ((k : Nat) : Int) < ((p.ents.length : Nat) : Int)) (by omega)]; rfl) (fun _ => ?_) (fun h => by cases h)
      (refine run ?_; repeat intro b)
      refine s_pureO rfl rfl rfl ⟨by omega, by omega, frow_some f1 (j := k * 2) (by rw [flat_len entry_row]; omega)⟩ ?_
      refine s_loadA x.row rfl rfl rfl rfl rfl (by rw [Int.toNat_natCast]; exact o1) (by rw [Int.toNat_natCast]; exact o2) ?_
      (refine run ?_; repeat intro b)
      refine s_appR rfl rfl rfl rfl rfl rfl rfl rfl (src_row rfl rfl) (one_v _ (l := [S x.name, S x.value]) (by simp [one])) h3 h4 rfl (by rw [List.length_map, List.length_map, hL]; exact Nat.le_of_eq (Nat.mul_one _)) (by show _ * 16 ≤ _; omega) (fun h => by cases h) (fun _ b2 c2 hc2 => ?_)
      (refine run ?_; repeat intro b)
      have hcells := two_cells L x.name x.value (2 * k) hL
      rw [wrap_succ (by omega)]
      exact s_loopPq (k + 1, L ++ [x.name, x.value], some b2, c2) 1 [(4, 1), (0, 0)] [9, 1, 4, 6, 35, 36, 37] [(1, ⟨some b2, ((L ++ [x.name, x.value]).map S).map .v, 9, c2 * 1⟩), (0, ⟨some b0, [.v (i64 h.epoch), .v (u64 (h.root : Nat)), .v (u64 (h.prev : Nat)), .v (i64 h.at_), .v (S p.name), .v (.slice a.e p.ents.length a.ce), .v (.slice a.s p.sides.length a.cs)], 34, 7⟩)]
        ⟨hlt, ht.symm, (fun h => by cases h), hc2⟩ (by simp only; omega) (Nat.min_le_left _ _)
        ⟨rfl, ⟨_, rfl, rfl, rfl, rfl, .inl ⟨hcells.symm, fun e he => all_v _ e (hcells ▸ he)⟩⟩, rfl, ⟨_, rfl, rfl, rfl, rfl, .inr rfl⟩, trivial⟩ rfl rfl rfl rfl rfl rfl rfl
    · have hge : k = p.ents.length := by omega
      subst hge
      rw [List.take_length] at h2
      subst h2
      (refine run ?_; repeat intro b)
      refine s_if false (by rw [← decide_eq_false (p := ((p.ents.length : Nat) : Int) < ((p.ents.length : Nat) : Int)) (by omega)]; rfl) (fun h => by cases h) (fun _ => ?_)
      (refine run ?_; repeat intro b)
      refine s_shift (VS.shut (fun pp => [(50, .v (.slice pp (2 * p.ents.length) cap)), (1, .loc 0 0), (4, .v (S h.said)), (6, .v (S (sidesS p.sides)))]) 1 [50, 1, 4, 6] rfl (allV_map_v _) (fun _ => rfl) rfl (fun _ => rfl) rfl fun F1 p1 hs1 hf1 => ?_)
      rw [← hL]
      refine s_plain _ rfl rfl rfl bd155 rfl (put_ok (entsL p.ents) hf1) ?_
      have hpe : putE (entsL p.ents) = 0 ∨ putE (entsL p.ents) = 2 := by
        cases hq : partsOk (entsL p.ents) with
        | true => exact .inl (put_good hq).2
        | false => exact .inr (put_bad hq).2
      rcases hpe with hpe | hpe
      · have e1 : ssO h p = putO (fourL h p) := by unfold ssO; rw [if_neg (by simpa using hpe)]
        have e2 : ssE h p = putE (fourL h p) := by unfold ssE; rw [if_neg (by simpa using hpe)]
        rw [e1, e2, hpe]
        (refine run ?_; repeat intro b)
        refine s_shift (VS.freeze 2 [63] rfl rfl rfl rfl fun F2 hs2 hf2 => VS.id ?_)
        refine s_plain _ rfl rfl rfl bd155 rfl (put_ok (fourL h p) hf2) ?_
        (refine run ?_; repeat intro b)
        rfl
      · have e1 : ssO h p = [] := by unfold ssO; rw [if_pos (by rw [hpe]; decide)]
        have e2 : ssE h p = 2 := by unfold ssE; rw [if_pos (by rw [hpe]; decide), hpe]
        rw [e1, e2, hpe]
        (refine run ?_; repeat intro b)
        rfl
/-- What Said answers. -/
def ssaidE (h : Head) (p : Prf) : Int := if replyF h p ≠ 0 then replyF h p else ssE h p
def ssaidO (h : Head) (p : Prf) : List UInt8 := if replyF h p ≠ 0 then [] else ssO h p
theorem serveSaid_ok (h : Head) (p : Prf) (a : Lay) (hh : h.wf) (hw : p.wf) {F : Hp} (hf : p.at F a) : Plain Try.prog F 69 [repV h p a] (pair (S (ssaidO h p)) (i64 (ssaidE h p))) := by
  refine plain_vc (N := 20) (rv := [.tmp 2, .tmp 3]) tbok mixed Try.func69 rfl rfl rfl rfl rfl ?_
  (refine run ?_; repeat intro b)
  refine s_plain _ rfl rfl rfl bd123 rfl (servetell_ok h p a hw hf) ?_
  (refine run ?_; repeat intro b)
  refine s_if (decide (replyF h p ≠ 0)) ?_ (fun h0 => ?_) (fun h0 => ?_)
  · refine congrArg (fun b => some (EV.v (.bool b))) ?_
    rw [Bool.eq_iff_iff]; simp
  · have h0 := of_decide_eq_true h0
    have e1 : ssaidE h p = replyF h p := by unfold ssaidE; rw [if_pos h0]
    have e2 : ssaidO h p = [] := by unfold ssaidO; rw [if_pos h0]
    rw [e1, e2]
    (refine run ?_; repeat intro b)
    rfl
  · have h0 : replyF h p = 0 := by have := of_decide_eq_false h0; omega
    have e1 : ssaidE h p = ssE h p := by unfold ssaidE; rw [if_neg (by simpa using h0)]
    have e2 : ssaidO h p = ssO h p := by unfold ssaidO; rw [if_neg (by simpa using h0)]
    rw [e1, e2]
    (refine run ?_; repeat intro b)
    refine s_plain _ rfl rfl rfl bd124 rfl (servesaid_ok h p a hh hw h0 hf) ?_
    (refine run ?_; repeat intro b)
    rfl
end Go.Proofs.Ythkmfihbpbehfaa
/-!
A head read out of bytes.
-/
namespace Go.Proofs.Ythkmfihbpbehfaa
set_option linter.unusedVariables false
set_option linter.unusedSimpArgs false
open Go.TR
def numsE (s : List UInt8) : List EV := [.v (u64 (numAt s 0 : Nat)), .v (u64 (numAt s 1 : Nat)), .v (u64 (numAt s 2 : Nat)), .v (u64 (numAt s 3 : Nat))]
def zer4 : List EV := [.v (u64 0), .v (u64 0), .v (u64 0), .v (u64 0)]
theorem numsE_get (s : List UInt8) (k : Nat) (h : k < (numsE s).length) : (numsE s)[k] = .v (u64 (numAt s k : Nat)) := by
  have h4 : k < 4 := h
  match k, h4 with
  | 0, _ | 1, _ | 2, _ | 3, _ => rfl
def hdr (s : List UInt8) : Bool := decide (s.length = 33) && (s.head? == some 3)
theorem hdr_true {s : List UInt8} (h : hdr s = true) : s.length = 33 ∧ s.head? = some 3 := by
  unfold hdr at h
  simpa using h
theorem cond_hdr (s : List UInt8) : bpick (!(((bl (mkB s)).length : Nat) : Int) == 33) true (!((((bl (mkB s)).getD (0 : Int).toNat 0).toNat : Nat) : Int) == 3) = !hdr s := by
  rw [bl_S]
  unfold hdr
  cases s with
  | nil => rfl
  | cons c t =>
    rw [bpick_or]
    have e : ((((c :: t).getD (0 : Int).toNat 0).toNat : Nat) : Int) = ((c.toNat : Nat) : Int) := rfl
    rw [e]
    have e2 : (((c.toNat : Nat) : Int) == 3) = (c == 3) := by
      rw [Bool.eq_iff_iff]
      simp only [beq_iff_eq]
      constructor
      · intro h
        apply UInt8.toNat_inj.1
        show c.toNat = 3
        omega
      · rintro rfl
        rfl
    have e3 : ((((c :: t).length : Nat) : Int) == 33) = decide ((c :: t).length = 33) := by
      rw [Bool.eq_iff_iff]
      simp only [beq_iff_eq, decide_eq_true_eq]
      omega
    rw [e2, e3]
    simp only [List.head?_cons]
    have e4 : ((some c : Option UInt8) == some 3) = (c == 3) := rfl
    rw [e4]
    cases decide ((c :: t).length = 33) <;> cases (c == 3) <;> rfl
/-- What is read: a head, or none with an error. -/
def readE (s : List UInt8) : Int := if hdr s = true then (if (headOf s).fault = 0 then 0 else 3) else 3
def readH (s : List UInt8) : Head := if readE s = 0 then headOf s else Head.none
attribute [local irreducible] vc vcOps seqK blockK loopK retK retG retI loopV Plain CallOK CallIn bodied VS vcAny dropG backK brK loopPK IntKind.wrap
set_option maxRecDepth 100000
set_option maxHeartbeats 2000000 in
theorem headread_ok (s : List UInt8) (F : Hp) : Plain Try.prog F 157 [S s] (pair (readH s).v (i64 (readE s))) := by
  refine plain_vc (N := 50) (rv := [.cell 2 28, .tmp 3]) tbok mixed Try.func157 rfl rfl rfl rfl rfl ?_
  (refine run ?_; repeat intro b)
  refine s_gpureO rfl rfl rfl rfl rfl (fun hg => ⟨by decide, by have := hg.1; rw [bl_S] at this ⊢; simp at this; omega⟩) ?_
  (refine run ?_; repeat intro b)
  refine s_if (!hdr s) ?_ (fun h => ?_) (fun h => ?_)
  · rw [← cond_hdr]
    rfl
  · have h2 : hdr s = false := by simpa using h
    have h3 : readE s = 3 := by unfold readE; rw [h2]; rfl
    have h4 : readH s = Head.none := by unfold readH; rw [h3]; rfl
    (refine run ?_; repeat intro b)
    rw [h3, h4]
    rfl
  · have h2 : hdr s = true := by simpa using h
    obtain ⟨hl, h0⟩ := hdr_true h2
    (refine run ?_; repeat intro b)
    rename_i b1
    refine s_loopP (fun k : Nat => k ≤ 4) (fun k => ⟨[(0, .v (S s)), (2, .loc 0 0), (4, .loc 1 0), (16, .v (i64 (k : Nat)))], F, [(1, ⟨some b, (numsE s).take k ++ zer4.drop k, 235, 4⟩), (0, ⟨some b1, [.v (i64 0), .v (u64 0), .v (u64 0), .v (i64 0)], 28, 4⟩)], 2⟩) (fun k => 4 - k) 0 (Nat.zero_le _) (VS.keepN [0, 2, 4, 16] rfl rfl) ?_
    intro k hk
    (refine run ?_; repeat intro b)
    refine s_if _ rfl (fun h5 => ?_) (fun h5 => ?_)
    · have hlt : k < 4 := by simp at h5; omega
      (refine run ?_; repeat intro b)
      have e1 : IntKind.i64.wrap (1 + IntKind.i64.wrap (8 * (k : Int))) = ((1 + 8 * k : Nat) : Int) := by
        rw [wrap_i64 (n := 8 * (k : Int)) (by omega) (by omega), wrap_i64 (by omega) (by omega)]; omega
      have e2 : IntKind.i64.wrap (9 + IntKind.i64.wrap (8 * (k : Int))) = ((9 + 8 * k : Nat) : Int) := by
        rw [wrap_i64 (n := 8 * (k : Int)) (by omega) (by omega), wrap_i64 (by omega) (by omega)]; omega
      rw [e1, e2]
      refine s_pureO rfl rfl rfl ⟨by omega, by omega, by rw [bl_S, hl]; omega⟩ ?_
      rw [bl_S, Int.toNat_natCast, Int.toNat_natCast]
      have lp := piece_length s k hl hlt
      have hr : readN ((s.take (9 + 8 * k)).drop (1 + 8 * k)) = numAt s k := by unfold readN; rw [if_pos lp]; rfl
      have hp := readnum_ok ((s.take (9 + 8 * k)).drop (1 + 8 * k)) F
      rw [hr] at hp
      refine s_plain _ rfl rfl rfl bd158 rfl hp ?_
      (refine run ?_; repeat intro b)
      refine s_pureO rfl rfl rfl ⟨by omega, by omega⟩ ?_
      have hl1 : (numsE s).length = zer4.length := rfl
      have hk1 : k < (numsE s).length := hlt
      have hidx : (0 + ((k : Int).toNat) * 1) = k := by omega
      have hlen : ((numsE s).take k ++ zer4.drop k).length = 4 := by
        rw [List.length_append, List.length_take, List.length_drop]
        have e3 : (numsE s).length = 4 := rfl
        have e4 : zer4.length = 4 := rfl
        omega
      refine s_storeX ((numsE s).take (k + 1) ++ zer4.drop (k + 1)) rfl rfl rfl rfl rfl rfl ?_ ?_ rfl ?_
      · show 0 + ((k : Int).toNat) * 1 + 1 ≤ ((numsE s).take k ++ zer4.drop k).length
        rw [hlen]; omega
      · show ((numsE s).take k ++ zer4.drop k).take (0 + ((k : Int).toNat) * 1) ++ [_] ++ ((numsE s).take k ++ zer4.drop k).drop (0 + ((k : Int).toNat) * 1 + 1) = _
        rw [hidx, ← fill_step (numsE s) zer4 hl1 k hk1, numsE_get s k hk1]
      (refine run ?_; repeat intro b)
      rw [wrap_succ (by omega)]
      exact s_loopPn (k + 1) hlt (by omega) (VS.keepN [0, 2, 4, 16] rfl rfl)
    · have hge : k = 4 := by simp at h5; omega
      subst hge
      have hc : (numsE s).take 4 ++ zer4.drop 4 = [.v (u64 (numAt s 0 : Nat)), .v (u64 (numAt s 1 : Nat)), .v (u64 (numAt s 2 : Nat)), .v (u64 (numAt s 3 : Nat))] := rfl
      rw [hc]
      (refine run ?_; repeat intro b)
      refine s_plain (i64 (headOf s).fault) rfl rfl rfl bd91 rfl (headcheck_ok (headOf s) F) ?_
      (refine run ?_; repeat intro b)
      refine s_if _ rfl (fun h6 => ?_) (fun h6 => ?_)
      · have h7 : ¬ (headOf s).fault = 0 := by simpa using h6
        have h3 : readE s = 3 := by unfold readE; rw [h2, if_pos rfl, if_neg h7]
        have h4 : readH s = Head.none := by unfold readH; rw [h3]; rfl
        (refine run ?_; repeat intro b)
        rw [h3, h4]
        rfl
      · have h7 : (headOf s).fault = 0 := by simpa using h6
        have h3 : readE s = 0 := by unfold readE; rw [h2, if_pos rfl, if_pos h7]
        have h4 : readH s = headOf s := by unfold readH; rw [h3]; rfl
        (refine run ?_; repeat intro b)
        rw [h3, h4]
        rfl
end Go.Proofs.Ythkmfihbpbehfaa
