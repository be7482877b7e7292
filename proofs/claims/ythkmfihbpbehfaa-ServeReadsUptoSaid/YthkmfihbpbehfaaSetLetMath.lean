/-
Package serve: what Read reads is what the reference reads.
-/
import Derived.Test.YthkmfihbpbehfaaReplyRead
import Derived.Test.YthkmfihbpbehfaaSetHeadRead
import Derived.Test.YthkmfihbpbehfaaClash
import Derived.Test.YthkmfihbpbehfaaSetReplySaid
import Derived.Test.YthkmfihbpbehfaaSetBook
import Derived.Test.YthkmfihbpbehfaaSetFwD
import Derived.Test.YthkmfihbpbehfaaSetIdx
/-!
Package serve: what Read reads is what the reference reads.
-/
namespace Go.Proofs.Ythkmfihbpbehfaa
set_option linter.unusedVariables false
set_option linter.unusedSimpArgs false
open Go.TR
theorem partsF_pre : ∀ (l : List (List UInt8)) (o r : List UInt8), partsF l o = some r → ∃ t, r = o ++ t
  | [], o, r, e => ⟨[], by simp only [partsF, Option.some.injEq] at e; simp [e]⟩
  | p :: l, o, r, e => by
    simp only [partsF] at e
    split at e
    · cases e
    · obtain ⟨t, rfl⟩ := partsF_pre l _ r e
      exact ⟨part p ++ t, by rw [List.append_assoc]⟩
theorem firstO_part (p t : List UInt8) (h : p.length < 65536) : firstO (part p ++ t) = some (p, t) := by
  have e1 : (UInt8.ofNat (p.length / 256)).toNat = p.length / 256 := by
    rw [UInt8.toNat_ofNat']
    omega
  have e2 : (UInt8.ofNat (p.length % 256)).toNat = p.length % 256 := by
    rw [UInt8.toNat_ofNat']
    omega
  have e3 : 256 * (UInt8.ofNat (p.length / 256)).toNat + (UInt8.ofNat (p.length % 256)).toNat = p.length := by
    rw [e1, e2]; omega
  unfold part
  simp only [List.cons_append, firstO, e3]
  rw [if_neg (by rw [List.length_append]; omega)]
  simp
theorem getE_zero {s : List UInt8} : getE s = 0 ↔ s.length ≤ 600 ∧ readOk s = true := by
  unfold getE readOk
  by_cases h : 600 < s.length
  · rw [if_pos h]
    constructor
    · intro e; cases e
    · intro e; omega
  · rw [if_neg h]
    cases partsR s with
    | none =>
      constructor
      · intro e; cases e
      · rintro ⟨_, e⟩; cases e
    | some l =>
      simp only
      by_cases h6 : l.length ≤ 60
      · rw [if_pos h6]
        exact ⟨fun _ => ⟨by omega, decide_eq_true h6⟩, fun _ => rfl⟩
      · rw [if_neg h6]
        constructor
        · intro e; cases e
        · rintro ⟨_, e⟩; exact absurd (of_decide_eq_true e) h6
theorem getL_read {s : List UInt8} (h : getE s = 0) : getL s = readL s := by
  obtain ⟨h1, h2⟩ := getE_zero.1 h
  unfold readOk at h2
  unfold getL readL
  rw [if_neg (by omega)]
  cases hp : partsR s with
  | none => simp [hp] at h2
  | some l =>
    rw [hp] at h2
    simp only
    rw [if_pos (of_decide_eq_true h2)]
theorem rsO_first {h : Head} {p : Prf} {s : List UInt8} (hb : rsB h p = true) (hs : rsO h p = s) (hok : readOk s = true) : (readL s).getD 0 [] = h.said := by
  unfold rsB at hb
  simp only [Bool.and_eq_true] at hb
  unfold rsO at hs
  rw [if_pos hb.1] at hs
  have h4 := hb.2
  unfold partsOk at h4
  unfold partsOut at hs
  cases hf : partsF (fourR h p) [] with
  | none => rw [hf] at h4; cases h4
  | some o =>
    rw [hf] at hs
    simp only at hs
    subst hs
    have hf2 : (if 600 < ([] : List UInt8).length + 2 + h.said.length then none else partsF [p.name, sidesS p.sides, partsOut (entsL p.ents)] ([] ++ part h.said)) = some o := hf
    rw [if_neg (by rw [said_length]; decide)] at hf2
    obtain ⟨t, rfl⟩ := partsF_pre _ _ _ hf2
    have h1 : firstO (([] ++ part h.said) ++ t) = some (h.said, t) := by
      rw [List.nil_append]
      exact firstO_part _ _ (by rw [said_length]; decide)
    have h2 := partsR_some h1
    unfold readL
    rw [h2]
    unfold readOk at hok
    rw [h2] at hok
    cases hr : partsR t with
    | none => rw [hr] at hok; cases hok
    | some L => rfl
theorem four_of {L : List (List UInt8)} (h : L.length = 4) : L = [L.getD 0 [], L.getD 1 [], L.getD 2 [], L.getD 3 []] := by
  match L, h with
  | [a, b, c, d], _ => rfl
theorem fault_bounds {h : Head} (h0 : h.fault = 0) : 0 ≤ h.epoch ∧ h.epoch ≤ 1000000 ∧ 0 ≤ h.at_ ∧ h.at_ ≤ 1000000000 := by
  unfold Head.fault at h0
  split at h0
  · cases h0
  · rename_i hb
    unfold Head.bad1 at hb
    simp at hb
    omega
theorem toI_small {n : Nat} (hn : n < 18446744073709551616) {m : Nat} (h0 : 0 ≤ toI n) (h1 : toI n ≤ (m : Int)) : n ≤ m := by
  have := toU_toI n hn
  unfold toU at this
  have hr := toI_range n
  rw [Int.emod_eq_of_lt h0 (by omega)] at this
  omega
theorem numAt_lt {s : List UInt8} (h : s.length = 33) {i : Nat} (hi : i < 4) : numAt s i < 18446744073709551616 := by
  unfold numAt
  exact be_lt8 _ (piece_length s i h hi)
theorem read_rr {s : List UInt8} (h : rrB s = true) : readO s = some (rrH s, rrP s) := by
  unfold rrB at h
  simp only [Bool.and_eq_true] at h
  obtain ⟨⟨⟨h1, h2⟩, h3⟩, h4⟩ := h
  unfold rr1 at h1
  simp only [Bool.and_eq_true, decide_eq_true_eq] at h1
  obtain ⟨⟨⟨⟨a1, a2⟩, a3⟩, a4⟩, a5⟩ := h1
  unfold rr3 at h3
  simp only [Bool.and_eq_true, decide_eq_true_eq] at h3
  obtain ⟨b1, b2⟩ := h3
  unfold rr4 at h4
  simp only [Bool.and_eq_true, decide_eq_true_eq] at h4
  obtain ⟨c1, c2, c3⟩ := h4
  have g0 : getE s = 0 := getE_zero.2 ⟨a1, a2⟩
  have gl := getL_read g0
  have hl : ∀ k, ((readL s).getD k []).length ≤ 600 := fun k => Nat.le_trans (getDL_le (L := readL s) (n := s.length) (fun x hx => readL_part hx) k) a1
  have g3 : getE ((readL s).getD 3 []) = 0 := getE_zero.2 ⟨hl 3, b1⟩
  have gl3 := getL_read g3
  have hf : (rrH s).fault = 0 := (replyF_zero c1).1
  have hsaid := rsO_first c2 c3 a2
  have hhdr : hdr ((readL s).getD 0 []) = true := by
    unfold hdr
    rw [decide_eq_true a4, hsaid]
    rfl
  have hre : readE ((readL s).getD 0 []) = 0 := by
    unfold readE
    rw [if_pos hhdr]
    exact if_pos hf
  have hrh : readH ((readL s).getD 0 []) = rrH s := by
    unfold readH
    rw [if_pos hre]
    rfl
  have h4' := four_of a3
  have hrd : rdO s = some (rrH s, rrP s) := by
    rw [rd_four g0 (gl.trans h4'), rdOk_yes a5 hre g3 (by rw [gl3]; exact b2), if_pos rfl, hrh, gl3]
    rfl
  obtain ⟨e1, e2⟩ := (ss_of_rs (rrH s) (rrP s)).1 c2
  unfold readO
  rw [hrd]
  refine if_pos ⟨?_, ?_⟩
  · unfold ssaidE
    rw [if_neg (by simpa using c1)]
    exact e1
  · unfold ssaidO
    rw [if_neg (by simpa using c1), e2]
    exact c3
theorem rr_read {s : List UInt8} {g : Head} {q : Prf} (h : readO s = some (g, q)) : rrB s = true := by
  unfold readO at h
  cases hrd : rdO s with
  | none => rw [hrd] at h; cases h
  | some x =>
    obtain ⟨g', q'⟩ := x
    rw [hrd] at h
    simp only at h
    split at h
    · rename_i hc
      cases h
      obtain ⟨c1, c2⟩ := hc
      have c0 : replyF g q = 0 := by
        cases Int.decEq (replyF g q) 0 with
        | isTrue h => exact h
        | isFalse h =>
          unfold ssaidE at c1
          rw [if_pos h] at c1
          exact absurd c1 h
      unfold ssaidE at c1
      rw [if_neg (by simpa using c0)] at c1
      unfold ssaidO at c2
      rw [if_neg (by simpa using c0)] at c2
      have hb : rsB g q = true := by
        cases hb : rsB g q with
        | true => rfl
        | false =>
          have := ((ss_of_rs g q).2 hb).1
          rw [this] at c1
          cases c1
      have ho : rsO g q = s := by rw [← ((ss_of_rs g q).1 hb).2]; exact c2
      have g0 : getE s = 0 := by
        cases Int.decEq (getE s) 0 with
        | isTrue h => exact h
        | isFalse h => rw [rd_err h] at hrd; cases hrd
      have h4 : (getL s).length = 4 := by
        cases Nat.decEq (getL s).length 4 with
        | isTrue h => exact h
        | isFalse h => rw [rd_len h] at hrd; cases hrd
      have hL := four_of h4
      rw [rd_four g0 hL] at hrd
      split at hrd
      · rename_i hok
        obtain ⟨rfl, rfl⟩ : readH ((getL s).getD 0 []) = g ∧ rdP ((getL s).getD 1 []) ((getL s).getD 2 []) (getL ((getL s).getD 3 [])) = q := by
          simp only [Option.some.injEq, Prod.mk.injEq] at hrd
          exact hrd
        unfold rdOk at hok
        simp only [Bool.and_eq_true, decide_eq_true_eq] at hok
        obtain ⟨⟨⟨d1, d2⟩, d3⟩, d4⟩ := hok
        have gl := getL_read g0
        have gl3 := getL_read d3
        obtain ⟨a1, a2⟩ := getE_zero.1 g0
        rw [gl] at h4 d1 d2 d3 d4 gl3 c0 hb ho
        rw [gl3] at d4 c0 hb ho
        have hhdr : hdr ((readL s).getD 0 []) = true := by
          cases hh : hdr ((readL s).getD 0 []) with
          | true => rfl
          | false => unfold readE at d2; rw [hh] at d2; cases d2
        have hrh : readH ((readL s).getD 0 []) = rrH s := by
          unfold readH
          rw [if_pos d2]
          rfl
        have h33 := (hdr_true hhdr).1
        rw [hrh] at c0 hb ho
        obtain ⟨e1, e2, e3, e4⟩ := fault_bounds (replyF_zero c0).1
        have r1 : rr1 s = true := by
          unfold rr1
          rw [decide_eq_true a1, a2, decide_eq_true h4, decide_eq_true h33, decide_eq_true d1]
          rfl
        have r2 : rr2 s = true := by
          unfold rr2
          rw [decide_eq_true (toI_small (m := 1000000) (numAt_lt h33 (by decide)) e1 e2), decide_eq_true (toI_small (m := 1000000000) (numAt_lt h33 (by decide)) e3 e4)]
          rfl
        have r3 : rr3 s = true := by
          unfold rr3
          rw [(getE_zero.1 d3).2, decide_eq_true d4]
          rfl
        have r4 : rr4 s = true := by
          unfold rr4
          rw [show rrP s = rdP ((readL s).getD 1 []) ((readL s).getD 2 []) (readL ((readL s).getD 3 [])) from rfl, decide_eq_true c0, hb, decide_eq_true ho]
          rfl
        unfold rrB
        rw [r1, r2, r3, r4]
        rfl
      · cases hrd
    · cases h
theorem read_no {s : List UInt8} (h : rrB s = false) : readO s = none := by
  cases hr : readO s with
  | none => rfl
  | some x =>
    obtain ⟨g, q⟩ := x
    rw [rr_read hr] at h
    cases h
end Go.Proofs.Ythkmfihbpbehfaa
/-!
Package serve: Against: the walk.
-/
namespace Go.Proofs.Ythkmfihbpbehfaa
set_option linter.unusedVariables false
set_option linter.unusedSimpArgs false
open Go.TR
/-- Are two replies on another name, or on another head? -/
def parted (h : Head) (p : Prf) (g : Head) (q : Prf) : Bool := decide (p.name ≠ q.name) || decide (h ≠ g)
/-- What Against answers. -/
def againstV (h : Head) (p : Prf) (g : Head) (q : Prf) : List UInt8 × List UInt8 × Int :=
  if replyF h p ≠ 0 then ([], [], replyF h p) else if replyF g q ≠ 0 then ([], [], replyF g q) else if parted h p g q = true then ([], [], 3)
  else if replyT h p = replyT g q ∧ replyB h p = replyB g q then ([], [], 6) else clashP p q
theorem parted_val (h : Head) (p : Prf) (g : Head) (q : Prf) : (!decide (bl (mkB p.name) = bl (mkB q.name)) || !(h.epoch == g.epoch && ((h.root : Int) == (g.root : Int) && ((h.prev : Int) == (g.prev : Int) && (h.at_ == g.at_ && true))))) = parted h p g q := by
  obtain ⟨a, b, c, d⟩ := h
  obtain ⟨a', b', c', d'⟩ := g
  unfold parted
  rw [bl_S, bl_S]
  simp only [Head.mk.injEq, ne_eq]
  by_cases hn : p.name = q.name <;> by_cases h1 : a = a' <;> by_cases h2 : b = b' <;> by_cases h3 : c = c' <;> by_cases h4 : d = d' <;> simp [hn, h1, h2, h3, h4] <;> omega
attribute [local irreducible] vc vcOps seqK blockK loopK retK retG retI loopV Plain CallOK CallIn bodied VS vcAny dropG backK brK loopPK IntKind.wrap
attribute [local irreducible] replyF replyT replyB clashP parted
set_option maxRecDepth 100000
set_option maxHeartbeats 4000000
theorem against_ok (h : Head) (p : Prf) (g : Head) (q : Prf) (la lb : Lay) (hp : p.wf) (hq : q.wf) {F : Hp} (hf : p.at F la) (hg : q.at F lb) : Plain Try.prog F 71 [repV h p la, repV g q lb] (clV (againstV h p g q)) := by
  refine plain_vc (N := 63) (rv := [.tmp 4, .tmp 5, .tmp 6]) tbok mixed Try.func71 rfl rfl rfl rfl rfl ?_
  (refine run ?_; repeat intro b)
  refine s_plain _ rfl rfl rfl bd123 rfl (servetell_ok h p la hp hf) ?_
  (refine run ?_; repeat intro b)
  refine s_if (decide (replyF h p ≠ 0)) ?_ (fun h0 => ?_) (fun h0 => ?_)
  · refine congrArg (fun b => some (EV.v (.bool b))) ?_
    rw [Bool.eq_iff_iff]; simp
  · have e : againstV h p g q = ([], [], replyF h p) := by unfold againstV; rw [if_pos (of_decide_eq_true h0)]
    rw [e]
    (refine run ?_; repeat intro b)
    rfl
  · have e : againstV h p g q = if replyF g q ≠ 0 then ([], [], replyF g q) else if parted h p g q = true then ([], [], 3) else if replyT h p = replyT g q ∧ replyB h p = replyB g q then ([], [], 6) else clashP p q := by unfold againstV; rw [if_neg (of_decide_eq_false h0)]
    rw [e]
    (refine run ?_; repeat intro b)
    refine s_plain _ rfl rfl rfl bd123 rfl (servetell_ok g q lb hq hg) ?_
    (refine run ?_; repeat intro b)
    refine s_if (decide (replyF g q ≠ 0)) ?_ (fun h1 => ?_) (fun h1 => ?_)
    · refine congrArg (fun b => some (EV.v (.bool b))) ?_
      rw [Bool.eq_iff_iff]; simp
    · rw [if_pos (of_decide_eq_true h1)]
      (refine run ?_; repeat intro b)
      rfl
    · rw [if_neg (of_decide_eq_false h1)]
      (refine run ?_; repeat intro b)
      refine s_if (parted h p g q) ?_ (fun h2 => ?_) (fun h2 => ?_)
      · refine congrArg (fun b => some (EV.v (.bool b))) ?_
        rw [bpick_or]
        exact parted_val h p g q
      · rw [if_pos h2]
        (refine run ?_; repeat intro b)
        rfl
      · rw [if_neg (by rw [h2]; decide)]
        (refine run ?_; repeat intro b)
        refine s_if (decide (replyT h p = replyT g q ∧ replyB h p = replyB g q)) ?_ (fun h3 => ?_) (fun h3 => ?_)
        · refine congrArg (fun b => some (EV.v (.bool b))) ?_
          rw [bpick_and, Bool.eq_iff_iff, bl_S, bl_S]
          simp
        · rw [if_pos (of_decide_eq_true h3)]
          (refine run ?_; repeat intro b)
          rfl
        · rw [if_neg (of_decide_eq_false h3)]
          (refine run ?_; repeat intro b)
          refine s_plain _ rfl rfl rfl bd46 rfl (clashproofs_ok p q la lb hp hq hf hg) ?_
          (refine run ?_; repeat intro b)
          rfl
end Go.Proofs.Ythkmfihbpbehfaa
/-!
Chains of heads, plainly.
-/
namespace Go.Proofs.Ythkmfihbpbehfaa
set_option linter.unusedVariables false
set_option linter.unusedSimpArgs false
open Go.TR
@[reducible] def Head.row (h : Head) : List Value := [i64 h.epoch, u64 (h.root : Nat), u64 (h.prev : Nat), i64 h.at_]
theorem head_row (h : Head) : h.row.length = 4 := rfl
theorem head_one (l : List Head) : ∀ x ∈ l.flatMap Head.row, one (.v x) = true := fun x hx => by
  obtain ⟨a, _, ha⟩ := List.mem_flatMap.1 hx
  simp only [Head.row, List.mem_cons, List.not_mem_nil, or_false] at ha
  rcases ha with rfl | rfl | rfl | rfl <;> rfl
/-- Is the one the next of the other? -/
def links (a b : Head) : Bool := decide (a.fault = 0) && decide (b.fault = 0) && decide (b.epoch = a.epoch + 1) && decide (b.prev = a.mark) && decide (a.at_ ≤ b.at_)
/-- The first that is wrong. -/
def badAt : List Head → Nat → Option (Int × Nat)
  | [], _ => none
  | h :: t, i => if h.fault = 0 then badAt t (i + 1) else some (h.fault, i)
/-- The first that does not follow. -/
def unl : List Head → Nat → Option Nat
  | [], _ => none
  | [_], _ => none
  | a :: b :: t, i => if links a b = true then unl (b :: t) (i + 1) else some i
def unlI (l : List Head) : Int := match unl l 1 with
  | some i => (i : Int)
  | none => -1
def chainT (l : List Head) : Int × Nat := match badAt l 0 with
  | some x => x
  | none => match unl l 1 with
    | some i => (8, i)
    | none => (0, 0)
def chainF (l : List Head) : Int × Nat := if l.length = 0 then (5, 0) else if 40 < l.length then (2, 0) else chainT l
theorem chainT_bad {l : List Head} {x : Int × Nat} (h : badAt l 0 = some x) : chainT l = x := by unfold chainT; rw [h]
theorem chainT_unl {l : List Head} {i : Nat} (h : badAt l 0 = none) (h2 : unl l 1 = some i) : chainT l = (8, i) := by unfold chainT; rw [h, h2]
theorem chainT_ok {l : List Head} (h : badAt l 0 = none) (h2 : unl l 1 = none) : chainT l = (0, 0) := by unfold chainT; rw [h, h2]
theorem badAt_drop {l : List Head} {j : Nat} (hj : j < l.length) : badAt (l.drop j) j = if l[j].fault = 0 then badAt (l.drop (j + 1)) (j + 1) else some (l[j].fault, j) := by
  rw [List.drop_eq_getElem_cons hj]
  rfl
theorem unl_drop {l : List Head} {j : Nat} (hj : j + 1 < l.length) : unl (l.drop j) (j + 1) = if links l[j] l[j + 1] = true then unl (l.drop (j + 1)) (j + 2) else some (j + 1) := by
  rw [List.drop_eq_getElem_cons (i := j) (by omega), List.drop_eq_getElem_cons (i := j + 1) hj]
  rfl
theorem unl_end {l : List Head} {j i : Nat} (hj : l.length ≤ j + 1) : unl (l.drop j) i = none := by
  have : (l.drop j).length ≤ 1 := by rw [List.length_drop]; omega
  match h : l.drop j with
  | [] => rfl
  | [_] => rfl
  | _ :: _ :: _ => rw [h] at this; simp at this
theorem badAt_none : ∀ {l : List Head} {i : Nat}, badAt l i = none → ∀ h ∈ l, h.fault = 0
  | [], _, _ => by simp
  | a :: l, i, h => fun x hx => by
    unfold badAt at h
    split at h
    · rename_i h0
      rcases List.mem_cons.1 hx with rfl | hx
      · exact h0
      · exact badAt_none h x hx
    · cases h
theorem Head.ext' {a b : Head} (h1 : a.epoch = b.epoch) (h2 : a.root = b.root) (h3 : a.prev = b.prev) (h4 : a.at_ = b.at_) : a = b := by
  cases a; cases b; simp_all
/-- The next of the one, and the other: what head.Next answers. -/
theorem links_next {a b : Head} (hw : a.wf) (ha : a.fault = 0) (hb : b.fault = 0) : (decide (a.nextE b.root b.at_ ≠ 0) || decide ((a.nextH b.root b.at_).orNone (a.nextE b.root b.at_) ≠ b)) = !links a b := by
  obtain ⟨g1, g2, g3, g4, g5, g6, g7⟩ := Head.ok_of ha
  obtain ⟨f1, f2, f3, f4, f5, f6, f7⟩ := Head.ok_of hb
  have hwr : IntKind.i64.wrap (a.epoch + 1) = a.epoch + 1 := wrap_i64 (by omega) (by omega)
  have hm : a.markO = a.mark := by unfold Head.markO; rw [if_pos ha]
  unfold links
  rw [decide_eq_true ha, decide_eq_true hb]
  by_cases h1 : a.epoch = 1000000
  · have : a.nextE b.root b.at_ ≠ 0 := by unfold Head.nextE; rw [if_neg (by simpa using ha), if_pos h1]; decide
    rw [decide_eq_true this]
    have : ¬ b.epoch = a.epoch + 1 := by omega
    simp [this]
  · have hn := nextE_alt (root := b.root) (at_ := b.at_) hw ha h1
    by_cases h2 : b.at_ < a.at_
    · rw [if_pos (.inr (.inl h2))] at hn
      rw [hn]
      have : ¬ a.at_ ≤ b.at_ := by omega
      simp [this]
    · rw [if_neg (by omega)] at hn
      rw [hn]
      have h3 : a.at_ ≤ b.at_ := by omega
      unfold Head.orNone Head.nextH
      rw [hwr, hm]
      by_cases h4 : b.epoch = a.epoch + 1
      · by_cases h5 : b.prev = a.mark
        · have : (⟨a.epoch + 1, b.root, a.mark, b.at_⟩ : Head) = b := Head.ext' h4.symm rfl h5.symm rfl
          simp [this, h3, h4, h5]
        · have : (⟨a.epoch + 1, b.root, a.mark, b.at_⟩ : Head) ≠ b := fun e => h5 (by rw [← e])
          simp [this, h5]
      · have : (⟨a.epoch + 1, b.root, a.mark, b.at_⟩ : Head) ≠ b := fun e => h4 (by rw [← e])
        simp [this, h4]
theorem badAt_ne : ∀ {l : List Head} {i : Nat} {x : Int × Nat}, badAt l i = some x → x.1 ≠ 0 := by
  intro l
  induction l with
  | nil => intro i x h; cases h
  | cons a l ih =>
    intro i x h
    unfold badAt at h
    split at h
    · exact ih h
    · rename_i h0
      cases h
      exact h0
theorem chainF_zero {l : List Head} (h : (chainF l).1 = 0) : 0 < l.length ∧ l.length ≤ 40 ∧ (∀ x ∈ l, x.fault = 0) ∧ unl l 1 = none ∧ chainF l = (0, 0) := by
  unfold chainF at h ⊢
  split at h
  · cases h
  · rename_i h1
    split at h
    · cases h
    · rename_i h2
      rw [if_neg h1, if_neg h2]
      cases hb : badAt l 0 with
      | some x =>
        rw [chainT_bad hb] at h
        exact absurd h (badAt_ne hb)
      | none =>
        cases hu : unl l 1 with
        | some i =>
          rw [chainT_unl hb hu] at h
          cases h
        | none => exact ⟨by omega, by omega, badAt_none hb, rfl, chainT_ok hb hu⟩
/-- The head of an epoch. -/
def headOfE (l : List Head) (n : Int) : Option Head := l.find? fun h => decide (h.epoch = n)
def orN : Option Head → Head
  | some h => h
  | none => Head.none
/-- In a chain the epochs rise by one. -/
theorem unl_epoch : ∀ {l : List Head} {i : Nat}, unl l i = none → ∀ (j : Nat) (h : j < l.length), l[j].epoch = (l[0]'(by omega)).epoch + (j : Int)
  | [], _, _, j, h => by simp at h
  | [a], _, _, j, h => by
    have : j = 0 := by simp at h; omega
    subst this
    simp
  | a :: b :: t, i, hu, 0, h => by simp
  | a :: b :: t, i, hu, j + 1, h => by
    unfold unl at hu
    split at hu
    · rename_i hl
      have := unl_epoch hu j (by simpa using h)
      simp only [List.getElem_cons_succ, List.getElem_cons_zero] at this ⊢
      rw [this]
      unfold links at hl
      simp only [Bool.and_eq_true, decide_eq_true_eq] at hl
      rw [hl.1.1.2]
      omega
    · cases hu
end Go.Proofs.Ythkmfihbpbehfaa
/-!
Letters on their way, plainly.
-/
namespace Go.Proofs.Ythkmfihbpbehfaa
set_option linter.unusedVariables false
set_option linter.unusedSimpArgs false
open Go.TR
theorem pcell_l {F : Hp} {b : Nat} {x : Value} (h : Frow F (some ⟨b, 0, none⟩) [x]) : Pcell F (some ⟨b, 0, none⟩) = some x := by
  have := h 0 x rfl
  simpa [padd, Addr.add] using this
/-- A letter. -/
structure Ltr where
  to_ : Int
  from_ : Int
  since : Int
  due : Int
  heads : List Head
  head : Head
  prf : Prf
/-- A letter, and where it lies. -/
structure LP where
  l : Ltr
  ph : Option Addr
  ch : Nat
  a : Lay
@[reducible] def LP.row (x : LP) : List Value := [i64 x.l.to_, i64 x.l.from_, i64 x.l.since, i64 x.l.due, .slice x.ph x.l.heads.length x.ch, i64 x.l.head.epoch, u64 (x.l.head.root : Nat), u64 (x.l.head.prev : Nat), i64 x.l.head.at_, S x.l.prf.name, .slice x.a.e x.l.prf.ents.length x.a.ce, .slice x.a.s x.l.prf.sides.length x.a.cs]
theorem lp_row (x : LP) : x.row.length = 12 := rfl
theorem lp_one (l : List LP) : ∀ x ∈ l.flatMap LP.row, one (.v x) = true := fun x hx => by
  obtain ⟨a, _, ha⟩ := List.mem_flatMap.1 hx
  simp only [LP.row, List.mem_cons, List.not_mem_nil, or_false] at ha
  rcases ha with rfl | rfl | rfl | rfl | rfl | rfl | rfl | rfl | rfl | rfl | rfl | rfl <;> rfl
structure Ltr.wf (l : Ltr) : Prop where
  heads : l.heads.length * 32 ≤ 140737488355328
  each : ∀ x ∈ l.heads, x.wf
  head : l.head.wf
  prf : l.prf.wf
  ents : l.prf.ents.length * 32 ≤ 140737488355328
  sides : l.prf.sides.length * 8 ≤ 140737488355328
structure LP.at (F : Hp) (x : LP) : Prop where
  heads : Frow F x.ph (x.l.heads.flatMap Head.row)
  prf : x.l.prf.at F x.a
theorem LP.at_sub {F F' : Hp} (h : F.sub F') {x : LP} (k : x.at F) : x.at F' := ⟨frow_sub h k.heads, Prf.at_sub h k.prf⟩
/-- A net: its time, its letters, where they lie. -/
structure NP where
  now : Int
  way : List LP
  p : Option Addr
  c : Nat
@[reducible] def NP.v (n : NP) : Value := .agg #[i64 n.now, .slice n.p n.way.length n.c]
structure NP.at (F : Hp) (n : NP) : Prop where
  way : Frow F n.p (n.way.flatMap LP.row)
  each : ∀ x ∈ n.way, x.at F
theorem NP.at_sub {F F' : Hp} (h : F.sub F') {n : NP} (k : n.at F) : n.at F' := ⟨frow_sub h k.way, fun x hx => LP.at_sub h (k.each x hx)⟩
def NP.none : NP := ⟨0, [], Option.none, 0⟩
theorem NP.none_at (F : Hp) : NP.none.at F := ⟨frow_nil _ _, by simp [NP.none]⟩
def netFault (n : NP) : Int := if n.now < 0 ∨ 1000000000 < n.now then 4 else if 60 < n.way.length then 7 else if (n.way.any fun x => decide (x.l.due ≤ n.now)) = true then 4 else 0
theorem netFault_cases (n : NP) : netFault n = 4 ∨ netFault n = 7 ∨ netFault n = 0 := by
  unfold netFault
  split
  · simp
  · split
    · simp
    · split <;> simp
theorem netFault_zero {n : NP} (h : netFault n = 0) : 0 ≤ n.now ∧ n.now ≤ 1000000000 ∧ n.way.length ≤ 60 := by
  unfold netFault at h
  split at h
  · cases h
  · split at h
    · cases h
    · omega
def badFate (k : Int) : Bool := decide (k < 1) || decide (100 < k)
/-- What sending a letter comes to. -/
def sendE (n : NP) (fs : List Int) : Int := if netFault n ≠ 0 then netFault n else if fs.any badFate = true then 4 else if 60 < n.way.length + fs.length then 7 else 0
def Ltr.by (l : Ltr) (t : Int) : Ltr := { l with due := t }
def sendL (n : NP) (l : Ltr) (fs : List Int) : List Ltr := n.way.map LP.l ++ fs.map fun k => l.by (n.now + k)
/-- What comes back from sending. -/
def SendQ (n : NP) (l : Ltr) (fs : List Int) (x : Value) (F : Hp) : Prop := ∃ y : NP, x = pair y.v (i64 (sendE n fs)) ∧ y.at F ∧ y.way.length ≤ 4611686018427387904 ∧ y.now = (if sendE n fs = 0 then n.now else 0) ∧ y.way.map LP.l = if sendE n fs = 0 then sendL n l fs else []
def tickE (n : NP) : Int := if netFault n ≠ 0 then netFault n else if n.now = 1000000000 then 9 else 0
/-- What comes back from a tick. -/
def TickQ (n : NP) (x : Value) (F : Hp) : Prop := ∃ (y : NP) (l : List LP) (p : Option Addr) (c : Nat), x = triple y.v (.slice p l.length c) (i64 (tickE n)) ∧ y.at F ∧ y.way.length ≤ 60 ∧ l.length ≤ 60 ∧ Frow F p (l.flatMap LP.row) ∧ (∀ x ∈ l, x.at F) ∧ y.now = (if tickE n = 0 then n.now + 1 else 0) ∧
  y.way.map LP.l = (if tickE n = 0 then (n.way.map LP.l).filter fun m => !decide (m.due = n.now + 1) else []) ∧ l.map LP.l = if tickE n = 0 then (n.way.map LP.l).filter fun m => decide (m.due = n.now + 1) else []
end Go.Proofs.Ythkmfihbpbehfaa
