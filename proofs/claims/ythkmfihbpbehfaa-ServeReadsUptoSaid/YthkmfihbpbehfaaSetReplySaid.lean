/-
The law of package head: whatever is handed in, each function answers what the reference answers.
-/
import Derived.Test.YthkmfihbpbehfaaSetHeadRead
import Derived.Test.YthkmfihbpbehfaaFwB
import Derived.Test.YthkmfihbpbehfaaServeRead
/-!
The law of package head: whatever is handed in, each function answers what the reference answers.
-/
namespace Go.Proofs.Ythkmfihbpbehfaa
set_option linter.unusedVariables false
set_option linter.unusedSimpArgs false
open Go.TR
theorem nextE_alt {h : Head} (hw : h.wf) {root : Nat} {at_ : Int} (h0 : h.fault = 0) (h1 : ¬ h.epoch = 1000000) : h.nextE root at_ = if MM ≤ root ∨ at_ < h.at_ ∨ 1000000000 < at_ then 4 else 0 := by
  obtain ⟨g1, g2, g3, g4, g5, g6, g7⟩ := Head.ok_of h0
  unfold Head.nextE
  rw [if_neg (by simpa using h0), if_neg h1]
  have hm : h.markO < MM := by unfold Head.markO; rw [if_pos h0]; exact markN_lt _
  have hwr : IntKind.i64.wrap (h.epoch + 1) = h.epoch + 1 := wrap_i64 (by omega) (by omega)
  by_cases h2 : at_ < h.at_
  · rw [if_pos h2, if_pos (.inr (.inl h2))]
  · rw [if_neg h2]
    unfold Head.fault Head.bad1 Head.bad2 Head.nextH
    simp only [hwr]
    by_cases h3 : MM ≤ root
    · rw [if_pos (by simp [h3]), if_pos (.inl h3)]
    · by_cases h4 : 1000000000 < at_
      · rw [if_pos (by simp [h4]), if_pos (.inr (.inr h4))]
      · rw [if_neg (by simp; omega), if_neg (by simp; omega), if_neg (by omega)]
theorem toI_range (n : Nat) : -9223372036854775808 ≤ toI n ∧ toI n ≤ 9223372036854775807 := by
  unfold toI IntKind.wrap
  simp only [IntKind.bits, IntKind.signed]
  have h := BitVec.toInt_lt (x := BitVec.ofInt 64 (n : Int))
  have h2 := BitVec.le_toInt (x := BitVec.ofInt 64 (n : Int))
  constructor <;> (simp at h h2 ⊢; omega)
theorem headOf_wf (s : List UInt8) (hl : s.length = 33) : (headOf s).wf := ⟨be_lt8 _ (piece_length s 1 hl (by decide)), be_lt8 _ (piece_length s 2 hl (by decide)), toI_range _, toI_range _⟩
attribute [local irreducible] vc vcOps seqK blockK loopK retK retG retI loopV Plain CallOK CallIn bodied VS vcAny dropG backK brK loopPK IntKind.wrap
set_option maxRecDepth 100000
end Go.Proofs.Ythkmfihbpbehfaa
/-!
Package serve: Read: the walk.
-/
namespace Go.Proofs.Ythkmfihbpbehfaa
set_option linter.unusedVariables false
set_option linter.unusedSimpArgs false
open Go.TR
theorem readN_lt (l : List UInt8) : readN l < 18446744073709551616 := by
  unfold readN
  split
  · rename_i h; exact be_lt8 l h
  · decide
theorem readH_wf (s : List UInt8) (h : readE s = 0) : (readH s).wf := by
  unfold readH
  rw [if_pos h]
  refine headOf_wf s ?_
  unfold readE at h
  split at h
  · rename_i g; exact (hdr_true g).1
  · cases h
theorem getD_part {L : List (List UInt8)} (h : ∀ x ∈ L, x.length ≤ 600) (k : Nat) : (L.getD k []).length ≤ 600 := by
  rw [List.getD_eq_getElem?_getD]
  cases hk : L[k]? with
  | none => simp
  | some x => exact h x (List.mem_of_getElem? hk)
theorem rdO_wf {s : List UInt8} {h : Head} {p : Prf} (e : rdO s = some (h, p)) : h.wf ∧ p.wf := by
  unfold rdO at e
  split at e
  · split at e
    · rename_i l0 l1 l2 l3 hL
      split at e
      · rename_i hok
        cases e
        have hr : readE l0 = 0 := by
          cases Nat.decEq 0 0 with
          | isTrue _ =>
            unfold rdOk at hok
            simp only [Bool.and_eq_true, decide_eq_true_eq] at hok
            exact hok.1.1.2
          | isFalse h => exact absurd rfl h
        have h3 : ∀ x ∈ getL l3, x.length ≤ 600 := fun x hx => getL_part hx
        refine ⟨readH_wf l0 hr, ⟨?_, ?_, ?_, ?_, ?_⟩⟩
        · exact Nat.le_trans (getL_part (s := s) (by rw [hL]; simp) : l1.length ≤ 600) (by decide)
        · show (entsR _ _).length ≤ _
          rw [entsR_len]
          have := getL_60 l3
          omega
        · intro x hx
          obtain ⟨k, _, rfl⟩ := List.mem_map.1 hx
          exact ⟨Nat.le_trans (getD_part h3 _) (by decide), Nat.le_trans (getD_part h3 _) (by decide)⟩
        · show (sidesR _ _).length ≤ _
          rw [sidesR_len]; decide
        · intro x hx
          obtain ⟨k, _, rfl⟩ := List.mem_map.1 hx
          exact readN_lt _
      · cases e
    · cases e
  · cases e
/-- What Read answers. -/
def readO (s : List UInt8) : Option (Head × Prf) := match rdO s with
  | some (h, p) => if ssaidE h p = 0 ∧ ssaidO h p = s then some (h, p) else none
  | none => none
def ReadQ (s : List UInt8) (x : Value) (F' : Hp) : Prop := match readO s with
  | some (h, p) => ∃ a, x = pair (repV h p a) (i64 0) ∧ p.at F' a
  | none => x = pair zrep (i64 3)
theorem readq_none {s : List UInt8} {F' : Hp} (h : readO s = none) : ReadQ s (pair zrep (i64 3)) F' := by unfold ReadQ; rw [h]
theorem readq_some {s : List UInt8} {h : Head} {p : Prf} {a : Lay} {F' : Hp} (e : readO s = some (h, p)) (ha : p.at F' a) : ReadQ s (pair (repV h p a) (i64 0)) F' := by unfold ReadQ; rw [e]; exact ⟨a, rfl, ha⟩
theorem rdq_cases {s : List UInt8} {x : Value} {F' : Hp} (h : RdQ s x F') : (rdO s = none ∧ x = pair zrep (.bool false)) ∨ ∃ g p a, rdO s = some (g, p) ∧ x = pair (repV g p a) (.bool true) ∧ p.at F' a := by
  unfold RdQ at h
  cases e : rdO s with
  | none => rw [e] at h; exact .inl ⟨rfl, h⟩
  | some q =>
    obtain ⟨g, p⟩ := q
    rw [e] at h
    obtain ⟨a, h1, h2⟩ := h
    exact .inr ⟨g, p, a, rfl, h1, h2⟩
attribute [local irreducible] vc vcOps seqK blockK loopK retK retG retI loopV Plain CallOK CallIn bodied VS vcAny dropG backK brK loopPK IntKind.wrap
attribute [local irreducible] rdO RdQ readO ReadQ ssaidE ssaidO
set_option maxRecDepth 100000
set_option maxHeartbeats 4000000
theorem serveread_ok (s : List UInt8) (hs : s.length ≤ 4611686018427387904) (F : Hp) : CallF Try.prog F 70 [S s] (ReadQ s) := by
  refine CallOK.drop ?_
  refine call_vc (N := 30) (rv := [.cell 2 34, .tmp 3]) tbok mixed Try.func70 rfl rfl rfl rfl rfl ?_
  (refine run ?_; repeat intro b)
  revert b; intro b2
  refine s_callF rfl rfl rfl bd125 rfl (serveread0_ok s hs F) ?_
  rintro x F1 hF1 hq
  rcases rdq_cases hq with ⟨h0, rfl⟩ | ⟨g, p, a, h0, rfl, hat⟩
  · have hno : readO s = none := by unfold readO; rw [h0]
    unfold zrep
    (refine run ?_; repeat intro b)
    exact s_retG (VS.id ⟨_, rfl, readq_none hno⟩)
  · obtain ⟨wg, wp⟩ := rdO_wf h0
    (refine run ?_; repeat intro b)
    revert b; intro b4
    refine s_plain _ rfl rfl rfl bd69 rfl (serveSaid_ok g p a wg wp hat) ?_
    (refine run ?_; repeat intro b)
    refine s_if (decide (¬ (ssaidE g p = 0 ∧ ssaidO g p = s))) ?_ (fun h1 => ?_) (fun h1 => ?_)
    · refine congrArg (fun b => some (EV.v (.bool b))) ?_
      rw [bpick_or, Bool.eq_iff_iff, bl_S, bl_S]
      simp
    · have hno : readO s = none := by unfold readO; rw [h0]; exact if_neg (of_decide_eq_true h1)
      (refine run ?_; repeat intro b)
      exact s_retG (VS.id ⟨_, rfl, readq_none hno⟩)
    · have h2 : ssaidE g p = 0 ∧ ssaidO g p = s := by simpa using h1
      have hyes : readO s = some (g, p) := by unfold readO; rw [h0]; exact if_pos h2
      (refine run ?_; repeat intro b)
      exact s_retG (VS.id ⟨_, rfl, readq_some hyes hat⟩)
end Go.Proofs.Ythkmfihbpbehfaa
/-!
tallyrollref.ReplySaid: the walk.
-/
namespace Go.Proofs.Ythkmfihbpbehfaa
set_option linter.unusedVariables false
set_option linter.unusedSimpArgs false
open Go.TR
def fourR (h : Head) (p : Prf) : List (List UInt8) := [h.said, p.name, sidesS p.sides, partsOut (entsL p.ents)]
def rsB (h : Head) (p : Prf) : Bool := partsOk (entsL p.ents) && partsOk (fourR h p)
def rsO (h : Head) (p : Prf) : List UInt8 := if partsOk (entsL p.ents) = true then partsOut (fourR h p) else []
/-- What the reference says, package serve says too. -/
theorem ss_of_rs (h : Head) (p : Prf) : (rsB h p = true → ssE h p = 0 ∧ ssO h p = rsO h p) ∧ (rsB h p = false → ssE h p = 2 ∧ ssO h p = []) := by
  unfold rsB rsO ssE ssO fourL
  cases h1 : partsOk (entsL p.ents) with
  | false =>
    obtain ⟨_, e2⟩ := put_bad h1
    rw [e2]
    exact ⟨(fun h => by cases h), fun _ => ⟨rfl, rfl⟩⟩
  | true =>
    obtain ⟨e1, e2⟩ := put_good h1
    rw [e2, e1]
    show (partsOk (fourR h p) = true → (if (0 : Int) ≠ 0 then (0 : Int) else putE (fourR h p)) = 0 ∧ (if (0 : Int) ≠ 0 then [] else putO (fourR h p)) = partsOut (fourR h p)) ∧ (partsOk (fourR h p) = false → (if (0 : Int) ≠ 0 then (0 : Int) else putE (fourR h p)) = 2 ∧ (if (0 : Int) ≠ 0 then [] else putO (fourR h p)) = [])
    rw [if_neg (by decide), if_neg (by decide)]
    refine ⟨fun h2 => ?_, fun h2 => ?_⟩
    · obtain ⟨e3, e4⟩ := put_good h2
      exact ⟨e4, e3⟩
    · obtain ⟨e3, e4⟩ := put_bad h2
      exact ⟨e4, e3⟩
attribute [local irreducible] vc vcOps seqK blockK loopK retK retG retI loopV Plain CallOK CallIn bodied VS vcAny dropG backK brK loopPK IntKind.wrap
attribute [local irreducible] replyF num sidesS entsL putO putE partsOut partsOk Head.said
set_option maxRecDepth 100000
set_option maxHeartbeats 4000000
theorem refreplysaid_ok (h : Head) (p : Prf) (a : Lay) (hh : h.wf) (hw : p.wf) (h0 : replyF h p = 0) {F : Hp} (hf : p.at F a) : Plain Try.prog F 73 [repV h p a] (pair (S (rsO h p)) (.bool (rsB h p))) := by
  obtain ⟨f1, f2⟩ := hf
  obtain ⟨r1, r2, r3⟩ := right_of h0
  refine plain_vc (N := 60) (rv := [.tmp 2, .tmp 3]) tbok mixed Try.func73 rfl rfl rfl rfl rfl ?_
  (refine run ?_; repeat intro b)
  generalize b = b0
  refine s_loopP (fun k : Nat => k ≤ p.sides.length) (fun k => ⟨[(1, .loc 0 0), (4, .v (S (sidesS (p.sides.take k)))), (14, .v (.slice a.s p.sides.length a.cs)), (15, .v (i64 (p.sides.length : Nat))), (16, .v (i64 (k : Nat)))], F, [(0, ⟨some b0, [.v (i64 h.epoch), .v (u64 (h.root : Nat)), .v (u64 (h.prev : Nat)), .v (i64 h.at_), .v (S p.name), .v (.slice a.e p.ents.length a.ce), .v (.slice a.s p.sides.length a.cs)], 34, 7⟩)], 1⟩) (fun k => p.sides.length - k) 0 (Nat.zero_le _) (VS.keepN [1, 4, 14, 15, 16] rfl (by rw [sidesS_zero]; rfl)) ?_
  intro k hk
  by_cases hlt : k < p.sides.length
  · have g := frow_get f2 (j := k) (by rw [List.length_map]; exact hlt)
    rw [List.getElem_map] at g
    have ht := sidesS_take hlt
    have hl := sidesS_len (p.sides.take k)
    rw [List.length_take] at hl
    have hm := hw.side p.sides[k] (List.getElem_mem hlt)
    generalize p.sides[k] = m at g ht hm
    (refine run ?_; repeat intro b)
    refine s_if true (by rw [← decide_eq_true (p := ((k : Nat) : Int) < ((p.sides.length : Nat) : Int)) (by omega)]; rfl) (fun _ => ?_) (fun h => by cases h)
    (refine run ?_; repeat intro b)
    refine s_pureO rfl rfl rfl ⟨by omega, by omega, frow_some f2 (j := k) (by rw [List.length_map]; exact hlt)⟩ ?_
    refine s_load (mu m) rfl rfl rfl rfl (by rw [Int.toNat_natCast, Nat.mul_one]; exact g) ?_
    (refine run ?_; repeat intro b)
    refine s_plain _ rfl rfl rfl bd90 rfl (refnum_ok m hm F) ?_
    refine s_pureO rfl rfl rfl (by rw [bl_S, bl_S, hl, num_length]; unfold maxInt; omega) ?_
    (refine run ?_; repeat intro b)
    rw [wrap_succ (by omega), bl_S, bl_S, ← ht]
    exact s_loopPn (k + 1) hlt (by omega) (VS.keepN [1, 4, 14, 15, 16] rfl rfl)
  · have hge : k = p.sides.length := by omega
    subst hge
    rw [List.take_length]
    (refine run ?_; repeat intro b)
    refine s_if false (by rw [← decide_eq_false (p := ((p.sides.length : Nat) : Int) < ((p.sides.length : Nat) : Int)) (by omega)]; rfl) (fun h => by cases h) (fun _ => ?_)
    (refine run ?_; repeat intro b)
    refine s_loopP (fun q : Nat × List (List UInt8) × Option Nat × Nat => q.1 ≤ p.ents.length ∧ q.2.1 = entsL (p.ents.take q.1) ∧ (q.2.2.1 = none → 2 * q.1 = 0 ∧ q.2.2.2 = 0) ∧ 2 * q.1 ≤ q.2.2.2) (fun q => ⟨[(7, .row 1 0 (2 * q.1) q.2.2.2), (1, .loc 0 0), (4, .v (S (sidesS p.sides))), (27, .v (.slice a.e p.ents.length a.ce)), (28, .v (i64 (p.ents.length : Nat))), (29, .v (i64 (q.1 : Nat)))], F, [(1, ⟨q.2.2.1, (q.2.1.map S).map .v, 9, q.2.2.2 * 1⟩), (0, ⟨some b0, [.v (i64 h.epoch), .v (u64 (h.root : Nat)), .v (u64 (h.prev : Nat)), .v (i64 h.at_), .v (S p.name), .v (.slice a.e p.ents.length a.ce), .v (.slice a.s p.sides.length a.cs)], 34, 7⟩)], 2⟩) (fun q => p.ents.length - q.1) (0, [], none, 0) ⟨Nat.zero_le _, entsL_nil _, fun _ => ⟨rfl, rfl⟩, Nat.le_refl _⟩ (VS.nilrow 7 9 [1, 4, 27, 28, 29] rfl rfl (VS.id rfl)) ?_
    rintro ⟨k, L, blk, cap⟩ ⟨h1, h2, h3, h4⟩
    dsimp only at h1 h2 h3 h4 ⊢
    have hL : L.length = 2 * k := by
      rw [h2, entsL_len, List.length_take]
      omega
    by_cases hlt : k < p.ents.length
    · obtain ⟨o1, o2⟩ := frow_agg entry_row (by decide) f1 k hlt
      have ht := entsL_take hlt
      rw [← h2] at ht
      generalize p.ents[k] = x at o2 ht
      (refine run ?_; repeat intro b)
      refine s_if true (by rw [← decide_eq_true (p := ((k : Nat) : Int) < ((p.ents.length : Nat) : Int)) (by omega)]; rfl) (fun _ => ?_) (fun h => by cases h)
      (refine run ?_; repeat intro b)
      refine s_pureO rfl rfl rfl ⟨by omega, by omega, frow_some f1 (j := k * 2) (by rw [flat_len entry_row]; omega)⟩ ?_
      refine s_loadA x.row rfl rfl rfl rfl rfl (by rw [Int.toNat_natCast]; exact o1) (by rw [Int.toNat_natCast]; exact o2) ?_
      (refine run ?_; repeat intro b)
      refine s_appR rfl rfl rfl rfl rfl rfl rfl rfl (src_row rfl rfl) (one_v _ (l := [S x.name, S x.value]) (by simp [one])) h3 h4 rfl (by rw [List.length_map, List.length_map, hL]; exact Nat.le_of_eq (Nat.mul_one _)) (by show _ * 16 ≤ _; omega) (fun h => by cases h) (fun _ b2 c2 hc2 => ?_)
      (refine run ?_; repeat intro b)
      have hcells := two_cells L x.name x.value (2 * k) hL
      rw [wrap_succ (by omega)]
      exact s_loopPq (k + 1, L ++ [x.name, x.value], some b2, c2) 1 [(4, 1), (0, 0)] [7, 1, 4, 27, 28, 29] [(1, ⟨some b2, ((L ++ [x.name, x.value]).map S).map .v, 9, c2 * 1⟩), (0, ⟨some b0, [.v (i64 h.epoch), .v (u64 (h.root : Nat)), .v (u64 (h.prev : Nat)), .v (i64 h.at_), .v (S p.name), .v (.slice a.e p.ents.length a.ce), .v (.slice a.s p.sides.length a.cs)], 34, 7⟩)]
        ⟨hlt, ht.symm, (fun h => by cases h), hc2⟩ (by simp only; omega) (Nat.min_le_left _ _)
        ⟨rfl, ⟨_, rfl, rfl, rfl, rfl, .inl ⟨hcells.symm, fun e he => all_v _ e (hcells ▸ he)⟩⟩, rfl, ⟨_, rfl, rfl, rfl, rfl, .inr rfl⟩, trivial⟩ rfl rfl rfl rfl rfl rfl rfl
    · have hge : k = p.ents.length := by omega
      subst hge
      rw [List.take_length] at h2
      subst h2
      (refine run ?_; repeat intro b)
      refine s_if false (by rw [← decide_eq_false (p := ((p.ents.length : Nat) : Int) < ((p.ents.length : Nat) : Int)) (by omega)]; rfl) (fun h => by cases h) (fun _ => ?_)
      (refine run ?_; repeat intro b)
      refine s_shift (VS.shut (fun pp => [(42, .v (.slice pp (2 * p.ents.length) cap)), (1, .loc 0 0), (4, .v (S (sidesS p.sides)))]) 1 [42, 1, 4] rfl (allV_map_v _) (fun _ => rfl) rfl (fun _ => rfl) rfl fun F1 p1 hs1 hf1 => ?_)
      rw [← hL]
      refine s_plain _ rfl rfl rfl bd126 rfl (parts_ok (entsL p.ents) (by omega) hf1) ?_
      unfold rsO rsB
      cases hpe : partsOk (entsL p.ents) with
      | false =>
        rw [if_neg Bool.false_ne_true, Bool.false_and]
        (refine run ?_; repeat intro b)
        rfl
      | true =>
        rw [if_pos rfl, Bool.true_and]
        (refine run ?_; repeat intro b)
        refine s_regiona [0] (by kernel_rfl) ?_
        refine s_firsts [0, 1, 3, 4, 5, 6, 7] (f' := 7) (by kernel_rfl) rfl rfl rfl ?_
        (refine run ?_; repeat intro b)
        refine s_one 2 (by kernel_rfl) rfl rfl ?_
        refine s_plain _ rfl rfl rfl bd27 rfl (refheadsaid_ok h hh F1) ?_
        (refine run ?_; repeat intro b)
        refine s_br (Hp.sub.refl _) ⟨⟨rfl, rfl, rfl, rfl, rfl, rfl, rfl, rfl, trivial⟩, trivial⟩ ?_
        refine s_one 8 (by kernel_rfl) rfl rfl ?_
        (refine run ?_; repeat intro b)
        refine s_br (Hp.sub.refl _) ⟨⟨rfl, rfl, rfl, rfl, rfl, rfl, rfl, rfl, trivial⟩, trivial⟩ ?_
        refine s_one 9 (by kernel_rfl) rfl rfl ?_
        refine s_shift (VS.freeze 2 [1, 56] rfl rfl rfl rfl fun F2 hs2 hf2 => VS.id ?_)
        refine s_plain _ rfl rfl rfl bd126 rfl (parts_ok (fourR h p) (by simp [fourR]) hf2) ?_
        (refine run ?_; repeat intro b)
        refine s_br hs2 ⟨⟨rfl, rfl, rfl, rfl, rfl, rfl, rfl, rfl, trivial⟩, trivial⟩ ?_
        refine s_firsts [10, 11, 12, 13] (f' := 0) (by kernel_rfl) rfl rfl rfl ?_
        (refine run ?_; repeat intro b)
        refine s_stop (by kernel_rfl) ?_
        (refine run ?_; repeat intro b)
        rfl
end Go.Proofs.Ythkmfihbpbehfaa
