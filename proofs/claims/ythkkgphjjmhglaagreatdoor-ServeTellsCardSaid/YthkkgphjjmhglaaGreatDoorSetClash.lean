/-
What the reference says of a proof; the mark on top: the walks.
-/
import Derived.Test.YthkkgphjjmhglaaGreatDoorProofSay
/-!
What the reference says of a proof; the mark on top: the walks.
-/
namespace Go.Proofs.YthkkgphjjmhglaaGreatDoor
set_option linter.unusedVariables false
set_option linter.unusedSimpArgs false
open Go.TR
theorem sayF_step (p : Prf) (k : Nat) : sayF p (k + 1) = if (pathN p.name).getD (15 - k) 0 = 48 then nodeN (markN (sayF p k)) (p.sides.getD k 0) else nodeN (p.sides.getD k 0) (markN (sayF p k)) := rfl
attribute [local irreducible] ahead orderN pathN wayN goodName bookFault markN partsOut two sayF
attribute [local irreducible] vc vcOps seqK blockK loopK retK retG retI loopV Plain CallOK CallIn bodied VS vcAny dropG backK brK loopPK IntKind.wrap
set_option maxRecDepth 100000
theorem sayL_get (p : Prf) {k n : Nat} (h : k < n) : ((sayL p n).map S).map EV.v = ((sayL p n).map S).map EV.v ∧ (((sayL p n).map S).map EV.v)[k]? = some (EV.v (S (sayF p k))) := by
  refine ⟨rfl, ?_⟩
  rw [List.getElem?_map, List.getElem?_map]
  unfold sayL
  rw [List.getElem?_map, List.getElem?_range h]
  rfl
set_option maxHeartbeats 1000000 in
theorem proofroot_ok (p : Prf) (a : Lay) (hw : p.wf) {F : Hp} (hf : p.at F a) : Plain Tryz.prog F 146 [p.v a] (pair (u64 (rootO p : Nat)) (i64 (prfFault p))) := by
  refine plain_vc (N := 21) (rv := [.tmp 2, .tmp 3]) tbok mixed Tryz.func146 rfl rfl rfl rfl rfl ?_
  (refine run ?_; repeat intro b)
  refine s_callF rfl rfl rfl bd197 rfl (proofsaid_ok p a hw hf) ?_
  rintro _ F1 hF1 ⟨p1, c1, rfl, hc1, hg1⟩
  (refine run ?_; repeat intro b)
  refine s_if (decide (prfFault p ≠ 0)) ?_ (fun h => ?_) (fun h => ?_)
  · refine congrArg (fun b => some (EV.v (.bool b))) ?_
    rw [Bool.eq_iff_iff]; simp
  · have e : rootO p = 0 := by unfold rootO; rw [if_neg (of_decide_eq_true h)]
    rw [e]
    (refine run ?_; repeat intro b)
    rfl
  · have h0 : prfFault p = 0 := by simpa using h
    obtain ⟨z1, z2, z3, z4, z5⟩ := prfFault_zero h0
    obtain ⟨y1, _, _⟩ := bookFault_zero z2
    have e : rootO p = prfRoot p := by unfold rootO; rw [if_pos h0]
    have e2 : saidO p = sayL p 17 := by unfold saidO; rw [if_pos h0]
    have ew : IntKind.i64.wrap (((saidO p).length : Int) - 1) = ((16 : Nat) : Int) := by rw [e2, sayL_len, wrap_i64 (by omega) (by omega)]; rfl
    have g : Pcell F1 (padd p1 16) = some (S (sayF p 16)) := by
      rw [e2] at hg1
      refine hg1 16 _ ?_
      rw [List.getElem?_map]
      unfold sayL
      rw [List.getElem?_map, List.getElem?_range (by decide)]
      rfl
    rw [e, h0]
    (refine run ?_; repeat intro b)
    rw [ew]
    refine s_pureO rfl rfl rfl ⟨by omega, by rw [e2, sayL_len]; decide, frow_some hg1 (j := 16) (by rw [List.length_map, e2, sayL_len]; decide)⟩ ?_
    refine s_load (S (sayF p 16)) rfl rfl rfl rfl g ?_
    (refine run ?_; repeat intro b)
    refine s_plain _ rfl rfl rfl bd171 rfl (markof_ok (sayF p 16) (by have := sayF_len y1 16; omega) F1) ?_
    (refine run ?_; repeat intro b)
    rfl
set_option maxHeartbeats 4000000 in
theorem refproofsaid_ok (p : Prf) (a : Lay) (hw : p.wf) (h0 : prfFault p = 0) {F : Hp} (hf : p.at F a) : CallF Tryz.prog F 104 [p.v a] (fun x F' => ∃ p' c', x = .slice p' 17 c' ∧ Frow F' p' ((sayL p 17).map S)) := by
  obtain ⟨z1, z2, z3, z4, z5⟩ := prfFault_zero h0
  obtain ⟨y1, y2, _⟩ := bookFault_zero z2
  obtain ⟨w1, w2, w3, w4, w5⟩ := hw
  obtain ⟨f1, f2⟩ := hf
  refine call_vc (N := 49) (rv := [.tmp 2]) tbok mixed Tryz.func104 rfl rfl rfl rfl rfl ?_
  (refine run ?_; repeat intro b)
  generalize b = bp
  refine s_plain _ rfl rfl rfl bd107 rfl (leafsaid_ok p.ents y1 w3 f1) ?_
  (refine run ?_; repeat intro b)
  refine s_plain _ rfl rfl rfl bd54 rfl (refpath_ok p.name w1 F) ?_
  (refine run ?_; repeat intro b)
  have e0 : leafN p.ents = sayF p 0 := by unfold sayF; rfl
  rw [e0]
  refine s_loopP (fun q : Nat × Nat × Nat => q.1 ≤ 16 ∧ q.1 + 1 ≤ q.2.2) (fun q => ⟨[(1, .loc 0 0), (3, .row 2 0 (q.1 + 1) q.2.2), (4, .v (S (pathN p.name))), (14, .v (i64 (q.1 : Nat)))], F, [(2, ⟨some q.2.1, ((sayL p (q.1 + 1)).map S).map EV.v, 9, q.2.2 * 1⟩), (0, ⟨some bp, [.v (S p.name), .v (.slice a.e p.ents.length a.ce), .v (.slice a.s p.sides.length a.cs)], 35, 3⟩)], 3⟩) (fun q => 16 - q.1) (0, b, 1) ⟨Nat.zero_le _, Nat.le_refl _⟩ (VS.ren (nx' := 3) [(1, 2), (0, 0)] [1, 3, 4, 14] [(2, ⟨some b, ((sayL p (0 + 1)).map S).map EV.v, 9, 1⟩), (0, ⟨some bp, [.v (S p.name), .v (.slice a.e p.ents.length a.ce), .v (.slice a.s p.sides.length a.cs)], 35, 3⟩)] ⟨rfl, ⟨_, rfl, rfl, rfl, rfl, .inr rfl⟩, rfl, ⟨_, rfl, rfl, rfl, rfl, .inr rfl⟩, trivial⟩ rfl rfl rfl rfl rfl rfl rfl) ?_
  rintro ⟨k, blk, cap⟩ ⟨hk, hcap⟩
  dsimp only at hk hcap ⊢
  have hsl := sayL_len p (k + 1)
  by_cases hlt16 : k < 16
  · have hlt : k < p.sides.length := by omega
    have g := frow_get f2 (j := k) (by rw [List.length_map]; exact hlt)
    rw [List.getElem_map] at g
    have hb := path_bit p.name (15 - k) (by omega)
    have hsay := sayF_len y1 k
    have hm := z5 _ (List.getElem_mem hlt)
    have hst : sayF p (k + 1) = if (pathN p.name).getD (15 - k) 0 = 48 then nodeN (markN (sayF p k)) p.sides[k] else nodeN p.sides[k] (markN (sayF p k)) := by
      have : p.sides[k] = p.sides.getD k 0 := by rw [List.getD_eq_getElem?_getD, List.getElem?_eq_getElem hlt]; rfl
      rw [this]; exact sayF_step p k
    have hsn := sayL_snoc p (k + 1)
    have hmm : MM = 2305843009213693951 := rfl
    have hmk := markN_lt (sayF p k)
    have ei : IntKind.i64.wrap (15 - (k : Int)) = ((15 - k : Nat) : Int) := by rw [wrap_i64 (by omega) (by omega)]; omega
    have hpl := pathN_len p.name
    have hcells : (((sayL p (k + 1)).map S).map EV.v).take ((k + 1) * 1) ++ [EV.v (S (sayF p (k + 1)))] = ((sayL p (k + 1 + 1)).map S).map EV.v := by
      rw [hsn, List.take_of_length_le (by simp [hsl])]
    have hget := (sayL_get p (k := k) (n := k + 1) (by omega)).2
    generalize p.sides[k] = m at g hm hst
    generalize pathN p.name = W at hb hst hpl
    (refine run ?_; repeat intro b)
    refine s_if true (by rw [← decide_eq_true (p := ((k : Nat) : Int) < 16) (by omega)]; rfl) (fun _ => ?_) (fun h => by cases h)
    (refine run ?_; repeat intro b)
    refine s_pureO rfl rfl rfl ⟨by omega, by omega, _, _, rfl, rfl⟩ ?_
    refine s_locX (S (sayF p k)) rfl rfl rfl rfl rfl (by rw [Int.toNat_natCast, Nat.zero_add]; show (((sayL p (k + 1)).map S).map EV.v)[k * 1]? = _; rw [Nat.mul_one]; exact hget) ?_
    (refine run ?_; repeat intro b)
    refine s_plain _ rfl rfl rfl bd22 rfl (refmark_ok (sayF p k) (by omega) F) ?_
    (refine run ?_; repeat intro b)
    rw [ei]
    refine s_pureO rfl rfl rfl ⟨by omega, by simp only [bl_S]; omega⟩ ?_
    generalize hmkk : markN (sayF p k) = mk at hmk hst
    rcases hb with h | h
    · rw [if_pos h] at hst
      rw [Int.toNat_natCast, bl_S, h]
      (refine run ?_; repeat intro b)
      refine s_pureO rfl rfl rfl ⟨by omega, by omega, frow_some f2 (j := k) (by rw [List.length_map]; exact hlt)⟩ ?_
      refine s_load (mu m) rfl rfl rfl rfl (by rw [Int.toNat_natCast, Nat.mul_one]; exact g) ?_
      (refine run ?_; repeat intro b)
      refine s_plain _ rfl rfl rfl bd109 rfl (nodesaid_ok mk m (by omega) (by omega) F) ?_
      rw [← hst]
      (refine run ?_; repeat intro b)
      refine s_appR rfl rfl rfl rfl rfl rfl rfl rfl (src_row rfl rfl) one1 (fun h => by cases h) hcap rfl (by simp [hsl]) (by show _ * 16 ≤ _; omega) (fun h => by cases h) (fun _ b2 c2 hc2 => ?_)
      (refine run ?_; repeat intro b)
      rw [wrap_succ (by omega)]
      exact s_loopPq (k + 1, b2, c2) 2 [(4, 2), (0, 0)] [1, 3, 4, 14] [(2, ⟨some b2, ((sayL p (k + 1 + 1)).map S).map EV.v, 9, c2 * 1⟩), (0, ⟨some bp, [.v (S p.name), .v (.slice a.e p.ents.length a.ce), .v (.slice a.s p.sides.length a.cs)], 35, 3⟩)] ⟨by omega, hc2⟩ (by simp only; omega) (Nat.min_le_left _ _)
        ⟨rfl, ⟨_, rfl, rfl, rfl, rfl, .inl ⟨hcells.symm, fun e he => all_v _ e (hcells ▸ he)⟩⟩, rfl, ⟨_, rfl, rfl, rfl, rfl, .inr rfl⟩, trivial⟩ rfl rfl rfl rfl rfl rfl rfl
    · rw [if_neg (by rw [h]; decide)] at hst
      rw [Int.toNat_natCast, bl_S, h]
      (refine run ?_; repeat intro b)
      refine s_pureO rfl rfl rfl ⟨by omega, by omega, frow_some f2 (j := k) (by rw [List.length_map]; exact hlt)⟩ ?_
      refine s_load (mu m) rfl rfl rfl rfl (by rw [Int.toNat_natCast, Nat.mul_one]; exact g) ?_
      (refine run ?_; repeat intro b)
      refine s_plain _ rfl rfl rfl bd109 rfl (nodesaid_ok m mk (by omega) (by omega) F) ?_
      rw [← hst]
      (refine run ?_; repeat intro b)
      refine s_appR rfl rfl rfl rfl rfl rfl rfl rfl (src_row rfl rfl) one1 (fun h => by cases h) hcap rfl (by simp [hsl]) (by show _ * 16 ≤ _; omega) (fun h => by cases h) (fun _ b2 c2 hc2 => ?_)
      (refine run ?_; repeat intro b)
      rw [wrap_succ (by omega)]
      exact s_loopPq (k + 1, b2, c2) 2 [(4, 2), (0, 0)] [1, 3, 4, 14] [(2, ⟨some b2, ((sayL p (k + 1 + 1)).map S).map EV.v, 9, c2 * 1⟩), (0, ⟨some bp, [.v (S p.name), .v (.slice a.e p.ents.length a.ce), .v (.slice a.s p.sides.length a.cs)], 35, 3⟩)] ⟨by omega, hc2⟩ (by simp only; omega) (Nat.min_le_left _ _)
        ⟨rfl, ⟨_, rfl, rfl, rfl, rfl, .inl ⟨hcells.symm, fun e he => all_v _ e (hcells ▸ he)⟩⟩, rfl, ⟨_, rfl, rfl, rfl, rfl, .inr rfl⟩, trivial⟩ rfl rfl rfl rfl rfl rfl rfl
  · have hge : k = 16 := by omega
    subst hge
    (refine run ?_; repeat intro b)
    refine s_retG ?_
    refine VS.freeze 2 [1, 2] rfl (allV_map_v _) rfl rfl fun F' hs1 hf1 => VS.dropR [0] rfl (VS.id ⟨_, rfl, rfl, some ⟨blk, 0, none⟩, cap, rfl, hf1⟩)
theorem refproofroot_ok (p : Prf) (a : Lay) (hw : p.wf) (h0 : prfFault p = 0) {F : Hp} (hf : p.at F a) : Plain Tryz.prog F 48 [p.v a] (u64 (prfRoot p : Nat)) := by
  obtain ⟨z1, z2, z3, z4, z5⟩ := prfFault_zero h0
  obtain ⟨y1, _, _⟩ := bookFault_zero z2
  refine plain_vc (N := 8) (rv := [.tmp 2]) tbok mixed Tryz.func48 rfl rfl rfl rfl rfl ?_
  (refine run ?_; repeat intro b)
  refine s_callF rfl rfl rfl bd104 rfl (refproofsaid_ok p a hw h0 hf) ?_
  rintro _ F1 hF1 ⟨p1, c1, rfl, hg1⟩
  have g : Pcell F1 (padd p1 16) = some (S (sayF p 16)) := by
    refine hg1 16 _ ?_
    rw [List.getElem?_map]
    unfold sayL
    rw [List.getElem?_map, List.getElem?_range (by decide)]
    rfl
  (refine run ?_; repeat intro b)
  refine s_pureO rfl rfl rfl ⟨by omega, by omega, frow_some hg1 (j := 16) (by rw [List.length_map, sayL_len]; decide)⟩ ?_
  refine s_load (S (sayF p 16)) rfl rfl rfl rfl g ?_
  (refine run ?_; repeat intro b)
  refine s_plain _ rfl rfl rfl bd22 rfl (refmark_ok (sayF p 16) (by have := sayF_len y1 16; omega) F1) ?_
  (refine run ?_; repeat intro b)
  rfl
end Go.Proofs.YthkkgphjjmhglaaGreatDoor
/-!
Texts that clash: plainly, and the walks.
-/
namespace Go.Proofs.YthkkgphjjmhglaaGreatDoor
set_option linter.unusedVariables false
set_option linter.unusedSimpArgs false
open Go.TR
/-- From a place on downwards. -/
def clashK (a b : List (List UInt8)) : Nat → List UInt8 × List UInt8 × Int
  | 0 => ([], [], 5)
  | k + 1 => if a.getD k [] = b.getD k [] then clashK a b k else if markN (a.getD k []) = markN (b.getD k []) then (a.getD k [], b.getD k [], 0) else ([], [], 5)
def clashT (a b : List (List UInt8)) : List UInt8 × List UInt8 × Int :=
  if a.length = 0 ∨ a.length ≠ b.length then ([], [], 3) else if markN (a.getD (a.length - 1) []) ≠ markN (b.getD (b.length - 1) []) then ([], [], 8) else clashK a b a.length
@[reducible] def clV (x : List UInt8 × List UInt8 × Int) : Value := triple (S x.1) (S x.2.1) (i64 x.2.2)
theorem get_str {F : Hp} {p : Option Addr} {l : List (List UInt8)} (hf : Frow F p (l.map S)) {k : Nat} (h : k < l.length) : Pcell F (padd p k) = some (S (l.getD k [])) := by
  have := frow_get hf (j := k) (by rw [List.length_map]; exact h)
  rw [List.getElem_map] at this
  rw [List.getD_eq_getElem?_getD, List.getElem?_eq_getElem h]
  exact this
attribute [local irreducible] markN clashK pathN goodName sayF prfFault
attribute [local irreducible] vc vcOps seqK blockK loopK retK retG retI loopV Plain CallOK CallIn bodied VS vcAny dropG backK brK loopPK IntKind.wrap
set_option maxRecDepth 100000
def refclE (p q : Prf) : Int := if prfFault p ≠ 0 then prfFault p else if prfFault q ≠ 0 then prfFault q else if p.name ≠ q.name then 3 else 0
def clashP (p q : Prf) : List UInt8 × List UInt8 × Int := if refclE p q ≠ 0 then ([], [], refclE p q) else clashT (sayL p 17) (sayL q 17)
end Go.Proofs.YthkkgphjjmhglaaGreatDoor
