/-
Package serve: Tell; tallyrollref.ReplyFault.
-/
import Derived.Test.YthkkgphjjmhglaaGreatDoorSetProofTell
import Derived.Test.YthkkgphjjmhglaaGreatDoorHead
import Derived.Test.YthkkgphjjmhglaaGreatDoorProofMake
import Derived.Test.YthkkgphjjmhglaaGreatDoorSetClerkTick
import Derived.Test.YthkkgphjjmhglaaGreatDoorSetClerk4
/-!
Package serve: Tell; tallyrollref.ReplyFault.
-/
namespace Go.Proofs.YthkkgphjjmhglaaGreatDoor
set_option linter.unusedVariables false
set_option linter.unusedSimpArgs false
open Go.TR
@[reducible] def repV (h : Head) (p : Prf) (a : Lay) : Value := .agg #[i64 h.epoch, u64 (h.root : Nat), u64 (h.prev : Nat), i64 h.at_, S p.name, .slice a.e p.ents.length a.ce, .slice a.s p.sides.length a.cs]
/-- What is wrong with a reply; what it says. -/
def replyF (h : Head) (p : Prf) : Int := if h.fault ≠ 0 then h.fault else heldE h.root p
def replyT (h : Head) (p : Prf) : List UInt8 := if replyF h p = 0 then (standsO p.ents p.name).getD [] else []
def replyB (h : Head) (p : Prf) : Bool := decide (replyF h p = 0) && (standsO p.ents p.name).isSome
theorem tellV_stands {r : Nat} {p : Prf} (h : heldE r p = 0) : tellV r p = (standsO p.ents p.name).getD [] ∧ tellB r p = (standsO p.ents p.name).isSome := by
  obtain ⟨g1, g2⟩ := held_zero h
  obtain ⟨e1, e2⟩ := get_stands (prf_find g1)
  unfold tellV tellB
  rw [if_pos h, decide_eq_true h, e1, e2]
  exact ⟨rfl, rfl⟩
theorem tellV_bad {r : Nat} {p : Prf} (h : heldE r p ≠ 0) : tellV r p = [] ∧ tellB r p = false := by
  unfold tellV tellB
  rw [if_neg h, decide_eq_false h]
  exact ⟨rfl, rfl⟩
theorem reply_tell {h : Head} {p : Prf} (h0 : h.fault = 0) : replyT h p = tellV h.root p ∧ replyB h p = tellB h.root p ∧ replyF h p = heldE h.root p := by
  have e : replyF h p = heldE h.root p := by unfold replyF; rw [if_neg (by simpa using h0)]
  unfold replyT replyB
  rw [e]
  by_cases h1 : heldE h.root p = 0
  · obtain ⟨g1, g2⟩ := tellV_stands h1
    rw [if_pos h1, decide_eq_true h1, g1, g2]
    exact ⟨rfl, rfl, rfl⟩
  · obtain ⟨g1, g2⟩ := tellV_bad h1
    rw [if_neg h1, decide_eq_false h1, g1, g2]
    exact ⟨rfl, rfl, rfl⟩
attribute [local irreducible] vc vcOps seqK blockK loopK retK retG retI loopV Plain CallOK CallIn bodied VS vcAny dropG backK brK loopPK IntKind.wrap
attribute [local irreducible] replyF replyT replyB heldE tellV tellB prfFault prfRoot
set_option maxRecDepth 100000
set_option maxHeartbeats 1000000
theorem servetell_ok (h : Head) (p : Prf) (a : Lay) (hw : p.wf) {F : Hp} (hf : p.at F a) : Plain Tryz.prog F 9 [repV h p a] (triple (S (replyT h p)) (.bool (replyB h p)) (i64 (replyF h p))) := by
  refine plain_vc (N := 21) (rv := [.tmp 2, .tmp 3, .tmp 4]) tbok mixed Tryz.func9 rfl rfl rfl rfl rfl ?_
  (refine run ?_; repeat intro b)
  refine s_plain _ rfl rfl rfl bd44 rfl (headcheck_ok h F) ?_
  (refine run ?_; repeat intro b)
  refine s_if (decide (h.fault ≠ 0)) ?_ (fun h0 => ?_) (fun h0 => ?_)
  · refine congrArg (fun b => some (EV.v (.bool b))) ?_
    rw [Bool.eq_iff_iff]; simp
  · have h0 := of_decide_eq_true h0
    have e1 : replyF h p = h.fault := by unfold replyF; rw [if_pos h0]
    have e2 : replyT h p = [] := by unfold replyT; rw [if_neg (by rw [e1]; exact h0)]
    have e3 : replyB h p = false := by unfold replyB; rw [decide_eq_false (by rw [e1]; exact h0)]; rfl
    rw [e1, e2, e3]
    (refine run ?_; repeat intro b)
    rfl
  · have h0 : h.fault = 0 := by have := of_decide_eq_false h0; omega
    obtain ⟨e1, e2, e3⟩ := reply_tell (p := p) h0
    rw [e1, e2, e3]
    (refine run ?_; repeat intro b)
    refine s_plain _ rfl rfl rfl bd45 rfl (tell_ok h.root p a hw hf) ?_
    (refine run ?_; repeat intro b)
    rfl
theorem refreplyfault_ok (h : Head) (p : Prf) (a : Lay) (hw : p.wf) {F : Hp} (hf : p.at F a) : Plain Tryz.prog F 10 [repV h p a] (i64 (replyF h p)) := by
  refine plain_vc (N := 24) (rv := [.tmp 2]) tbok mixed Tryz.func10 rfl rfl rfl rfl rfl ?_
  (refine run ?_; repeat intro b)
  refine s_plain _ rfl rfl rfl bd46 rfl (reffault_ok h F) ?_
  (refine run ?_; repeat intro b)
  refine s_if (decide (h.fault ≠ 0)) ?_ (fun h0 => ?_) (fun h0 => ?_)
  · refine congrArg (fun b => some (EV.v (.bool b))) ?_
    rw [Bool.eq_iff_iff]; simp
  · have h0 := of_decide_eq_true h0
    have e1 : replyF h p = h.fault := by unfold replyF; rw [if_pos h0]
    rw [e1]
    (refine run ?_; repeat intro b)
    rfl
  · have h0 : h.fault = 0 := by have := of_decide_eq_false h0; omega
    obtain ⟨_, _, e3⟩ := reply_tell (p := p) h0
    rw [e3]
    (refine run ?_; repeat intro b)
    refine s_plain _ rfl rfl rfl bd47 rfl (prooffault_ok p a hw hf) ?_
    (refine run ?_; repeat intro b)
    refine s_if (decide (prfFault p ≠ 0)) ?_ (fun h1 => ?_) (fun h1 => ?_)
    · refine congrArg (fun b => some (EV.v (.bool b))) ?_
      rw [Bool.eq_iff_iff]; simp
    · have h1 := of_decide_eq_true h1
      have e1 : heldE h.root p = prfFault p := by unfold heldE; rw [if_pos h1]
      rw [e1]
      (refine run ?_; repeat intro b)
      rfl
    · have h1 : prfFault p = 0 := by have := of_decide_eq_false h1; omega
      have e1 : heldE h.root p = if prfRoot p ≠ h.root then 8 else 0 := by unfold heldE; rw [if_neg (by simpa using h1)]
      rw [e1]
      (refine run ?_; repeat intro b)
      refine s_regiond (by kernel_rfl) ?_
      (refine run ?_; repeat intro b)
      refine s_plain _ rfl rfl rfl bd48 rfl (refproofroot_ok p a hw h1 hf) ?_
      (refine run ?_; repeat intro b)
      refine s_if (decide (prfRoot p ≠ h.root)) ?_ (fun h2 => ?_) (fun h2 => ?_)
      · refine congrArg (fun b => some (EV.v (.bool b))) ?_
        rw [Bool.eq_iff_iff]; simp; omega
      · rw [if_pos (of_decide_eq_true h2)]
        (refine run ?_; repeat intro b)
        rfl
      · rw [if_neg (of_decide_eq_false h2)]
        (refine run ?_; repeat intro b)
        rfl
end Go.Proofs.YthkkgphjjmhglaaGreatDoor
/-!
A proof that is made: it holds for the book's root, and tells what the book tells.
-/
namespace Go.Proofs.YthkkgphjjmhglaaGreatDoor
set_option linter.unusedVariables false
set_option linter.unusedSimpArgs false
open Go.TR
end Go.Proofs.YthkkgphjjmhglaaGreatDoor
/-!
Package serve: Look, Heads: the walks.
-/
namespace Go.Proofs.YthkkgphjjmhglaaGreatDoor
set_option linter.unusedVariables false
set_option linter.unusedSimpArgs false
open Go.TR
def lookE (c : Clerk) (n : List UInt8) (k : Int) : Int := if bookE c k ≠ 0 then bookE c k else makeE (bookO c k) n
def lookH (c : Clerk) (n : List UInt8) (k : Int) : Head := if lookE c n k = 0 then c.heads.getD k.toNat Head.none else Head.none
def lookP (c : Clerk) (n : List UInt8) (k : Int) : Prf := if lookE c n k = 0 then makeP (bookO c k) n else Prf.none
def headsE (c : Clerk) (f t : Int) : Int := if clerkF c ≠ 0 then clerkF c else partE c.heads f t
def headsO (c : Clerk) (f t : Int) : List Head := if headsE c f t = 0 then partL c.heads f t else []
theorem look_bad {c : Clerk} {n : List UInt8} {k : Int} (h : lookE c n k ≠ 0) : lookH c n k = Head.none ∧ lookP c n k = Prf.none := by
  unfold lookH lookP
  rw [if_neg h, if_neg h]
  exact ⟨rfl, rfl⟩
theorem look_good {c : Clerk} {n : List UInt8} {k : Int} (h : lookE c n k = 0) : lookH c n k = c.heads.getD k.toNat Head.none ∧ lookP c n k = makeP (bookO c k) n := by
  unfold lookH lookP
  rw [if_pos h, if_pos h]
  exact ⟨rfl, rfl⟩
theorem prf_none_at (F : Hp) : Prf.none.at F ⟨none, 0, none, 0⟩ := ⟨frow_nil _ _, frow_nil _ _⟩
theorem bookE_in {c : Clerk} {n : Int} (h : bookE c n = 0) : clerkF c = 0 ∧ 0 ≤ n ∧ n < (c.books.length : Int) := by
  unfold bookE at h
  split at h
  · rename_i h0; exact absurd h h0
  · rename_i h0
    split at h
    · cases h
    · rename_i h1
      exact ⟨Classical.not_not.1 h0, by omega, by omega⟩
theorem bookO_get {c : Clerk} {n : Int} (h : bookE c n = 0) : ∃ k : Nat, n = (k : Int) ∧ ∃ hk : k < c.books.length, bookO c n = c.books[k] := by
  obtain ⟨_, h1, h2⟩ := bookE_in h
  refine ⟨n.toNat, by omega, by omega, ?_⟩
  unfold bookO
  rw [if_pos h]
  simp [List.getD, show n.toNat < c.books.length by omega]
theorem bookO_small {c : Clerk} (hw : c.wf) (n : Int) : (bookO c n).length ≤ 4398046511104 ∧ ∀ x ∈ bookO c n, x.wf := by
  by_cases h : bookE c n = 0
  · obtain ⟨k, _, hk, e⟩ := bookO_get h
    rw [e]
    exact hw.books _ (List.getElem_mem hk)
  · unfold bookO
    rw [if_neg h]
    exact ⟨by decide, fun x hx => by cases hx⟩
attribute [local irreducible] vc vcOps seqK blockK loopK retK retG retI loopV Plain CallOK CallIn bodied VS vcAny dropG backK brK loopPK IntKind.wrap
attribute [local irreducible] bookFault lvlN lastH clerkF chainF bookE bookO makeE makeP madeP partE partL lookE lookH lookP headsE headsO
set_option maxRecDepth 100000
set_option maxHeartbeats 4000000
theorem servelook_ok (c : Clerk) (l : CLay) (n : List UInt8) (k : Int) (hw : c.wf) (hn : n.length ≤ 4611686018427387904) (hk : -9223372036854775808 ≤ k ∧ k ≤ 9223372036854775807) {F : Hp} (ha : c.at F l) :
    CallF Tryz.prog F 7 [c.v l, S n, i64 k] (fun y F' => ∃ a, y = pair (repV (lookH c n k) (lookP c n k) a) (i64 (lookE c n k)) ∧ (lookP c n k).at F' a) := by
  refine CallOK.drop (call_vc (N := 38) (rv := [.cell 6 37, .tmp 7]) tbok mixed Tryz.func7 rfl rfl rfl rfl rfl ?_)
  (refine run ?_; repeat intro b)
  refine s_callF rfl rfl rfl bd20 rfl (clerkbook_ok c l k hw hk ha) ?_
  rintro _ F1 hF1 ⟨p1, c1, rfl, hf1⟩
  (refine run ?_; repeat intro b)
  refine s_if (decide (bookE c k ≠ 0)) ?_ (fun h0 => ?_) (fun h0 => ?_)
  · refine congrArg (fun b => some (EV.v (.bool b))) ?_
    rw [Bool.eq_iff_iff]; simp
  · have h0 := of_decide_eq_true h0
    have e : lookE c n k = bookE c k := by unfold lookE; rw [if_pos h0]
    obtain ⟨e1, e2⟩ := look_bad (c := c) (n := n) (k := k) (by rw [e]; exact h0)
    rw [e, e1, e2]
    (refine run ?_; repeat intro b)
    exact s_retG (VS.id ⟨_, rfl, ⟨none, 0, none, 0⟩, rfl, prf_none_at _⟩)
  have h0 : bookE c k = 0 := by have := of_decide_eq_false h0; omega
  have e : lookE c n k = makeE (bookO c k) n := by unfold lookE; rw [if_neg (by rw [h0]; decide)]
  obtain ⟨b1, b2⟩ := bookO_small hw k
  obtain ⟨g1, g2, g3⟩ := bookE_in h0
  have hG := clerkF_zero g1
  have hlen := hG.lens
  (refine run ?_; repeat intro b)
  refine s_callF rfl rfl rfl bd42 rfl (make_ok (bookO c k) n (by omega) b2 hn hf1) ?_
  rintro _ F2 hF2 ⟨a, rfl, hm⟩
  (refine run ?_; repeat intro b)
  refine s_if (decide (makeE (bookO c k) n ≠ 0)) ?_ (fun h1 => ?_) (fun h1 => ?_)
  · refine congrArg (fun b => some (EV.v (.bool b))) ?_
    rw [Bool.eq_iff_iff]; simp
  · have h1 := of_decide_eq_true h1
    obtain ⟨e1, e2⟩ := look_bad (c := c) (n := n) (k := k) (by rw [e]; exact h1)
    rw [e, e1, e2]
    (refine run ?_; repeat intro b)
    exact s_retG (VS.id ⟨_, rfl, ⟨none, 0, none, 0⟩, rfl, prf_none_at _⟩)
  have h1 : makeE (bookO c k) n = 0 := by have := of_decide_eq_false h1; omega
  obtain ⟨e1, e2⟩ := look_good (c := c) (n := n) (k := k) (by rw [e]; exact h1)
  obtain ⟨j, rfl⟩ : ∃ j : Nat, k = (j : Int) := ⟨k.toNat, by omega⟩
  have hj : j < c.heads.length := by omega
  have e3 : c.heads.getD j Head.none = c.heads[j] := by simp [List.getD, hj]
  rw [Int.toNat_natCast, e3] at e1
  have hfh := frow_sub (hF1.trans hF2) ha.h
  obtain ⟨o1, o2⟩ := frow_agg head_row (by decide) hfh j hj
  rw [e, e1, e2, h1]
  generalize c.heads[j] = hd at o2
  (refine run ?_; repeat intro b)
  refine s_regiont 7 (by kernel_rfl) rfl rfl ?_
  (refine run ?_; repeat intro b)
  refine s_pureO rfl rfl rfl ⟨by omega, by omega, frow_some hfh (j := j * 4) (by rw [flat_len head_row]; omega)⟩ ?_
  refine s_loadA hd.row rfl rfl rfl rfl rfl (by rw [Int.toNat_natCast]; exact o1) (by rw [Int.toNat_natCast]; exact o2) ?_
  (refine run ?_; repeat intro b)
  exact s_retG (VS.id ⟨_, rfl, a, rfl, hm⟩)
theorem serveheads_ok (c : Clerk) (l : CLay) (f t : Int) (hw : c.wf) {F : Hp} (ha : c.at F l) :
    CallF Tryz.prog F 8 [c.v l, i64 f, i64 t] (fun y F' => ∃ p' c', y = pair (.slice p' (headsO c f t).length c') (i64 (headsE c f t)) ∧ (headsO c f t).length ≤ c' ∧ Frow F' p' ((headsO c f t).flatMap Head.row)) := by
  refine CallOK.drop (call_vc (N := 21) (rv := [.tmp 6, .tmp 7]) tbok mixed Tryz.func8 rfl rfl rfl rfl rfl ?_)
  (refine run ?_; repeat intro b)
  refine s_plain _ rfl rfl rfl bd23 rfl (clerkcheck_ok c l hw ha) ?_
  (refine run ?_; repeat intro b)
  refine s_if (decide (clerkF c ≠ 0)) ?_ (fun h0 => ?_) (fun h0 => ?_)
  · refine congrArg (fun b => some (EV.v (.bool b))) ?_
    rw [Bool.eq_iff_iff]; simp
  · have h0 := of_decide_eq_true h0
    have e : headsE c f t = clerkF c := by unfold headsE; rw [if_pos h0]
    have e1 : headsO c f t = [] := by unfold headsO; rw [if_neg (by rw [e]; exact h0)]
    rw [e, e1]
    (refine run ?_; repeat intro b)
    exact s_retG (VS.id ⟨_, rfl, none, 0, rfl, Nat.le_refl _, frow_nil _ _⟩)
  have h0 : clerkF c = 0 := by have := of_decide_eq_false h0; omega
  have hG := clerkF_zero h0
  have hlen := hG.lens
  have e : headsE c f t = partE c.heads f t := by unfold headsE; rw [if_neg (by rw [h0]; decide)]
  have e1 : headsO c f t = partL c.heads f t := by
    unfold headsO
    rw [e]
    split
    · rfl
    · rename_i h1
      unfold partL
      rw [if_neg h1]
  rw [e, e1]
  (refine run ?_; repeat intro b)
  refine s_callF rfl rfl rfl bd43 rfl (chainpart_ok c.heads f t (by omega) hw.heads ha.ch ha.h) ?_
  rintro _ F2 hF2 ⟨p2, c2, rfl, hc2, hf2⟩
  (refine run ?_; repeat intro b)
  exact s_retG (VS.id ⟨_, rfl, p2, c2, rfl, hc2, hf2⟩)
end Go.Proofs.YthkkgphjjmhglaaGreatDoor
