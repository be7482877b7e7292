/-
Package tree: At, Root; tallyrollref.GoodPrefix, PrefixMark: the walks.
-/
import Derived.Test.YthkkgphjjmhglaaGreatDoorTreeAt
import Derived.Test.YthkkgphjjmhglaaGreatDoorTrim
import Derived.Test.YthkkgphjjmhglaaGreatDoorSetFwD
/-!
Package tree: At, Root; tallyrollref.GoodPrefix, PrefixMark: the walks.
-/
namespace Go.Proofs.YthkkgphjjmhglaaGreatDoor
set_option linter.unusedVariables false
set_option linter.unusedSimpArgs false
open Go.TR
/-- Is it a prefix of a path's form? -/
def goodPre (s : List UInt8) : Bool := s.all (inS [48, 49]) && decide (s.length ≤ 16)
/-- The mark at a prefix, or an error. -/
def atE (l : List Entry) (s : List UInt8) : Int := if bookFault l ≠ 0 then bookFault l else if goodPre s = true then 0 else 3
def atO (l : List Entry) (s : List UInt8) : Nat := if atE l s = 0 then lvlN l s else 0
theorem at_bad {l : List Entry} {s : List UInt8} {e : Int} (h : atE l s = e) (he : e ≠ 0) : atO l s = 0 := by unfold atO; rw [h, if_neg he]
theorem atE_fault {l : List Entry} (s : List UInt8) (h : bookFault l ≠ 0) : atE l s = bookFault l := if_pos h
theorem atE_book {l : List Entry} (s : List UInt8) (h : bookFault l = 0) : atE l s = if goodPre s = true then 0 else 3 := if_neg (by rw [h]; decide)
theorem at_good {l : List Entry} {s : List UInt8} (h : bookFault l = 0) (hs : goodPre s = true) : atE l s = 0 ∧ atO l s = lvlN l s := by
  have e : atE l s = 0 := by rw [atE_book s h, if_pos hs]
  exact ⟨e, by unfold atO; rw [if_pos e]⟩
theorem at_form {l : List Entry} {s : List UInt8} (h : bookFault l = 0) (hs : goodPre s = false) : atE l s = 3 ∧ atO l s = 0 := by
  have e : atE l s = 3 := by rw [atE_book s h, if_neg (by rw [hs]; decide)]
  exact ⟨e, at_bad e (by decide)⟩
theorem goodPre_len {s : List UInt8} (h : goodPre s = true) : s.length ≤ 16 := by
  unfold goodPre at h
  rw [Bool.and_eq_true] at h
  exact of_decide_eq_true h.2
theorem goodPre_trim (s : List UInt8) : (decide (16 < s.length) || !decide (trimL (inS [48, 49]) (trimR (inS [48, 49]) s) = [])) = !goodPre s := by
  unfold goodPre
  rw [Bool.eq_iff_iff]
  simp only [Bool.or_eq_true, decide_eq_true_eq, Bool.not_eq_true', decide_eq_false_iff_not, Bool.and_eq_false_iff, trim_nil]
  cases s.all (inS [48, 49]) <;> simp <;> omega
theorem at_lvlN {l : List Entry} {s : List UInt8} (hg : ∀ x ∈ l, goodName x.name = true) (h : s.length ≤ 16) : atN (16 - s.length) (undN l s) s = lvlN l s := atN_lvl hg _ s (by omega)
attribute [local irreducible] vc vcOps seqK blockK loopK retK retG retI loopV Plain CallOK CallIn bodied VS vcAny dropG backK brK loopPK IntKind.wrap
attribute [local irreducible] goodPre inS trimL trimR bookFault lvlN lvlM begun atN undN noneM markN
set_option maxRecDepth 100000
set_option maxHeartbeats 2000000
theorem treeAt_ok (l : List Entry) (s : List UInt8) (hl : l.length ≤ 4611686018427387904) (hw : ∀ x ∈ l, x.wf) (hs : s.length ≤ 4611686018427387904) {p : Option Addr} {c : Nat} {F : Hp} (hf : Frow F p (l.flatMap Entry.row)) : Plain Tryz.prog F 81 [.slice p l.length c, S s] (pair (mu (atO l s)) (i64 (atE l s))) := by
  refine plain_vc (N := 25) (rv := [.tmp 4, .tmp 5]) tbok mixed Tryz.func81 rfl rfl rfl rfl rfl ?_
  (refine run ?_; repeat intro b)
  refine s_plain _ rfl rfl rfl bd82 rfl (treecheck_ok l hl hw hf) ?_
  rcases bookFault_cases l with h0 | h0 | h0
  · obtain ⟨h24, hgood, _⟩ := bookFault_zero h0
    rw [h0]
    (refine run ?_; repeat intro b)
    refine s_gplain _ rfl rfl rfl rfl bd125 rfl rfl (fun _ => trim_ok s hs F) ?_
    (refine run ?_; repeat intro b)
    refine s_if (!goodPre s) ?_ (fun h => ?_) (fun h => ?_)
    · refine congrArg (fun b => some (EV.v (.bool b))) ?_
      rw [bpick_or, ← goodPre_trim]
      have e1 : decide ((16 : Int) < (((bl (mkB s)).length : Nat) : Int)) = decide (16 < s.length) := by rw [decide_eq_decide, bl_S]; omega
      rw [e1]
      rfl
    · rw [Bool.not_eq_true'] at h
      obtain ⟨e1, e2⟩ := at_form h0 h
      rw [e1, e2]
      (refine run ?_; repeat intro b)
      rfl
    · rw [Bool.not_eq_false'] at h
      obtain ⟨e1, e2⟩ := at_good (s := s) h0 h
      rw [e1, e2]
      have h16 := goodPre_len h
      (refine run ?_; repeat intro b)
      refine s_callF rfl rfl rfl bd127 rfl (under_ok l s h24 hw hf) ?_
      rintro _ F1 hF1 ⟨p1, c1, rfl, hf1⟩
      (refine run ?_; repeat intro b)
      have hul := undN_len l s
      refine s_plain _ rfl rfl rfl bd126 rfl (treeat_ok (16 - s.length) (undN l s) s (by omega) (by omega) (fun x hx => hw x (undN_sub hx)) hf1) ?_
      rw [at_lvlN (fun x hx => (hgood x hx).1) h16]
      (refine run ?_; repeat intro b)
      rfl
  · rw [atE_fault s (by rw [h0]; decide), at_bad (atE_fault s (by rw [h0]; decide)) (by rw [h0]; decide), h0]
    (refine run ?_; repeat intro b)
    rfl
  · rw [atE_fault s (by rw [h0]; decide), at_bad (atE_fault s (by rw [h0]; decide)) (by rw [h0]; decide), h0]
    (refine run ?_; repeat intro b)
    rfl
end Go.Proofs.YthkkgphjjmhglaaGreatDoor
/-!
A small program logic of our own: contracts turned into other contracts.
-/
set_option linter.unusedVariables false
set_option linter.unusedSimpArgs false
namespace Go.TR
theorem CallF.mono' {P : Program} {F : Hp} {f : FuncId} {args : List Value} {Q Q' : Value → Hp → Prop} (h : CallF P F f args Q) (hq : ∀ x F', F.sub F' → Q x F' → Q' x F') : CallF P F f args Q' := fun w hw => by
  refine (h w hw).mono fun e w' hh => ?_
  obtain ⟨x, F', new, h1, h2, h3, h4, h5, h6, h7, h8, h9⟩ := hh
  exact ⟨x, F', new, h1, h2, h3, h4, h5, h6, h7, h8, hq x F' h2 h9⟩
end Go.TR
