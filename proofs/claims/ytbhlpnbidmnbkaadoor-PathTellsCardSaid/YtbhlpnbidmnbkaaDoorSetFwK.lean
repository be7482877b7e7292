/-
Package tree: At, Root; tallyrollref.GoodPrefix, PrefixMark: the walks.
-/
import Derived.Test.YtbhlpnbidmnbkaaDoorTreeAt
import Derived.Test.YtbhlpnbidmnbkaaDoorTrim
import Derived.Test.YtbhlpnbidmnbkaaDoorFwD
/-!
Package tree: At, Root; tallyrollref.GoodPrefix, PrefixMark: the walks.
-/
namespace Go.Proofs.YtbhlpnbidmnbkaaDoor
set_option linter.unusedVariables false
set_option linter.unusedSimpArgs false
open Go.TR
/-- Is it a prefix of a path's form? -/
def goodPre (s : List UInt8) : Bool := s.all (inS [48, 49]) && decide (s.length ≤ 16)
theorem inS_val (c : UInt8) : inS [48, 49] c = ((c.toNat : Int) == 48 || (c.toNat : Int) == 49) := by
  unfold inS
  rw [Bool.eq_iff_iff]
  simp
  omega
/-- The mark at a prefix, or an error. -/
def atE (l : List Entry) (s : List UInt8) : Int := if bookFault l ≠ 0 then bookFault l else if goodPre s = true then 0 else 3
def atO (l : List Entry) (s : List UInt8) : Nat := if atE l s = 0 then lvlN l s else 0
theorem at_bad {l : List Entry} {s : List UInt8} {e : Int} (h : atE l s = e) (he : e ≠ 0) : atO l s = 0 := by unfold atO; rw [h, if_neg he]
theorem atE_fault {l : List Entry} (s : List UInt8) (h : bookFault l ≠ 0) : atE l s = bookFault l := if_pos h
theorem atE_book {l : List Entry} (s : List UInt8) (h : bookFault l = 0) : atE l s = if goodPre s = true then 0 else 3 := if_neg (by rw [h]; decide)
theorem at_good {l : List Entry} {s : List UInt8} (h : bookFault l = 0) (hs : goodPre s = true) : atE l s = 0 ∧ atO l s = lvlN l s := by
  have e : atE l s = 0 := by rw [atE_book s h, if_pos hs]
  exact ⟨e, by unfold atO; rw [if_pos e]⟩
theorem at_form {l : List Entry} {s : List UInt8} (h : bookFault l = 0) (hs : goodPre s = false) : atE l s = 3 ∧ atO l s = 0 := by
  have e : atE l s = 3 := by rw [atE_book s h, if_neg (by rw [hs]; decide)]
  exact ⟨e, at_bad e (by decide)⟩
theorem goodPre_nil : goodPre [] = true := by decide
theorem goodPre_no {s : List UInt8} {k : Nat} (h : k < s.length) (ha : (s.take (k + 1)).all (inS [48, 49]) = false) : goodPre s = false := by
  unfold goodPre
  have : s.all (inS [48, 49]) = false := by
    cases hc : s.all (inS [48, 49]) with
    | false => rfl
    | true =>
      rw [List.all_eq_true] at hc
      have : (s.take (k + 1)).all (inS [48, 49]) = true := by
        rw [List.all_eq_true]
        exact fun x hx => hc x (List.mem_of_mem_take hx)
      rw [ha] at this
      cases this
  rw [this, Bool.false_and]
theorem goodPre_all {s : List UInt8} (h : s.all (inS [48, 49]) = true) : goodPre s = decide (s.length ≤ 16) := by unfold goodPre; rw [h, Bool.true_and]
theorem goodPre_len {s : List UInt8} (h : goodPre s = true) : s.length ≤ 16 := by
  unfold goodPre at h
  rw [Bool.and_eq_true] at h
  exact of_decide_eq_true h.2
theorem goodPre_trim (s : List UInt8) : (decide (16 < s.length) || !decide (trimL (inS [48, 49]) (trimR (inS [48, 49]) s) = [])) = !goodPre s := by
  unfold goodPre
  rw [Bool.eq_iff_iff]
  simp only [Bool.or_eq_true, decide_eq_true_eq, Bool.not_eq_true', decide_eq_false_iff_not, Bool.and_eq_false_iff, trim_nil]
  cases s.all (inS [48, 49]) <;> simp <;> omega
theorem at_lvlN {l : List Entry} {s : List UInt8} (hg : ∀ x ∈ l, goodName x.name = true) (h : s.length ≤ 16) : atN (16 - s.length) (undN l s) s = lvlN l s := atN_lvl hg _ s (by omega)
attribute [local irreducible] vc vcOps seqK blockK loopK retK retG retI loopV Plain CallOK CallIn bodied VS vcAny dropG backK brK loopPK IntKind.wrap
attribute [local irreducible] goodPre inS trimL trimR bookFault lvlN lvlM begun atN undN noneM markN
set_option maxRecDepth 100000
set_option maxHeartbeats 2000000
theorem goodprefix_ok (s : List UInt8) (hs : s.length ≤ 4611686018427387904) (F : Hp) : Plain Tryd.prog F 13 [S s] (.bool (goodPre s)) := by
  refine plain_vc (N := 23) (rv := [.tmp 2]) tbok mixed Tryd.func13 rfl rfl rfl rfl rfl ?_
  (refine run ?_; repeat intro b)
  refine s_loopP (fun k : Nat => k ≤ s.length ∧ (s.take k).all (inS [48, 49]) = true) (fun k => ⟨[(0, .v (S s)), (5, .v (i64 (s.length : Nat))), (6, .v (i64 (k : Nat)))], F, [], 0⟩) (fun k => s.length - k) 0 ⟨Nat.zero_le _, rfl⟩ (VS.keepN [0, 5, 6] rfl rfl) ?_
  rintro k ⟨hk, hall⟩
  by_cases hlt : k < s.length
  · have hget : (bl (mkB s)).getD ((k : Nat) : Int).toNat 0 = s[k] := by rw [bl_S, Int.toNat_natCast]; simp [List.getD, hlt]
    have ht : (s.take (k + 1)).all (inS [48, 49]) = inS [48, 49] s[k] := by rw [List.take_succ_eq_append_getElem hlt, List.all_append, hall]; simp
    (refine run ?_; repeat intro b)
    refine s_if true (by rw [← decide_eq_true (p := ((k : Nat) : Int) < ((s.length : Nat) : Int)) (by omega)]; rfl) (fun _ => ?_) (fun h => by cases h)
    (refine run ?_; repeat intro b)
    refine s_pureO rfl rfl rfl ⟨by omega, by rw [bl_S]; omega⟩ ?_
    rw [hget]
    (refine run ?_; repeat intro b)
    refine s_gpureO rfl rfl rfl rfl rfl (fun hg => ⟨by omega, by rw [bl_S]; omega⟩) ?_
    rw [hget]
    (refine run ?_; repeat intro b)
    refine s_if (!inS [48, 49] s[k]) ?_ (fun h => ?_) (fun h => ?_)
    · refine congrArg (fun b => some (EV.v (.bool b))) ?_
      rw [bpick_and, inS_val, Bool.not_or]
      rfl
    · have e : goodPre s = false := by
        rw [Bool.not_eq_true'] at h
        rw [h] at ht
        exact goodPre_no hlt ht
      rw [e]
      (refine run ?_; repeat intro b)
      rfl
    · rw [Bool.not_eq_false'] at h
      rw [h] at ht
      (refine run ?_; repeat intro b)
      rw [wrap_succ (by omega)]
      exact s_loopPn (k + 1) ⟨hlt, ht⟩ (by omega) (VS.keepN [0, 5, 6] rfl rfl)
  · have hge : k = s.length := by omega
    subst hge
    rw [List.take_length] at hall
    (refine run ?_; repeat intro b)
    refine s_if false (by rw [← decide_eq_false (p := ((s.length : Nat) : Int) < ((s.length : Nat) : Int)) (by omega)]; rfl) (fun h => by cases h) (fun _ => ?_)
    (refine run ?_; repeat intro b)
    have e1 : decide ((((bl (mkB s)).length : Nat) : Int) ≤ 16) = goodPre s := by rw [goodPre_all hall, decide_eq_decide, bl_S]; omega
    rw [e1]
    rfl
theorem treeAt_ok (l : List Entry) (s : List UInt8) (hl : l.length ≤ 4611686018427387904) (hw : ∀ x ∈ l, x.wf) (hs : s.length ≤ 4611686018427387904) {p : Option Addr} {c : Nat} {F : Hp} (hf : Frow F p (l.flatMap Entry.row)) : Plain Tryd.prog F 7 [.slice p l.length c, S s] (pair (mu (atO l s)) (i64 (atE l s))) := by
  refine plain_vc (N := 25) (rv := [.tmp 4, .tmp 5]) tbok mixed Tryd.func7 rfl rfl rfl rfl rfl ?_
  (refine run ?_; repeat intro b)
  refine s_plain _ rfl rfl rfl bd29 rfl (treecheck_ok l hl hw hf) ?_
  rcases bookFault_cases l with h0 | h0 | h0
  · obtain ⟨h24, hgood, _⟩ := bookFault_zero h0
    rw [h0]
    (refine run ?_; repeat intro b)
    refine s_gplain _ rfl rfl rfl rfl bd32 rfl rfl (fun _ => trim_ok s hs F) ?_
    (refine run ?_; repeat intro b)
    refine s_if (!goodPre s) ?_ (fun h => ?_) (fun h => ?_)
    · refine congrArg (fun b => some (EV.v (.bool b))) ?_
      rw [bpick_or, ← goodPre_trim]
      have e1 : decide ((16 : Int) < (((bl (mkB s)).length : Nat) : Int)) = decide (16 < s.length) := by rw [decide_eq_decide, bl_S]; omega
      rw [e1]
      rfl
    · rw [Bool.not_eq_true'] at h
      obtain ⟨e1, e2⟩ := at_form h0 h
      rw [e1, e2]
      (refine run ?_; repeat intro b)
      rfl
    · rw [Bool.not_eq_false'] at h
      obtain ⟨e1, e2⟩ := at_good (s := s) h0 h
      rw [e1, e2]
      have h16 := goodPre_len h
      (refine run ?_; repeat intro b)
      refine s_callF rfl rfl rfl bd34 rfl (under_ok l s h24 hw hf) ?_
      rintro _ F1 hF1 ⟨p1, c1, rfl, hf1⟩
      (refine run ?_; repeat intro b)
      have hul := undN_len l s
      refine s_plain _ rfl rfl rfl bd33 rfl (treeat_ok (16 - s.length) (undN l s) s (by omega) (by omega) (fun x hx => hw x (undN_sub hx)) hf1) ?_
      rw [at_lvlN (fun x hx => (hgood x hx).1) h16]
      (refine run ?_; repeat intro b)
      rfl
  · rw [atE_fault s (by rw [h0]; decide), at_bad (atE_fault s (by rw [h0]; decide)) (by rw [h0]; decide), h0]
    (refine run ?_; repeat intro b)
    rfl
  · rw [atE_fault s (by rw [h0]; decide), at_bad (atE_fault s (by rw [h0]; decide)) (by rw [h0]; decide), h0]
    (refine run ?_; repeat intro b)
    rfl
theorem treeroot_ok (l : List Entry) (hl : l.length ≤ 4611686018427387904) (hw : ∀ x ∈ l, x.wf) {p : Option Addr} {c : Nat} {F : Hp} (hf : Frow F p (l.flatMap Entry.row)) : Plain Tryd.prog F 8 [.slice p l.length c] (pair (mu (atO l [])) (i64 (atE l []))) := by
  refine plain_vc (N := 8) (rv := [.tmp 2, .tmp 3]) tbok mixed Tryd.func8 rfl rfl rfl rfl rfl ?_
  (refine run ?_; repeat intro b)
  refine s_plain _ rfl rfl rfl bd7 rfl (treeAt_ok l [] hl hw (by decide) hf) ?_
  (refine run ?_; repeat intro b)
  rfl
theorem prefixmark_ok (l : List Entry) (s : List UInt8) (hl : l.length ≤ 24) (hw : ∀ x ∈ l, x.wf) {p : Option Addr} {c : Nat} {F : Hp} (hf : Frow F p (l.flatMap Entry.row)) : Plain Tryd.prog F 12 [.slice p l.length c, S s] (mu (lvlN l s)) := by
  refine plain_vc (N := 17) (rv := [.tmp 4]) tbok mixed Tryd.func12 rfl rfl rfl rfl rfl ?_
  (refine run ?_; repeat intro b)
  refine s_callF rfl rfl rfl bd38 rfl (levels_ok l hl hw hf) ?_
  rintro _ F1 hF1 ⟨b0, es, clock, rfl, hb, hM⟩
  (refine run ?_; repeat intro b)
  refine s_lookup (lvlM l (begun l)) s und_map und_key rfl rfl zero_u64 rfl hb hM ?_
  rw [if_pos rfl]
  cases hg : begun l s with
  | true =>
    rw [lvlM_yes hg]
    (refine run ?_; repeat intro b)
    rfl
  | false =>
    rw [lvlM_no hg, lvlN_none hg]
    (refine run ?_; repeat intro b)
    refine s_plain _ rfl rfl rfl bd36 rfl (refmark_none F1) ?_
    (refine run ?_; repeat intro b)
    rfl
end Go.Proofs.YtbhlpnbidmnbkaaDoor
/-!
A small program logic of our own: contracts turned into other contracts.
-/
set_option linter.unusedVariables false
set_option linter.unusedSimpArgs false
namespace Go.TR
theorem plain_toF {P : Program} {F : Hp} {f : FuncId} {args : List Value} {x : Value} (h : Plain P F f args x) : CallF P F f args fun y F' => y = x ∧ F' = F := fun w hw => by
  refine (h w hw).mono fun e w' ⟨he, pr⟩ => ?_
  refine ⟨x, F, [], he, Hp.sub.refl F, fun k o hk => ?_, pr, fun k hk => .inl hk, ⟨fun id r hr => by simp [lkR] at hr, fun i j r s b hi => by simp [lkR] at hi⟩, fun id r b hr => by simp [lkR] at hr, rfl, rfl, rfl⟩
  have h1 := hw k o hk
  rw [pr.block k (by rcases Nat.lt_or_ge k w.heap.size with h | h; exact h; rw [Array.getElem?_eq_none h] at h1; cases h1) (by simp)]
  exact h1
theorem CallF.mono' {P : Program} {F : Hp} {f : FuncId} {args : List Value} {Q Q' : Value → Hp → Prop} (h : CallF P F f args Q) (hq : ∀ x F', F.sub F' → Q x F' → Q' x F') : CallF P F f args Q' := fun w hw => by
  refine (h w hw).mono fun e w' hh => ?_
  obtain ⟨x, F', new, h1, h2, h3, h4, h5, h6, h7, h8, h9⟩ := hh
  exact ⟨x, F', new, h1, h2, h3, h4, h5, h6, h7, h8, hq x F' h2 h9⟩
end Go.TR
