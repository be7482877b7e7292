/-
Package owner: Check, New; tallyrollref.OwnerFault.
-/
import Derived.Test.YteahoodopphacaaGreatSetOwnerMath
import Derived.Test.YteahoodopphacaaGreatIdxFunc
import Derived.Test.YteahoodopphacaaGreatSetBits
namespace Go.Proofs.YteahoodopphacaaGreat
set_option linter.unusedVariables false
set_option linter.unusedSimpArgs false
open Go.TR
theorem ifPos {α : Type} {p : Prop} [Decidable p] {a b : α} (h : p) : (if p then a else b) = a := if_pos h
theorem goodName_S {s : List UInt8} (h : s.length ≤ 4611686018427387904) : s.length ≤ 4611686018427387904 := h
theorem longB_int (s : List UInt8) : decide ((20 : Int) < ((s.length : Nat) : Int)) = longB s := by
  unfold longB
  rw [Bool.eq_iff_iff, decide_eq_true_eq, decide_eq_true_eq]
  omega
theorem any_take_succ {α : Type} {f : α → Bool} {l : List α} {k : Nat} (hk : k < l.length) (h : (l.take k).any f = false) (h2 : f l[k] = false) : (l.take (k + 1)).any f = false := by
  rw [List.take_succ_eq_append_getElem hk, List.any_append, h]
  simp [h2]
attribute [local irreducible] vc vcOps seqK blockK loopK retK retG retI loopV Plain CallOK CallIn bodied VS vcAny dropG backK brK loopPK IntKind.wrap
set_option maxRecDepth 100000
theorem long_ok (s : List UInt8) (F : Hp) : Plain Tryz.prog F 13 [S s] (.bool (longB s)) := by
  refine plain_vc (N := 6) (rv := [.tmp 2]) tbok mixed Tryz.func13 rfl rfl rfl rfl rfl ?_
  (refine run ?_; repeat intro b)
  exact congrArg Value.bool (longB_int s)
set_option maxHeartbeats 2000000 in
theorem ownercheck_ok (o : Ow) (hw : o.wf) {p : Option Addr} {c : Nat} {F : Hp} (hf : Frow F p (o.wanted.map S)) : Plain Tryz.prog F 9 [o.v p c] (i64 (ownF o)) := by
  have hn := hw.name
  have hl := hw.wanted
  refine plain_vc (N := 36) (rv := [.tmp 2]) tbok mixed Tryz.func9 rfl rfl rfl rfl rfl ?_
  (refine run ?_; repeat intro b)
  refine s_plain _ rfl rfl rfl bd20 rfl (name_ok o.name hn F) ?_
  unfold ownF
  cases hg : goodName o.name with
  | false =>
    (refine run ?_; repeat intro b)
    rfl
  | true =>
    rw [if_pos rfl]
    (refine run ?_; repeat intro b)
    refine s_plain _ rfl rfl rfl bd21 rfl (headcheck_ok o.head F) ?_
    (refine run ?_; repeat intro b)
    refine s_if (decide (o.head.fault ≠ 0)) ?_ (fun h0 => ?_) (fun h0 => ?_)
    · refine congrArg (fun b => some (EV.v (.bool b))) ?_
      rw [Bool.eq_iff_iff]; simp
    · rw [if_pos (of_decide_eq_true h0)]
      (refine run ?_; repeat intro b)
      rfl
    · rw [if_neg (of_decide_eq_false h0)]
      (refine run ?_; repeat intro b)
      refine s_gplain _ rfl rfl rfl rfl bd22 rfl rfl (fun _ => strs_has longB _ #[] bd13 o.wanted hf (by omega) (fun x _ => long_ok x F)) ?_
      (refine run ?_; repeat intro b)
      generalize (o.wanted.any longB) = y
      refine s_if (decide (30 < o.wanted.length ∨ y = true)) ?_ (fun h1 => ?_) (fun h1 => ?_)
      · refine congrArg (fun b => some (EV.v (.bool b))) ?_
        rw [bpick_or]
        have e : decide ((30 : Int) < ((o.wanted.length : Nat) : Int)) = decide (30 < o.wanted.length) := by
          rw [Bool.eq_iff_iff, decide_eq_true_eq, decide_eq_true_eq]; omega
        rw [e]
        by_cases hh : 30 < o.wanted.length <;> cases y <;> simp [hh]
      · rw [if_pos (of_decide_eq_true h1)]
        (refine run ?_; repeat intro b)
        rfl
      · rw [if_neg (of_decide_eq_false h1)]
        (refine run ?_; repeat intro b)
        refine s_if (decide (o.had < 0 ∨ (o.wanted.length : Int) < o.had)) ?_ (fun h2 => ?_) (fun h2 => ?_)
        · refine congrArg (fun b => some (EV.v (.bool b))) ?_
          rw [bpick_or, Bool.eq_iff_iff]; simp
        · rw [if_pos (of_decide_eq_true h2)]
          (refine run ?_; repeat intro b)
          rfl
        · rw [if_neg (of_decide_eq_false h2)]
          (refine run ?_; repeat intro b)
          rfl
set_option maxHeartbeats 2000000 in
theorem ownerfault_ok (o : Ow) (hw : o.wf) {p : Option Addr} {c : Nat} {F : Hp} (hf : Frow F p (o.wanted.map S)) : Plain Tryz.prog F 7 [o.v p c] (i64 (ownF o)) := by
  have hn := hw.name
  have hl := hw.wanted
  refine plain_vc (N := 42) (rv := [.tmp 2]) tbok mixed Tryz.func7 rfl rfl rfl rfl rfl ?_
  (refine run ?_; repeat intro b)
  refine s_plain _ rfl rfl rfl bd17 rfl (goodname_ok o.name hn F) ?_
  unfold ownF
  cases hg : goodName o.name with
  | false =>
    (refine run ?_; repeat intro b)
    rfl
  | true =>
    rw [if_pos rfl]
    (refine run ?_; repeat intro b)
    refine s_plain _ rfl rfl rfl bd18 rfl (reffault_ok o.head F) ?_
    (refine run ?_; repeat intro b)
    refine s_if (decide (o.head.fault ≠ 0)) ?_ (fun h0 => ?_) (fun h0 => ?_)
    · refine congrArg (fun b => some (EV.v (.bool b))) ?_
      rw [Bool.eq_iff_iff]; simp
    · rw [if_pos (of_decide_eq_true h0)]
      (refine run ?_; repeat intro b)
      rfl
    · rw [if_neg (of_decide_eq_false h0)]
      (refine run ?_; repeat intro b)
      refine s_if (decide (30 < o.wanted.length)) ?_ (fun h1 => ?_) (fun h1 => ?_)
      · refine congrArg (fun b => some (EV.v (.bool b))) ?_
        rw [Bool.eq_iff_iff]; simp
        omega
      · rw [if_pos (.inl (of_decide_eq_true h1))]
        (refine run ?_; repeat intro b)
        rfl
      · have h1 := of_decide_eq_false h1
        (refine run ?_; repeat intro b)
        refine s_loopP (fun k : Nat => k ≤ o.wanted.length ∧ (o.wanted.take k).any longB = false) (fun k => ⟨[(1, .loc 0 0), (21, .v (.slice p o.wanted.length c)), (22, .v (i64 (o.wanted.length : Nat))), (23, .v (i64 (k : Nat)))], F, [(0, ⟨some b, [.v (S o.name), .v (u64 (o.key : Nat)), .v (i64 o.head.epoch), .v (u64 (o.head.root : Nat)), .v (u64 (o.head.prev : Nat)), .v (i64 o.head.at_), .v (.slice p o.wanted.length c), .v (i64 o.had)], 27, 8⟩)], 1⟩) (fun k => o.wanted.length - k) 0 ⟨Nat.zero_le _, rfl⟩ (VS.keepN [1, 21, 22, 23] rfl rfl) ?_
        rintro k ⟨hk, hany⟩
        by_cases hlt : k < o.wanted.length
        · have hget : Pcell F (padd p (k * 1)) = some (S o.wanted[k]) := by
            have := frow_get hf (j := k) (by simpa using hlt)
            simpa using this
          (refine run ?_; repeat intro b)
          refine s_if true (by rw [← decide_eq_true (p := ((k : Nat) : Int) < ((o.wanted.length : Nat) : Int)) (by omega)]; rfl) (fun _ => ?_) (fun h => by cases h)
          (refine run ?_; repeat intro b)
          refine s_pureO rfl rfl rfl ⟨by omega, by omega, frow_some hf (j := k * 1) (by simpa using hlt)⟩ ?_
          refine s_load (S o.wanted[k]) rfl rfl rfl rfl (by rw [Int.toNat_natCast]; exact hget) ?_
          (refine run ?_; repeat intro b)
          refine s_if (longB o.wanted[k]) (congrArg (fun b => some (EV.v (.bool b))) (longB_int _)) (fun h2 => ?_) (fun h2 => ?_)
          · have ha : o.wanted.any longB = true := List.any_eq_true.2 ⟨_, List.getElem_mem hlt, h2⟩
            rw [if_pos (.inr ha)]
            (refine run ?_; repeat intro b)
            rfl
          · (refine run ?_; repeat intro b)
            rw [wrap_succ (by omega)]
            exact s_loopPn (k + 1) ⟨hlt, any_take_succ hlt hany h2⟩ (by omega) (VS.keepN [1, 21, 22, 23] rfl rfl)
        · have hge : k = o.wanted.length := by omega
          subst hge
          rw [List.take_length] at hany
          rw [if_neg (by rw [not_or]; exact ⟨h1, by rw [hany]; decide⟩)]
          (refine run ?_; repeat intro b)
          refine s_if false (by rw [← decide_eq_false (p := ((o.wanted.length : Nat) : Int) < ((o.wanted.length : Nat) : Int)) (by omega)]; rfl) (fun h => by cases h) (fun _ => ?_)
          (refine run ?_; repeat intro b)
          refine s_if (decide (o.had < 0 ∨ (o.wanted.length : Int) < o.had)) ?_ (fun h2 => ?_) (fun h2 => ?_)
          · refine congrArg (fun b => some (EV.v (.bool b))) ?_
            rw [bpick_or, Bool.eq_iff_iff]; simp
          · rw [if_pos (of_decide_eq_true h2)]
            (refine run ?_; repeat intro b)
            rfl
          · rw [if_neg (of_decide_eq_false h2)]
            (refine run ?_; repeat intro b)
            rfl
/-- A new owner. -/
def Ow.fresh (name : List UInt8) (key : Nat) (h : Head) : Ow := ⟨name, key, h, [], 0⟩
def newO (name : List UInt8) (key : Nat) (h : Head) : Ow := if ownF (Ow.fresh name key h) = 0 then Ow.fresh name key h else Ow.none
theorem ownernew_ok (name : List UInt8) (key : Nat) (h : Head) (hn : name.length ≤ 4611686018427387904) (hk : key < 18446744073709551616) (hh : h.wf) {F : Hp} : Plain Tryz.prog F 4 [S name, u64 (key : Nat), h.v] (pair ((newO name key h).v none 0) (i64 (ownF (Ow.fresh name key h)))) := by
  have hw : (Ow.fresh name key h).wf := ⟨hn, hk, hh, by simp [Ow.fresh], fun s hs => (by simp [Ow.fresh] at hs), by simp [Ow.fresh]⟩
  refine plain_vc (N := 21) (rv := [.cell 6 27, .tmp 7]) tbok mixed Tryz.func4 rfl rfl rfl rfl rfl ?_
  (refine run ?_; repeat intro b)
  refine s_plain _ rfl rfl rfl bd9 rfl (ownercheck_ok (Ow.fresh name key h) hw (p := none) (c := 0) (frow_nil _ _)) ?_
  (refine run ?_; repeat intro b)
  refine s_if (decide (ownF (Ow.fresh name key h) ≠ 0)) ?_ (fun h0 => ?_) (fun h0 => ?_)
  · refine congrArg (fun b => some (EV.v (.bool b))) ?_
    rw [Bool.eq_iff_iff]; simp
  · have h0 := of_decide_eq_true h0
    have e : newO name key h = Ow.none := by unfold newO; rw [if_neg h0]
    rw [e]
    (refine run ?_; repeat intro b)
    rfl
  · have h0 : ownF (Ow.fresh name key h) = 0 := by have := of_decide_eq_false h0; omega
    have e : newO name key h = Ow.fresh name key h := by unfold newO; rw [if_pos h0]
    rw [e, h0]
    (refine run ?_; repeat intro b)
    rfl
end Go.Proofs.YteahoodopphacaaGreat
