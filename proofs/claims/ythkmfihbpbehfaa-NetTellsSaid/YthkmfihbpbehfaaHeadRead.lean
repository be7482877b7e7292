/-
A head read out of bytes.
-/
import Derived.Test.YthkmfihbpbehfaaHead
namespace Go.Proofs.Ythkmfihbpbehfaa
set_option linter.unusedVariables false
set_option linter.unusedSimpArgs false
open Go.TR
def numsE (s : List UInt8) : List EV := [.v (u64 (numAt s 0 : Nat)), .v (u64 (numAt s 1 : Nat)), .v (u64 (numAt s 2 : Nat)), .v (u64 (numAt s 3 : Nat))]
def zer4 : List EV := [.v (u64 0), .v (u64 0), .v (u64 0), .v (u64 0)]
theorem numsE_get (s : List UInt8) (k : Nat) (h : k < (numsE s).length) : (numsE s)[k] = .v (u64 (numAt s k : Nat)) := by
  have h4 : k < 4 := h
  match k, h4 with
  | 0, _ | 1, _ | 2, _ | 3, _ => rfl
def hdr (s : List UInt8) : Bool := decide (s.length = 33) && (s.head? == some 3)
theorem hdr_true {s : List UInt8} (h : hdr s = true) : s.length = 33 ∧ s.head? = some 3 := by
  unfold hdr at h
  simpa using h
theorem cond_hdr (s : List UInt8) : bpick (!(((bl (mkB s)).length : Nat) : Int) == 33) true (!((((bl (mkB s)).getD (0 : Int).toNat 0).toNat : Nat) : Int) == 3) = !hdr s := by
  rw [bl_S]
  unfold hdr
  cases s with
  | nil => rfl
  | cons c t =>
    rw [bpick_or]
    have e : ((((c :: t).getD (0 : Int).toNat 0).toNat : Nat) : Int) = ((c.toNat : Nat) : Int) := rfl
    rw [e]
    have e2 : (((c.toNat : Nat) : Int) == 3) = (c == 3) := by
      rw [Bool.eq_iff_iff]
      simp only [beq_iff_eq]
      constructor
      · intro h
        apply UInt8.toNat_inj.1
        show c.toNat = 3
        omega
      · rintro rfl
        rfl
    have e3 : ((((c :: t).length : Nat) : Int) == 33) = decide ((c :: t).length = 33) := by
      rw [Bool.eq_iff_iff]
      simp only [beq_iff_eq, decide_eq_true_eq]
      omega
    rw [e2, e3]
    simp only [List.head?_cons]
    have e4 : ((some c : Option UInt8) == some 3) = (c == 3) := rfl
    rw [e4]
    cases decide ((c :: t).length = 33) <;> cases (c == 3) <;> rfl
/-- What is read: a head, or none with an error. -/
def readE (s : List UInt8) : Int := if hdr s = true then (if (headOf s).fault = 0 then 0 else 3) else 3
def readH (s : List UInt8) : Head := if readE s = 0 then headOf s else Head.none
attribute [local irreducible] vc vcOps seqK blockK loopK retK retG retI loopV Plain CallOK CallIn bodied VS vcAny dropG backK brK loopPK IntKind.wrap
set_option maxRecDepth 100000
set_option maxHeartbeats 2000000 in
theorem headread_ok (s : List UInt8) (F : Hp) : Plain Try.prog F 157 [S s] (pair (readH s).v (i64 (readE s))) := by
  refine plain_vc (N := 50) (rv := [.cell 2 28, .tmp 3]) tbok mixed Try.func157 rfl rfl rfl rfl rfl ?_
  (refine run ?_; repeat intro b)
  refine s_gpureO rfl rfl rfl rfl rfl (fun hg => ⟨by decide, by have := hg.1; rw [bl_S] at this ⊢; simp at this; omega⟩) ?_
  (refine run ?_; repeat intro b)
  refine s_if (!hdr s) ?_ (fun h => ?_) (fun h => ?_)
  · rw [← cond_hdr]
    rfl
  · have h2 : hdr s = false := by simpa using h
    have h3 : readE s = 3 := by unfold readE; rw [h2]; rfl
    have h4 : readH s = Head.none := by unfold readH; rw [h3]; rfl
    (refine run ?_; repeat intro b)
    rw [h3, h4]
    rfl
  · have h2 : hdr s = true := by simpa using h
    obtain ⟨hl, h0⟩ := hdr_true h2
    (refine run ?_; repeat intro b)
    rename_i b1
    refine s_loopP (fun k : Nat => k ≤ 4) (fun k => ⟨[(0, .v (S s)), (2, .loc 0 0), (4, .loc 1 0), (16, .v (i64 (k : Nat)))], F, [(1, ⟨some b, (numsE s).take k ++ zer4.drop k, 235, 4⟩), (0, ⟨some b1, [.v (i64 0), .v (u64 0), .v (u64 0), .v (i64 0)], 28, 4⟩)], 2⟩) (fun k => 4 - k) 0 (Nat.zero_le _) (VS.keepN [0, 2, 4, 16] rfl rfl) ?_
    intro k hk
    (refine run ?_; repeat intro b)
    refine s_if _ rfl (fun h5 => ?_) (fun h5 => ?_)
    · have hlt : k < 4 := by simp at h5; omega
      (refine run ?_; repeat intro b)
      have e1 : IntKind.i64.wrap (1 + IntKind.i64.wrap (8 * (k : Int))) = ((1 + 8 * k : Nat) : Int) := by
        rw [wrap_i64 (n := 8 * (k : Int)) (by omega) (by omega), wrap_i64 (by omega) (by omega)]; omega
      have e2 : IntKind.i64.wrap (9 + IntKind.i64.wrap (8 * (k : Int))) = ((9 + 8 * k : Nat) : Int) := by
        rw [wrap_i64 (n := 8 * (k : Int)) (by omega) (by omega), wrap_i64 (by omega) (by omega)]; omega
      rw [e1, e2]
      refine s_pureO rfl rfl rfl ⟨by omega, by omega, by rw [bl_S, hl]; omega⟩ ?_
      rw [bl_S, Int.toNat_natCast, Int.toNat_natCast]
      have lp := piece_length s k hl hlt
      have hr : readN ((s.take (9 + 8 * k)).drop (1 + 8 * k)) = numAt s k := by unfold readN; rw [if_pos lp]; rfl
      have hp := readnum_ok ((s.take (9 + 8 * k)).drop (1 + 8 * k)) F
      rw [hr] at hp
      refine s_plain _ rfl rfl rfl bd158 rfl hp ?_
      (refine run ?_; repeat intro b)
      refine s_pureO rfl rfl rfl ⟨by omega, by omega⟩ ?_
      have hl1 : (numsE s).length = zer4.length := rfl
      have hk1 : k < (numsE s).length := hlt
      have hidx : (0 + ((k : Int).toNat) * 1) = k := by omega
      have hlen : ((numsE s).take k ++ zer4.drop k).length = 4 := by
        rw [List.length_append, List.length_take, List.length_drop]
        have e3 : (numsE s).length = 4 := rfl
        have e4 : zer4.length = 4 := rfl
        omega
      refine s_storeX ((numsE s).take (k + 1) ++ zer4.drop (k + 1)) rfl rfl rfl rfl rfl rfl ?_ ?_ rfl ?_
      · show 0 + ((k : Int).toNat) * 1 + 1 ≤ ((numsE s).take k ++ zer4.drop k).length
        rw [hlen]; omega
      · show ((numsE s).take k ++ zer4.drop k).take (0 + ((k : Int).toNat) * 1) ++ [_] ++ ((numsE s).take k ++ zer4.drop k).drop (0 + ((k : Int).toNat) * 1 + 1) = _
        rw [hidx, ← fill_step (numsE s) zer4 hl1 k hk1, numsE_get s k hk1]
      (refine run ?_; repeat intro b)
      rw [wrap_succ (by omega)]
      exact s_loopPn (k + 1) hlt (by omega) (VS.keepN [0, 2, 4, 16] rfl rfl)
    · have hge : k = 4 := by simp at h5; omega
      subst hge
      have hc : (numsE s).take 4 ++ zer4.drop 4 = [.v (u64 (numAt s 0 : Nat)), .v (u64 (numAt s 1 : Nat)), .v (u64 (numAt s 2 : Nat)), .v (u64 (numAt s 3 : Nat))] := rfl
      rw [hc]
      (refine run ?_; repeat intro b)
      refine s_plain (i64 (headOf s).fault) rfl rfl rfl bd91 rfl (headcheck_ok (headOf s) F) ?_
      (refine run ?_; repeat intro b)
      refine s_if _ rfl (fun h6 => ?_) (fun h6 => ?_)
      · have h7 : ¬ (headOf s).fault = 0 := by simpa using h6
        have h3 : readE s = 3 := by unfold readE; rw [h2, if_pos rfl, if_neg h7]
        have h4 : readH s = Head.none := by unfold readH; rw [h3]; rfl
        (refine run ?_; repeat intro b)
        rw [h3, h4]
        rfl
      · have h7 : (headOf s).fault = 0 := by simpa using h6
        have h3 : readE s = 0 := by unfold readE; rw [h2, if_pos rfl, if_pos h7]
        have h4 : readH s = headOf s := by unfold readH; rw [h3]; rfl
        (refine run ?_; repeat intro b)
        rw [h3, h4]
        rfl
end Go.Proofs.Ythkmfihbpbehfaa
