/-
Slices of strings and of numbers that came in.
-/
import Derived.Test.YthkmfihbpbehfaaSetOpenG
import Derived.Test.YthkmfihbpbehfaaSetIdx
import Derived.Test.YthkmfihbpbehfaaSetWireMath
import Derived.Test.YthkmfihbpbehfaaSetLetMath
import Derived.Test.YthkmfihbpbehfaaChain
/-!
Slices of strings and of numbers that came in.
-/
namespace Go.Proofs.Ythkmfihbpbehfaa
set_option linter.unusedVariables false
set_option linter.unusedSimpArgs false
open Go.ChangeShapes Go.WideShapes Go.ChangeAt Go.RowKit
open Go.TR (S mkB bl Hp Pcell Fcell padd Frow)
set_option maxRecDepth 100000
section
variable {H : Type} {enc : TypeId × Value → H} {W : World} {b0 base : Nat} {spare : Nat → Bool} {held : Bool} {r : Reach} {v : Value} {d : DataW H} {ps : List MemPlace} {ts : List TypeId} {ds : List (DataW H)} {j : Nat}
theorem opn_strs : Opn Try.prog 84 (RSl 1 16 RStr) := opn_slice Try.underlying84 (by kernel_rfl) (by kernel_rfl) (opn_str Try.underlying9)
theorem open_strs (hsz : (DataW.weightsEach Try.prog ts ds).all (· ≤ reachBytes) = true) (ht : ts[j]? = some 84) (hd : ds[j]? = some d) (hv : Value.okWide Try.prog W r b0 84 v) (h : DataW.Trod enc Try.prog W base spare held 84 v d ps) :
    ∃ (l : List (List UInt8)) (p : Option Addr) (c : Nat), v = .slice p l.length c ∧ l.length ≤ 4611686018427387904 ∧ l.length ≤ c ∧ (∀ s ∈ l, s.length ≤ 4611686018427387904) ∧ l.length * 16 ≤ reachBytes ∧ Frow (fun k => W.heap[k]?) p (l.map S) := by
  obtain ⟨p, c, l, e, h0, h1, h2, h3⟩ := rsl_str (arg_sl Try.underlying84 opn_strs hsz ht hd hv h)
  exact ⟨l, p, c, (List.cons.inj e).1, le_reach (by omega), h0, fun s hs => le_reach (h2 s hs), h1, h3⟩
theorem opn_u64s : Opn Try.prog 30 (RSl 1 8 RU64) := opn_slice Try.underlying30 (by kernel_rfl) (by kernel_rfl) (opn_u64 Try.underlying26)
theorem open_u64s (hsz : (DataW.weightsEach Try.prog ts ds).all (· ≤ reachBytes) = true) (ht : ts[j]? = some 30) (hd : ds[j]? = some d) (hv : Value.okWide Try.prog W r b0 30 v) (h : DataW.Trod enc Try.prog W base spare held 30 v d ps) :
    ∃ (l : List Nat) (p : Option Addr) (c : Nat), v = .slice p l.length c ∧ l.length ≤ 4611686018427387904 ∧ l.length ≤ c ∧ (∀ n ∈ l, n < 18446744073709551616) ∧ l.length * 8 ≤ reachBytes ∧ Frow (fun k => W.heap[k]?) p (l.map fun n => u64 (n : Nat)) := by
  obtain ⟨p, c, l, e, h0, h1, h2, h3⟩ := rsl_u64 (arg_sl Try.underlying30 opn_u64s hsz ht hd hv h)
  exact ⟨l, p, c, (List.cons.inj e).1, le_reach (by omega), h0, h2, h1, h3⟩
theorem opn_ints : Opn Try.prog 37 (RSl 1 8 RI64) := opn_slice Try.underlying37 (by kernel_rfl) (by kernel_rfl) (opn_i64 Try.underlying3)
theorem open_ints (hsz : (DataW.weightsEach Try.prog ts ds).all (· ≤ reachBytes) = true) (ht : ts[j]? = some 37) (hd : ds[j]? = some d) (hv : Value.okWide Try.prog W r b0 37 v) (h : DataW.Trod enc Try.prog W base spare held 37 v d ps) :
    ∃ (l : List Int) (p : Option Addr) (c : Nat), v = .slice p l.length c ∧ l.length ≤ 4611686018427387904 ∧ l.length ≤ c ∧ (∀ n ∈ l, -9223372036854775808 ≤ n ∧ n ≤ 9223372036854775807) ∧ l.length * 8 ≤ reachBytes ∧ Frow (fun k => W.heap[k]?) p (l.map i64) := by
  obtain ⟨p, c, l, e, h0, h1, h2, h3⟩ := rsl_i64 (arg_sl Try.underlying37 opn_ints hsz ht hd hv h)
  exact ⟨l, p, c, (List.cons.inj e).1, le_reach (by omega), h0, h2, h1, h3⟩
end
end Go.Proofs.Ythkmfihbpbehfaa
/-!
Entries, books and proofs that came in.
-/
namespace Go.Proofs.Ythkmfihbpbehfaa
set_option linter.unusedVariables false
set_option linter.unusedSimpArgs false
open Go.ChangeShapes Go.WideShapes Go.ChangeAt Go.RowKit
open Go.TR (S mkB bl Hp Pcell Fcell padd Frow)
set_option maxRecDepth 100000
def REntry : Rep := fun _ cs => ∃ x : Entry, cs = x.row ∧ x.wf
theorem opn_entry : Opn Try.prog 107 REntry := by
  refine (opn_struct (Rs := [RStr, RStr]) Try.underlying107 ⟨rfl, opn_str Try.underlying9, rfl, opn_str Try.underlying9, (by show Try.prog.cellsOf 107 = _; kernel_rfl)⟩).mono ?_
  rintro F cs ⟨_, _, rfl, ⟨a, rfl, ha⟩, _, _, rfl, ⟨b, rfl, hb⟩, rfl⟩
  exact ⟨⟨a, b⟩, rfl, ⟨le_reach ha, le_reach hb⟩⟩
theorem opn_ents : Opn Try.prog 29 (RSl 2 32 REntry) := opn_slice Try.underlying29 (by kernel_rfl) (by kernel_rfl) opn_entry
def RProof : Rep := fun F cs => ∃ (p : Prf) (a : Lay), cs = [S p.name, .slice a.e p.ents.length a.ce, .slice a.s p.sides.length a.cs] ∧ p.wf ∧ p.ents.length ≤ a.ce ∧ p.sides.length ≤ a.cs ∧ p.ents.length * 32 ≤ 140737488355328 ∧ p.sides.length * 8 ≤ 140737488355328 ∧ p.at F a
theorem opn_proof : Opn Try.prog 32 RProof := by
  refine (opn_struct (Rs := [RStr, RSl 2 32 REntry, RSl 1 8 RU64]) Try.underlying32 ⟨rfl, opn_str Try.underlying9, rfl, opn_ents, rfl, opn_slice (P := Try.prog) Try.underlying30 (by kernel_rfl) (by kernel_rfl) (opn_u64 Try.underlying26), (by show Try.prog.cellsOf 32 = _; kernel_rfl)⟩).mono ?_
  rintro F cs ⟨_, _, rfl, ⟨n, rfl, hn⟩, _, _, rfl, hb, _, _, rfl, hc, rfl⟩
  obtain ⟨p1, c1, l1, rfl, h1, h2, h3, h4⟩ := rsl_many Entry.row Entry.wf (fun r hr => hr) hb
  obtain ⟨p2, c2, l2, rfl, k1, k2, k3, k4⟩ := rsl_u64 hc
  have := reachBytes_lt
  exact ⟨⟨n, l1, l2⟩, ⟨p1, c1, p2, c2⟩, rfl, ⟨le_reach hn, by simp only; omega, h3, by simp only; omega, k3⟩, h1, k1, by simp only; omega, by simp only; omega, ⟨h4, k4⟩⟩
section
variable {H : Type} {enc : TypeId × Value → H} {W : World} {b0 base : Nat} {spare : Nat → Bool} {held : Bool} {r : Reach} {v : Value} {d : DataW H} {ps : List MemPlace} {ts : List TypeId} {ds : List (DataW H)} {j : Nat}
theorem open_strs3 (hsz : (DataW.weightsEach Try.prog ts ds).all (· ≤ reachBytes) = true) (ht : ts[j]? = some 84) (hd : ds[j]? = some d) (hv : Value.okWide Try.prog W r b0 84 v) (h : DataW.Trod enc Try.prog W base spare held 84 v d ps) :
    ∃ (l : List (List UInt8)) (p : Option Addr) (c : Nat), v = .slice p l.length c ∧ l.length * 16 ≤ 140737488355328 ∧ (∀ s ∈ l, s.length ≤ 4611686018427387904) ∧ Frow (fun k => W.heap[k]?) p (l.map S) := by
  obtain ⟨l, p, c, h1, h2, h3, h4, h5, h6⟩ := open_strs hsz ht hd hv h
  have := reachBytes_lt
  exact ⟨l, p, c, h1, by omega, h4, h6⟩
theorem open_book (hsz : (DataW.weightsEach Try.prog ts ds).all (· ≤ reachBytes) = true) (ht : ts[j]? = some 29) (hd : ds[j]? = some d) (hv : Value.okWide Try.prog W r b0 29 v) (h : DataW.Trod enc Try.prog W base spare held 29 v d ps) :
    ∃ (l : List Entry) (p : Option Addr) (c : Nat), v = .slice p l.length c ∧ l.length * 32 ≤ 140737488355328 ∧ l.length ≤ c ∧ (∀ x ∈ l, x.wf) ∧ Frow (fun k => W.heap[k]?) p (l.flatMap Entry.row) := by
  obtain ⟨p, c, l, e, h1, h2, h3, h4⟩ := rsl_many Entry.row Entry.wf (fun r hr => hr) (arg_sl Try.underlying29 opn_ents hsz ht hd hv h)
  have := reachBytes_lt
  exact ⟨l, p, c, List.head_eq_of_cons_eq e, by omega, h1, h3, h4⟩
theorem open_proof (hsz : (DataW.weightsEach Try.prog ts ds).all (· ≤ reachBytes) = true) (ht : ts[j]? = some 32) (hd : ds[j]? = some d) (hv : Value.okWide Try.prog W r b0 32 v) (h : DataW.Trod enc Try.prog W base spare held 32 v d ps) :
    ∃ (p : Prf) (a : Lay), v = p.v a ∧ p.wf ∧ p.ents.length ≤ a.ce ∧ p.sides.length ≤ a.cs ∧ p.ents.length * 32 ≤ 140737488355328 ∧ p.at (fun k => W.heap[k]?) a := by
  obtain ⟨cs, rfl, p, a, rfl, h1, h2, h3, h4, _, h5⟩ := arg_st Try.underlying32 opn_proof hsz ht hd hv h
  exact ⟨p, a, rfl, h1, h2, h3, h4, h5⟩
end
end Go.Proofs.Ythkmfihbpbehfaa
/-!
A head that came in.
-/
namespace Go.Proofs.Ythkmfihbpbehfaa
set_option linter.unusedVariables false
set_option linter.unusedSimpArgs false
open Go.ChangeShapes Go.WideShapes Go.ChangeAt Go.RowKit
open Go.TR (S mkB bl Hp Pcell Fcell padd Frow)
@[reducible] def Head.cells (h : Head) : List Value := [i64 h.epoch, u64 (h.root : Nat), u64 (h.prev : Nat), i64 h.at_]
def RHead : Rep := fun _ cs => ∃ h : Head, cs = h.cells ∧ h.wf
set_option maxRecDepth 100000
theorem opn_head : Opn Try.prog 28 RHead := by
  refine (opn_struct (Rs := [RI64, RU64, RU64, RI64]) Try.underlying28 ⟨rfl, opn_i64 Try.underlying2, rfl, opn_u64 Try.underlying26, rfl, opn_u64 Try.underlying26, rfl, opn_i64 Try.underlying2, (by show Try.prog.cellsOf 28 = _; kernel_rfl)⟩).mono ?_
  rintro F cs ⟨_, _, rfl, ⟨a, rfl, ha⟩, _, _, rfl, ⟨b, rfl, hb⟩, _, _, rfl, ⟨c, rfl, hc⟩, _, _, rfl, ⟨d, rfl, hd⟩, rfl⟩
  exact ⟨⟨a, b, c, d⟩, rfl, ⟨hb, hc, ha, hd⟩⟩
section
variable {H : Type} {enc : TypeId × Value → H} {W : World} {b0 base : Nat} {spare : Nat → Bool} {held : Bool} {r : Reach} {v : Value} {d : DataW H} {ps : List MemPlace} {ts : List TypeId} {ds : List (DataW H)} {j : Nat}
theorem open_head (hsz : (DataW.weightsEach Try.prog ts ds).all (· ≤ reachBytes) = true) (ht : ts[j]? = some 28) (hd : ds[j]? = some d) (hv : Value.okWide Try.prog W r b0 28 v) (h : DataW.Trod enc Try.prog W base spare held 28 v d ps) : ∃ h : Head, v = h.v ∧ h.wf := by
  obtain ⟨cs, rfl, x, rfl, hw⟩ := arg_st Try.underlying28 opn_head hsz ht hd hv h
  exact ⟨x, rfl, hw⟩
end
end Go.Proofs.Ythkmfihbpbehfaa
/-!
A chain that came in.
-/
namespace Go.Proofs.Ythkmfihbpbehfaa
set_option linter.unusedVariables false
set_option linter.unusedSimpArgs false
open Go.ChangeShapes Go.WideShapes Go.ChangeAt Go.RowKit
open Go.TR (S mkB bl Hp Pcell Fcell padd Frow)
set_option maxRecDepth 100000
theorem opn_heads : Opn Try.prog 25 (RSl 4 32 RHead) := opn_slice Try.underlying25 (by kernel_rfl) (by kernel_rfl) opn_head
section
variable {H : Type} {enc : TypeId × Value → H} {W : World} {b0 base : Nat} {spare : Nat → Bool} {held : Bool} {r : Reach} {v : Value} {d : DataW H} {ps : List MemPlace} {ts : List TypeId} {ds : List (DataW H)} {j : Nat}
theorem open_heads (hsz : (DataW.weightsEach Try.prog ts ds).all (· ≤ reachBytes) = true) (ht : ts[j]? = some 25) (hd : ds[j]? = some d) (hv : Value.okWide Try.prog W r b0 25 v) (h : DataW.Trod enc Try.prog W base spare held 25 v d ps) : ∃ (l : List Head) (p : Option Addr) (c : Nat), v = .slice p l.length c ∧ l.length ≤ 4611686018427387904 ∧ l.length ≤ c ∧ (∀ x ∈ l, x.wf) ∧ Frow (fun k => W.heap[k]?) p (l.flatMap Head.row) := by
  obtain ⟨p, c, l, e, h1, h2, h3, h4⟩ := rsl_many Head.row Head.wf (fun r hr => hr) (arg_sl Try.underlying25 opn_heads hsz ht hd hv h)
  have := le_reach h2
  exact ⟨l, p, c, List.head_eq_of_cons_eq e, by omega, h1, h3, h4⟩
end
end Go.Proofs.Ythkmfihbpbehfaa
/-!
Package chain: Check; the reference's Links, ChainFault, HeadOf: the walks.
-/
namespace Go.Proofs.Ythkmfihbpbehfaa
set_option linter.unusedVariables false
set_option linter.unusedSimpArgs false
open Go.TR
attribute [local irreducible] vc vcOps seqK blockK loopK retK retG retI loopV Plain CallOK CallIn bodied VS vcAny dropG backK brK loopPK IntKind.wrap
set_option maxRecDepth 100000
set_option maxHeartbeats 4000000 in
theorem links_ok (x y : Head) (ha : x.wf) (hb : y.wf) (F : Hp) : Plain Try.prog F 33 [x.v, y.v] (.bool (links x y)) := by
  refine plain_vc (N := 35) (rv := [.tmp 4]) tbok mixed Try.func33 rfl rfl rfl rfl rfl ?_
  (refine run ?_; repeat intro b)
  refine s_regiond (by kernel_rfl) ?_
  (refine run ?_; repeat intro b)
  refine s_plain _ rfl rfl rfl bd32 rfl (reffault_ok x F) ?_
  (refine run ?_; repeat intro b)
  refine s_gplain _ rfl rfl rfl rfl bd32 rfl rfl (fun _ => reffault_ok y F) ?_
  (refine run ?_; repeat intro b)
  refine s_gplain _ rfl rfl rfl rfl bd26 rfl rfl (fun _ => refheadmark_ok x ha F) ?_
  (refine run ?_; repeat intro b)
  simp only [tupV]
  congr 1
  unfold links
  simp only [bpick_and]
  by_cases h1 : x.fault = 0
  · have hr := Head.ok_of h1
    have hw : IntKind.i64.wrap (x.epoch + 1) = x.epoch + 1 := wrap_i64 (by omega) (by omega)
    rw [hw, Bool.eq_iff_iff]
    simp [h1]
    omega
  · simp [h1]
set_option maxHeartbeats 4000000 in
theorem chaincheck_ok (l : List Head) (hl : l.length ≤ 4611686018427387904) (hw : ∀ x ∈ l, x.wf) {p : Option Addr} {c : Nat} {F : Hp} (hf : Frow F p (l.flatMap Head.row)) : Plain Try.prog F 28 [.slice p l.length c] (pair (i64 (chainF l).1) (i64 ((chainF l).2 : Nat))) := by
  refine plain_vc (N := 35) (rv := [.tmp 2, .tmp 3]) tbok mixed Try.func28 rfl rfl rfl rfl rfl ?_
  (refine run ?_; repeat intro b)
  refine s_if (decide (l.length = 0)) ?_ (fun h => ?_) (fun h => ?_)
  · refine congrArg (fun b => some (EV.v (.bool b))) ?_
    rw [Bool.eq_iff_iff]; simp
  · have e : chainF l = (5, 0) := by unfold chainF; rw [if_pos (of_decide_eq_true h)]
    (refine run ?_; repeat intro b)
    rw [e]
    rfl
  · have h0 : ¬ l.length = 0 := of_decide_eq_false h
    (refine run ?_; repeat intro b)
    refine s_if (decide (40 < l.length)) ?_ (fun h => ?_) (fun h => ?_)
    · refine congrArg (fun b => some (EV.v (.bool b))) ?_
      rw [Bool.eq_iff_iff, decide_eq_true_eq, decide_eq_true_eq]; omega
    · have e : chainF l = (2, 0) := by unfold chainF; rw [if_neg h0, if_pos (of_decide_eq_true h)]
      (refine run ?_; repeat intro b)
      rw [e]
      rfl
    · have h1 : ¬ 40 < l.length := of_decide_eq_false h
      have e : chainF l = chainT l := by unfold chainF; rw [if_neg h0, if_neg h1]
      (refine run ?_; repeat intro b)
      refine s_loopP (fun k : Nat => k ≤ l.length ∧ badAt l 0 = badAt (l.drop k) k) (fun k => ⟨[(0, .v (.slice p l.length c)), (16, .v (.slice p l.length c)), (17, .v (i64 (l.length : Nat))), (18, .v (i64 (k : Nat)))], F, [], 0⟩) (fun k => l.length - k) 0 ⟨Nat.zero_le _, rfl⟩ (VS.keepN [0, 16, 17, 18] rfl rfl) ?_
      rintro k ⟨hk, hu⟩
      by_cases hlt : k < l.length
      · obtain ⟨o1, o2⟩ := frow_agg head_row (by decide) hf k hlt
        rw [badAt_drop hlt] at hu
        generalize l[k] = x at hu o2
        (refine run ?_; repeat intro b)
        refine s_if true (by rw [← decide_eq_true (p := ((k : Nat) : Int) < ((l.length : Nat) : Int)) (by omega)]; rfl) (fun _ => ?_) (fun h => by cases h)
        (refine run ?_; repeat intro b)
        refine s_pureO rfl rfl rfl ⟨by omega, by omega, frow_some hf (j := k * 4) (by rw [flat_len head_row]; omega)⟩ ?_
        refine s_loadA x.row rfl rfl rfl rfl rfl (by rw [Int.toNat_natCast]; exact o1) (by rw [Int.toNat_natCast]; exact o2) ?_
        (refine run ?_; repeat intro b)
        refine s_plain _ rfl rfl rfl bd91 rfl (headcheck_ok x F) ?_
        (refine run ?_; repeat intro b)
        refine s_if (decide (x.fault ≠ 0)) ?_ (fun h => ?_) (fun h => ?_)
        · refine congrArg (fun b => some (EV.v (.bool b))) ?_
          rw [Bool.eq_iff_iff]; simp
        · rw [if_neg (of_decide_eq_true h)] at hu
          (refine run ?_; repeat intro b)
          rw [e, chainT_bad hu]
          rfl
        · rw [if_pos (by simpa using h)] at hu
          (refine run ?_; repeat intro b)
          rw [wrap_succ (by omega)]
          exact s_loopPc (k + 1) [0] [0, 16, 17, 18] ⟨hlt, hu⟩ (by omega) rfl rfl rfl rfl trivial rfl
      · have hge : k = l.length := by omega
        subst hge
        rw [List.drop_length] at hu
        have hv := badAt_none hu
        (refine run ?_; repeat intro b)
        refine s_if false (by rw [← decide_eq_false (p := ((l.length : Nat) : Int) < ((l.length : Nat) : Int)) (by omega)]; rfl) (fun h => by cases h) (fun _ => ?_)
        (refine run ?_; repeat intro b)
        refine s_plain _ rfl rfl rfl bd92 rfl (linked_ok l hl hw hv hf) ?_
        (refine run ?_; repeat intro b)
        cases hun : unl l 1 with
        | none =>
          have e1 : unlI l = -1 := by unfold unlI; rw [hun]
          rw [e1]
          (refine run ?_; repeat intro b)
          rw [e, chainT_ok hu hun]
          rfl
        | some i =>
          have e1 : unlI l = (i : Int) := by unfold unlI; rw [hun]
          rw [e1]
          refine s_if true ?_ (fun _ => ?_) (fun h => by cases h)
          · exact congrArg (fun b => some (EV.v (.bool b))) (decide_eq_true (by omega))
          (refine run ?_; repeat intro b)
          rw [e, chainT_unl hu hun]
          rfl
set_option maxHeartbeats 4000000 in
theorem refchain_ok (l : List Head) (hl : l.length ≤ 4611686018427387904) (hw : ∀ x ∈ l, x.wf) {p : Option Addr} {c : Nat} {F : Hp} (hf : Frow F p (l.flatMap Head.row)) : Plain Try.prog F 24 [.slice p l.length c] (pair (i64 (chainF l).1) (i64 ((chainF l).2 : Nat))) := by
  refine plain_vc (N := 46) (rv := [.tmp 2, .tmp 3]) tbok mixed Try.func24 rfl rfl rfl rfl rfl ?_
  (refine run ?_; repeat intro b)
  refine s_if (decide (l.length = 0)) ?_ (fun h => ?_) (fun h => ?_)
  · refine congrArg (fun b => some (EV.v (.bool b))) ?_
    rw [Bool.eq_iff_iff]; simp
  · have e : chainF l = (5, 0) := by unfold chainF; rw [if_pos (of_decide_eq_true h)]
    (refine run ?_; repeat intro b)
    rw [e]
    rfl
  · have h0 : ¬ l.length = 0 := of_decide_eq_false h
    (refine run ?_; repeat intro b)
    refine s_if (decide (40 < l.length)) ?_ (fun h => ?_) (fun h => ?_)
    · refine congrArg (fun b => some (EV.v (.bool b))) ?_
      rw [Bool.eq_iff_iff, decide_eq_true_eq, decide_eq_true_eq]; omega
    · have e : chainF l = (2, 0) := by unfold chainF; rw [if_neg h0, if_pos (of_decide_eq_true h)]
      (refine run ?_; repeat intro b)
      rw [e]
      rfl
    · have h1 : ¬ 40 < l.length := of_decide_eq_false h
      have e : chainF l = chainT l := by unfold chainF; rw [if_neg h0, if_neg h1]
      (refine run ?_; repeat intro b)
      refine s_loopP (fun k : Nat => k ≤ l.length ∧ badAt l 0 = badAt (l.drop k) k) (fun k => ⟨[(0, .v (.slice p l.length c)), (14, .v (.slice p l.length c)), (15, .v (i64 (l.length : Nat))), (16, .v (i64 (k : Nat)))], F, [], 0⟩) (fun k => l.length - k) 0 ⟨Nat.zero_le _, rfl⟩ (VS.keepN [0, 14, 15, 16] rfl rfl) ?_
      rintro k ⟨hk, hu⟩
      by_cases hlt : k < l.length
      · obtain ⟨o1, o2⟩ := frow_agg head_row (by decide) hf k hlt
        rw [badAt_drop hlt] at hu
        generalize l[k] = x at hu o2
        (refine run ?_; repeat intro b)
        refine s_if true (by rw [← decide_eq_true (p := ((k : Nat) : Int) < ((l.length : Nat) : Int)) (by omega)]; rfl) (fun _ => ?_) (fun h => by cases h)
        (refine run ?_; repeat intro b)
        refine s_pureO rfl rfl rfl ⟨by omega, by omega, frow_some hf (j := k * 4) (by rw [flat_len head_row]; omega)⟩ ?_
        refine s_loadA x.row rfl rfl rfl rfl rfl (by rw [Int.toNat_natCast]; exact o1) (by rw [Int.toNat_natCast]; exact o2) ?_
        (refine run ?_; repeat intro b)
        refine s_plain _ rfl rfl rfl bd32 rfl (reffault_ok x F) ?_
        (refine run ?_; repeat intro b)
        refine s_if (decide (x.fault ≠ 0)) ?_ (fun h => ?_) (fun h => ?_)
        · refine congrArg (fun b => some (EV.v (.bool b))) ?_
          rw [Bool.eq_iff_iff]; simp
        · rw [if_neg (of_decide_eq_true h)] at hu
          (refine run ?_; repeat intro b)
          rw [e, chainT_bad hu]
          rfl
        · rw [if_pos (by simpa using h)] at hu
          (refine run ?_; repeat intro b)
          rw [wrap_succ (by omega)]
          exact s_loopPc (k + 1) [0] [0, 14, 15, 16] ⟨hlt, hu⟩ (by omega) rfl rfl rfl rfl trivial rfl
      · have hge : k = l.length := by omega
        subst hge
        rw [List.drop_length] at hu
        have hv := badAt_none hu
        (refine run ?_; repeat intro b)
        refine s_if false (by rw [← decide_eq_false (p := ((l.length : Nat) : Int) < ((l.length : Nat) : Int)) (by omega)]; rfl) (fun h => by cases h) (fun _ => ?_)
        (refine run ?_; repeat intro b)
        refine s_loopP (fun k : Nat => (k = 0 ∨ k + 1 ≤ l.length) ∧ unl l 1 = unl (l.drop k) (k + 1)) (fun k => ⟨[(0, .v (.slice p l.length c)), (7, .v (i64 ((k + 1 : Nat) : Nat)))], F, [], 0⟩) (fun k => l.length - k) 0 ⟨.inl rfl, rfl⟩ (VS.keepN [0, 7] rfl rfl) ?_
        rintro k ⟨hk, hu2⟩
        by_cases hlt : k + 1 < l.length
        · have hlt0 : k < l.length := by omega
          obtain ⟨o1, o2⟩ := frow_agg head_row (by decide) hf k hlt0
          obtain ⟨o3, o4⟩ := frow_agg head_row (by decide) hf (k + 1) hlt
          rw [unl_drop hlt] at hu2
          have w1 := hw l[k] (List.getElem_mem hlt0)
          have w2 := hw l[k + 1] (List.getElem_mem hlt)
          generalize l[k] = a at hu2 o2 w1
          generalize l[k + 1] = y at hu2 o4 w2
          clear hw hv
          have e1 : IntKind.i64.wrap (((k + 1 : Nat) : Int) - 1) = ((k : Nat) : Int) := by rw [wrap_i64 (by omega) (by omega)]; omega
          (refine run ?_; repeat intro b)
          refine s_if true (by rw [← decide_eq_true (p := ((k + 1 : Nat) : Int) < ((l.length : Nat) : Int)) (by omega)]; rfl) (fun _ => ?_) (fun h => by cases h)
          (refine run ?_; repeat intro b)
          refine s_regiond (by kernel_rfl) ?_
          (refine run ?_; repeat intro b)
          rw [e1]
          refine s_pureO rfl rfl rfl ⟨by omega, by omega, frow_some hf (j := k * 4) (by rw [flat_len head_row]; omega)⟩ ?_
          refine s_loadA a.row rfl rfl rfl rfl rfl (by rw [Int.toNat_natCast]; exact o1) (by rw [Int.toNat_natCast]; exact o2) ?_
          (refine run ?_; repeat intro b)
          refine s_pureO rfl rfl rfl ⟨by omega, by omega, frow_some hf (j := (k + 1) * 4) (by rw [flat_len head_row]; omega)⟩ ?_
          refine s_loadA y.row rfl rfl rfl rfl rfl (by rw [Int.toNat_natCast]; exact o3) (by rw [Int.toNat_natCast]; exact o4) ?_
          (refine run ?_; repeat intro b)
          refine s_plain _ rfl rfl rfl bd33 rfl (links_ok a y w1 w2 F) ?_
          (refine run ?_; repeat intro b)
          refine s_if (!links a y) rfl (fun h => ?_) (fun h => ?_)
          · have h1 : ¬ links a y = true := by simpa using h
            rw [if_neg h1] at hu2
            (refine run ?_; repeat intro b)
            rw [e, chainT_unl hu hu2]
            rfl
          · have h1 : links a y = true := by simpa using h
            rw [if_pos h1] at hu2
            (refine run ?_; repeat intro b)
            rw [wrap_succ (by omega)]
            exact s_loopPn (k + 1) ⟨.inr (by omega), hu2⟩ (by omega) (VS.keepN [0, 7] rfl rfl)
        · have hge : l.length ≤ k + 1 := by omega
          rw [unl_end hge] at hu2
          (refine run ?_; repeat intro b)
          refine s_if false (by rw [← decide_eq_false (p := ((k + 1 : Nat) : Int) < ((l.length : Nat) : Int)) (by omega)]; rfl) (fun h => by cases h) (fun _ => ?_)
          (refine run ?_; repeat intro b)
          rw [e, chainT_ok hu hu2]
          rfl
set_option maxHeartbeats 4000000 in
theorem headof_ok (l : List Head) (n : Int) (hl : l.length ≤ 4611686018427387904) {p : Option Addr} {c : Nat} {F : Hp} (hf : Frow F p (l.flatMap Head.row)) : Plain Try.prog F 25 [.slice p l.length c, i64 n] (pair (orN (headOfE l n)).v (.bool (headOfE l n).isSome)) := by
  refine plain_vc (N := 21) (rv := [.cell 4 28, .tmp 5]) tbok mixed Try.func25 rfl rfl rfl rfl rfl ?_
  (refine run ?_; repeat intro b)
  refine s_loopP (fun k : Nat => k ≤ l.length ∧ headOfE l n = headOfE (l.drop k) n) (fun k => ⟨[(1, .v (i64 n)), (4, .loc 0 0), (8, .v (.slice p l.length c)), (9, .v (i64 (l.length : Nat))), (10, .v (i64 (k : Nat)))], F, [(0, ⟨some b, [.v (i64 0), .v (u64 0), .v (u64 0), .v (i64 0)], 28, 4⟩)], 1⟩) (fun k => l.length - k) 0 ⟨Nat.zero_le _, rfl⟩ (VS.keepN [1, 4, 8, 9, 10] rfl rfl) ?_
  rintro k ⟨hk, hu⟩
  by_cases hlt : k < l.length
  · obtain ⟨o1, o2⟩ := frow_agg head_row (by decide) hf k hlt
    have hd : headOfE (l.drop k) n = if l[k].epoch = n then some l[k] else headOfE (l.drop (k + 1)) n := by
      rw [List.drop_eq_getElem_cons hlt]
      unfold headOfE
      rw [List.find?_cons]
      by_cases h : l[k].epoch = n <;> simp [h]
    rw [hd] at hu
    generalize l[k] = x at hu o2
    (refine run ?_; repeat intro b)
    refine s_if true (by rw [← decide_eq_true (p := ((k : Nat) : Int) < ((l.length : Nat) : Int)) (by omega)]; rfl) (fun _ => ?_) (fun h => by cases h)
    (refine run ?_; repeat intro b)
    refine s_pureO rfl rfl rfl ⟨by omega, by omega, frow_some hf (j := k * 4) (by rw [flat_len head_row]; omega)⟩ ?_
    refine s_loadA x.row rfl rfl rfl rfl rfl (by rw [Int.toNat_natCast]; exact o1) (by rw [Int.toNat_natCast]; exact o2) ?_
    (refine run ?_; repeat intro b)
    refine s_if (decide (x.epoch = n)) ?_ (fun h => ?_) (fun h => ?_)
    · refine congrArg (fun b => some (EV.v (.bool b))) ?_
      rw [Bool.eq_iff_iff]; simp
    · rw [if_pos (of_decide_eq_true h)] at hu
      (refine run ?_; repeat intro b)
      rw [hu]
      rfl
    · rw [if_neg (of_decide_eq_false h)] at hu
      (refine run ?_; repeat intro b)
      rw [wrap_succ (by omega)]
      exact s_loopPc (k + 1) [1] [1, 4, 8, 9, 10] ⟨hlt, hu⟩ (by omega) rfl rfl rfl rfl ⟨⟨Nat.zero_lt_one, by intro e he; simp only [List.mem_cons, List.not_mem_nil, or_false] at he; rcases he with rfl | rfl | rfl | rfl <;> trivial⟩, trivial⟩ rfl
  · have hge : k = l.length := by omega
    subst hge
    rw [List.drop_length] at hu
    (refine run ?_; repeat intro b)
    refine s_if false (by rw [← decide_eq_false (p := ((l.length : Nat) : Int) < ((l.length : Nat) : Int)) (by omega)]; rfl) (fun h => by cases h) (fun _ => ?_)
    (refine run ?_; repeat intro b)
    rw [hu]
    rfl
end Go.Proofs.Ythkmfihbpbehfaa
