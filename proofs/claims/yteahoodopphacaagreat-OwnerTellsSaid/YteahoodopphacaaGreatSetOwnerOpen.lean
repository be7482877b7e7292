/-
Slices of strings and of numbers that came in.
-/
import Derived.Test.YteahoodopphacaaGreatOpenG
import Derived.Test.YteahoodopphacaaGreatSetIdx
import Derived.Test.YteahoodopphacaaGreatSetHeadMath
import Derived.Test.YteahoodopphacaaGreatSetChain
import Derived.Test.YteahoodopphacaaGreatSetOwnerMath
/-!
Slices of strings and of numbers that came in.
-/
namespace Go.Proofs.YteahoodopphacaaGreat
set_option linter.unusedVariables false
set_option linter.unusedSimpArgs false
open Go.ChangeShapes Go.WideShapes Go.ChangeAt Go.RowKit
open Go.TR (S mkB bl Hp Pcell Fcell padd Frow)
set_option maxRecDepth 100000
section
variable {H : Type} {enc : TypeId × Value → H} {W : World} {b0 base : Nat} {spare : Nat → Bool} {held : Bool} {r : Reach} {v : Value} {d : DataW H} {ps : List MemPlace} {ts : List TypeId} {ds : List (DataW H)} {j : Nat}
theorem opn_strs : Opn Tryz.prog 25 (RSl 1 16 RStr) := opn_slice Tryz.underlying25 (by kernel_rfl) (by kernel_rfl) (opn_str Tryz.underlying9)
theorem open_strs (hsz : (DataW.weightsEach Tryz.prog ts ds).all (· ≤ reachBytes) = true) (ht : ts[j]? = some 25) (hd : ds[j]? = some d) (hv : Value.okWide Tryz.prog W r b0 25 v) (h : DataW.Trod enc Tryz.prog W base spare held 25 v d ps) :
    ∃ (l : List (List UInt8)) (p : Option Addr) (c : Nat), v = .slice p l.length c ∧ l.length ≤ 4611686018427387904 ∧ l.length ≤ c ∧ (∀ s ∈ l, s.length ≤ 4611686018427387904) ∧ l.length * 16 ≤ reachBytes ∧ Frow (fun k => W.heap[k]?) p (l.map S) := by
  obtain ⟨p, c, l, e, h0, h1, h2, h3⟩ := rsl_str (arg_sl Tryz.underlying25 opn_strs hsz ht hd hv h)
  exact ⟨l, p, c, (List.cons.inj e).1, le_reach (by omega), h0, fun s hs => le_reach (h2 s hs), h1, h3⟩
theorem opn_u64s : Opn Tryz.prog 30 (RSl 1 8 RU64) := opn_slice Tryz.underlying30 (by kernel_rfl) (by kernel_rfl) (opn_u64 Tryz.underlying22)
theorem open_u64s (hsz : (DataW.weightsEach Tryz.prog ts ds).all (· ≤ reachBytes) = true) (ht : ts[j]? = some 30) (hd : ds[j]? = some d) (hv : Value.okWide Tryz.prog W r b0 30 v) (h : DataW.Trod enc Tryz.prog W base spare held 30 v d ps) :
    ∃ (l : List Nat) (p : Option Addr) (c : Nat), v = .slice p l.length c ∧ l.length ≤ 4611686018427387904 ∧ l.length ≤ c ∧ (∀ n ∈ l, n < 18446744073709551616) ∧ l.length * 8 ≤ reachBytes ∧ Frow (fun k => W.heap[k]?) p (l.map fun n => u64 (n : Nat)) := by
  obtain ⟨p, c, l, e, h0, h1, h2, h3⟩ := rsl_u64 (arg_sl Tryz.underlying30 opn_u64s hsz ht hd hv h)
  exact ⟨l, p, c, (List.cons.inj e).1, le_reach (by omega), h0, h2, h1, h3⟩
theorem opn_ints : Opn Tryz.prog 150 (RSl 1 8 RI64) := opn_slice Tryz.underlying150 (by kernel_rfl) (by kernel_rfl) (opn_i64 Tryz.underlying3)
theorem open_ints (hsz : (DataW.weightsEach Tryz.prog ts ds).all (· ≤ reachBytes) = true) (ht : ts[j]? = some 150) (hd : ds[j]? = some d) (hv : Value.okWide Tryz.prog W r b0 150 v) (h : DataW.Trod enc Tryz.prog W base spare held 150 v d ps) :
    ∃ (l : List Int) (p : Option Addr) (c : Nat), v = .slice p l.length c ∧ l.length ≤ 4611686018427387904 ∧ l.length ≤ c ∧ (∀ n ∈ l, -9223372036854775808 ≤ n ∧ n ≤ 9223372036854775807) ∧ l.length * 8 ≤ reachBytes ∧ Frow (fun k => W.heap[k]?) p (l.map i64) := by
  obtain ⟨p, c, l, e, h0, h1, h2, h3⟩ := rsl_i64 (arg_sl Tryz.underlying150 opn_ints hsz ht hd hv h)
  exact ⟨l, p, c, (List.cons.inj e).1, le_reach (by omega), h0, h2, h1, h3⟩
end
end Go.Proofs.YteahoodopphacaaGreat
/-!
Entries, books and proofs that came in.
-/
namespace Go.Proofs.YteahoodopphacaaGreat
set_option linter.unusedVariables false
set_option linter.unusedSimpArgs false
open Go.ChangeShapes Go.WideShapes Go.ChangeAt Go.RowKit
open Go.TR (S mkB bl Hp Pcell Fcell padd Frow)
set_option maxRecDepth 100000
def REntry : Rep := fun _ cs => ∃ x : Entry, cs = x.row ∧ x.wf
theorem opn_entry : Opn Tryz.prog 82 REntry := by
  refine (opn_struct (Rs := [RStr, RStr]) Tryz.underlying82 ⟨rfl, opn_str Tryz.underlying9, rfl, opn_str Tryz.underlying9, (by show Tryz.prog.cellsOf 82 = _; kernel_rfl)⟩).mono ?_
  rintro F cs ⟨_, _, rfl, ⟨a, rfl, ha⟩, _, _, rfl, ⟨b, rfl, hb⟩, rfl⟩
  exact ⟨⟨a, b⟩, rfl, ⟨le_reach ha, le_reach hb⟩⟩
theorem opn_ents : Opn Tryz.prog 29 (RSl 2 32 REntry) := opn_slice Tryz.underlying29 (by kernel_rfl) (by kernel_rfl) opn_entry
def RProof : Rep := fun F cs => ∃ (p : Prf) (a : Lay), cs = [S p.name, .slice a.e p.ents.length a.ce, .slice a.s p.sides.length a.cs] ∧ p.wf ∧ p.ents.length ≤ a.ce ∧ p.sides.length ≤ a.cs ∧ p.ents.length * 32 ≤ 140737488355328 ∧ p.sides.length * 8 ≤ 140737488355328 ∧ p.at F a
theorem opn_proof : Opn Tryz.prog 32 RProof := by
  refine (opn_struct (Rs := [RStr, RSl 2 32 REntry, RSl 1 8 RU64]) Tryz.underlying32 ⟨rfl, opn_str Tryz.underlying9, rfl, opn_ents, rfl, opn_slice (P := Tryz.prog) Tryz.underlying30 (by kernel_rfl) (by kernel_rfl) (opn_u64 Tryz.underlying22), (by show Tryz.prog.cellsOf 32 = _; kernel_rfl)⟩).mono ?_
  rintro F cs ⟨_, _, rfl, ⟨n, rfl, hn⟩, _, _, rfl, hb, _, _, rfl, hc, rfl⟩
  obtain ⟨p1, c1, l1, rfl, h1, h2, h3, h4⟩ := rsl_many Entry.row Entry.wf (fun r hr => hr) hb
  obtain ⟨p2, c2, l2, rfl, k1, k2, k3, k4⟩ := rsl_u64 hc
  have := reachBytes_lt
  exact ⟨⟨n, l1, l2⟩, ⟨p1, c1, p2, c2⟩, rfl, ⟨le_reach hn, by simp only; omega, h3, by simp only; omega, k3⟩, h1, k1, by simp only; omega, by simp only; omega, ⟨h4, k4⟩⟩
section
variable {H : Type} {enc : TypeId × Value → H} {W : World} {b0 base : Nat} {spare : Nat → Bool} {held : Bool} {r : Reach} {v : Value} {d : DataW H} {ps : List MemPlace} {ts : List TypeId} {ds : List (DataW H)} {j : Nat}
theorem open_strs3 (hsz : (DataW.weightsEach Tryz.prog ts ds).all (· ≤ reachBytes) = true) (ht : ts[j]? = some 25) (hd : ds[j]? = some d) (hv : Value.okWide Tryz.prog W r b0 25 v) (h : DataW.Trod enc Tryz.prog W base spare held 25 v d ps) :
    ∃ (l : List (List UInt8)) (p : Option Addr) (c : Nat), v = .slice p l.length c ∧ l.length * 16 ≤ 140737488355328 ∧ (∀ s ∈ l, s.length ≤ 4611686018427387904) ∧ Frow (fun k => W.heap[k]?) p (l.map S) := by
  obtain ⟨l, p, c, h1, h2, h3, h4, h5, h6⟩ := open_strs hsz ht hd hv h
  have := reachBytes_lt
  exact ⟨l, p, c, h1, by omega, h4, h6⟩
theorem open_book (hsz : (DataW.weightsEach Tryz.prog ts ds).all (· ≤ reachBytes) = true) (ht : ts[j]? = some 29) (hd : ds[j]? = some d) (hv : Value.okWide Tryz.prog W r b0 29 v) (h : DataW.Trod enc Tryz.prog W base spare held 29 v d ps) :
    ∃ (l : List Entry) (p : Option Addr) (c : Nat), v = .slice p l.length c ∧ l.length * 32 ≤ 140737488355328 ∧ l.length ≤ c ∧ (∀ x ∈ l, x.wf) ∧ Frow (fun k => W.heap[k]?) p (l.flatMap Entry.row) := by
  obtain ⟨p, c, l, e, h1, h2, h3, h4⟩ := rsl_many Entry.row Entry.wf (fun r hr => hr) (arg_sl Tryz.underlying29 opn_ents hsz ht hd hv h)
  have := reachBytes_lt
  exact ⟨l, p, c, List.head_eq_of_cons_eq e, by omega, h1, h3, h4⟩
theorem open_proof (hsz : (DataW.weightsEach Tryz.prog ts ds).all (· ≤ reachBytes) = true) (ht : ts[j]? = some 32) (hd : ds[j]? = some d) (hv : Value.okWide Tryz.prog W r b0 32 v) (h : DataW.Trod enc Tryz.prog W base spare held 32 v d ps) :
    ∃ (p : Prf) (a : Lay), v = p.v a ∧ p.wf ∧ p.ents.length ≤ a.ce ∧ p.sides.length ≤ a.cs ∧ p.ents.length * 32 ≤ 140737488355328 ∧ p.at (fun k => W.heap[k]?) a := by
  obtain ⟨cs, rfl, p, a, rfl, h1, h2, h3, h4, _, h5⟩ := arg_st Tryz.underlying32 opn_proof hsz ht hd hv h
  exact ⟨p, a, rfl, h1, h2, h3, h4, h5⟩
end
end Go.Proofs.YteahoodopphacaaGreat
/-!
A head that came in.
-/
namespace Go.Proofs.YteahoodopphacaaGreat
set_option linter.unusedVariables false
set_option linter.unusedSimpArgs false
open Go.ChangeShapes Go.WideShapes Go.ChangeAt Go.RowKit
open Go.TR (S mkB bl Hp Pcell Fcell padd Frow)
@[reducible] def Head.cells (h : Head) : List Value := [i64 h.epoch, u64 (h.root : Nat), u64 (h.prev : Nat), i64 h.at_]
def RHead : Rep := fun _ cs => ∃ h : Head, cs = h.cells ∧ h.wf
set_option maxRecDepth 100000
theorem opn_head : Opn Tryz.prog 24 RHead := by
  refine (opn_struct (Rs := [RI64, RU64, RU64, RI64]) Tryz.underlying24 ⟨rfl, opn_i64 Tryz.underlying2, rfl, opn_u64 Tryz.underlying22, rfl, opn_u64 Tryz.underlying22, rfl, opn_i64 Tryz.underlying2, (by show Tryz.prog.cellsOf 24 = _; kernel_rfl)⟩).mono ?_
  rintro F cs ⟨_, _, rfl, ⟨a, rfl, ha⟩, _, _, rfl, ⟨b, rfl, hb⟩, _, _, rfl, ⟨c, rfl, hc⟩, _, _, rfl, ⟨d, rfl, hd⟩, rfl⟩
  exact ⟨⟨a, b, c, d⟩, rfl, ⟨hb, hc, ha, hd⟩⟩
section
variable {H : Type} {enc : TypeId × Value → H} {W : World} {b0 base : Nat} {spare : Nat → Bool} {held : Bool} {r : Reach} {v : Value} {d : DataW H} {ps : List MemPlace} {ts : List TypeId} {ds : List (DataW H)} {j : Nat}
theorem open_head (hsz : (DataW.weightsEach Tryz.prog ts ds).all (· ≤ reachBytes) = true) (ht : ts[j]? = some 24) (hd : ds[j]? = some d) (hv : Value.okWide Tryz.prog W r b0 24 v) (h : DataW.Trod enc Tryz.prog W base spare held 24 v d ps) : ∃ h : Head, v = h.v ∧ h.wf := by
  obtain ⟨cs, rfl, x, rfl, hw⟩ := arg_st Tryz.underlying24 opn_head hsz ht hd hv h
  exact ⟨x, rfl, hw⟩
end
end Go.Proofs.YteahoodopphacaaGreat
/-!
A chain that came in.
-/
namespace Go.Proofs.YteahoodopphacaaGreat
set_option linter.unusedVariables false
set_option linter.unusedSimpArgs false
open Go.ChangeShapes Go.WideShapes Go.ChangeAt Go.RowKit
open Go.TR (S mkB bl Hp Pcell Fcell padd Frow)
set_option maxRecDepth 100000
theorem opn_heads : Opn Tryz.prog 28 (RSl 4 32 RHead) := opn_slice Tryz.underlying28 (by kernel_rfl) (by kernel_rfl) opn_head
section
variable {H : Type} {enc : TypeId × Value → H} {W : World} {b0 base : Nat} {spare : Nat → Bool} {held : Bool} {r : Reach} {v : Value} {d : DataW H} {ps : List MemPlace} {ts : List TypeId} {ds : List (DataW H)} {j : Nat}
theorem open_heads (hsz : (DataW.weightsEach Tryz.prog ts ds).all (· ≤ reachBytes) = true) (ht : ts[j]? = some 28) (hd : ds[j]? = some d) (hv : Value.okWide Tryz.prog W r b0 28 v) (h : DataW.Trod enc Tryz.prog W base spare held 28 v d ps) : ∃ (l : List Head) (p : Option Addr) (c : Nat), v = .slice p l.length c ∧ l.length ≤ 4611686018427387904 ∧ l.length ≤ c ∧ (∀ x ∈ l, x.wf) ∧ Frow (fun k => W.heap[k]?) p (l.flatMap Head.row) := by
  obtain ⟨p, c, l, e, h1, h2, h3, h4⟩ := rsl_many Head.row Head.wf (fun r hr => hr) (arg_sl Tryz.underlying28 opn_heads hsz ht hd hv h)
  have := le_reach h2
  exact ⟨l, p, c, List.head_eq_of_cons_eq e, by omega, h1, h3, h4⟩
end
end Go.Proofs.YteahoodopphacaaGreat
/-!
Owners and replies that came in.
-/
namespace Go.Proofs.YteahoodopphacaaGreat
set_option linter.unusedVariables false
set_option linter.unusedSimpArgs false
open Go.ChangeShapes Go.WideShapes Go.ChangeAt Go.RowKit
open Go.TR (S mkB bl Hp Pcell Fcell padd Frow)
set_option maxRecDepth 100000
def RRep : Rep := fun F cs => ∃ (h : Head) (p : Prf) (a : Lay), cs = [i64 h.epoch, u64 (h.root : Nat), u64 (h.prev : Nat), i64 h.at_, S p.name, .slice a.e p.ents.length a.ce, .slice a.s p.sides.length a.cs] ∧ h.wf ∧ p.wf ∧ p.at F a
theorem opn_rep : Opn Tryz.prog 34 RRep := by
  refine (opn_struct (Rs := [RHead, RProof]) Tryz.underlying34 ⟨rfl, opn_head, (by kernel_rfl), opn_proof, (by show Tryz.prog.cellsOf 34 = _; kernel_rfl)⟩).mono ?_
  rintro F cs ⟨_, _, rfl, ⟨h, rfl, hw⟩, _, _, rfl, ⟨p, a, rfl, h1, h2, h3, h4, h5, h6⟩, rfl⟩
  exact ⟨h, p, a, rfl, hw, h1, h6⟩
def ROwner : Rep := fun F cs => ∃ (o : Ow) (p : Option Addr) (c : Nat), cs = [S o.name, u64 (o.key : Nat), i64 o.head.epoch, u64 (o.head.root : Nat), u64 (o.head.prev : Nat), i64 o.head.at_, .slice p o.wanted.length c, i64 o.had] ∧ o.wf ∧ o.wanted.length ≤ c ∧ Frow F p (o.wanted.map S)
theorem opn_owner : Opn Tryz.prog 27 ROwner := by
  refine (opn_struct (Rs := [RStr, RU64, RHead, RSl 1 16 RStr, RI64]) Tryz.underlying27 ⟨rfl, opn_str Tryz.underlying9, (by kernel_rfl), opn_u64 Tryz.underlying22, (by kernel_rfl), opn_head, (by kernel_rfl), opn_strs, (by kernel_rfl), opn_i64 Tryz.underlying3, (by show Tryz.prog.cellsOf 27 = _; kernel_rfl)⟩).mono ?_
  rintro F cs ⟨_, _, rfl, ⟨n, rfl, hn⟩, _, _, rfl, ⟨k, rfl, hk⟩, _, _, rfl, ⟨h, rfl, hh⟩, _, _, rfl, hb, _, _, rfl, ⟨d, rfl, hd1, hd2⟩, rfl⟩
  obtain ⟨p, c, l, rfl, g0, g1, g2, g3⟩ := rsl_str hb
  have := reachBytes_lt
  exact ⟨⟨n, k, h, l, d⟩, p, c, rfl, ⟨le_reach hn, hk, hh, by simp only; omega, fun s hs => le_reach (g2 s hs), ⟨hd1, hd2⟩⟩, g0, g3⟩
section
variable {H : Type} {enc : TypeId × Value → H} {W : World} {b0 base : Nat} {spare : Nat → Bool} {held : Bool} {r : Reach} {v : Value} {d : DataW H} {ps : List MemPlace} {ts : List TypeId} {ds : List (DataW H)} {j : Nat}
theorem open_rep (hsz : (DataW.weightsEach Tryz.prog ts ds).all (· ≤ reachBytes) = true) (ht : ts[j]? = some 34) (hd : ds[j]? = some d) (hv : Value.okWide Tryz.prog W r b0 34 v) (h : DataW.Trod enc Tryz.prog W base spare held 34 v d ps) :
    ∃ (h : Head) (p : Prf) (a : Lay), v = .agg #[i64 h.epoch, u64 (h.root : Nat), u64 (h.prev : Nat), i64 h.at_, S p.name, .slice a.e p.ents.length a.ce, .slice a.s p.sides.length a.cs] ∧ h.wf ∧ p.wf ∧ p.at (fun k => W.heap[k]?) a := by
  obtain ⟨cs, rfl, x, p, a, rfl, h1, h2, h3⟩ := arg_st Tryz.underlying34 opn_rep hsz ht hd hv h
  exact ⟨x, p, a, rfl, h1, h2, h3⟩
theorem open_owner (hsz : (DataW.weightsEach Tryz.prog ts ds).all (· ≤ reachBytes) = true) (ht : ts[j]? = some 27) (hd : ds[j]? = some d) (hv : Value.okWide Tryz.prog W r b0 27 v) (h : DataW.Trod enc Tryz.prog W base spare held 27 v d ps) :
    ∃ (o : Ow) (p : Option Addr) (c : Nat), v = o.v p c ∧ o.wf ∧ o.wanted.length ≤ c ∧ Frow (fun k => W.heap[k]?) p (o.wanted.map S) := by
  obtain ⟨cs, rfl, o, p, c, rfl, h1, h2, h3⟩ := arg_st Tryz.underlying27 opn_owner hsz ht hd hv h
  exact ⟨o, p, c, rfl, h1, h2, h3⟩
end
end Go.Proofs.YteahoodopphacaaGreat
