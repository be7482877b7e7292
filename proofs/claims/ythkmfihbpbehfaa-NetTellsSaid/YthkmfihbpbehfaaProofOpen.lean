/-
Entries, books and proofs that came in.
-/
import Derived.Test.YthkmfihbpbehfaaOpenS
import Derived.Test.YthkmfihbpbehfaaProofMath
namespace Go.Proofs.Ythkmfihbpbehfaa
set_option linter.unusedVariables false
set_option linter.unusedSimpArgs false
open Go.ChangeShapes Go.WideShapes Go.ChangeAt Go.RowKit
open Go.TR (S mkB bl Hp Pcell Fcell padd Frow)
set_option maxRecDepth 100000
def REntry : Rep := fun _ cs => ∃ x : Entry, cs = x.row ∧ x.wf
theorem opn_entry : Opn Try.prog 107 REntry := by
  refine (opn_struct (Rs := [RStr, RStr]) Try.underlying107 ⟨rfl, opn_str Try.underlying9, rfl, opn_str Try.underlying9, (by show Try.prog.cellsOf 107 = _; kernel_rfl)⟩).mono ?_
  rintro F cs ⟨_, _, rfl, ⟨a, rfl, ha⟩, _, _, rfl, ⟨b, rfl, hb⟩, rfl⟩
  exact ⟨⟨a, b⟩, rfl, ⟨le_reach ha, le_reach hb⟩⟩
theorem opn_ents : Opn Try.prog 29 (RSl 2 32 REntry) := opn_slice Try.underlying29 (by kernel_rfl) (by kernel_rfl) opn_entry
def RProof : Rep := fun F cs => ∃ (p : Prf) (a : Lay), cs = [S p.name, .slice a.e p.ents.length a.ce, .slice a.s p.sides.length a.cs] ∧ p.wf ∧ p.ents.length ≤ a.ce ∧ p.sides.length ≤ a.cs ∧ p.ents.length * 32 ≤ 140737488355328 ∧ p.sides.length * 8 ≤ 140737488355328 ∧ p.at F a
theorem opn_proof : Opn Try.prog 32 RProof := by
  refine (opn_struct (Rs := [RStr, RSl 2 32 REntry, RSl 1 8 RU64]) Try.underlying32 ⟨rfl, opn_str Try.underlying9, rfl, opn_ents, rfl, opn_slice (P := Try.prog) Try.underlying30 (by kernel_rfl) (by kernel_rfl) (opn_u64 Try.underlying26), (by show Try.prog.cellsOf 32 = _; kernel_rfl)⟩).mono ?_
  rintro F cs ⟨_, _, rfl, ⟨n, rfl, hn⟩, _, _, rfl, hb, _, _, rfl, hc, rfl⟩
  obtain ⟨p1, c1, l1, rfl, h1, h2, h3, h4⟩ := rsl_many Entry.row Entry.wf (fun r hr => hr) hb
  obtain ⟨p2, c2, l2, rfl, k1, k2, k3, k4⟩ := rsl_u64 hc
  have := reachBytes_lt
  exact ⟨⟨n, l1, l2⟩, ⟨p1, c1, p2, c2⟩, rfl, ⟨le_reach hn, by simp only; omega, h3, by simp only; omega, k3⟩, h1, k1, by simp only; omega, by simp only; omega, ⟨h4, k4⟩⟩
section
variable {H : Type} {enc : TypeId × Value → H} {W : World} {b0 base : Nat} {spare : Nat → Bool} {held : Bool} {r : Reach} {v : Value} {d : DataW H} {ps : List MemPlace} {ts : List TypeId} {ds : List (DataW H)} {j : Nat}
theorem open_strs3 (hsz : (DataW.weightsEach Try.prog ts ds).all (· ≤ reachBytes) = true) (ht : ts[j]? = some 84) (hd : ds[j]? = some d) (hv : Value.okWide Try.prog W r b0 84 v) (h : DataW.Trod enc Try.prog W base spare held 84 v d ps) :
    ∃ (l : List (List UInt8)) (p : Option Addr) (c : Nat), v = .slice p l.length c ∧ l.length * 16 ≤ 140737488355328 ∧ (∀ s ∈ l, s.length ≤ 4611686018427387904) ∧ Frow (fun k => W.heap[k]?) p (l.map S) := by
  obtain ⟨l, p, c, h1, h2, h3, h4, h5, h6⟩ := open_strs hsz ht hd hv h
  have := reachBytes_lt
  exact ⟨l, p, c, h1, by omega, h4, h6⟩
theorem open_book (hsz : (DataW.weightsEach Try.prog ts ds).all (· ≤ reachBytes) = true) (ht : ts[j]? = some 29) (hd : ds[j]? = some d) (hv : Value.okWide Try.prog W r b0 29 v) (h : DataW.Trod enc Try.prog W base spare held 29 v d ps) :
    ∃ (l : List Entry) (p : Option Addr) (c : Nat), v = .slice p l.length c ∧ l.length * 32 ≤ 140737488355328 ∧ l.length ≤ c ∧ (∀ x ∈ l, x.wf) ∧ Frow (fun k => W.heap[k]?) p (l.flatMap Entry.row) := by
  obtain ⟨p, c, l, e, h1, h2, h3, h4⟩ := rsl_many Entry.row Entry.wf (fun r hr => hr) (arg_sl Try.underlying29 opn_ents hsz ht hd hv h)
  have := reachBytes_lt
  exact ⟨l, p, c, List.head_eq_of_cons_eq e, by omega, h1, h3, h4⟩
theorem open_proof (hsz : (DataW.weightsEach Try.prog ts ds).all (· ≤ reachBytes) = true) (ht : ts[j]? = some 32) (hd : ds[j]? = some d) (hv : Value.okWide Try.prog W r b0 32 v) (h : DataW.Trod enc Try.prog W base spare held 32 v d ps) :
    ∃ (p : Prf) (a : Lay), v = p.v a ∧ p.wf ∧ p.ents.length ≤ a.ce ∧ p.sides.length ≤ a.cs ∧ p.ents.length * 32 ≤ 140737488355328 ∧ p.at (fun k => W.heap[k]?) a := by
  obtain ⟨cs, rfl, p, a, rfl, h1, h2, h3, h4, _, h5⟩ := arg_st Try.underlying32 opn_proof hsz ht hd hv h
  exact ⟨p, a, rfl, h1, h2, h3, h4, h5⟩
end
end Go.Proofs.Ythkmfihbpbehfaa
