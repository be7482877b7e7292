/-
Replies, letters and nets that came in.
-/
import Derived.Test.YthkmfihbpbehfaaProofOpen
import Derived.Test.YthkmfihbpbehfaaChainOpen
import Derived.Test.YthkmfihbpbehfaaLetMath
namespace Go.Proofs.Ythkmfihbpbehfaa
set_option linter.unusedVariables false
set_option linter.unusedSimpArgs false
open Go.ChangeShapes Go.WideShapes Go.ChangeAt Go.RowKit
open Go.TR (S mkB bl Hp Pcell Fcell padd Frow)
set_option maxRecDepth 100000
def RReply : Rep := fun F cs => ∃ (h : Head) (p : Prf) (a : Lay), cs = [i64 h.epoch, u64 (h.root : Nat), u64 (h.prev : Nat), i64 h.at_, S p.name, .slice a.e p.ents.length a.ce, .slice a.s p.sides.length a.cs] ∧ h.wf ∧ p.wf ∧ p.ents.length ≤ a.ce ∧ p.sides.length ≤ a.cs ∧ p.ents.length * 32 ≤ 140737488355328 ∧ p.sides.length * 8 ≤ 140737488355328 ∧ p.at F a
theorem opn_reply : Opn Try.prog 34 RReply := by
  refine (opn_struct (Rs := [RHead, RProof]) Try.underlying34 ⟨rfl, opn_head, (by kernel_rfl), opn_proof, (by show Try.prog.cellsOf 34 = _; kernel_rfl)⟩).mono ?_
  rintro F cs ⟨_, _, rfl, ⟨h, rfl, hw⟩, _, _, rfl, ⟨p, a, rfl, h1, h2, h3, h4, h5, h6⟩, rfl⟩
  exact ⟨h, p, a, rfl, hw, h1, h2, h3, h4, h5, h6⟩
def RLet : Rep := fun F cs => ∃ x : LP, cs = x.row ∧ x.l.wf ∧ x.at F
theorem opn_letter : Opn Try.prog 36 RLet := by
  refine (opn_struct (Rs := [RI64, RI64, RI64, RI64, RSl 4 32 RHead, RReply]) Try.underlying36 ⟨rfl, opn_i64 Try.underlying3, (by kernel_rfl), opn_i64 Try.underlying3, (by kernel_rfl), opn_i64 Try.underlying2, (by kernel_rfl), opn_i64 Try.underlying2, (by kernel_rfl), opn_heads, (by kernel_rfl), opn_reply, (by show Try.prog.cellsOf 36 = _; kernel_rfl)⟩).mono ?_
  rintro F cs ⟨_, _, rfl, ⟨a1, rfl, _, _⟩, _, _, rfl, ⟨a2, rfl, _, _⟩, _, _, rfl, ⟨a3, rfl, _, _⟩, _, _, rfl, ⟨a4, rfl, _, _⟩, _, _, rfl, hh, _, _, rfl, ⟨h, p, a, rfl, h1, h2, h3, h4, h5, h6, h7⟩, rfl⟩
  obtain ⟨p1, c1, l1, rfl, g1, g2, g3, g4⟩ := rsl_many Head.row Head.wf (fun r hr => hr) hh
  have := reachBytes_lt
  exact ⟨⟨⟨a1, a2, a3, a4, l1, h, p⟩, p1, c1, a⟩, rfl, ⟨by simp only; omega, g3, h1, h2, h5, h6⟩, ⟨g4, h7⟩⟩
theorem opn_lets : Opn Try.prog 22 (RSl 12 152 RLet) := opn_slice Try.underlying22 (by kernel_rfl) (by kernel_rfl) opn_letter
def RNet : Rep := fun F cs => ∃ n : NP, cs = [i64 n.now, .slice n.p n.way.length n.c] ∧ n.way.length * 152 ≤ 140737488355328 ∧ n.way.length ≤ n.c ∧ (∀ x ∈ n.way, x.l.wf) ∧ n.at F
theorem opn_net : Opn Try.prog 24 RNet := by
  refine (opn_struct (Rs := [RI64, RSl 12 152 RLet]) Try.underlying24 ⟨rfl, opn_i64 Try.underlying2, (by kernel_rfl), opn_lets, (by show Try.prog.cellsOf 24 = _; kernel_rfl)⟩).mono ?_
  rintro F cs ⟨_, _, rfl, ⟨t, rfl, _, _⟩, _, _, rfl, hl, rfl⟩
  obtain ⟨p1, c1, l1, rfl, g1, g2, g3, g4⟩ := rsl_many LP.row (fun x => x.l.wf ∧ x.at F) (fun r hr => hr) hl
  have := reachBytes_lt
  exact ⟨⟨t, l1, p1, c1⟩, rfl, by simp only; omega, g1, fun x hx => (g3 x hx).1, ⟨g4, fun x hx => (g3 x hx).2⟩⟩
section
variable {H : Type} {enc : TypeId × Value → H} {W : World} {b0 base : Nat} {spare : Nat → Bool} {held : Bool} {r : Reach} {v : Value} {d : DataW H} {ps : List MemPlace} {ts : List TypeId} {ds : List (DataW H)} {j : Nat}
theorem open_net (hsz : (DataW.weightsEach Try.prog ts ds).all (· ≤ reachBytes) = true) (ht : ts[j]? = some 24) (hd : ds[j]? = some d) (hv : Value.okWide Try.prog W r b0 24 v) (h : DataW.Trod enc Try.prog W base spare held 24 v d ps) :
    ∃ n : NP, v = n.v ∧ n.way.length * 152 ≤ 140737488355328 ∧ n.way.length ≤ n.c ∧ (∀ x ∈ n.way, x.l.wf) ∧ n.at (fun k => W.heap[k]?) := by
  obtain ⟨cs, rfl, n, rfl, h1, h2, h3, h4⟩ := arg_st Try.underlying24 opn_net hsz ht hd hv h
  exact ⟨n, rfl, h1, h2, h3, h4⟩
theorem open_letter (hsz : (DataW.weightsEach Try.prog ts ds).all (· ≤ reachBytes) = true) (ht : ts[j]? = some 36) (hd : ds[j]? = some d) (hv : Value.okWide Try.prog W r b0 36 v) (h : DataW.Trod enc Try.prog W base spare held 36 v d ps) :
    ∃ x : LP, v = .agg x.row.toArray ∧ x.l.wf ∧ x.at (fun k => W.heap[k]?) := by
  obtain ⟨cs, rfl, x, rfl, h1, h2⟩ := arg_st Try.underlying36 opn_letter hsz ht hd hv h
  exact ⟨x, rfl, h1, h2⟩
theorem open_ints2 (hsz : (DataW.weightsEach Try.prog ts ds).all (· ≤ reachBytes) = true) (ht : ts[j]? = some 37) (hd : ds[j]? = some d) (hv : Value.okWide Try.prog W r b0 37 v) (h : DataW.Trod enc Try.prog W base spare held 37 v d ps) :
    ∃ (l : List Int) (p : Option Addr) (c : Nat), v = .slice p l.length c ∧ l.length ≤ 4611686018427387904 ∧ Frow (fun k => W.heap[k]?) p (l.map i64) := by
  obtain ⟨l, p, c, e, h1, _, _, _, h2⟩ := open_ints hsz ht hd hv h
  exact ⟨l, p, c, e, h1, h2⟩
end
end Go.Proofs.Ythkmfihbpbehfaa
