/-
Slices of strings and of numbers that came in.
-/
import Derived.Test.YtbhlpnbidmnbkaaDoorOpenG
import Derived.Test.YtbhlpnbidmnbkaaDoorSetRows2
/-!
Slices of strings and of numbers that came in.
-/
namespace Go.Proofs.YtbhlpnbidmnbkaaDoor
set_option linter.unusedVariables false
set_option linter.unusedSimpArgs false
open Go.ChangeShapes Go.WideShapes Go.ChangeAt Go.RowKit
open Go.TR (S mkB bl Hp Pcell Fcell padd Frow)
set_option maxRecDepth 100000
section
variable {H : Type} {enc : TypeId × Value → H} {W : World} {b0 base : Nat} {spare : Nat → Bool} {held : Bool} {r : Reach} {v : Value} {d : DataW H} {ps : List MemPlace} {ts : List TypeId} {ds : List (DataW H)} {j : Nat}
theorem opn_strs : Opn Tryd.prog 47 (RSl 1 16 RStr) := opn_slice Tryd.underlying47 (by kernel_rfl) (by kernel_rfl) (opn_str Tryd.underlying9)
theorem open_strs (hsz : (DataW.weightsEach Tryd.prog ts ds).all (· ≤ reachBytes) = true) (ht : ts[j]? = some 47) (hd : ds[j]? = some d) (hv : Value.okWide Tryd.prog W r b0 47 v) (h : DataW.Trod enc Tryd.prog W base spare held 47 v d ps) :
    ∃ (l : List (List UInt8)) (p : Option Addr) (c : Nat), v = .slice p l.length c ∧ l.length ≤ 4611686018427387904 ∧ l.length ≤ c ∧ (∀ s ∈ l, s.length ≤ 4611686018427387904) ∧ l.length * 16 ≤ reachBytes ∧ Frow (fun k => W.heap[k]?) p (l.map S) := by
  obtain ⟨p, c, l, e, h0, h1, h2, h3⟩ := rsl_str (arg_sl Tryd.underlying47 opn_strs hsz ht hd hv h)
  exact ⟨l, p, c, (List.cons.inj e).1, le_reach (by omega), h0, fun s hs => le_reach (h2 s hs), h1, h3⟩
theorem opn_u64s : Opn Tryd.prog 38 (RSl 1 8 RU64) := opn_slice Tryd.underlying38 (by kernel_rfl) (by kernel_rfl) (opn_u64 Tryd.underlying26)
theorem open_u64s (hsz : (DataW.weightsEach Tryd.prog ts ds).all (· ≤ reachBytes) = true) (ht : ts[j]? = some 38) (hd : ds[j]? = some d) (hv : Value.okWide Tryd.prog W r b0 38 v) (h : DataW.Trod enc Tryd.prog W base spare held 38 v d ps) :
    ∃ (l : List Nat) (p : Option Addr) (c : Nat), v = .slice p l.length c ∧ l.length ≤ 4611686018427387904 ∧ l.length ≤ c ∧ (∀ n ∈ l, n < 18446744073709551616) ∧ l.length * 8 ≤ reachBytes ∧ Frow (fun k => W.heap[k]?) p (l.map fun n => u64 (n : Nat)) := by
  obtain ⟨p, c, l, e, h0, h1, h2, h3⟩ := rsl_u64 (arg_sl Tryd.underlying38 opn_u64s hsz ht hd hv h)
  exact ⟨l, p, c, (List.cons.inj e).1, le_reach (by omega), h0, h2, h1, h3⟩
theorem opn_ints : Opn Tryd.prog 100 (RSl 1 8 RI64) := opn_slice Tryd.underlying100 (by kernel_rfl) (by kernel_rfl) (opn_i64 Tryd.underlying3)
theorem open_ints (hsz : (DataW.weightsEach Tryd.prog ts ds).all (· ≤ reachBytes) = true) (ht : ts[j]? = some 100) (hd : ds[j]? = some d) (hv : Value.okWide Tryd.prog W r b0 100 v) (h : DataW.Trod enc Tryd.prog W base spare held 100 v d ps) :
    ∃ (l : List Int) (p : Option Addr) (c : Nat), v = .slice p l.length c ∧ l.length ≤ 4611686018427387904 ∧ l.length ≤ c ∧ (∀ n ∈ l, -9223372036854775808 ≤ n ∧ n ≤ 9223372036854775807) ∧ l.length * 8 ≤ reachBytes ∧ Frow (fun k => W.heap[k]?) p (l.map i64) := by
  obtain ⟨p, c, l, e, h0, h1, h2, h3⟩ := rsl_i64 (arg_sl Tryd.underlying100 opn_ints hsz ht hd hv h)
  exact ⟨l, p, c, (List.cons.inj e).1, le_reach (by omega), h0, h2, h1, h3⟩
end
end Go.Proofs.YtbhlpnbidmnbkaaDoor
/-!
Entries, books and proofs that came in.
-/
namespace Go.Proofs.YtbhlpnbidmnbkaaDoor
set_option linter.unusedVariables false
set_option linter.unusedSimpArgs false
open Go.ChangeShapes Go.WideShapes Go.ChangeAt Go.RowKit
open Go.TR (S mkB bl Hp Pcell Fcell padd Frow)
set_option maxRecDepth 100000
def REntry : Rep := fun _ cs => ∃ x : Entry, cs = x.row ∧ x.wf
theorem opn_entry : Opn Tryd.prog 32 REntry := by
  refine (opn_struct (Rs := [RStr, RStr]) Tryd.underlying32 ⟨rfl, opn_str Tryd.underlying9, rfl, opn_str Tryd.underlying9, (by show Tryd.prog.cellsOf 32 = _; kernel_rfl)⟩).mono ?_
  rintro F cs ⟨_, _, rfl, ⟨a, rfl, ha⟩, _, _, rfl, ⟨b, rfl, hb⟩, rfl⟩
  exact ⟨⟨a, b⟩, rfl, ⟨le_reach ha, le_reach hb⟩⟩
theorem opn_ents : Opn Tryd.prog 22 (RSl 2 32 REntry) := opn_slice Tryd.underlying22 (by kernel_rfl) (by kernel_rfl) opn_entry
def RProof : Rep := fun F cs => ∃ (p : Prf) (a : Lay), cs = [S p.name, .slice a.e p.ents.length a.ce, .slice a.s p.sides.length a.cs] ∧ p.wf ∧ p.ents.length ≤ a.ce ∧ p.sides.length ≤ a.cs ∧ p.ents.length * 32 ≤ 140737488355328 ∧ p.sides.length * 8 ≤ 140737488355328 ∧ p.at F a
theorem opn_proof : Opn Tryd.prog 40 RProof := by
  refine (opn_struct (Rs := [RStr, RSl 2 32 REntry, RSl 1 8 RU64]) Tryd.underlying40 ⟨rfl, opn_str Tryd.underlying9, rfl, opn_ents, rfl, opn_slice (P := Tryd.prog) Tryd.underlying38 (by kernel_rfl) (by kernel_rfl) (opn_u64 Tryd.underlying26), (by show Tryd.prog.cellsOf 40 = _; kernel_rfl)⟩).mono ?_
  rintro F cs ⟨_, _, rfl, ⟨n, rfl, hn⟩, _, _, rfl, hb, _, _, rfl, hc, rfl⟩
  obtain ⟨p1, c1, l1, rfl, h1, h2, h3, h4⟩ := rsl_many Entry.row Entry.wf (fun r hr => hr) hb
  obtain ⟨p2, c2, l2, rfl, k1, k2, k3, k4⟩ := rsl_u64 hc
  have := reachBytes_lt
  exact ⟨⟨n, l1, l2⟩, ⟨p1, c1, p2, c2⟩, rfl, ⟨le_reach hn, by simp only; omega, h3, by simp only; omega, k3⟩, h1, k1, by simp only; omega, by simp only; omega, ⟨h4, k4⟩⟩
section
variable {H : Type} {enc : TypeId × Value → H} {W : World} {b0 base : Nat} {spare : Nat → Bool} {held : Bool} {r : Reach} {v : Value} {d : DataW H} {ps : List MemPlace} {ts : List TypeId} {ds : List (DataW H)} {j : Nat}
theorem open_strs3 (hsz : (DataW.weightsEach Tryd.prog ts ds).all (· ≤ reachBytes) = true) (ht : ts[j]? = some 47) (hd : ds[j]? = some d) (hv : Value.okWide Tryd.prog W r b0 47 v) (h : DataW.Trod enc Tryd.prog W base spare held 47 v d ps) :
    ∃ (l : List (List UInt8)) (p : Option Addr) (c : Nat), v = .slice p l.length c ∧ l.length * 16 ≤ 140737488355328 ∧ (∀ s ∈ l, s.length ≤ 4611686018427387904) ∧ Frow (fun k => W.heap[k]?) p (l.map S) := by
  obtain ⟨l, p, c, h1, h2, h3, h4, h5, h6⟩ := open_strs hsz ht hd hv h
  have := reachBytes_lt
  exact ⟨l, p, c, h1, by omega, h4, h6⟩
theorem open_book (hsz : (DataW.weightsEach Tryd.prog ts ds).all (· ≤ reachBytes) = true) (ht : ts[j]? = some 22) (hd : ds[j]? = some d) (hv : Value.okWide Tryd.prog W r b0 22 v) (h : DataW.Trod enc Tryd.prog W base spare held 22 v d ps) :
    ∃ (l : List Entry) (p : Option Addr) (c : Nat), v = .slice p l.length c ∧ l.length * 32 ≤ 140737488355328 ∧ l.length ≤ c ∧ (∀ x ∈ l, x.wf) ∧ Frow (fun k => W.heap[k]?) p (l.flatMap Entry.row) := by
  obtain ⟨p, c, l, e, h1, h2, h3, h4⟩ := rsl_many Entry.row Entry.wf (fun r hr => hr) (arg_sl Tryd.underlying22 opn_ents hsz ht hd hv h)
  have := reachBytes_lt
  exact ⟨l, p, c, List.head_eq_of_cons_eq e, by omega, h1, h3, h4⟩
theorem open_proof (hsz : (DataW.weightsEach Tryd.prog ts ds).all (· ≤ reachBytes) = true) (ht : ts[j]? = some 40) (hd : ds[j]? = some d) (hv : Value.okWide Tryd.prog W r b0 40 v) (h : DataW.Trod enc Tryd.prog W base spare held 40 v d ps) :
    ∃ (p : Prf) (a : Lay), v = p.v a ∧ p.wf ∧ p.ents.length ≤ a.ce ∧ p.sides.length ≤ a.cs ∧ p.ents.length * 32 ≤ 140737488355328 ∧ p.at (fun k => W.heap[k]?) a := by
  obtain ⟨cs, rfl, p, a, rfl, h1, h2, h3, h4, _, h5⟩ := arg_st Tryd.underlying40 opn_proof hsz ht hd hv h
  exact ⟨p, a, rfl, h1, h2, h3, h4, h5⟩
end
end Go.Proofs.YtbhlpnbidmnbkaaDoor
