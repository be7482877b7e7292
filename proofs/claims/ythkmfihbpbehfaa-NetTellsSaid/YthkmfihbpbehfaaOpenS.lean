/-
Slices of strings and of numbers that came in.
-/
import Derived.Test.YthkmfihbpbehfaaOpenG
namespace Go.Proofs.Ythkmfihbpbehfaa
set_option linter.unusedVariables false
set_option linter.unusedSimpArgs false
open Go.ChangeShapes Go.WideShapes Go.ChangeAt Go.RowKit
open Go.TR (S mkB bl Hp Pcell Fcell padd Frow)
set_option maxRecDepth 100000
section
variable {H : Type} {enc : TypeId × Value → H} {W : World} {b0 base : Nat} {spare : Nat → Bool} {held : Bool} {r : Reach} {v : Value} {d : DataW H} {ps : List MemPlace} {ts : List TypeId} {ds : List (DataW H)} {j : Nat}
theorem opn_strs : Opn Try.prog 84 (RSl 1 16 RStr) := opn_slice Try.underlying84 (by kernel_rfl) (by kernel_rfl) (opn_str Try.underlying9)
theorem open_strs (hsz : (DataW.weightsEach Try.prog ts ds).all (· ≤ reachBytes) = true) (ht : ts[j]? = some 84) (hd : ds[j]? = some d) (hv : Value.okWide Try.prog W r b0 84 v) (h : DataW.Trod enc Try.prog W base spare held 84 v d ps) :
    ∃ (l : List (List UInt8)) (p : Option Addr) (c : Nat), v = .slice p l.length c ∧ l.length ≤ 4611686018427387904 ∧ l.length ≤ c ∧ (∀ s ∈ l, s.length ≤ 4611686018427387904) ∧ l.length * 16 ≤ reachBytes ∧ Frow (fun k => W.heap[k]?) p (l.map S) := by
  obtain ⟨p, c, l, e, h0, h1, h2, h3⟩ := rsl_str (arg_sl Try.underlying84 opn_strs hsz ht hd hv h)
  exact ⟨l, p, c, (List.cons.inj e).1, le_reach (by omega), h0, fun s hs => le_reach (h2 s hs), h1, h3⟩
theorem opn_u64s : Opn Try.prog 30 (RSl 1 8 RU64) := opn_slice Try.underlying30 (by kernel_rfl) (by kernel_rfl) (opn_u64 Try.underlying26)
theorem open_u64s (hsz : (DataW.weightsEach Try.prog ts ds).all (· ≤ reachBytes) = true) (ht : ts[j]? = some 30) (hd : ds[j]? = some d) (hv : Value.okWide Try.prog W r b0 30 v) (h : DataW.Trod enc Try.prog W base spare held 30 v d ps) :
    ∃ (l : List Nat) (p : Option Addr) (c : Nat), v = .slice p l.length c ∧ l.length ≤ 4611686018427387904 ∧ l.length ≤ c ∧ (∀ n ∈ l, n < 18446744073709551616) ∧ l.length * 8 ≤ reachBytes ∧ Frow (fun k => W.heap[k]?) p (l.map fun n => u64 (n : Nat)) := by
  obtain ⟨p, c, l, e, h0, h1, h2, h3⟩ := rsl_u64 (arg_sl Try.underlying30 opn_u64s hsz ht hd hv h)
  exact ⟨l, p, c, (List.cons.inj e).1, le_reach (by omega), h0, h2, h1, h3⟩
theorem opn_ints : Opn Try.prog 37 (RSl 1 8 RI64) := opn_slice Try.underlying37 (by kernel_rfl) (by kernel_rfl) (opn_i64 Try.underlying3)
theorem open_ints (hsz : (DataW.weightsEach Try.prog ts ds).all (· ≤ reachBytes) = true) (ht : ts[j]? = some 37) (hd : ds[j]? = some d) (hv : Value.okWide Try.prog W r b0 37 v) (h : DataW.Trod enc Try.prog W base spare held 37 v d ps) :
    ∃ (l : List Int) (p : Option Addr) (c : Nat), v = .slice p l.length c ∧ l.length ≤ 4611686018427387904 ∧ l.length ≤ c ∧ (∀ n ∈ l, -9223372036854775808 ≤ n ∧ n ≤ 9223372036854775807) ∧ l.length * 8 ≤ reachBytes ∧ Frow (fun k => W.heap[k]?) p (l.map i64) := by
  obtain ⟨p, c, l, e, h0, h1, h2, h3⟩ := rsl_i64 (arg_sl Try.underlying37 opn_ints hsz ht hd hv h)
  exact ⟨l, p, c, (List.cons.inj e).1, le_reach (by omega), h0, h2, h1, h3⟩
end
end Go.Proofs.Ythkmfihbpbehfaa
