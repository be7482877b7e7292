/-
Slices of strings and of numbers that came in.
-/
import Derived.Test.YtaienbnadbadfaaOpenG
namespace Go.Proofs.Ytaienbnadbadfaa
set_option linter.unusedVariables false
set_option linter.unusedSimpArgs false
open Go.ChangeShapes Go.WideShapes Go.ChangeAt Go.RowKit
open Go.TR (S mkB bl Hp Pcell Fcell padd Frow)
set_option maxRecDepth 100000
section
variable {H : Type} {enc : TypeId × Value → H} {W : World} {b0 base : Nat} {spare : Nat → Bool} {held : Bool} {r : Reach} {v : Value} {d : DataW H} {ps : List MemPlace} {ts : List TypeId} {ds : List (DataW H)} {j : Nat}
theorem opn_strs : Opn Try.prog 64 (RSl 1 16 RStr) := opn_slice Try.underlying64 (by kernel_rfl) (by kernel_rfl) (opn_str Try.underlying9)
theorem open_strs (hsz : (DataW.weightsEach Try.prog ts ds).all (· ≤ reachBytes) = true) (ht : ts[j]? = some 64) (hd : ds[j]? = some d) (hv : Value.okWide Try.prog W r b0 64 v) (h : DataW.Trod enc Try.prog W base spare held 64 v d ps) :
    ∃ (l : List (List UInt8)) (p : Option Addr) (c : Nat), v = .slice p l.length c ∧ l.length ≤ 4611686018427387904 ∧ l.length ≤ c ∧ (∀ s ∈ l, s.length ≤ 4611686018427387904) ∧ l.length * 16 ≤ reachBytes ∧ Frow (fun k => W.heap[k]?) p (l.map S) := by
  obtain ⟨p, c, l, e, h0, h1, h2, h3⟩ := rsl_str (arg_sl Try.underlying64 opn_strs hsz ht hd hv h)
  exact ⟨l, p, c, (List.cons.inj e).1, le_reach (by omega), h0, fun s hs => le_reach (h2 s hs), h1, h3⟩
theorem opn_u64s : Opn Try.prog 46 (RSl 1 8 RU64) := opn_slice Try.underlying46 (by kernel_rfl) (by kernel_rfl) (opn_u64 Try.underlying42)
theorem open_u64s (hsz : (DataW.weightsEach Try.prog ts ds).all (· ≤ reachBytes) = true) (ht : ts[j]? = some 46) (hd : ds[j]? = some d) (hv : Value.okWide Try.prog W r b0 46 v) (h : DataW.Trod enc Try.prog W base spare held 46 v d ps) :
    ∃ (l : List Nat) (p : Option Addr) (c : Nat), v = .slice p l.length c ∧ l.length ≤ 4611686018427387904 ∧ l.length ≤ c ∧ (∀ n ∈ l, n < 18446744073709551616) ∧ l.length * 8 ≤ reachBytes ∧ Frow (fun k => W.heap[k]?) p (l.map fun n => u64 (n : Nat)) := by
  obtain ⟨p, c, l, e, h0, h1, h2, h3⟩ := rsl_u64 (arg_sl Try.underlying46 opn_u64s hsz ht hd hv h)
  exact ⟨l, p, c, (List.cons.inj e).1, le_reach (by omega), h0, h2, h1, h3⟩
theorem opn_ints : Opn Try.prog 24 (RSl 1 8 RI64) := opn_slice Try.underlying24 (by kernel_rfl) (by kernel_rfl) (opn_i64 Try.underlying3)
theorem open_ints (hsz : (DataW.weightsEach Try.prog ts ds).all (· ≤ reachBytes) = true) (ht : ts[j]? = some 24) (hd : ds[j]? = some d) (hv : Value.okWide Try.prog W r b0 24 v) (h : DataW.Trod enc Try.prog W base spare held 24 v d ps) :
    ∃ (l : List Int) (p : Option Addr) (c : Nat), v = .slice p l.length c ∧ l.length ≤ 4611686018427387904 ∧ l.length ≤ c ∧ (∀ n ∈ l, -9223372036854775808 ≤ n ∧ n ≤ 9223372036854775807) ∧ l.length * 8 ≤ reachBytes ∧ Frow (fun k => W.heap[k]?) p (l.map i64) := by
  obtain ⟨p, c, l, e, h0, h1, h2, h3⟩ := rsl_i64 (arg_sl Try.underlying24 opn_ints hsz ht hd hv h)
  exact ⟨l, p, c, (List.cons.inj e).1, le_reach (by omega), h0, h2, h1, h3⟩
end
end Go.Proofs.Ytaienbnadbadfaa
