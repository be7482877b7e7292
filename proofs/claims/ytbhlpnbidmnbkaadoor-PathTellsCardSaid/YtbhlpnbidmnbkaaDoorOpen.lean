/-
What an argument that came in looks like: strings, numbers, bools.
-/
import Derived.WalkKit
import Derived.ProofKit
import Derived.OpenShut
import Derived.ShutString
import Derived.ChangeOld
import Derived.Below
import Derived.SizedLaws
import Derived.Test.YtbhlpnbidmnbkaaDoorBase
namespace Go.Proofs.YtbhlpnbidmnbkaaDoor
set_option linter.unusedVariables false
set_option linter.unusedSimpArgs false
open Go.ChangeShapes Go.WideShapes Go.ChangeAt Go.RowKit
open Go.TR (S mkB bl)
theorem le_reach {n : Nat} (h : n ≤ reachBytes) : n ≤ 4611686018427387904 := by have := reachBytes_lt; omega
section
variable {H : Type} {enc : TypeId × Value → H} {P : Program} {W : World} {b0 base : Nat} {spare : Nat → Bool} {held : Bool} {r : Reach} {t : TypeId} {v : Value} {d : DataW H} {ps : List MemPlace}
theorem open_str (ht : P.underlying t = some .string) (hv : Value.okWide P W r b0 t v) (h : DataW.Trod enc P W base spare held t v d ps) : ∃ l : List UInt8, v = S l ∧ d = .lit (.string l) := by
  obtain ⟨s, h1, h2, _, _⟩ := Go.ChangeMaps.open_string ht hv h
  exact ⟨s.data.toList, h1, h2⟩
theorem open_i64 {k : IntKind} (ht : P.underlying t = some (.int k)) (hv : Value.okWide P W r b0 t v) (h : DataW.Trod enc P W base spare held t v d ps) : ∃ n : Int, v = .int k n ∧ (Lit.int k n).wf = true := by
  obtain ⟨n, h1, _, _, h2⟩ := open_int ht hv h
  exact ⟨n, h1, h2⟩
theorem open_u64 (ht : P.underlying t = some (.int .u64)) (hv : Value.okWide P W r b0 t v) (h : DataW.Trod enc P W base spare held t v d ps) : ∃ n : Nat, v = u64 (n : Nat) ∧ n < 18446744073709551616 := by
  obtain ⟨n, h1, _, _, h2⟩ := open_int ht hv h
  simp [Lit.wf, IntKind.min, IntKind.max, IntKind.bits, IntKind.signed] at h2
  refine ⟨n.toNat, ?_, by omega⟩
  rw [h1, Int.toNat_of_nonneg (by omega)]
theorem open_u8 (ht : P.underlying t = some (.int .u8)) (hv : Value.okWide P W r b0 t v) (h : DataW.Trod enc P W base spare held t v d ps) : ∃ n : Nat, v = u8 (n : Nat) ∧ n < 256 := by
  obtain ⟨n, h1, _, _, h2⟩ := open_int ht hv h
  simp [Lit.wf, IntKind.min, IntKind.max, IntKind.bits, IntKind.signed] at h2
  refine ⟨n.toNat, ?_, by omega⟩
  rw [h1, Int.toNat_of_nonneg (by omega)]
end
end Go.Proofs.YtbhlpnbidmnbkaaDoor
