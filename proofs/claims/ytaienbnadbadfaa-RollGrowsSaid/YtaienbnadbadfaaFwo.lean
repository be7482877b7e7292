/-
More of the walk's rules: ways that meet before an if with a row of its own.
-/
import Derived.Test.YtaienbnadbadfaaFwn
namespace Go.TR
open Go
section
variable {P : Program} {tb : Tb} {N : Nat} {st : St} {KK : Exit → St → Prop}
/-- Ways that meet again before an if. -/
theorem s_joinI {x c e : Code} {id : Nat} {ops : Array Oper} {b : Bool} {β : Type} (JP : β → Prop) (J : β → St) (hJ : ∀ j, JP j → vc P tb N (.seq (.seq (.region id ops b) c) e) KK (J j))
    (hx : ∀ KK2 : Exit → St → Prop, (∀ st, (VS N [] st fun st' => ∃ j, JP j ∧ st' = J j) → KK2 .normal st) → (∀ st, KK .ret st → KK2 .ret st) → (∀ i st, KK (.exit i) st → KK2 (.exit i) st) → vc P tb N x KK2 st) : vc P tb N x (seqK (vc P tb N (.seq (.seq (.region id ops b) c) e) KK) KK) st :=
  hx _ (fun st h => s_vs (id := id) (ops := ops) (b := b) (KK := seqK (vc P tb N c (seqK (vc P tb N e KK) KK)) (seqK (vc P tb N e KK) KK)) (fun c' a w hs => by
    obtain ⟨st', h1, j, h2, rfl⟩ := h c' a w hs
    exact ⟨_, h1, hJ j h2⟩)) (fun _ h => h) (fun _ _ h => h)
end
end Go.TR
