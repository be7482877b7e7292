/-
For looking only: never part of a claim (the two rules here are not proved).
-/
import Derived.Test.YthkmfihbpbehfaaFwJ
namespace Go.TR
set_option linter.unusedVariables false
set_option linter.unusedSimpArgs false
def DbgV (x : List Oper) (g : GEnv) (st : St) : Prop := False
def DbgC (st : St) : Prop := False
theorem dbgO {P : Program} {tb : Tb} {N : Nat} {dr : Bool} {all rest : List Oper} {K : GEnv → St → Prop} {g : GEnv} {o : Oper} {st : St} (h : DbgV [o] g st) : vcOps P tb N dr all (o :: rest) K g st := sorry
theorem dbgC {P : Program} {tb : Tb} {N : Nat} {c : Code} {KK : Exit → St → Prop} {st : St} (h : DbgC st) : vc P tb N c KK st := sorry
end Go.TR
