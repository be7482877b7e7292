/-
Queues, plainly.
-/
import Derived.Test.YtaienbnadbadfaaRows2
import Derived.Test.YtaienbnadbadfaaAsk
namespace Go.Proofs.Ytaienbnadbadfaa
set_option linter.unusedVariables false
set_option linter.unusedSimpArgs false
open Go.TR
structure Queue where
  most : Int
  wait : List Ask
deriving DecidableEq
def Queue.nil : Queue := ⟨0, []⟩
/-- What is wrong with one of some asks: the first that is wrong. -/
def asksFault : List Ask → Int
  | [] => 0
  | a :: l => if askFault a.name a.value = 0 then asksFault l else askFault a.name a.value
def queueFault (q : Queue) : Int := if q.most < 1 ∨ 30 < q.most then 4 else if q.most < (q.wait.length : Int) then 7 else asksFault q.wait
/-- A queue's value. -/
@[reducible] def qv (most : Int) (p : Option Addr) (n c : Nat) : Value := .agg #[i64 most, .slice p n c]
theorem ask_cells (a : Ask) : a.cells.length = 4 := rfl
theorem ask_one (l : List Ask) : ∀ x ∈ l.flatMap Ask.cells, one (.v x) = true := fun x hx => by
  obtain ⟨a, _, ha⟩ := List.mem_flatMap.1 hx
  simp only [Ask.cells, List.mem_cons, List.not_mem_nil, or_false] at ha
  rcases ha with rfl | rfl | rfl | rfl <;> rfl
theorem asksFault_drop {l : List Ask} {j : Nat} (hj : j < l.length) : asksFault (l.drop j) = if askFault l[j].name l[j].value = 0 then asksFault (l.drop (j + 1)) else askFault l[j].name l[j].value := by
  rw [List.drop_eq_getElem_cons hj]
  rfl
structure Queue.wf (q : Queue) : Prop where
  wait : ∀ a ∈ q.wait, a.wf
  len : q.wait.length ≤ 4611686018427387904
end Go.Proofs.Ytaienbnadbadfaa
