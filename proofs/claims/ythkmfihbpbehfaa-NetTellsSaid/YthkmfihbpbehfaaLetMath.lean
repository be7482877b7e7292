/-
Letters on their way, plainly.
-/
import Derived.Test.YthkmfihbpbehfaaProofMath
import Derived.Test.YthkmfihbpbehfaaChainMath
namespace Go.Proofs.Ythkmfihbpbehfaa
set_option linter.unusedVariables false
set_option linter.unusedSimpArgs false
open Go.TR
theorem pcell_l {F : Hp} {b : Nat} {x : Value} (h : Frow F (some ⟨b, 0, none⟩) [x]) : Pcell F (some ⟨b, 0, none⟩) = some x := by
  have := h 0 x rfl
  simpa [padd, Addr.add] using this
/-- A letter. -/
structure Ltr where
  to_ : Int
  from_ : Int
  since : Int
  due : Int
  heads : List Head
  head : Head
  prf : Prf
/-- A letter, and where it lies. -/
structure LP where
  l : Ltr
  ph : Option Addr
  ch : Nat
  a : Lay
@[reducible] def LP.row (x : LP) : List Value := [i64 x.l.to_, i64 x.l.from_, i64 x.l.since, i64 x.l.due, .slice x.ph x.l.heads.length x.ch, i64 x.l.head.epoch, u64 (x.l.head.root : Nat), u64 (x.l.head.prev : Nat), i64 x.l.head.at_, S x.l.prf.name, .slice x.a.e x.l.prf.ents.length x.a.ce, .slice x.a.s x.l.prf.sides.length x.a.cs]
theorem lp_row (x : LP) : x.row.length = 12 := rfl
theorem lp_one (l : List LP) : ∀ x ∈ l.flatMap LP.row, one (.v x) = true := fun x hx => by
  obtain ⟨a, _, ha⟩ := List.mem_flatMap.1 hx
  simp only [LP.row, List.mem_cons, List.not_mem_nil, or_false] at ha
  rcases ha with rfl | rfl | rfl | rfl | rfl | rfl | rfl | rfl | rfl | rfl | rfl | rfl <;> rfl
structure Ltr.wf (l : Ltr) : Prop where
  heads : l.heads.length * 32 ≤ 140737488355328
  each : ∀ x ∈ l.heads, x.wf
  head : l.head.wf
  prf : l.prf.wf
  ents : l.prf.ents.length * 32 ≤ 140737488355328
  sides : l.prf.sides.length * 8 ≤ 140737488355328
structure LP.at (F : Hp) (x : LP) : Prop where
  heads : Frow F x.ph (x.l.heads.flatMap Head.row)
  prf : x.l.prf.at F x.a
theorem LP.at_sub {F F' : Hp} (h : F.sub F') {x : LP} (k : x.at F) : x.at F' := ⟨frow_sub h k.heads, Prf.at_sub h k.prf⟩
/-- A net: its time, its letters, where they lie. -/
structure NP where
  now : Int
  way : List LP
  p : Option Addr
  c : Nat
@[reducible] def NP.v (n : NP) : Value := .agg #[i64 n.now, .slice n.p n.way.length n.c]
structure NP.at (F : Hp) (n : NP) : Prop where
  way : Frow F n.p (n.way.flatMap LP.row)
  each : ∀ x ∈ n.way, x.at F
theorem NP.at_sub {F F' : Hp} (h : F.sub F') {n : NP} (k : n.at F) : n.at F' := ⟨frow_sub h k.way, fun x hx => LP.at_sub h (k.each x hx)⟩
def NP.none : NP := ⟨0, [], Option.none, 0⟩
theorem NP.none_at (F : Hp) : NP.none.at F := ⟨frow_nil _ _, by simp [NP.none]⟩
def netFault (n : NP) : Int := if n.now < 0 ∨ 1000000000 < n.now then 4 else if 60 < n.way.length then 7 else if (n.way.any fun x => decide (x.l.due ≤ n.now)) = true then 4 else 0
theorem netFault_cases (n : NP) : netFault n = 4 ∨ netFault n = 7 ∨ netFault n = 0 := by
  unfold netFault
  split
  · simp
  · split
    · simp
    · split <;> simp
theorem netFault_zero {n : NP} (h : netFault n = 0) : 0 ≤ n.now ∧ n.now ≤ 1000000000 ∧ n.way.length ≤ 60 := by
  unfold netFault at h
  split at h
  · cases h
  · split at h
    · cases h
    · omega
def badFate (k : Int) : Bool := decide (k < 1) || decide (100 < k)
/-- What sending a letter comes to. -/
def sendE (n : NP) (fs : List Int) : Int := if netFault n ≠ 0 then netFault n else if fs.any badFate = true then 4 else if 60 < n.way.length + fs.length then 7 else 0
def Ltr.by (l : Ltr) (t : Int) : Ltr := { l with due := t }
def sendL (n : NP) (l : Ltr) (fs : List Int) : List Ltr := n.way.map LP.l ++ fs.map fun k => l.by (n.now + k)
/-- What comes back from sending. -/
def SendQ (n : NP) (l : Ltr) (fs : List Int) (x : Value) (F : Hp) : Prop := ∃ y : NP, x = pair y.v (i64 (sendE n fs)) ∧ y.at F ∧ y.way.length ≤ 4611686018427387904 ∧ y.now = (if sendE n fs = 0 then n.now else 0) ∧ y.way.map LP.l = if sendE n fs = 0 then sendL n l fs else []
def tickE (n : NP) : Int := if netFault n ≠ 0 then netFault n else if n.now = 1000000000 then 9 else 0
/-- What comes back from a tick. -/
def TickQ (n : NP) (x : Value) (F : Hp) : Prop := ∃ (y : NP) (l : List LP) (p : Option Addr) (c : Nat), x = triple y.v (.slice p l.length c) (i64 (tickE n)) ∧ y.at F ∧ y.way.length ≤ 60 ∧ l.length ≤ 60 ∧ Frow F p (l.flatMap LP.row) ∧ (∀ x ∈ l, x.at F) ∧ y.now = (if tickE n = 0 then n.now + 1 else 0) ∧
  y.way.map LP.l = (if tickE n = 0 then (n.way.map LP.l).filter fun m => !decide (m.due = n.now + 1) else []) ∧ l.map LP.l = if tickE n = 0 then (n.way.map LP.l).filter fun m => decide (m.due = n.now + 1) else []
end Go.Proofs.Ythkmfihbpbehfaa
