/-
Slices of strings and of numbers that came in.
-/
import Derived.Test.YthkkgphjjmhglaaGreatDoorSetOpenG
import Derived.Test.YthkkgphjjmhglaaGreatDoorSetIdx
import Derived.Test.YthkkgphjjmhglaaGreatDoorSetReadNum
import Derived.Test.YthkkgphjjmhglaaGreatDoorSetChain
import Derived.Test.YthkkgphjjmhglaaGreatDoorSetQueue
import Derived.Test.YthkkgphjjmhglaaGreatDoorSetClerkTick
import Derived.Test.YthkkgphjjmhglaaGreatDoorChain3
import Derived.Test.YthkkgphjjmhglaaGreatDoorSetServeLook
/-!
Slices of strings and of numbers that came in.
-/
namespace Go.Proofs.YthkkgphjjmhglaaGreatDoor
set_option linter.unusedVariables false
set_option linter.unusedSimpArgs false
open Go.ChangeShapes Go.WideShapes Go.ChangeAt Go.RowKit
open Go.TR (S mkB bl Hp Pcell Fcell padd Frow)
set_option maxRecDepth 100000
section
variable {H : Type} {enc : TypeId × Value → H} {W : World} {b0 base : Nat} {spare : Nat → Bool} {held : Bool} {r : Reach} {v : Value} {d : DataW H} {ps : List MemPlace} {ts : List TypeId} {ds : List (DataW H)} {j : Nat}
end
end Go.Proofs.YthkkgphjjmhglaaGreatDoor
/-!
Entries, books and proofs that came in.
-/
namespace Go.Proofs.YthkkgphjjmhglaaGreatDoor
set_option linter.unusedVariables false
set_option linter.unusedSimpArgs false
open Go.ChangeShapes Go.WideShapes Go.ChangeAt Go.RowKit
open Go.TR (S mkB bl Hp Pcell Fcell padd Frow)
set_option maxRecDepth 100000
def REntry : Rep := fun _ cs => ∃ x : Entry, cs = x.row ∧ x.wf
theorem opn_entry : Opn Tryz.prog 70 REntry := by
  refine (opn_struct (Rs := [RStr, RStr]) Tryz.underlying70 ⟨rfl, opn_str Tryz.underlying9, rfl, opn_str Tryz.underlying9, (by show Tryz.prog.cellsOf 70 = _; kernel_rfl)⟩).mono ?_
  rintro F cs ⟨_, _, rfl, ⟨a, rfl, ha⟩, _, _, rfl, ⟨b, rfl, hb⟩, rfl⟩
  exact ⟨⟨a, b⟩, rfl, ⟨le_reach ha, le_reach hb⟩⟩
theorem opn_ents : Opn Tryz.prog 32 (RSl 2 32 REntry) := opn_slice Tryz.underlying32 (by kernel_rfl) (by kernel_rfl) opn_entry
def RProof : Rep := fun F cs => ∃ (p : Prf) (a : Lay), cs = [S p.name, .slice a.e p.ents.length a.ce, .slice a.s p.sides.length a.cs] ∧ p.wf ∧ p.ents.length ≤ a.ce ∧ p.sides.length ≤ a.cs ∧ p.ents.length * 32 ≤ 140737488355328 ∧ p.sides.length * 8 ≤ 140737488355328 ∧ p.at F a
theorem opn_proof : Opn Tryz.prog 35 RProof := by
  refine (opn_struct (Rs := [RStr, RSl 2 32 REntry, RSl 1 8 RU64]) Tryz.underlying35 ⟨rfl, opn_str Tryz.underlying9, rfl, opn_ents, rfl, opn_slice (P := Tryz.prog) Tryz.underlying33 (by kernel_rfl) (by kernel_rfl) (opn_u64 Tryz.underlying29), (by show Tryz.prog.cellsOf 35 = _; kernel_rfl)⟩).mono ?_
  rintro F cs ⟨_, _, rfl, ⟨n, rfl, hn⟩, _, _, rfl, hb, _, _, rfl, hc, rfl⟩
  obtain ⟨p1, c1, l1, rfl, h1, h2, h3, h4⟩ := rsl_many Entry.row Entry.wf (fun r hr => hr) hb
  obtain ⟨p2, c2, l2, rfl, k1, k2, k3, k4⟩ := rsl_u64 hc
  have := reachBytes_lt
  exact ⟨⟨n, l1, l2⟩, ⟨p1, c1, p2, c2⟩, rfl, ⟨le_reach hn, by simp only; omega, h3, by simp only; omega, k3⟩, h1, k1, by simp only; omega, by simp only; omega, ⟨h4, k4⟩⟩
section
variable {H : Type} {enc : TypeId × Value → H} {W : World} {b0 base : Nat} {spare : Nat → Bool} {held : Bool} {r : Reach} {v : Value} {d : DataW H} {ps : List MemPlace} {ts : List TypeId} {ds : List (DataW H)} {j : Nat}
end
end Go.Proofs.YthkkgphjjmhglaaGreatDoor
/-!
A head that came in.
-/
namespace Go.Proofs.YthkkgphjjmhglaaGreatDoor
set_option linter.unusedVariables false
set_option linter.unusedSimpArgs false
open Go.ChangeShapes Go.WideShapes Go.ChangeAt Go.RowKit
open Go.TR (S mkB bl Hp Pcell Fcell padd Frow)
@[reducible] def Head.cells (h : Head) : List Value := [i64 h.epoch, u64 (h.root : Nat), u64 (h.prev : Nat), i64 h.at_]
def RHead : Rep := fun _ cs => ∃ h : Head, cs = h.cells ∧ h.wf
set_option maxRecDepth 100000
theorem opn_head : Opn Tryz.prog 31 RHead := by
  refine (opn_struct (Rs := [RI64, RU64, RU64, RI64]) Tryz.underlying31 ⟨rfl, opn_i64 Tryz.underlying2, rfl, opn_u64 Tryz.underlying29, rfl, opn_u64 Tryz.underlying29, rfl, opn_i64 Tryz.underlying2, (by show Tryz.prog.cellsOf 31 = _; kernel_rfl)⟩).mono ?_
  rintro F cs ⟨_, _, rfl, ⟨a, rfl, ha⟩, _, _, rfl, ⟨b, rfl, hb⟩, _, _, rfl, ⟨c, rfl, hc⟩, _, _, rfl, ⟨d, rfl, hd⟩, rfl⟩
  exact ⟨⟨a, b, c, d⟩, rfl, ⟨hb, hc, ha, hd⟩⟩
section
variable {H : Type} {enc : TypeId × Value → H} {W : World} {b0 base : Nat} {spare : Nat → Bool} {held : Bool} {r : Reach} {v : Value} {d : DataW H} {ps : List MemPlace} {ts : List TypeId} {ds : List (DataW H)} {j : Nat}
end
end Go.Proofs.YthkkgphjjmhglaaGreatDoor
/-!
A chain that came in.
-/
namespace Go.Proofs.YthkkgphjjmhglaaGreatDoor
set_option linter.unusedVariables false
set_option linter.unusedSimpArgs false
open Go.ChangeShapes Go.WideShapes Go.ChangeAt Go.RowKit
open Go.TR (S mkB bl Hp Pcell Fcell padd Frow)
set_option maxRecDepth 100000
theorem opn_heads : Opn Tryz.prog 25 (RSl 4 32 RHead) := opn_slice Tryz.underlying25 (by kernel_rfl) (by kernel_rfl) opn_head
section
variable {H : Type} {enc : TypeId × Value → H} {W : World} {b0 base : Nat} {spare : Nat → Bool} {held : Bool} {r : Reach} {v : Value} {d : DataW H} {ps : List MemPlace} {ts : List TypeId} {ds : List (DataW H)} {j : Nat}
end
end Go.Proofs.YthkkgphjjmhglaaGreatDoor
/-!
An ask that came in.
-/
namespace Go.Proofs.YthkkgphjjmhglaaGreatDoor
set_option linter.unusedVariables false
set_option linter.unusedSimpArgs false
open Go.ChangeShapes Go.WideShapes Go.ChangeAt Go.RowKit
open Go.TR (S mkB bl Hp Pcell Fcell padd Frow)
set_option maxRecDepth 100000
def RAsk : Rep := fun _ cs => ∃ a : Ask, cs = a.cells ∧ a.wf
theorem opn_ask : Opn Tryz.prog 55 RAsk := by
  refine (opn_struct (Rs := [RStr, RStr, RU64, RU64]) Tryz.underlying55 ⟨rfl, opn_str Tryz.underlying9, rfl, opn_str Tryz.underlying9, rfl, opn_u64 Tryz.underlying29, rfl, opn_u64 Tryz.underlying29, (by show Tryz.prog.cellsOf 55 = _; kernel_rfl)⟩).mono ?_
  rintro F cs ⟨_, _, rfl, ⟨a, rfl, ha⟩, _, _, rfl, ⟨b, rfl, hb⟩, _, _, rfl, ⟨c, rfl, hc⟩, _, _, rfl, ⟨d, rfl, hd⟩, rfl⟩
  exact ⟨⟨a, b, c, d⟩, rfl, ⟨le_reach ha, le_reach hb, hc, hd⟩⟩
section
variable {H : Type} {enc : TypeId × Value → H} {W : World} {b0 base : Nat} {spare : Nat → Bool} {held : Bool} {r : Reach} {v : Value} {d : DataW H} {ps : List MemPlace} {ts : List TypeId} {ds : List (DataW H)} {j : Nat}
end
end Go.Proofs.YthkkgphjjmhglaaGreatDoor
/-!
A queue that came in.
-/
namespace Go.Proofs.YthkkgphjjmhglaaGreatDoor
set_option linter.unusedVariables false
set_option linter.unusedSimpArgs false
open Go.ChangeShapes Go.WideShapes Go.ChangeAt Go.RowKit
open Go.TR (S mkB bl Hp Pcell Fcell padd Frow)
set_option maxRecDepth 100000
def RQueue : Rep := fun F cs => ∃ (q : Queue) (p : Option Addr) (c : Nat), cs = [i64 q.most, .slice p q.wait.length c] ∧ q.wf ∧ q.wait.length ≤ c ∧ Frow F p (q.wait.flatMap Ask.cells)
theorem opn_asks : Opn Tryz.prog 22 (RSl 4 48 RAsk) := opn_slice Tryz.underlying22 (by kernel_rfl) (by kernel_rfl) opn_ask
theorem opn_queue : Opn Tryz.prog 24 RQueue := by
  refine (opn_struct (Rs := [RI64, RSl 4 48 RAsk]) Tryz.underlying24 ⟨rfl, opn_i64 Tryz.underlying3, rfl, opn_asks, (by show Tryz.prog.cellsOf 24 = _; kernel_rfl)⟩).mono ?_
  rintro F cs ⟨_, _, rfl, ⟨a, rfl, ha⟩, _, _, rfl, hb, rfl⟩
  obtain ⟨p, c, l, rfl, h1, h2, h3, h4⟩ := rsl_many Ask.cells Ask.wf (fun r hr => hr) hb
  have := le_reach h2
  exact ⟨⟨a, l⟩, p, c, rfl, ⟨h3, by simp only; omega⟩, h1, h4⟩
section
variable {H : Type} {enc : TypeId × Value → H} {W : World} {b0 base : Nat} {spare : Nat → Bool} {held : Bool} {r : Reach} {v : Value} {d : DataW H} {ps : List MemPlace} {ts : List TypeId} {ds : List (DataW H)} {j : Nat}
end
end Go.Proofs.YthkkgphjjmhglaaGreatDoor
/-!
Clerks that came in.
-/
namespace Go.Proofs.YthkkgphjjmhglaaGreatDoor
set_option linter.unusedVariables false
set_option linter.unusedSimpArgs false
open Go.ChangeShapes Go.WideShapes Go.ChangeAt Go.RowKit
open Go.TR (S mkB bl Hp Pcell Fcell padd Frow)
set_option maxRecDepth 100000
theorem opn_books : Opn Tryz.prog 26 (RSl 1 24 (RSl 2 32 REntry)) := opn_slice Tryz.underlying26 (by kernel_rfl) (by kernel_rfl) opn_ents
def RClerk : Rep := fun F cs => ∃ (c : Clerk) (a : CLay), cs = [i64 c.queue.most, .slice a.w c.queue.wait.length a.cw, i64 c.batch, i64 c.every, i64 c.now, .slice a.h c.heads.length a.ch, .slice a.b c.books.length a.cb] ∧ c.wf ∧ c.at F a
theorem opn_clerk : Opn Tryz.prog 28 RClerk := by
  refine (opn_struct (Rs := [RQueue, RI64, RI64, RI64, RSl 4 32 RHead, RSl 1 24 (RSl 2 32 REntry)]) Tryz.underlying28 ⟨rfl, opn_queue, (by kernel_rfl), opn_i64 Tryz.underlying3, (by kernel_rfl), opn_i64 Tryz.underlying3, (by kernel_rfl), opn_i64 Tryz.underlying2, (by kernel_rfl), opn_heads, (by kernel_rfl), opn_books, (by show Tryz.prog.cellsOf 28 = _; kernel_rfl)⟩).mono ?_
  rintro F cs ⟨_, _, rfl, ⟨q, pw, cw, rfl, hq, hq1, hq2⟩, _, _, rfl, ⟨ba, rfl, hba⟩, _, _, rfl, ⟨ev, rfl, hev⟩, _, _, rfl, ⟨nw, rfl, hnw⟩, _, _, rfl, hh, _, _, rfl, hb, rfl⟩
  have := reachBytes_lt
  obtain ⟨ph, ch, lh, rfl, a1, a2, a3, a4⟩ := rsl_many Head.row Head.wf (fun r hr => hr) hh
  obtain ⟨pb, cb, lb, rfl, b1, b2, b3, b4⟩ := rsl_many (fun s : Bk => [s.v]) (fun s : Bk => Bk.at F s ∧ s.2.1.length ≤ 4398046511104 ∧ ∀ x ∈ s.2.1, x.wf) (fun r hr => by
    obtain ⟨p, c, l, e, h1, h2, h3, h4⟩ := rsl_many Entry.row Entry.wf (fun r hr => hr) hr
    exact ⟨(p, l, c), e, ⟨trivial, h4⟩, by simp only; omega, h3⟩) hb
  have hlen : (lb.map fun s : Bk => s.2.1).length = lb.length := List.length_map ..
  refine ⟨⟨q, ba, ev, nw, lh, lb.map (·.2.1)⟩, ⟨pw, cw, ph, ch, pb, cb⟩, by simp only [hlen]; rfl, ⟨hq, a3, by simp only; omega, by simp only [hlen]; omega, hnw, fun l hl => ?_⟩, ⟨hq2, hq1, a4, a1, by simp only [hlen]; exact b1, lb, rfl, by rw [List.map_eq_flatMap]; exact b4, fun s hs => (b3 s hs).1⟩⟩
  obtain ⟨s, hs, rfl⟩ := List.mem_map.1 hl
  exact (b3 s hs).2
theorem i64_rng {n : Int} (h : (Lit.int .i64 n).wf = true) : -9223372036854775808 ≤ n ∧ n ≤ 9223372036854775807 := by
  simp [Lit.wf, IntKind.min, IntKind.max, IntKind.bits, IntKind.signed] at h
  exact ⟨by omega, by omega⟩
section
variable {H : Type} {enc : TypeId × Value → H} {W : World} {b0 base : Nat} {spare : Nat → Bool} {held : Bool} {r : Reach} {v : Value} {d : DataW H} {ps : List MemPlace} {ts : List TypeId} {ds : List (DataW H)} {j : Nat}
theorem open_clerk (hsz : (DataW.weightsEach Tryz.prog ts ds).all (· ≤ reachBytes) = true) (ht : ts[j]? = some 28) (hd : ds[j]? = some d) (hv : Value.okWide Tryz.prog W r b0 28 v) (h : DataW.Trod enc Tryz.prog W base spare held 28 v d ps) :
    ∃ (c : Clerk) (a : CLay), v = c.v a ∧ c.wf ∧ c.at (fun k => W.heap[k]?) a := by
  obtain ⟨cs, rfl, c, a, rfl, h1, h2⟩ := arg_st Tryz.underlying28 opn_clerk hsz ht hd hv h
  exact ⟨c, a, rfl, h1, h2⟩
end
end Go.Proofs.YthkkgphjjmhglaaGreatDoor
/-!
Two chains that fork, plainly.
-/
namespace Go.Proofs.YthkkgphjjmhglaaGreatDoor
set_option linter.unusedVariables false
set_option linter.unusedSimpArgs false
open Go.TR
/-- The heads of one epoch of two chains. -/
def bothX (x : Head) (b : List Head) : List (Head × Head) := (b.filter fun y => decide (x.epoch = y.epoch)).map fun y => (x, y)
def bothP (a b : List Head) : List (Head × Head) := a.flatMap fun x => bothX x b
@[reducible] def row2 (q : Head × Head) : List Value := q.1.row ++ q.2.row
def forkP (a b : List Head) : Option (Head × Head) := (bothP a b).find? fun q => decide (q.1 ≠ q.2)
def forkE (a b : List Head) : Int := if (chainF a).1 ≠ 0 then (chainF a).1 else if (chainF b).1 ≠ 0 then (chainF b).1 else if (bothP a b).length = 0 then 5 else 0
def forkN (a b : List Head) : Int := if forkE a b ≠ 0 then 0 else match forkP a b with
  | some q => q.1.epoch
  | none => -1
/-- The first head of the one that is unlike the other's of its epoch. -/
def hitY (b : List Head) : List Head → Option Int
  | [] => none
  | y :: t => match headOfE b y.epoch with
    | some z => if y ≠ z then some y.epoch else hitY b t
    | none => hitY b t
/-- The first two chains that fork. -/
def findK (a : List Head) : List (List Head) → Nat → Option (Nat × Int)
  | [], _ => none
  | b :: t, k => match hitY b a with
    | some n => some (k, n)
    | none => findK a t (k + 1)
def findI : List (List Head) → Nat → Option (Nat × Nat × Int)
  | [], _ => none
  | a :: t, i => match findK a t (i + 1) with
    | some (k, n) => some (i, k, n)
    | none => findI t (i + 1)
end Go.Proofs.YthkkgphjjmhglaaGreatDoor
/-!
Owners, plainly.
-/
namespace Go.Proofs.YthkkgphjjmhglaaGreatDoor
set_option linter.unusedVariables false
set_option linter.unusedSimpArgs false
open Go.TR
structure Ow where
  name : List UInt8
  key : Nat
  head : Head
  wanted : List (List UInt8)
  had : Int
structure Ow.wf (o : Ow) : Prop where
  name : o.name.length ≤ 4611686018427387904
  key : o.key < 18446744073709551616
  head : o.head.wf
  wanted : o.wanted.length * 16 ≤ 140737488355328
  each : ∀ s ∈ o.wanted, s.length ≤ 4611686018427387904
  had : -9223372036854775808 ≤ o.had ∧ o.had ≤ 9223372036854775807
/-- An owner whose wishes lie at p. -/
@[reducible] def Ow.v (o : Ow) (p : Option Addr) (c : Nat) : Value := .agg #[S o.name, u64 (o.key : Nat), i64 o.head.epoch, u64 (o.head.root : Nat), u64 (o.head.prev : Nat), i64 o.head.at_, .slice p o.wanted.length c, i64 o.had]
def Ow.none : Ow := ⟨[], 0, Head.none, [], 0⟩
def longB (s : List UInt8) : Bool := decide (20 < s.length)
def ownF (o : Ow) : Int := if goodName o.name = true then (if o.head.fault ≠ 0 then o.head.fault else if 30 < o.wanted.length ∨ o.wanted.any longB = true then 2 else if o.had < 0 ∨ (o.wanted.length : Int) < o.had then 4 else 0) else 3
/-- Heads that come: what is wrong with them. -/
def linkK (h : Head) (l : List Head) : Int :=
  if (chainF l).1 ≠ 0 then 2
  else if h.epoch + 1 < (orN l.head?).epoch then 2
  else if (orN l.head?).epoch = h.epoch + 1 ∧ links h (orN l.head?) = false then 2
  else if (l.any fun x => decide (x.epoch = h.epoch) && decide (x ≠ h)) = true then 3
  else if (lastH l).epoch ≤ h.epoch then 1 else 0
/-- The first wish that is had, from number k on: its number and one more; or nothing. -/
def jdg (v : List UInt8) (had : Int) : List (List UInt8) → Nat → Nat
  | [], _ => 0
  | w :: t, k => if had ≤ (k : Int) + 1 ∧ w = v then k + 1 else jdg v had t (k + 1)
/-- The verdict, and how many were had. -/
def verdK (o : Ow) (l : List Head) (h : Head) (p : Prf) : Int :=
  if linkK o.head l ≠ 0 then linkK o.head l
  else if replyF h p ≠ 0 ∨ h ≠ lastH l ∨ p.name ≠ o.name then 4
  else match standsO p.ents p.name with
    | Option.none => if 0 < o.had then 5 else 0
    | some v => if jdg v o.had o.wanted 0 = 0 then 6 else 0
def verdN (o : Ow) (l : List Head) (h : Head) (p : Prf) : Nat :=
  if linkK o.head l ≠ 0 then 0
  else if replyF h p ≠ 0 ∨ h ≠ lastH l ∨ p.name ≠ o.name then 0
  else match standsO p.ents p.name with
    | Option.none => 0
    | some v => jdg v o.had o.wanted 0
end Go.Proofs.YthkkgphjjmhglaaGreatDoor
/-!
Owners and replies that came in.
-/
namespace Go.Proofs.YthkkgphjjmhglaaGreatDoor
set_option linter.unusedVariables false
set_option linter.unusedSimpArgs false
open Go.ChangeShapes Go.WideShapes Go.ChangeAt Go.RowKit
open Go.TR (S mkB bl Hp Pcell Fcell padd Frow)
set_option maxRecDepth 100000
def RRep : Rep := fun F cs => ∃ (h : Head) (p : Prf) (a : Lay), cs = [i64 h.epoch, u64 (h.root : Nat), u64 (h.prev : Nat), i64 h.at_, S p.name, .slice a.e p.ents.length a.ce, .slice a.s p.sides.length a.cs] ∧ h.wf ∧ p.wf ∧ p.at F a
theorem opn_rep : Opn Tryz.prog 37 RRep := by
  refine (opn_struct (Rs := [RHead, RProof]) Tryz.underlying37 ⟨rfl, opn_head, (by kernel_rfl), opn_proof, (by show Tryz.prog.cellsOf 37 = _; kernel_rfl)⟩).mono ?_
  rintro F cs ⟨_, _, rfl, ⟨h, rfl, hw⟩, _, _, rfl, ⟨p, a, rfl, h1, h2, h3, h4, h5, h6⟩, rfl⟩
  exact ⟨h, p, a, rfl, hw, h1, h6⟩
def ROwner : Rep := fun F cs => ∃ (o : Ow) (p : Option Addr) (c : Nat), cs = [S o.name, u64 (o.key : Nat), i64 o.head.epoch, u64 (o.head.root : Nat), u64 (o.head.prev : Nat), i64 o.head.at_, .slice p o.wanted.length c, i64 o.had] ∧ o.wf ∧ o.wanted.length ≤ c ∧ Frow F p (o.wanted.map S)
section
variable {H : Type} {enc : TypeId × Value → H} {W : World} {b0 base : Nat} {spare : Nat → Bool} {held : Bool} {r : Reach} {v : Value} {d : DataW H} {ps : List MemPlace} {ts : List TypeId} {ds : List (DataW H)} {j : Nat}
theorem open_rep (hsz : (DataW.weightsEach Tryz.prog ts ds).all (· ≤ reachBytes) = true) (ht : ts[j]? = some 37) (hd : ds[j]? = some d) (hv : Value.okWide Tryz.prog W r b0 37 v) (h : DataW.Trod enc Tryz.prog W base spare held 37 v d ps) :
    ∃ (h : Head) (p : Prf) (a : Lay), v = .agg #[i64 h.epoch, u64 (h.root : Nat), u64 (h.prev : Nat), i64 h.at_, S p.name, .slice a.e p.ents.length a.ce, .slice a.s p.sides.length a.cs] ∧ h.wf ∧ p.wf ∧ p.at (fun k => W.heap[k]?) a := by
  obtain ⟨cs, rfl, x, p, a, rfl, h1, h2, h3⟩ := arg_st Tryz.underlying37 opn_rep hsz ht hd hv h
  exact ⟨x, p, a, rfl, h1, h2, h3⟩
end
end Go.Proofs.YthkkgphjjmhglaaGreatDoor
