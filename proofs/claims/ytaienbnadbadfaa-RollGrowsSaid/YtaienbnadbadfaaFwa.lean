/-
A small program logic of our own for the model: the state of a call as a list of known slots, a frozen part of the heap that is never written again, and a list of blocks that the call owns.
Part a: memory. Nothing here speaks of one program.
-/
import Derived.WalkKit
import Derived.Deep.Quiet
import Derived.StillTail
namespace Go.TR

/-- The part of the heap that is known and that nobody writes any more. -/
abbrev Hp := Nat → Option Obj

/-- A block that the call owns: its first cells, its element type, how many cells it has. -/
structure Res where
  blk : Nat
  cells : List Value
  ty : TypeId
  cap : Nat

def Hp.le (F : Hp) (w : World) : Prop := ∀ k o, F k = some o → w.heap[k]? = some o
def Hp.sub (F F' : Hp) : Prop := ∀ k o, F k = some o → F' k = some o
theorem Hp.sub.refl (F : Hp) : F.sub F := fun _ _ h => h
theorem Hp.sub.trans {F G H : Hp} (h : F.sub G) (k : G.sub H) : F.sub H := fun b o e => k b o (h b o e)

def Fcell (F : Hp) (a : Addr) : Option Value :=
  match F a.block with
  | some (.cells c _ _) => if a.spot.isSome then none else c[a.off]?
  | _ => none

theorem Fcell.world {F : Hp} {w : World} (h : F.le w) {a : Addr} {v : Value} (e : Fcell F a = some v) : w.cell? a = some v := by
  unfold Fcell at e
  unfold World.cell?
  cases hf : F a.block with
  | none => simp [hf] at e
  | some o =>
    rw [h _ _ hf]
    cases o <;> simp_all
theorem Fcell.sub {F G : Hp} (h : F.sub G) {a : Addr} {v : Value} (e : Fcell F a = some v) : Fcell G a = some v := by
  unfold Fcell at *
  cases hf : F a.block with
  | none => simp [hf] at e
  | some o =>
    rw [h _ _ hf]
    simpa [hf] using e

def Res.ok (r : Res) (w : World) : Prop :=
  ∃ cur, w.heap[r.blk]? = some (.cells cur r.ty (0, 0)) ∧ cur.size = r.cap ∧ cur.toList.take r.cells.length = r.cells

/-- The frozen heap and the owned blocks are there, all apart. -/
structure Mem (F : Hp) (rs : List Res) (w : World) : Prop where
  le : F.le w
  own : ∀ r ∈ rs, r.ok w
  off : ∀ r ∈ rs, F r.blk = none
  nd : (rs.map Res.blk).Nodup

/-- All old blocks but those of 'X' are as they were. -/
structure Pres (X : List Nat) (w w' : World) : Prop where
  os : w'.os = w.os
  tape : w'.tape = w.tape
  output : w'.output = w.output
  size : w.heap.size ≤ w'.heap.size
  block : ∀ k, k < w.heap.size → k ∉ X → w'.heap[k]? = w.heap[k]?

theorem Pres.refl (X : List Nat) (w : World) : Pres X w w := ⟨rfl, rfl, rfl, Nat.le_refl _, fun _ _ _ => rfl⟩
theorem Pres.trans {X : List Nat} {a b c : World} (h : Pres X a b) (k : Pres X b c) : Pres X a c :=
  ⟨k.os.trans h.os, k.tape.trans h.tape, k.output.trans h.output, Nat.le_trans h.size k.size, fun i hi hx => (k.block i (Nat.lt_of_lt_of_le hi h.size) hx).trans (h.block i hi hx)⟩
/-- The blocks that a later step touches need only be of X, or new since a. -/
theorem Pres.trans' {X Y : List Nat} {a b c : World} (h : Pres X a b) (k : Pres Y b c) (hY : ∀ y ∈ Y, y ∈ X ∨ a.heap.size ≤ y) : Pres X a c :=
  ⟨k.os.trans h.os, k.tape.trans h.tape, k.output.trans h.output, Nat.le_trans h.size k.size, fun i hi hx =>
    (k.block i (Nat.lt_of_lt_of_le hi h.size) (fun hy => by rcases hY i hy with h' | h'; exact hx h'; omega)).trans (h.block i hi hx)⟩
theorem Pres.mono {X Y : List Nat} {a b : World} (h : Pres X a b) (hXY : ∀ x ∈ X, x ∈ Y) : Pres Y a b :=
  ⟨h.os, h.tape, h.output, h.size, fun i hi hx => h.block i hi (fun hm => hx (hXY i hm))⟩
theorem Pres.below {w w' : World} (h : Pres [] w w') : RowKit.Below w.heap.size w w' :=
  ⟨h.os, h.tape, h.output, h.size, fun k hk => h.block k hk (by simp)⟩
theorem Pres.of_below {w w' : World} (h : RowKit.Below w.heap.size w w') : Pres [] w w' :=
  ⟨h.os, h.tape, h.output, h.size, fun k hk _ => h.block k hk⟩
theorem Pres.drewN (X : List Nat) (w : World) (n : Nat) : Pres X w { w with drawn := w.drawn + n } := ⟨rfl, rfl, rfl, Nat.le_refl _, fun _ _ _ => rfl⟩

theorem lt_of_some {w : World} {k : Nat} {o : Obj} (h : w.heap[k]? = some o) : k < w.heap.size := (Array.getElem?_eq_some_iff.1 h).1

theorem Res.ok.lt {r : Res} {w : World} (h : r.ok w) : r.blk < w.heap.size := by
  obtain ⟨cur, h1, _⟩ := h
  exact lt_of_some h1
theorem Res.ok.pres {r : Res} {w w' : World} {X : List Nat} (h : r.ok w) (p : Pres X w w') (hx : r.blk ∉ X) : r.ok w' := by
  have hl := h.lt
  obtain ⟨cur, h1, h2⟩ := h
  exact ⟨cur, (p.block _ hl hx).trans h1, h2⟩
theorem Hp.le.pres {F : Hp} {w w' : World} {X : List Nat} (h : F.le w) (p : Pres X w w') (hx : ∀ x ∈ X, F x = none) : F.le w' := fun k o e => by
  have h1 := h k o e
  refine (p.block k (lt_of_some h1) (fun hk => ?_)).trans h1
  rw [hx k hk] at e
  cases e
theorem Mem.pres {F : Hp} {rs : List Res} {w w' : World} (h : Mem F rs w) (p : Pres [] w w') : Mem F rs w' :=
  ⟨h.le.pres p (by simp), fun r hr => (h.own r hr).pres p (by simp), h.off, h.nd⟩

/-- A new block. -/
theorem Pres.alloc (X : List Nat) (w : World) (o : Obj) : Pres X w (w.alloc o) :=
  ⟨rfl, rfl, rfl, by simp, fun k hk _ => heap_alloc_old w o hk⟩
theorem Mem.fresh {F : Hp} {rs : List Res} {w : World} (h : Mem F rs w) : F w.heap.size = none ∧ ∀ r ∈ rs, r.blk ≠ w.heap.size := by
  refine ⟨?_, fun r hr => ?_⟩
  · cases hf : F w.heap.size with
    | none => rfl
    | some o => have := lt_of_some (h.le _ _ hf); omega
  · have := (h.own r hr).lt; omega
theorem Mem.alloc {F : Hp} {rs : List Res} {w : World} (h : Mem F rs w) (cs : List Value) (t : TypeId) :
    Mem F (⟨w.heap.size, cs, t, cs.length⟩ :: rs) (w.alloc (.cells cs.toArray t)) := by
  have hp := Pres.alloc [] w (.cells cs.toArray t)
  have hm := h.pres hp
  obtain ⟨h1, h2⟩ := h.fresh
  refine ⟨hm.le, ?_, ?_, ?_⟩
  · intro r hr
    rcases List.mem_cons.1 hr with rfl | hr
    · exact ⟨cs.toArray, heap_alloc_new w _, by simp, by simp⟩
    · exact hm.own r hr
  · intro r hr
    rcases List.mem_cons.1 hr with rfl | hr
    · exact h1
    · exact h.off r hr
  · simp only [List.map_cons, List.nodup_cons]
    refine ⟨fun hk => ?_, h.nd⟩
    obtain ⟨r, hr, e⟩ := List.mem_map.1 hk
    exact h2 r hr e

/-- What the laws of the base call 'Below' on new memory. -/
theorem heap_set_same (w : World) (g : Nat) (o : Obj) (hg : g < w.heap.size) : ({ w with heap := w.heap.setIfInBounds g o } : World).heap[g]? = some o := by simp [hg]

end Go.TR
