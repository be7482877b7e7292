/-
A small program logic of our own for the model: the state of a call as a list of known slots, a frozen part of the heap that is never written again, and a list of blocks that the call owns.
Part a: memory. Nothing here speaks of one program.
-/
import Derived.WalkKit
import Derived.Deep.Quiet
import Derived.StillTail
import Derived.Lib.UnsafeStr
set_option linter.unusedVariables false
set_option linter.unusedSimpArgs false
/-!
A small program logic of our own for the model: the state of a call as a list of known slots, a frozen part of the heap that is never written again, and a list of blocks that the call owns.
Part a: memory. Nothing here speaks of one program.
-/
namespace Go.TR

/-- The part of the heap that is known and that nobody writes any more. -/
abbrev Hp := Nat → Option Obj

/-- A block that the call owns: its first cells, its element type, how many cells it has. -/
structure Res where
  blk : Nat
  cells : List Value
  ty : TypeId
  cap : Nat

def Hp.le (F : Hp) (w : World) : Prop := ∀ k o, F k = some o → w.heap[k]? = some o
def Hp.sub (F F' : Hp) : Prop := ∀ k o, F k = some o → F' k = some o
theorem Hp.sub.refl (F : Hp) : F.sub F := fun _ _ h => h
theorem Hp.sub.trans {F G H : Hp} (h : F.sub G) (k : G.sub H) : F.sub H := fun b o e => k b o (h b o e)

def Fcell (F : Hp) (a : Addr) : Option Value :=
  match F a.block with
  | some (.cells c _ _) => if a.spot.isSome then none else c[a.off]?
  | _ => none

theorem Fcell.world {F : Hp} {w : World} (h : F.le w) {a : Addr} {v : Value} (e : Fcell F a = some v) : w.cell? a = some v := by
  unfold Fcell at e
  unfold World.cell?
  cases hf : F a.block with
  | none => simp [hf] at e
  | some o =>
    rw [h _ _ hf]
    cases o <;> simp_all
theorem Fcell.sub {F G : Hp} (h : F.sub G) {a : Addr} {v : Value} (e : Fcell F a = some v) : Fcell G a = some v := by
  unfold Fcell at *
  cases hf : F a.block with
  | none => simp [hf] at e
  | some o =>
    rw [h _ _ hf]
    simpa [hf] using e

def Res.ok (r : Res) (w : World) : Prop :=
  ∃ cur, w.heap[r.blk]? = some (.cells cur r.ty (0, 0)) ∧ cur.size = r.cap ∧ cur.toList.take r.cells.length = r.cells

/-- The frozen heap and the owned blocks are there, all apart. -/
structure Mem (F : Hp) (rs : List Res) (w : World) : Prop where
  le : F.le w
  own : ∀ r ∈ rs, r.ok w
  off : ∀ r ∈ rs, F r.blk = none
  nd : (rs.map Res.blk).Nodup

/-- All old blocks but those of 'X' are as they were. -/
structure Pres (X : List Nat) (w w' : World) : Prop where
  os : w'.os = w.os
  tape : w'.tape = w.tape
  output : w'.output = w.output
  size : w.heap.size ≤ w'.heap.size
  block : ∀ k, k < w.heap.size → k ∉ X → w'.heap[k]? = w.heap[k]?

theorem Pres.refl (X : List Nat) (w : World) : Pres X w w := ⟨rfl, rfl, rfl, Nat.le_refl _, fun _ _ _ => rfl⟩
theorem Pres.trans {X : List Nat} {a b c : World} (h : Pres X a b) (k : Pres X b c) : Pres X a c :=
  ⟨k.os.trans h.os, k.tape.trans h.tape, k.output.trans h.output, Nat.le_trans h.size k.size, fun i hi hx => (k.block i (Nat.lt_of_lt_of_le hi h.size) hx).trans (h.block i hi hx)⟩
/-- The blocks that a later step touches need only be of X, or new since a. -/
theorem Pres.trans' {X Y : List Nat} {a b c : World} (h : Pres X a b) (k : Pres Y b c) (hY : ∀ y ∈ Y, y ∈ X ∨ a.heap.size ≤ y) : Pres X a c :=
  ⟨k.os.trans h.os, k.tape.trans h.tape, k.output.trans h.output, Nat.le_trans h.size k.size, fun i hi hx =>
    (k.block i (Nat.lt_of_lt_of_le hi h.size) (fun hy => by rcases hY i hy with h' | h'; exact hx h'; omega)).trans (h.block i hi hx)⟩
theorem Pres.mono {X Y : List Nat} {a b : World} (h : Pres X a b) (hXY : ∀ x ∈ X, x ∈ Y) : Pres Y a b :=
  ⟨h.os, h.tape, h.output, h.size, fun i hi hx => h.block i hi (fun hm => hx (hXY i hm))⟩
theorem Pres.below {w w' : World} (h : Pres [] w w') : RowKit.Below w.heap.size w w' :=
  ⟨h.os, h.tape, h.output, h.size, fun k hk => h.block k hk (by simp)⟩
theorem Pres.of_below {w w' : World} (h : RowKit.Below w.heap.size w w') : Pres [] w w' :=
  ⟨h.os, h.tape, h.output, h.size, fun k hk _ => h.block k hk⟩
theorem Pres.drewN (X : List Nat) (w : World) (n : Nat) : Pres X w { w with drawn := w.drawn + n } := ⟨rfl, rfl, rfl, Nat.le_refl _, fun _ _ _ => rfl⟩

theorem lt_of_some {w : World} {k : Nat} {o : Obj} (h : w.heap[k]? = some o) : k < w.heap.size := (Array.getElem?_eq_some_iff.1 h).1

theorem Res.ok.lt {r : Res} {w : World} (h : r.ok w) : r.blk < w.heap.size := by
  obtain ⟨cur, h1, _⟩ := h
  exact lt_of_some h1
theorem Res.ok.pres {r : Res} {w w' : World} {X : List Nat} (h : r.ok w) (p : Pres X w w') (hx : r.blk ∉ X) : r.ok w' := by
  have hl := h.lt
  obtain ⟨cur, h1, h2⟩ := h
  exact ⟨cur, (p.block _ hl hx).trans h1, h2⟩
theorem Hp.le.pres {F : Hp} {w w' : World} {X : List Nat} (h : F.le w) (p : Pres X w w') (hx : ∀ x ∈ X, F x = none) : F.le w' := fun k o e => by
  have h1 := h k o e
  refine (p.block k (lt_of_some h1) (fun hk => ?_)).trans h1
  rw [hx k hk] at e
  cases e
theorem Mem.pres {F : Hp} {rs : List Res} {w w' : World} (h : Mem F rs w) (p : Pres [] w w') : Mem F rs w' :=
  ⟨h.le.pres p (by simp), fun r hr => (h.own r hr).pres p (by simp), h.off, h.nd⟩

/-- A new block. -/
theorem Pres.alloc (X : List Nat) (w : World) (o : Obj) : Pres X w (w.alloc o) :=
  ⟨rfl, rfl, rfl, by simp, fun k hk _ => heap_alloc_old w o hk⟩
theorem Mem.fresh {F : Hp} {rs : List Res} {w : World} (h : Mem F rs w) : F w.heap.size = none ∧ ∀ r ∈ rs, r.blk ≠ w.heap.size := by
  refine ⟨?_, fun r hr => ?_⟩
  · cases hf : F w.heap.size with
    | none => rfl
    | some o => have := lt_of_some (h.le _ _ hf); omega
  · have := (h.own r hr).lt; omega
theorem Mem.alloc {F : Hp} {rs : List Res} {w : World} (h : Mem F rs w) (cs : List Value) (t : TypeId) :
    Mem F (⟨w.heap.size, cs, t, cs.length⟩ :: rs) (w.alloc (.cells cs.toArray t)) := by
  have hp := Pres.alloc [] w (.cells cs.toArray t)
  have hm := h.pres hp
  obtain ⟨h1, h2⟩ := h.fresh
  refine ⟨hm.le, ?_, ?_, ?_⟩
  · intro r hr
    rcases List.mem_cons.1 hr with rfl | hr
    · exact ⟨cs.toArray, heap_alloc_new w _, by simp, by simp⟩
    · exact hm.own r hr
  · intro r hr
    rcases List.mem_cons.1 hr with rfl | hr
    · exact h1
    · exact h.off r hr
  · simp only [List.map_cons, List.nodup_cons]
    refine ⟨fun hk => ?_, h.nd⟩
    obtain ⟨r, hr, e⟩ := List.mem_map.1 hk
    exact h2 r hr e


end Go.TR
/-!
A small program logic of our own for the model. Part b: what is known of a state, and what a piece of code asks of it ('vc'). Nothing here speaks of one program.
-/
namespace Go.TR

/-! ### Types -/
inductive TK where
  | bool | int (k : IntKind) | string
  | slice (e : TypeId) | array (n : Nat) (e : TypeId)
  | struct (fs : List (TypeId × Nat))
  | pointer (e : TypeId)
  | other
structure TI where
  kind : TK
  size : Nat
  bytes : Nat
  zero : List Value
  flat : Bool
abbrev Tb := TypeId → Option TI

def TK.agg : TK → Bool
  | .struct _ | .array _ _ => true
  | _ => false
def TK.fits : TK → TypeDesc → Prop
  | .bool, d => d = .bool
  | .int k, d => d = .int k
  | .string, d => d = .string
  | .slice e, d => d = .slice e
  | .array n e, d => d = .array n e
  | .pointer e, d => d = .pointer e
  | .struct fs, d => ∃ fields, d = .struct fields ∧ fields.toList.map (fun f => (f.type, f.offset)) = fs ∧ ∀ f ∈ fields.toList, f.name ≠ "_"
  | .other, d => (∀ fs, d ≠ .struct fs) ∧ (∀ n e, d ≠ .array n e)
structure TI.ok (P : Program) (t : TypeId) (i : TI) : Prop where
  info : ∃ info, P.info? t = some info ∧ info.size = i.size ∧ info.bytes = i.bytes ∧ ∃ z, info.zero = some z ∧ z.cells.toList = i.zero
  kind : ∃ d, P.underlying t = some d ∧ i.kind.fits d
  flat : i.flat = true → P.stoodInHeld t = false ∧ P.eqGuardType P.depth t = false
def tk (tb : Tb) (t : TypeId) : Option TK :=
  match tb t with
  | some i => some i.kind
  | none => none
def TbOK (P : Program) (tb : Tb) : Prop := ∀ t i, tb t = some i → i.ok P t

/-! ### Values as the evaluator knows them -/
inductive EV where
  | v (x : Value)
  | loc (id off : Nat)
  | row (id o n c : Nat)

/-- A block that the call owns (none: the nil slice), its first cells, its element type, its number of cells. -/
structure Blk where
  blk : Option Nat
  cells : List EV
  ty : TypeId
  cap : Nat
abbrev RL := List (Nat × Blk)

def lkR : RL → Nat → Option Blk
  | [], _ => none
  | (m, r) :: t, n => match Nat.beq n m with
    | true => some r
    | false => lkR t n
def setR : RL → Nat → Blk → RL
  | [], _, _ => []
  | (m, r) :: t, n, r' => match Nat.beq n m with
    | true => (m, r') :: t
    | false => (m, r) :: setR t n r'
def delR : RL → Nat → RL
  | [], _ => []
  | (m, r) :: t, n => match Nat.beq n m with
    | true => delR t n
    | false => (m, r) :: delR t n

def padd (p : Option Addr) (n : Nat) : Option Addr := p.map (·.add n)
def Pcell (F : Hp) (p : Option Addr) : Option Value := p.bind (Fcell F)

def EV.val (rs : RL) : EV → Option Value
  | .v x => some x
  | .loc id off =>
    match lkR rs id with
    | some r => match r.blk with
      | some b => some (.pointer (some ⟨b, off, none⟩))
      | none => none
    | none => none
  | .row id o n c =>
    match lkR rs id with
    | some r => some (.slice (r.blk.map fun b => ⟨b, o, none⟩) n c)
    | none => none

/-! ### States -/
abbrev Env := List (Nat × EV)
def lk : Env → Nat → Option EV
  | [], _ => none
  | (m, v) :: t, n => match Nat.beq n m with
    | true => some v
    | false => lk t n

structure St where
  env : Env
  F : Hp
  rs : RL
  nx : Nat

/-- Guards: slot, the wanted answer, the answer. -/
abbrev Chain := List (Nat × Bool × Bool)
abbrev GEnv := List (Nat × Chain × EV)
def lkG : GEnv → Nat → Option (Chain × EV)
  | [], _ => none
  | (m, c, v) :: t, n => match Nat.beq n m with
    | true => some (c, v)
    | false => lkG t n
def pre : Chain → Chain → Bool
  | [], _ => true
  | (s, w, _) :: t, (s', w', _) :: t' => Nat.beq s s' && (w == w') && pre t t'
  | _ :: _, [] => false
def gP : Chain → Prop
  | [] => True
  | (_, w, b) :: t => b = w ∧ gP t
def imp : Chain → Prop → Prop
  | [], p => p
  | c, p => gP c → p

def pick1 (g : GEnv) (env : Env) (ch : Chain) (n : Nat) : Option EV :=
  match lkG g n with
  | some (c, v) => match pre c ch with
    | true => some v
    | false => none
  | none => lk env n
/-- A name of a block that is there. -/
def alive (rs : RL) : EV → Option EV
  | .v x => some (.v x)
  | .loc id o => match lkR rs id with
    | some r => match r.blk with
      | some _ => some (.loc id o)
      | none => none
    | none => none
  | .row id o n c => match lkR rs id with
    | some _ => some (.row id o n c)
    | none => none
def opd (rs : RL) (g : GEnv) (env : Env) (ch : Chain) : Operand → Option EV
  | .const v => some (.v v)
  | .global i => some (.v (.pointer (some ⟨i, 0, none⟩)))
  | .func f => some (.v (.func (.func f) #[] #[]))
  | .tmp n => match pick1 g env ch n with
    | some e => alive rs e
    | none => none

/-! ### Pure operations: what must hold, and the value -/
abbrev PV := Option (Prop × EV)
def mkB (l : List UInt8) : ByteArray := ⟨l.toArray⟩
@[reducible] def S (l : List UInt8) : Value := .string (mkB l)
def bl (b : ByteArray) : List UInt8 := b.data.toList
def ret1 (x : Value) : PV := some (True, .v x)

def maxInt : Nat := 9223372036854775807

def binInt : BinOp → IntKind → Int → Int → PV
  | .add, k, a, b => ret1 (.int k (k.wrap (a + b)))
  | .sub, k, a, b => ret1 (.int k (k.wrap (a - b)))
  | .mul, k, a, b => ret1 (.int k (k.wrap (a * b)))
  | .quo, k, a, b => some (b ≠ 0, .v (.int k (k.wrap (a.tdiv b))))
  | .rem, k, a, b => some (b ≠ 0, .v (.int k (a.tmod b)))
  | .and, k, a, b => ret1 (.int k (k.wrap ((BitVec.ofInt k.bits a &&& BitVec.ofInt k.bits b).toNat)))
  | .or, k, a, b => ret1 (.int k (k.wrap ((BitVec.ofInt k.bits a ||| BitVec.ofInt k.bits b).toNat)))
  | .eql, _, a, b => ret1 (.bool (a == b))
  | .neq, _, a, b => ret1 (.bool (a != b))
  | .lss, _, a, b => ret1 (.bool (decide (a < b)))
  | .leq, _, a, b => ret1 (.bool (decide (a ≤ b)))
  | .gtr, _, a, b => ret1 (.bool (decide (b < a)))
  | .geq, _, a, b => ret1 (.bool (decide (b ≤ a)))
  | _, _, _, _ => none
def binStr : BinOp → List UInt8 → List UInt8 → PV
  | .add, a, b => some (a.length + b.length ≤ maxInt, .v (S (a ++ b)))
  | .eql, a, b => ret1 (.bool (decide (a = b)))
  | .neq, a, b => ret1 (.bool (!decide (a = b)))
  | .lss, a, b => ret1 (.bool (Op.bytesLess a b))
  | .leq, a, b => ret1 (.bool (Op.bytesLess a b || decide (a = b)))
  | .gtr, a, b => ret1 (.bool (!(Op.bytesLess a b || decide (a = b))))
  | .geq, a, b => ret1 (.bool (!Op.bytesLess a b))
  | _, _, _ => none
/-- Equality of one cell: numbers, strings and bools alone. -/
def veq : Value → Value → Option Bool
  | .int k a, .int k' b => if k = k' then some (a == b) else none
  | .string a, .string b => some (decide (bl a = bl b))
  | .bool a, .bool b => some (a == b)
  | _, _ => none
def ceq : List Value → List Value → Option Bool
  | [], [] => some true
  | a :: s, b :: t => match veq a b, ceq s t with
    | some x, some y => some (x && y)
    | _, _ => none
  | _, _ => none
/-- A struct whose fields are scalars, one cell each, in order. -/
def flatOk (tb : Tb) : Nat → List (TypeId × Nat) → List Value → Bool
  | _, [], [] => true
  | k, (t, off) :: fs, x :: xs => off == k && (match tb t, x with
    | some ⟨.int k, _, _, _, _⟩, .int k' _ => k == k'
    | some ⟨.string, _, _, _, _⟩, .string _ => true
    | some ⟨.bool, _, _, _, _⟩, .bool _ => true
    | _, _ => false) && flatOk tb (k + 1) fs xs
  | _, _, _ => false
def binV (tb : Tb) (op : BinOp) (t : TypeId) : Value → Value → PV
  | .int k a, .int k' b => match op with
    | .shl => some (0 ≤ b, .v (.int k (k.wrap (a * 2 ^ (min b.toNat k.bits)))))
    | .shr => some (0 ≤ b, .v (.int k (a.fdiv (2 ^ (min b.toNat k.bits)))))
    | op => if k = k' then binInt op k a b else none
  | .string a, .string b => binStr op (bl a) (bl b)
  | .bool a, .bool b => match tk tb t with
    | some .bool => (match op with
      | .eql => ret1 (.bool (a == b))
      | .neq => ret1 (.bool (!(a == b)))
      | _ => none)
    | _ => none
  | .agg xs, .agg ys => match tb t with
    | some ⟨.struct fs, _, _, _, true⟩ =>
      if flatOk tb 0 fs xs.toList && flatOk tb 0 fs ys.toList then
        (match op, ceq xs.toList ys.toList with
        | .eql, some b => ret1 (.bool b)
        | .neq, some b => ret1 (.bool (!b))
        | _, _ => none)
      else none
    | _ => none
  | _, _ => none

def unV : UnOp → Value → PV
  | .not, .bool b => ret1 (.bool (!b))
  | .neg, .int k n => ret1 (.int k (k.wrap (0 - n)))
  | _, _ => none

def convV (tb : Tb) (dst : TypeId) : Value → PV
  | .int _ n => match tk tb dst with
    | some (.int k) => ret1 (.int k (k.wrap n))
    | _ => none
  | .string s => match tk tb dst with
    | some .string => ret1 (.string s)
    | _ => none
  | _ => none

/-- A part of an aggregate. -/
def partV (tb : Tb) (t : TypeId) (cs : List Value) (off : Nat) : Option Value :=
  match tb t with
  | some i => if i.kind.agg then some (.agg ((cs.take (off + i.size)).drop off).toArray) else cs[off]?
  | none => none
def fieldV (tb : Tb) (t : TypeId) (f : Nat) : Value → PV
  | .agg cs => match tk tb t with
    | some (.struct fs) => match fs[f]? with
      | some (ft, off) => match partV tb ft cs.toList off with
        | some x => ret1 x
        | none => none
      | none => none
    | _ => none
  | _ => none
def extractV (i : Nat) : Value → PV
  | .tuple vs => match vs.toList[i]? with
    | some x => ret1 x
    | none => none
  | _ => none
def fieldAddrV (tb : Tb) (t : TypeId) (f : Nat) (x : EV) : PV :=
  match tk tb t with
  | some (.struct fs) => match fs[f]? with
    | some (ft, off) => (match tb ft with
      | some i => if i.size = 0 then none else (match x with
        | .v (.pointer p) => some (p.isSome = true, .v (.pointer (padd p off)))
        | .loc id o => some (True, .loc id (o + off))
        | _ => none)
      | none => none)
    | none => none
  | _ => none
def rowSome (rs : RL) (id : Nat) : Prop := ∃ r b, lkR rs id = some r ∧ r.blk = some b
def indexAddrV (tb : Tb) (rs : RL) (t : TypeId) (x : EV) (i : Int) : PV :=
  match tk tb t with
  | some (.slice e) => (match tb e with
    | some ti => (match x with
      | .v (.slice p n _) => some (0 ≤ i ∧ i < n ∧ p.isSome = true, .v (.pointer (padd p (i.toNat * ti.size))))
      | .row id o n _ => some (0 ≤ i ∧ i < n ∧ rowSome rs id, .loc id (o + i.toNat * ti.size))
      | _ => none)
    | none => none)
  | some (.array n e) => (match tb e with
    | some ti => (match x with
      | .v (.pointer p) => some (0 ≤ i ∧ i < n ∧ p.isSome = true, .v (.pointer (padd p (i.toNat * ti.size))))
      | .loc id o => some (0 ≤ i ∧ i < n, .loc id (o + i.toNat * ti.size))
      | _ => none)
    | none => none)
  | _ => none
def indexV (tb : Tb) (t : TypeId) (x : Value) (i : Int) : PV :=
  match tk tb t, x with
  | some .string, .string s => some (0 ≤ i ∧ i < ((bl s).length : Int), .v (.int .u8 (((bl s).getD i.toNat 0).toNat : Int)))
  | some (.array n e), .agg cs => (match tb e with
    | some ti => (match partV tb e cs.toList (i.toNat * ti.size) with
      | some y => some (0 ≤ i ∧ i < n, .v y)
      | none => none)
    | none => none)
  | _, _ => none
/-- The base address of a reslice: it stays where nothing is left. -/
def slBase (p : Option Addr) (l m size : Nat) : Option Addr := if m = l then p else p.map (·.add (l * size))
def sliceV (tb : Tb) (t : TypeId) (x : Value) (lo hi : Option Int) : PV :=
  match tk tb t, x with
  | some .string, .string s => (match lo, hi with
    | none, none => ret1 (S (bl s))
    | some l, none => some (0 ≤ l ∧ l ≤ ((bl s).length : Int), .v (S ((bl s).drop l.toNat)))
    | none, some h => some (0 ≤ h ∧ h ≤ ((bl s).length : Int), .v (S ((bl s).take h.toNat)))
    | some l, some h => some (0 ≤ l ∧ l ≤ h ∧ h ≤ ((bl s).length : Int), .v (S (((bl s).take h.toNat).drop l.toNat))))
  | some (.slice e), .slice p n c => (match tb e with
    | some ti => (match lo, hi with
      | none, none => ret1 (.slice (slBase p 0 c ti.size) n c)
      | some l, none => some (0 ≤ l ∧ l ≤ n ∧ n ≤ c, .v (.slice (slBase p l.toNat c ti.size) (n - l.toNat) (c - l.toNat)))
      | none, some h => some (0 ≤ h ∧ h ≤ c, .v (.slice (slBase p 0 c ti.size) h.toNat c))
      | some l, some h => some (0 ≤ l ∧ l ≤ h ∧ h ≤ c, .v (.slice (slBase p l.toNat c ti.size) (h.toNat - l.toNat) (c - l.toNat))))
    | none => none)
  | _, _ => none

/-- .. with three indexes. -/
def sliceV3 (tb : Tb) (t : TypeId) (x : Value) (lo hi : Option Int) (m : Int) : PV :=
  match tk tb t, x with
  | some (.slice e), .slice p _ c => (match tb e with
    | some ti => (match lo, hi with
      | none, some h => some (0 ≤ h ∧ h ≤ m ∧ m ≤ c, .v (.slice (slBase p 0 m.toNat ti.size) h.toNat m.toNat))
      | _, _ => none)
    | none => none)
  | _, _ => none
def slOff (o l m size : Nat) : Nat := if m = l then o else o + l * size
/-- A reslice of a row of the call's own. -/
def sliceR (tb : Tb) (t : TypeId) (id o n c : Nat) (lo hi : Option Int) : PV :=
  match tk tb t with
  | some (.slice e) => (match tb e with
    | some ti => (match lo, hi with
      | none, none => some (True, .row id o n c)
      | some l, none => some (0 ≤ l ∧ l ≤ n ∧ n ≤ c, .row id (slOff o l.toNat c ti.size) (n - l.toNat) (c - l.toNat))
      | none, some h => some (0 ≤ h ∧ h ≤ c, .row id o h.toNat c)
      | some l, some h => some (0 ≤ l ∧ l ≤ h ∧ h ≤ c, .row id (slOff o l.toNat c ti.size) (h.toNat - l.toNat) (c - l.toNat)))
    | none => none)
  | _ => none
/-- A slice of an array of the call's own. -/
def sliceA (tb : Tb) (t : TypeId) (id o : Nat) (lo hi : Option Int) : PV :=
  match tk tb t with
  | some (.array n e) => (match tb e with
    | some _ => (match lo, hi with
      | none, none => some (True, .row id o n n)
      | _, _ => none)
    | none => none)
  | _ => none

/-- The cells of an aggregate with parts laid in. -/
def fillV (place : Nat → Option (Nat × Nat)) : List Value → List (Nat × Value) → Option (List Value)
  | cs, [] => some cs
  | cs, (i, v) :: rest => match place i with
    | some (off, size) => if v.cells.toList.length = size ∧ off + size ≤ cs.length then fillV place (cs.take off ++ v.cells.toList ++ cs.drop (off + size)) rest else none
    | none => none
def placeS (tb : Tb) (fs : List (TypeId × Nat)) (i : Nat) : Option (Nat × Nat) :=
  match fs[i]? with
  | some (t, off) => (match tb t with
    | some ti => some (off, ti.size)
    | none => none)
  | none => none
def buildV (tb : Tb) (t : TypeId) (parts : List (Nat × Value)) : PV :=
  match tb t with
  | some ⟨.struct fs, _, _, z, _⟩ => if fs.all (fun f => (tb f.1).isSome) then (match fillV (placeS tb fs) z parts with
    | some cs => ret1 (.agg cs.toArray)
    | none => none) else none
  | some ⟨.array _ e, _, _, z, _⟩ => (match tb e with
    | some ti => (match fillV (fun i => some (i * ti.size, ti.size)) z parts with
      | some cs => ret1 (.agg cs.toArray)
      | none => none)
    | none => none)
  | _ => none

def lenV (tb : Tb) (t : TypeId) : EV → PV
  | .v (.string s) => (match tk tb t with
    | some .string => ret1 (.int .i64 ((bl s).length : Nat))
    | _ => none)
  | .v (.slice _ n _) | .row _ _ n _ => (match tk tb t with
    | some (.slice _) => ret1 (.int .i64 (n : Nat))
    | _ => none)
  | _ => none
def capV (tb : Tb) (t : TypeId) : EV → PV
  | .v (.slice _ _ c) | .row _ _ _ c => (match tk tb t with
    | some (.slice _) => ret1 (.int .i64 (c : Nat))
    | _ => none)
  | _ => none
def minV : Value → Value → PV
  | .int k x, .int _ y => ret1 (.int k (if y < x then y else x))
  | _, _ => none
def maxV : Value → Value → PV
  | .int k x, .int _ y => ret1 (.int k (if y > x then y else x))
  | _, _ => none

def asV : Option EV → Option Value
  | some (.v x) => some x
  | _ => none
/-- The plain values of a list of operands. -/
def vals (rs : RL) (ρ : Operand → Option EV) : List Operand → Option (List Value)
  | [] => some []
  | o :: t => match ρ o with
    | some e => (match e.val rs, vals rs ρ t with
      | some x, some xs => some (x :: xs)
      | _, _ => none)
    | none => none
def partsOf (rs : RL) (ρ : Operand → Option EV) : List (Nat × Operand) → Option (List (Nat × Value))
  | [] => some []
  | (i, o) :: t => match ρ o with
    | some e => (match e.val rs, partsOf rs ρ t with
      | some x, some xs => some ((i, x) :: xs)
      | _, _ => none)
    | none => none
def intOf? : Option EV → Option Int
  | some (.v (.int _ n)) => some n
  | _ => none
/-- An optional bound: none where there is none. -/
def bound (ρ : Operand → Option EV) : Option Operand → Option (Option Int)
  | none => some none
  | some o => match ρ o with
    | some (.v (.int _ n)) => some (some n)
    | _ => none

def evs (ρ : Operand → Option EV) : List Operand → Option (List EV)
  | [] => some []
  | o :: t => match ρ o, evs ρ t with
    | some e, some es => some (e :: es)
    | _, _ => none
def builtV (tb : Tb) (rs : RL) : Builtin → Option (List EV) → List TypeId → PV
  | .unsafeSliceData, some [.v (.slice none _ _)], _ => some (True, .v (.pointer none))
  | .unsafeSliceData, some [.row id o _ c], _ => some (c ≠ 0 ∧ rowSome rs id, .loc id o)
  | .len, some [e], [t] => lenV tb t e
  | .cap, some [e], [t] => capV tb t e
  | .min, some [.v a, .v b], _ => minV a b
  | .max, some [.v a, .v b], _ => maxV a b
  | _, _, _ => none
def sliceGo (tb : Tb) (t : TypeId) : Option EV → Option (Option Int) → Option (Option Int) → PV
  | some (.v a), some l, some h => sliceV tb t a l h
  | some (.row id o n c), some l, some h => sliceR tb t id o n c l h
  | some (.loc id o), some l, some h => sliceA tb t id o l h
  | _, _, _ => none
def sliceGo3 (tb : Tb) (t : TypeId) : Option EV → Option (Option Int) → Option (Option Int) → Option (Option Int) → PV
  | some (.v a), some l, some h, some (some m) => sliceV3 tb t a l h m
  | _, _, _, _ => none

def pv (tb : Tb) (rs : RL) (ρ : Operand → Option EV) : Op → PV
  | .move x | .assign x => match ρ x with
    | some e => some (True, e)
    | none => none
  | .binOp op t x y _ => (match ρ x, ρ y with
    | some (.v a), some (.v b) => binV tb op t a b
    | _, _ => none)
  | .unOp op _ x => (match ρ x with
    | some (.v a) => unV op a
    | _ => none)
  | .convert src dst x => (match tb src, ρ x with
    | some _, some (.v a) => convV tb dst a
    | _, _ => none)
  | .field t x f => (match ρ x with
    | some (.v a) => fieldV tb t f a
    | _ => none)
  | .extract x i => (match ρ x with
    | some (.v a) => extractV i a
    | _ => none)
  | .fieldAddr t x f => (match ρ x with
    | some e => fieldAddrV tb t f e
    | _ => none)
  | .indexAddr t x i => (match ρ x, ρ i with
    | some e, some (.v (.int _ n)) => indexAddrV tb rs t e n
    | _, _ => none)
  | .index t x i => (match ρ x, ρ i with
    | some (.v a), some (.v (.int _ n)) => indexV tb t a n
    | _, _ => none)
  | .slice t x lo hi none => sliceGo tb t (ρ x) (bound ρ lo) (bound ρ hi)
  | .slice t x lo hi (some m) => sliceGo3 tb t (ρ x) (bound ρ lo) (bound ρ hi) (bound ρ (some m))
  | .build t parts => (match partsOf rs ρ parts.toList with
    | some ps => buildV tb t ps
    | none => none)
  | .makeFunc fn first captured => (match vals rs ρ first.toList, vals rs ρ captured.toList with
    | some xs, some ys => ret1 (.func fn xs.toArray ys.toArray)
    | _, _ => none)
  | .nilCheck x => (match ρ x with
    | some (.v (.pointer p)) => some (p.isSome = true, .v (.pointer p))
    | some (.loc id o) => some (True, .loc id o)
    | _ => none)
  | .call ⟨.builtin b, args, ts⟩ => builtV tb rs b (evs ρ args.toList) ts.toList
  | _ => none

/-! ### What an operation asks, and what follows.
Every function that holds a continuation is defined by equations on its arguments' constructors, so that simp runs it from the inside out and never walks into a continuation. -/
def chainFree (d : Nat) : GEnv → Bool
  | [] => true
  | (m, c, _) :: t => !(Nat.beq m d) && c.all (fun e => !(Nat.beq e.1 d)) && chainFree d t
def envFree (d : Nat) (env : Env) : Bool :=
  match lk env d with
  | some _ => false
  | none => true
def putV (N : Nat) : Chain → Option Nat → EV → (GEnv → St → Prop) → GEnv → St → Prop
  | _, none, _, _, _, _ => False
  | [], some d, e, K, [], ⟨env, F, rs, nx⟩ => d < N ∧ K [] ⟨(d, e) :: env, F, rs, nx⟩
  | [], some d, e, K, x :: g, ⟨env, F, rs, nx⟩ => d < N ∧ chainFree d (x :: g) = true ∧ K (x :: g) ⟨(d, e) :: env, F, rs, nx⟩
  | c :: ch, some d, e, K, g, st => d < N ∧ (chainFree d g && envFree d st.env) = true ∧ K ((d, c :: ch, e) :: g) st
/-- The same, as a function of the value. -/
def putK (N : Nat) (ch : Chain) (d : Option Nat) (K : GEnv → St → Prop) (g : GEnv) (st : St) (e : EV) : Prop := putV N ch d e K g st
/-- Something is asked, then a value is laid down. -/
def putO (N : Nat) : PV → Chain → Option Nat → (GEnv → St → Prop) → GEnv → St → Prop
  | some (ob, e), ch, d, K, g, st => imp ch ob ∧ putV N ch d e K g st
  | none, _, _, _, _, _ => False

/-- The merge of the two arms of '&&' and '||'. -/
def bpick (b x y : Bool) : Bool :=
  match b with
  | true => x
  | false => y

/-- A plain call: one value, whatever world; no old block is turned. -/
def Plain (P : Program) (F : Hp) (f : FuncId) (args : List Value) (x : Value) : Prop :=
  ∀ w, F.le w → Calls P f args.toArray w fun e w' => e = .returned x ∧ Pres [] w w'

def FNew (F F' : Hp) (n : Nat) : Prop := ∀ k, (F' k).isSome = true → (F k).isSome = true ∨ n ≤ k
/-- What an entry speaks of: the block that it owns; or a young block (a map, an iterator) that stands in the frozen part and may yet be turned: a name without a block, whose one cell is the block's number. -/
def Blk.at (r : Blk) (b : Nat) : Prop := r.blk = some b ∨ (r.blk = none ∧ r.ty = 0 ∧ r.cells = [.v (.int .i64 (b : Int))])
theorem Blk.at_some {r r' : Blk} {b b' : Nat} (hb : r.blk = some b) (h : r'.at b') (he : r'.blk = r.blk) : r.at b' := by
  rcases h with h | ⟨h, _⟩
  · exact .inl (he ▸ h)
  · rw [he, hb] at h; cases h
/-- Owned blocks, as a list with numbers. -/
structure Owned (F : Hp) (rs : RL) (w : World) : Prop where
  own : ∀ id r, lkR rs id = some r → (match r.blk with
    | none => (r.cells = [] ∨ r.ty = 0 ∧ ∃ b : Nat, r.cells = [.v (.int .i64 (b : Int))]) ∧ r.cap = 0
    | some b => F b = none ∧ r.cells.length ≤ r.cap ∧ ∃ cur : Array Value, w.heap[b]? = some (.cells cur r.ty (0, 0)) ∧ cur.size = r.cap ∧
        ∀ (j : Nat) (ev : EV) (x : Value), r.cells[j]? = some ev → ev.val rs = some x → cur[j]? = some x)
  apart : ∀ i j r s b, lkR rs i = some r → lkR rs j = some s → r.blk = some b → s.blk = some b → i = j

/-- A call in general: what it hands back, what it has frozen, what it hands over. -/
def CallOK (P : Program) (F : Hp) (f : FuncId) (args : List Value) (Q : Value → Hp → RL → Prop) : Prop :=
  ∀ w, F.le w → Calls P f args.toArray w fun e w' => ∃ x F' new, e = .returned x ∧ F.sub F' ∧ F'.le w' ∧ Pres [] w w' ∧ FNew F F' w.heap.size ∧
    Owned F' new w' ∧ (∀ id r b, lkR new id = some r → r.at b → w.heap.size ≤ b) ∧ Q x F' new

/-- The numbers of the new blocks begin at nx. -/
def shiftE (n : Nat) : EV → EV
  | .v x => .v x
  | .loc id o => .loc (n + id) o
  | .row id o k c => .row (n + id) o k c
def shiftB (n : Nat) (r : Blk) : Blk := { r with cells := r.cells.map (shiftE n) }
def shiftR (n : Nat) (rs : RL) : RL := rs.map fun x => (n + x.1, shiftB n x.2)

/-- One cell, or the cells of an aggregate, in the frozen part. -/
def loadF (F : Hp) (size : Nat) (p : Option Addr) (ch : Chain) (K : EV → Prop) : Bool → Prop
  | true => ∃ cs : List Value, cs.length = size ∧ imp ch (p.isSome = true ∧ ∀ j, j < size → Pcell F (padd p j) = cs[j]?) ∧ K (.v (.agg cs.toArray))
  | false => ∃ x, imp ch (Pcell F p = some x) ∧ K (.v x)
def allV (rs : RL) : List EV → Option (List Value)
  | [] => some []
  | e :: t => match e.val rs, allV rs t with
    | some x, some xs => some (x :: xs)
    | _, _ => none
def aliveO (rs : RL) : Option EV → Option EV
  | some e => alive rs e
  | none => none
def optV : Option EV → (EV → Prop) → Prop
  | some e, K => K e
  | none, _ => False
def optL : Option (List Value) → (EV → Prop) → Prop
  | some cs, K => K (.v (.agg cs.toArray))
  | none, _ => False
def loadL (rs : RL) (size off : Nat) (K : EV → Prop) : Bool → Option Blk → Prop
  | true, some r => off + size ≤ r.cells.length ∧ optL (allV rs ((r.cells.take (off + size)).drop off)) K
  | false, some r => optV (aliveO rs r.cells[off]?) K
  | _, none => False
def loadGo (F : Hp) (rs : RL) (ch : Chain) (K : EV → Prop) : Option TI → Option EV → Prop
  | some i, some (.v (.pointer p)) => loadF F i.size p ch K i.kind.agg
  | some i, some (.loc id off) => loadL rs i.size off K i.kind.agg (lkR rs id)
  | _, _ => False

/-! ### What it means that a state fits the machine's -/
def EV.lt (n : Nat) : EV → Prop
  | .v _ => True
  | .loc id _ => id < n
  | .row id _ _ _ => id < n

structure Ctx where
  wE : World
  F0 : Hp
  F1 : Hp
  rs0 : RL
  nx0 : Nat
  sz : Nat

structure WOK (c : Ctx) (F : Hp) (rs : RL) (w : World) : Prop where
  le : F.le w
  own : Owned F rs w
  pres : Pres [] c.wE w
  new : ∀ id r b, lkR rs id = some r → r.at b → c.wE.heap.size ≤ b
  fnew : FNew c.F0 F c.wE.heap.size
  sz : c.sz ≤ w.heap.size
  tp : ∀ k, c.wE.heap.size ≤ k → c.F0 k = none ∧ c.F1 k = none

/-- What has become of what was there when the code began. -/
structure Hist (c : Ctx) (F : Hp) (rs : RL) (nx : Nat) : Prop where
  sub : c.F1.sub F
  nxle : c.nx0 ≤ nx
  succ : ∀ id r, id < c.nx0 → lkR rs id = some r → ∃ r0, lkR c.rs0 id = some r0 ∧ r0.blk = r.blk

def gA (ch : Chain) (a : Act) : Prop := ∀ s w b, (s, w, b) ∈ ch → a.tmps.getD s undef = .bool w

structure GSat (c : Ctx) (N : Nat) (g : GEnv) (st : St) (a : Act) (w : World) : Prop where
  size : a.tmps.size = N
  defers : a.defers = []
  wok : WOK c st.F st.rs w
  hist : Hist c st.F st.rs st.nx
  rids : ∀ id r, lkR st.rs id = some r → id < st.nx ∧ ∀ e ∈ r.cells, e.lt st.nx
  ids : ∀ n e, lk st.env n = some e → e.lt st.nx
  env : ∀ n e x, lkG g n = none → lk st.env n = some e → e.val st.rs = some x → a.tmps.getD n undef = x
  gv : ∀ n ch e, lkG g n = some (ch, e) → (gA ch a → (∀ x, e.val st.rs = some x → a.tmps.getD n undef = x) ∧ gP ch) ∧ (¬ gA ch a → a.tmps.getD n undef = undef) ∧ e.lt st.nx ∧ lk st.env n = none

abbrev Sat (c : Ctx) (N : Nat) (st : St) (a : Act) (w : World) : Prop := GSat c N [] st a w


/-- Whatever fits the one state fits another one that is told of by G. -/
def VS (N : Nat) (g : GEnv) (st : St) (G : St → Prop) : Prop := ∀ c a w, GSat c N g st a w → ∃ st', GSat c N g st' a w ∧ G st'

/-- The same, where the code began with at most k names. -/
def VSf (k N : Nat) (g : GEnv) (st : St) (G : St → Prop) : Prop := ∀ c a w, c.nx0 ≤ k → GSat c N g st a w → ∃ st', GSat c N g st' a w ∧ G st'

def callEff (P : Program) (N : Nat) (f : FuncId) (args : List Value) (d : Option Nat) (K : GEnv → St → Prop) (g : GEnv) (st : St) : Prop :=
  VS N g st fun st => ∃ Q : Value → Hp → RL → Prop, CallOK P st.F f args Q ∧
    ∀ x F' new, st.F.sub F' → Q x F' new → ∃ (m : Nat) (e : EV), (∀ id r, lkR new id = some r → id < m ∧ ∀ e ∈ r.cells, e.lt m) ∧ e.val new = some x ∧
      putV N [] d (shiftE st.nx e) K g ⟨st.env, F', shiftR st.nx new ++ st.rs, st.nx + m⟩
def callPlain (P : Program) (N : Nat) (ch : Chain) (f : FuncId) (args : List Value) (d : Option Nat) (K : GEnv → St → Prop) (g : GEnv) (st : St) : Prop :=
  ∃ x, imp ch (Plain P st.F f args x) ∧ putV N ch d (.v x) K g st
def callV (P : Program) (N : Nat) (f : FuncId) (args : List Value) (d : Option Nat) (K : GEnv → St → Prop) (g : GEnv) (st : St) : Bool → Chain → Prop
  | true, ch => callPlain P N ch f args d K g st
  | false, [] => callEff P N f args d K g st
  | false, c :: ch => callPlain P N (c :: ch) f args d K g st

/-- A function with a text (no body-less one). -/
def bodied (P : Program) (f : FuncId) : Prop := ∃ fn, P.funcs[f]? = some fn ∧ fn.body.isNone = false ∧ (fn.name == "runtime.NumGoroutine") = false

def callGo (P : Program) (N : Nat) (dr : Bool) (ch : Chain) (d : Option Nat) (K : GEnv → St → Prop) (g : GEnv) (st : St) : Option EV → Option (List Value) → Prop
  | some (.v (.func (.func n) first captured)), some xs => bodied P n ∧ callV P N n (first.toList ++ xs ++ captured.toList) d K g st dr ch
  | _, _ => False
def pickGo (N : Nat) (ch : Chain) (d : Option Nat) (K : GEnv → St → Prop) (g : GEnv) (st : St) (t : Bool) : Option EV → Option EV → Prop
  | some (.v (.bool x)), some (.v (.bool y)) => putV N ch d (.v (.bool (bpick t x y))) K g st
  | _, _ => False
def pickTo (N : Nat) (ch : Chain) (d : Option Nat) (K : GEnv → St → Prop) (g : GEnv) (st : St) (s : Nat) (a b : Operand) : Option EV → Prop
  | some (.v (.bool t)) => pickGo N ch d K g st t (opd st.rs g st.env (ch ++ [(s, true, t)]) a) (opd st.rs g st.env (ch ++ [(s, false, t)]) b)
  | _ => False

/-- The merge where the answer is known. -/
def pickO (N : Nat) (ch : Chain) (d : Option Nat) (K : GEnv → St → Prop) (g : GEnv) (st : St) : Option EV → Prop
  | some e => putV N ch d e K g st
  | none => False
def pickN (N : Nat) (ch : Chain) (d : Option Nat) (K : GEnv → St → Prop) (g : GEnv) (st : St) (a b : Operand) : Option EV → Prop
  | some (.v (.bool true)) => pickO N ch d K g st (opd st.rs g st.env ch a)
  | some (.v (.bool false)) => pickO N ch d K g st (opd st.rs g st.env ch b)
  | _ => False

/-- A new block of the call's own. -/
def newV (N : Nat) (d : Option Nat) (K : GEnv → St → Prop) (g : GEnv) (t : TypeId) (cells : List EV) : St → Prop
  | ⟨env, F, rs, nx⟩ => ∀ b, putV N [] d (.loc nx 0) K g ⟨env, F, (nx, ⟨some b, cells, t, cells.length⟩) :: rs, nx + 1⟩
def cellsOf : EV → List EV
  | .v (.agg cs) => cs.toList.map .v
  | e => [e]
def boxGo (N : Nat) (d : Option Nat) (K : GEnv → St → Prop) (g : GEnv) (t : TypeId) (st : St) : Option EV → Prop
  | some e => newV N d K g t (cellsOf e) st
  | none => False
def allocGo (N : Nat) (d : Option Nat) (K : GEnv → St → Prop) (g : GEnv) (t : TypeId) (st : St) : Option TI → Prop
  | some i => newV N d K g t (i.zero.map .v) st
  | none => False
/-- A new row of the call's own. -/
def rowV (N : Nat) (d : Option Nat) (K : GEnv → St → Prop) (g : GEnv) (t : TypeId) (n : Nat) (cells : List EV) : St → Prop
  | ⟨env, F, rs, nx⟩ => ∀ b, putV N [] d (.row nx 0 n n) K g ⟨env, F, (nx, ⟨some b, cells, t, cells.length⟩) :: rs, nx + 1⟩
def zerosV (n : Nat) (z : List Value) : List Value := (List.range n).map fun i => z.toArray[i % z.length]!
def bsFill (N : Nat) (d : Option Nat) (K : GEnv → St → Prop) (g : GEnv) (st : St) (e : TypeId) (n : Nat) : Option (List Value) → Prop
  | some cs => rowV N d K g e n (cs.map .v) st
  | none => False
def bsElem (N : Nat) (d : Option Nat) (K : GEnv → St → Prop) (g : GEnv) (st : St) (e : TypeId) (n : Nat) (ps : List (Nat × Value)) : Option TI → Prop
  | some ti => n * ti.size ≤ 2 ^ 24 ∧ bsFill N d K g st e n (fillV (fun i => some (i * ti.size, ti.size)) (zerosV (n * ti.size) ti.zero) ps)
  | none => False
def bsGo (tb : Tb) (N : Nat) (d : Option Nat) (K : GEnv → St → Prop) (g : GEnv) (st : St) (n : Nat) : Option TK → Option (List (Nat × Value)) → Prop
  | some (.slice e), some ps => bsElem N d K g st e n ps (tb e)
  | _, _ => False
/-- The value of one cell. -/
def one : EV → Bool
  | .v (.agg _) => false
  | .v (.tuple _) => false
  | _ => true
def storeIn (K : GEnv → St → Prop) (g : GEnv) (id off : Nat) (es : List EV) (size : Nat) : St → Option Blk → Prop
  | ⟨env, F, rs, nx⟩, some r => es.length = size ∧ es.all one = true ∧ off + size ≤ r.cells.length ∧ K g ⟨env, F, setR rs id ⟨r.blk, r.cells.take off ++ es ++ r.cells.drop (off + size), r.ty, r.cap⟩, nx⟩
  | _, none => False
def storeGo (K : GEnv → St → Prop) (g : GEnv) (st : St) : Option TI → Option EV → Option EV → Prop
  | some i, some (.loc id off), some e => storeIn K g id off (cellsOf e) i.size st (lkR st.rs id)
  | _, _, _ => False

def opV (P : Program) (tb : Tb) (N : Nat) (dr : Bool) (ch : Chain) (d : Option Nat) (K : GEnv → St → Prop) (g : GEnv) (st : St) : Op → Prop
  | .pick (.tmp s) a b => pickTo N ch d K g st s a b (opd st.rs g st.env ch (.tmp s)) ∨ pickN N ch d K g st a b (opd st.rs g st.env ch (.tmp s))
  | .load t a => loadGo st.F st.rs ch (putK N ch d K g st) (tb t) (opd st.rs g st.env ch a)
  | .call ⟨.value f, args, _⟩ => callGo P N dr ch d K g st (opd st.rs g st.env ch f) (vals st.rs (opd st.rs g st.env ch) args.toList)
  | .alloc t => dr = false ∧ ch = [] ∧ allocGo N d K g t st (tb t)
  | .box t x => dr = false ∧ ch = [] ∧ boxGo N d K g t st (opd st.rs g st.env ch x)
  | .buildSlice t n ps => dr = false ∧ ch = [] ∧ bsGo tb N d K g st n (tk tb t) (partsOf st.rs (opd st.rs g st.env ch) ps.toList)
  | .store t a x => dr = false ∧ ch = [] ∧ d = none ∧ storeGo K g st (tb t) (opd st.rs g st.env ch a) (opd st.rs g st.env ch x)
  | .move x => putO N (pv tb st.rs (opd st.rs g st.env ch) (.move x)) ch d K g st
  | .assign x => putO N (pv tb st.rs (opd st.rs g st.env ch) (.assign x)) ch d K g st
  | .build t ps => putO N (pv tb st.rs (opd st.rs g st.env ch) (.build t ps)) ch d K g st
  | .nilCheck x => putO N (pv tb st.rs (opd st.rs g st.env ch) (.nilCheck x)) ch d K g st
  | .binOp op t x y u => putO N (pv tb st.rs (opd st.rs g st.env ch) (.binOp op t x y u)) ch d K g st
  | .unOp op t x => putO N (pv tb st.rs (opd st.rs g st.env ch) (.unOp op t x)) ch d K g st
  | .convert s t x => putO N (pv tb st.rs (opd st.rs g st.env ch) (.convert s t x)) ch d K g st
  | .makeFunc fn x y => putO N (pv tb st.rs (opd st.rs g st.env ch) (.makeFunc fn x y)) ch d K g st
  | .slice t x lo hi mx => putO N (pv tb st.rs (opd st.rs g st.env ch) (.slice t x lo hi mx)) ch d K g st
  | .fieldAddr t x f => putO N (pv tb st.rs (opd st.rs g st.env ch) (.fieldAddr t x f)) ch d K g st
  | .field t x f => putO N (pv tb st.rs (opd st.rs g st.env ch) (.field t x f)) ch d K g st
  | .indexAddr t x i => putO N (pv tb st.rs (opd st.rs g st.env ch) (.indexAddr t x i)) ch d K g st
  | .index t x i => putO N (pv tb st.rs (opd st.rs g st.env ch) (.index t x i)) ch d K g st
  | .extract x i => putO N (pv tb st.rs (opd st.rs g st.env ch) (.extract x i)) ch d K g st
  | .call ⟨.builtin b, args, ts⟩ => putO N (pv tb st.rs (opd st.rs g st.env ch) (.call ⟨.builtin b, args, ts⟩)) ch d K g st
  | _ => False

/-! ### Operations that read or write memory of the call's own -/
def Frow (F : Hp) (p : Option Addr) (cs : List Value) : Prop := ∀ j u, cs[j]? = some u → Pcell F (padd p j) = some u
/-- The elements that are appended. -/
def srcR (size o m : Nat) (k : Nat → List EV → Prop) : Option Blk → Prop
  | some ⟨none, _, _, _⟩ => m = 0 ∧ k 0 []
  | some ⟨some _, cells, _, _⟩ => o + m * size ≤ cells.length ∧ k m ((cells.take (o + m * size)).drop o)
  | none => False
def srcV (F : Hp) (rs : RL) (size : Nat) (k : Nat → List EV → Prop) : Option EV → Prop
  | some (.row id o m _) => srcR size o m k (lkR rs id)
  | some (.v (.slice p m _)) => ∃ cs : List Value, cs.length = m * size ∧ Frow F p cs ∧ k m (cs.map .v)
  | some (.v (.string s)) => size = 1 ∧ k (bl s).length ((bl s).map fun b => .v (.int .u8 (b.toNat : Int)))
  | _ => False
def oneAll (rs : RL) (l : List EV) : Prop := ∀ e ∈ l, one e = true ∧ ∃ x, e.val rs = some x
/-- Behind an append: a new name for the row. -/
def appK (N : Nat) (d : Option Nat) (K : GEnv → St → Prop) (g : GEnv) (e : TypeId) (size bytes : Nat) (same : Prop) (c n m : Nat) (cells : List EV) : Hp → Env → RL → Nat → Prop
  | F, env, rs, nx => (m = 0 → same) ∧ (0 < m → (c < n + m → (n + m) * bytes ≤ 140737488355328) ∧ ∀ b cap, n + m ≤ cap → (n + m ≤ c → cap = c) → putV N [] d (.row nx 0 (n + m) cap) K g ⟨env, F, (nx, ⟨some b, cells, e, cap * size⟩) :: rs, nx + 1⟩)
def appR (N : Nat) (d : Option Nat) (K : GEnv → St → Prop) (g : GEnv) (e : TypeId) (ti : TI) (id n c : Nat) (m : Nat) (news : List EV) : St → Option Blk → Prop
  | ⟨env, F, rs, nx⟩, some ⟨none, _, _, _⟩ => n = 0 ∧ c = 0 ∧ appK N d K g e ti.size ti.bytes (putV N [] d (.row id 0 n c) K g ⟨env, F, rs, nx⟩) 0 0 m news F env (delR rs id) nx
  | ⟨env, F, rs, nx⟩, some ⟨some _, cells, ty, cap⟩ => ty = e ∧ n ≤ c ∧ cap = c * ti.size ∧ n * ti.size ≤ cells.length ∧ appK N d K g e ti.size ti.bytes (putV N [] d (.row id 0 n c) K g ⟨env, F, rs, nx⟩) c n m (cells.take (n * ti.size) ++ news) F env (delR rs id) nx
  | _, none => False
def appF (N : Nat) (d : Option Nat) (K : GEnv → St → Prop) (g : GEnv) (e : TypeId) (ti : TI) (p : Option Addr) (n c : Nat) (m : Nat) (news : List EV) : St → Prop
  | ⟨env, F, rs, nx⟩ => n = c ∧ ∃ cs : List Value, cs.length = n * ti.size ∧ Frow F p cs ∧ appK N d K g e ti.size ti.bytes (putV N [] d (.v (.slice p n c)) K g ⟨env, F, rs, nx⟩) c n m (cs.map .v ++ news) F env rs nx
def appD (N : Nat) (d : Option Nat) (K : GEnv → St → Prop) (g : GEnv) (st : St) (e : TypeId) (ti : TI) (m : Nat) (news : List EV) : Option EV → Prop
  | some (.row id 0 n c) => appR N d K g e ti id n c m news st (lkR st.rs id)
  | some (.v (.slice p n c)) => appF N d K g e ti p n c m news st
  | _ => False
def appS (N : Nat) (d : Option Nat) (K : GEnv → St → Prop) (g : GEnv) (st : St) (e : TypeId) (x y : Option EV) : Option TI → Prop
  | some ti => 0 < ti.size ∧ 0 < ti.bytes ∧ ti.zero.length = ti.size ∧ srcV st.F st.rs ti.size (fun m news => oneAll st.rs news ∧ appD N d K g st e ti m news x) y
  | none => False
def srcTy : Option TK → Bool
  | some (.slice _) => true
  | some .string => true
  | _ => false
def appV (tb : Tb) (N : Nat) (d : Option Nat) (K : GEnv → St → Prop) (g : GEnv) (st : St) (t2 : TypeId) (x y : Option EV) : Option TK → Prop
  | some (.slice e) => srcTy (tk tb t2) = true ∧ appS N d K g st e x y (tb e)
  | _ => False
/-- Bytes read as a string. -/
def strV (F : Hp) (rs : RL) (k : List UInt8 → Prop) : Option EV → Prop
  | some (.row id o m _) => srcR 1 o m (fun _ cells => ∃ bs : List UInt8, cells = bs.map (fun b => .v (.int .u8 (b.toNat : Int))) ∧ k bs) (lkR rs id)
  | some (.v (.slice p m _)) => ∃ bs : List UInt8, bs.length = m ∧ Frow F p (bs.map fun b => .int .u8 (b.toNat : Int)) ∧ k bs
  | _ => False
def isByteSlice (tb : Tb) : Option TK → Bool
  | some (.slice e) => (match tk tb e with
    | some (.int .u8) => true
    | _ => false)
  | _ => false
def isStr : Option TK → Bool
  | some .string => true
  | _ => false
/-- A call that is walked in its place: what holds behind it is told of the caller's own memory. -/
def CallIn (P : Program) (F : Hp) (rs : RL) (nx : Nat) (f : FuncId) (args : List EV) (Q : EV → Hp → RL → Nat → Prop) : Prop :=
  ∀ c w, WOK c F rs w → Hist c F rs nx → (∀ id r, lkR rs id = some r → id < nx ∧ ∀ e ∈ r.cells, e.lt nx) → c.rs0 = rs → c.nx0 = nx → ∀ xs, allV rs args = some xs → Calls P f xs.toArray w fun e w' =>
    ∃ x ev F' rs' nx', e = .returned x ∧ WOK c F' rs' w' ∧ Hist c F' rs' nx' ∧ (∀ id r, lkR rs' id = some r → id < nx' ∧ ∀ e ∈ r.cells, e.lt nx') ∧ ev.lt nx' ∧ ev.val rs' = some x ∧ Q ev F' rs' nx'
/-- A call's result is laid down, or there is none. -/
def putE (N : Nat) : Option Nat → EV → (GEnv → St → Prop) → GEnv → St → Prop
  | none, _, K, g, st => K g st
  | some d, e, K, g, st => putV N [] (some d) e K g st
def inGo (P : Program) (N : Nat) (d : Option Nat) (K : GEnv → St → Prop) (g : GEnv) : St → Option EV → Option (List EV) → Prop
  | ⟨env, F, rs, nx⟩, some (.v (.func (.func n) first captured)), some xs => bodied P n ∧ ∃ Q, CallIn P F rs nx n (first.toList.map .v ++ xs ++ captured.toList.map .v) Q ∧
      ∀ e F' rs' nx', True → nx ≤ nx' → Q e F' rs' nx' → putE N d e K g ⟨env, F', rs', nx'⟩
  | _, _, _ => False
def memV (P : Program) (tb : Tb) (N : Nat) (d : Option Nat) (K : GEnv → St → Prop) (g : GEnv) (st : St) : Op → Prop
  | .call ⟨.builtin .append, args, ts⟩ => ∃ x y t1 t2, args.toList = [x, y] ∧ ts.toList = [t1, t2] ∧ appV tb N d K g st t2 (opd st.rs g st.env [] x) (opd st.rs g st.env [] y) (tk tb t1)
  | .convert s t x => isByteSlice tb (tk tb s) = true ∧ isStr (tk tb t) = true ∧ strV st.F st.rs (fun bs => putV N [] d (.v (S bs)) K g st) (opd st.rs g st.env [] x)
  | .call ⟨.value f, args, _⟩ => inGo P N d K g st (opd st.rs g st.env [] f) (evs (opd st.rs g st.env []) args.toList)
  | _ => False
/-- An operation told of by the machine's own words: what it does to whatever fits the state. -/
def semV (P : Program) (N : Nat) (d : Option Nat) (K : GEnv → St → Prop) (g : GEnv) (st : St) (op : Op) : Prop :=
  ∃ (ι : Type) (e : ι → EV) (st' : ι → St), (∀ (c : Ctx) (a : Act) (w : World) (o : Oper), GSat c N g st a w → o.op = op → ∃ i v w', ((execOp a.eval o).run P w = .ok (.value v) w' ∨ (d = none ∧ (execOp a.eval o).run P w = .ok .skip w')) ∧ GSat c N g (st' i) a w' ∧ (e i).val (st' i).rs = some v) ∧ ∀ i, putE N d (e i) K g (st' i)
/-- An operation that no guard holds back. -/
def opX (P : Program) (tb : Tb) (N : Nat) (dr : Bool) (d : Option Nat) (K : GEnv → St → Prop) (g : GEnv) (st : St) (op : Op) : Prop :=
  opV P tb N dr [] d K g st op ∨ (dr = false ∧ memV P tb N d K g st op) ∨ (dr = false ∧ VS N g st fun st => opV P tb N false [] d K g st op ∨ memV P tb N d K g st op ∨ semV P N d K g st op)

def guardE (P : Program) (tb : Tb) (N : Nat) (dr : Bool) (s : Nat) (want : Bool) (op : Op) (d : Option Nat) (K : GEnv → St → Prop) (g : GEnv) (st : St) : Option EV → Prop
  | some (.v (.bool b)) => opV P tb N dr [(s, want, b)] d K g st op
  | _ => False
def guardG (P : Program) (tb : Tb) (N : Nat) (dr : Bool) (s : Nat) (want : Bool) (op : Op) (d : Option Nat) (K : GEnv → St → Prop) (g : GEnv) (st : St) : Option (Chain × EV) → Prop
  | some (c, .v (.bool b)) => opV P tb N dr (c ++ [(s, want, b)]) d K g st op
  | some _ => False
  | none => guardE P tb N dr s want op d K g st (lk st.env s)
def guardS (P : Program) (tb : Tb) (N : Nat) (dr : Bool) (want : Bool) (op : Op) (d : Option Nat) (K : GEnv → St → Prop) (g : GEnv) (st : St) : Option Nat → Prop
  | some s => guardG P tb N dr s want op d K g st (lkG g s)
  | none => False
def dstOf : Option Oper → Option Nat
  | some o => o.dst
  | none => none
/-- An operation that is not wanted: its slot holds no value. -/
def skipV (N : Nat) (d : Option Nat) (K : GEnv → St → Prop) (g : GEnv) (st : St) : Prop :=
  match d with
  | none => K g st
  | some d => putV N [] (some d) (.v (.tuple #[])) K g st
/-- The guard's answer is known. -/
def guardK (P : Program) (tb : Tb) (N : Nat) (dr : Bool) (want : Bool) (op : Op) (d : Option Nat) (K : GEnv → St → Prop) (g : GEnv) (st : St) : Option Nat → Prop
  | some s => ∃ b, lkG g s = none ∧ lk st.env s = some (.v b) ∧ ((b = .bool want ∧ opX P tb N dr d K g st op) ∨ (b ≠ .bool want ∧ skipV N d K g st))
  | none => False
def stepV (P : Program) (tb : Tb) (N : Nat) (dr : Bool) (all : List Oper) (op : Op) (d : Option Nat) (K : GEnv → St → Prop) (g : GEnv) (st : St) : Option (Nat × Bool) → Prop
  | none => opX P tb N dr d K g st op
  | some (j, want) => guardS P tb N dr want op d K g st (dstOf all[j]?) ∨ guardK P tb N dr want op d K g st (dstOf all[j]?)

def vcOps (P : Program) (tb : Tb) (N : Nat) (dr : Bool) (all : List Oper) : List Oper → (GEnv → St → Prop) → GEnv → St → Prop
  | [], K, g, st => K g st
  | ⟨d, op, _, _, _, gd⟩ :: rest, K, g, st => stepV P tb N dr all op d (vcOps P tb N dr all rest K) g st gd
/-- The guards are of no use any more. -/
def dropG (K : St → Prop) : GEnv → St → Prop := fun _ st => K st

/-! ### A region that draws its order, and makes memory: what only reads may be taken first -/
/-- The blocks that are read by what is taken first; of all others nothing is known. -/
def mask (kept : List Nat) : RL → RL
  | [] => []
  | (id, ⟨b, cells, ty, cap⟩) :: t => match kept.contains id with
    | true => (id, ⟨b, cells, ty, cap⟩) :: mask kept t
    | false => (id, ⟨b, [], ty, cap⟩) :: mask kept t
def backK (rs : RL) (K : GEnv → St → Prop) : GEnv → St → Prop
  | g, ⟨env, F, _, nx⟩ => K g ⟨env, F, rs, nx⟩
def firstsB (md : Region.Mode) (ops : Array Oper) : Array Bool → List Nat → Bool
  | _, [] => true
  | done, i :: t => (Region.ready md ops done).contains i && Region.free md ops done i && firstsB md ops (done.setIfInBounds i true) t
def setAll : Array Bool → List Nat → Array Bool
  | done, [] => done
  | done, i :: t => setAll (done.setIfInBounds i true) t
def sel (ops : List Oper) : List Nat → Option (List Oper)
  | [] => some []
  | i :: t => match ops[i]?, sel ops t with
    | some o, some l => some (o :: l)
    | _, _ => none
/-- The values of a block's cells are as they were. -/
def sameV (rs rs' : RL) : List EV → Prop
  | [] => True
  | e :: t => e.val rs' = e.val rs ∧ sameV rs rs' t
def keptR (rs rs' : RL) (id : Nat) : Option Blk → Prop
  | some r => lkR rs' id = some r ∧ sameV rs rs' r.cells
  | none => True
def keptOK (rs rs' : RL) : List Nat → Prop
  | [] => True
  | id :: t => keptR rs rs' id (lkR rs id) ∧ keptOK rs rs' t
def brK (kept : List Nat) (F : Hp) (rs : RL) (K : GEnv → St → Prop) : GEnv → St → Prop := fun g st => (F.sub st.F ∧ keptOK rs st.rs kept) ∧ K g st
def vcAny (P : Program) (tb : Tb) (N : Nat) (ops : Array Oper) (kept : List Nat) (K : St → Prop) : Nat → Nat → Array Bool → GEnv → St → Prop
  | 0, _, _, _, _ => False
  | m + 1, f, done, g, st => (Region.ready .any ops done = [] ∧ VS N [] st K) ∨
      (∃ f' is l, f = f' + is.length ∧ firstsB .any ops done is = true ∧ sel ops.toList is = some l ∧ vcOps P tb N true ops.toList l (backK st.rs (vcAny P tb N ops kept K m f' (setAll done is))) g ⟨st.env, st.F, mask kept st.rs, st.nx⟩) ∨
      (∃ f', f = f' + 1 ∧ Region.ready .any ops done ≠ [] ∧ ∀ i ∈ Region.ready .any ops done, ∃ o, ops[i]? = some o ∧ stepV P tb N false ops.toList o.op o.dst (brK kept st.F st.rs (vcAny P tb N ops kept K m f' (done.setIfInBounds i true))) g st o.guard)

def seqK (G : St → Prop) (K : Exit → St → Prop) : Exit → St → Prop
  | .normal, st => G st
  | .ret, st => K .ret st
  | .exit j, st => K (.exit j) st
  | .goto j, st => K (.goto j) st
  | .panic c, st => K (.panic c) st
  | .outgrown, st => K .outgrown st
def exitK (K : Exit → St → Prop) (st : St) : Nat → Bool → Prop
  | _, true => K .normal st
  | j, false => K (.exit j) st
def blockK (id : Nat) (K : Exit → St → Prop) : Exit → St → Prop
  | .exit j, st => exitK K st j (j == id)
  | .normal, st => K .normal st
  | .ret, st => K .ret st
  | .goto j, st => K (.goto j) st
  | .panic c, st => K (.panic c) st
  | .outgrown, st => K .outgrown st
def condV (x y : (Exit → St → Prop) → St → Prop) (K : Exit → St → Prop) (st : St) : Option EV → Prop
  | some (.v (.bool true)) => x K st
  | some (.v (.bool false)) => y K st
  | _ => False

def loopK {ι : Type} (N k : Nat) (T : ι → St) (μ : ι → Nat) (i : ι) (K : Exit → St → Prop) : Exit → St → Prop
  | .normal, st => VSf (min k (T i).nx) N [] st fun st' => ∃ j, st' = T j ∧ μ j < μ i
  | .ret, st => VS N [] st (K .ret)
  | .exit j, st => VS N [] st (K (.exit j))
  | .goto j, st => K (.goto j) st
  | .panic c, st => K (.panic c) st
  | .outgrown, st => K .outgrown st
def loopV (N : Nat) (body : (Exit → St → Prop) → St → Prop) (K : Exit → St → Prop) (st : St) : Prop :=
  ∃ (ι : Type) (T : ι → St) (μ : ι → Nat), (VS N [] st fun st' => ∃ i, st' = T i) ∧ ∀ i, body (loopK N st.nx T μ i K) (T i)

def vc (P : Program) (tb : Tb) (N : Nat) : Code → (Exit → St → Prop) → St → Prop
  | .skip, K, st => K .normal st
  | .ret, K, st => K .ret st
  | .exit id, K, st => K (.exit id) st
  | .seq x y, K, st => vc P tb N x (seqK (vc P tb N y K) K) st
  | .block id x, K, st => vc P tb N x (blockK id K) st
  | .cond c x y, K, st => condV (vc P tb N x) (vc P tb N y) K st (opd st.rs [] st.env [] c)
  | .loop x, K, st => loopV N (vc P tb N x) K st
  | .region _ ops dr, K, st => VS N [] st fun st => ((dr = true → Region.lexB .any ops = true) ∧ vcOps P tb N dr ops.toList ops.toList (dropG (K .normal)) [] st) ∨
      (∃ n, Region.lexTailB .any ops n = true ∧ vcOps P tb N true ops.toList (ops.toList.take n) (dropG (vcOps P tb N false ops.toList (ops.toList.drop n) (dropG (K .normal)) [])) [] st) ∨
      (dr = true ∧ Region.noSelect ops = true ∧ ∃ kept, vcAny P tb N ops kept (K .normal) (ops.size + 1) ops.size (Array.replicate ops.size false) [] st)
  | _, _, _ => False

/-- The results of a function. -/
def resV (tb : Tb) (st : St) : List ResultVar → Option (List Value)
  | [] => some []
  | .tmp t :: l => (match lk st.env t with
    | some e => (match e.val st.rs, resV tb st l with
      | some x, some xs => some (x :: xs)
      | _, _ => none)
    | none => none)
  | .cell a t :: l => (match aliveO st.rs (lk st.env a), tb t with
    | some (.loc id off), some i => (match lkR st.rs id, resV tb st l with
      | some r, some xs => if i.kind.agg then (match allV st.rs ((r.cells.take (off + i.size)).drop off) with
          | some cs => if off + i.size ≤ r.cells.length then some (.agg cs.toArray :: xs) else none
          | none => none)
        else (match r.cells[off]? with
          | some e => (match e.val st.rs with
            | some x => some (x :: xs)
            | none => none)
          | none => none)
      | _, _ => none)
    | _, _ => none)
def tupV : List Value → Value
  | [x] => x
  | l => .tuple l.toArray
def retGo (Q : Value → Prop) : Option (List Value) → Prop
  | some xs => Q (tupV xs)
  | none => False
/-- At the end: the results' value. -/
def retK (tb : Tb) (rv : List ResultVar) (Q : Value → Prop) : Exit → St → Prop
  | .normal, st => retGo Q (resV tb st rv)
  | .ret, st => retGo Q (resV tb st rv)
  | _, _ => False
/-- At the end: the results' value, what is frozen, what is handed over. -/
def retG (N : Nat) (tb : Tb) (rv : List ResultVar) (Q : Value → Hp → RL → Prop) : Exit → St → Prop
  | .normal, st => VSf 0 N [] st fun st' => ∃ xs, resV tb st' rv = some xs ∧ Q (tupV xs) st'.F st'.rs
  | .ret, st => VSf 0 N [] st fun st' => ∃ xs, resV tb st' rv = some xs ∧ Q (tupV xs) st'.F st'.rs
  | _, _ => False
/-- The results where the caller's own memory goes on. -/
def resE (tb : Tb) (st : St) : List ResultVar → Option EV
  | [.tmp t] => aliveO st.rs (lk st.env t)
  | l => match resV tb st l with
    | some xs => some (.v (tupV xs))
    | none => none
def retI (N : Nat) (tb : Tb) (rv : List ResultVar) (Q : EV → Hp → RL → Nat → Prop) : Exit → St → Prop
  | .normal, st => VS N [] st fun st' => ∃ e, resE tb st' rv = some e ∧ Q e st'.F st'.rs st'.nx
  | .ret, st => VS N [] st fun st' => ∃ e, resE tb st' rv = some e ∧ Q e st'.F st'.rs st'.nx
  | _, _ => False

end Go.TR
/-!
A small program logic of our own for the model. Part d: the pure operations do what the evaluator says. Nothing here speaks of one program.
-/
namespace Go.TR


theorem run_bind {P : Program} {α β : Type} (s : Sem α) (f : α → Sem β) (w : World) : (s >>= f).run P w = (match s.run P w with | .ok a w' => (f a).run P w' | .halt h w' => .halt h w') := by
  rw [Sem.run_bind]; cases s.run P w <;> rfl
theorem run_pure {P : Program} {α : Type} (a : α) (w : World) : (Pure.pure a : Sem α).run P w = .ok a w := rfl

variable {P : Program} {tb : Tb}

theorem tk_some {t : TypeId} {k : TK} (h : tk tb t = some k) : ∃ i, tb t = some i ∧ i.kind = k := by
  unfold tk at h
  split at h
  · rename_i i hi; exact ⟨i, hi, by simpa using h⟩
  · simp at h
theorem und_of_tk (htb : TbOK P tb) {t : TypeId} {k : TK} (h : tk tb t = some k) : ∃ d, P.underlying t = some d ∧ k.fits d := by
  obtain ⟨i, hi, rfl⟩ := tk_some h
  exact (htb t i hi).kind
theorem run_underlying' {t : TypeId} {d : TypeDesc} (h : P.underlying t = some d) (w : World) : (underlying t).run P w = .ok d w := by
  simp [underlying, h]
theorem run_sizeOf (htb : TbOK P tb) {t : TypeId} {i : TI} (h : tb t = some i) (w : World) : (sizeOf t).run P w = .ok i.size w := by
  obtain ⟨info, h1, h2, _⟩ := (htb t i h).info
  simp [sizeOf, typeInfo, h1, h2]
theorem run_isAgg (htb : TbOK P tb) {t : TypeId} {i : TI} (h : tb t = some i) (w : World) : (isAgg t).run P w = .ok i.kind.agg w := by
  obtain ⟨d, h1, h2⟩ := (htb t i h).kind
  cases hk : i.kind with
  | other =>
    rw [hk] at h2
    obtain ⟨h3, h4⟩ := h2
    simp only [isAgg, run_bind, run_underlying' h1, TK.agg]
    cases d <;> first | rfl | exact absurd rfl (h3 _) | exact absurd rfl (h4 _ _)
  | struct fs =>
    rw [hk] at h2
    obtain ⟨fields, rfl, _⟩ := h2
    simp only [isAgg, run_bind, run_underlying' h1, TK.agg, run_pure]
  | _ =>
    rw [hk] at h2
    simp only [TK.fits] at h2
    subst h2
    simp only [isAgg, run_bind, run_underlying' h1, TK.agg, run_pure]

/-- What a pure operation is asked for. -/
def Gives (P : Program) (s : Sem Value) (v : Value) : Prop := ∀ w, s.run P w = .ok v w
theorem Gives.of {s : Sem Value} {v : Value} (h : s = Pure.pure v) : Gives P s v := fun w => by rw [h]; rfl

theorem bl_eq (b : ByteArray) : b.toList = bl b := ByteArray.toList_eq b
theorem bl_mk (l : List UInt8) : bl (mkB l) = l := by simp [bl, mkB]
theorem mk_bl (b : ByteArray) : mkB (bl b) = b := by cases b; simp [bl, mkB]
theorem bl_size (b : ByteArray) : b.size = (bl b).length := by cases b; rfl
theorem bl_app (a b : ByteArray) : bl (a ++ b) = bl a ++ bl b := by
  obtain ⟨a⟩ := a
  obtain ⟨b⟩ := b
  simp only [bl]
  rw [ByteArray.mk_append_mk]
theorem bl_inj {a b : ByteArray} (h : bl a = bl b) : a = b := by rw [← mk_bl a, h, mk_bl]
theorem app_mk (a b : ByteArray) : a ++ b = mkB (bl a ++ bl b) := bl_inj (by rw [bl_mk, bl_app])
theorem bl_extract (s : ByteArray) (a b : Nat) : bl (s.extract a b) = ((bl s).take b).drop a := by
  unfold bl
  obtain ⟨⟨l⟩⟩ := s
  have e := ByteArray.extract_mk l a b
  rw [show (ByteArray.mk { toList := l }) = ByteArray.mk l.toArray from rfl, e]
  simp only [List.drop_take]

/-- The guard of '==' between plain values. -/
theorem eqGuard_int (op : BinOp) (t : TypeId) (x y : Operand) (k k' : IntKind) (a b : Int) : eqGuard op t x y (.int k a) (.int k' b) = Pure.pure () := by cases op <;> rfl
theorem eqGuard_str (op : BinOp) (t : TypeId) (x y : Operand) (a b : ByteArray) : eqGuard op t x y (.string a) (.string b) = Pure.pure () := by cases op <;> rfl
theorem eqGuard_bool (op : BinOp) (t : TypeId) (x y : Operand) (a b : Bool) : eqGuard op t x y (.bool a) (.bool b) = Pure.pure () := by cases op <;> rfl

theorem binInt_ok {op : BinOp} {t : TypeId} {k : IntKind} {a b : Int} {ob : Prop} {e : EV} (hop : op ≠ .shl ∧ op ≠ .shr) (h : binInt op k a b = some (ob, e)) (ho : ob) : ∃ v, e = .v v ∧ binOp op t (.int k a) (.int k b) = Pure.pure v := by
  cases op <;> simp only [binInt, ret1, Option.some.injEq, Prod.mk.injEq, reduceCtorEq] at h <;> obtain ⟨rfl, rfl⟩ := h <;> refine ⟨_, rfl, ?_⟩ <;>
    simp [binOp, Op.intArith, Op.intDiv, Op.intBits, Op.intCmp, ho]
theorem binStr_ok {op : BinOp} {t : TypeId} {a b : ByteArray} {ob : Prop} {e : EV} (h : binStr op (bl a) (bl b) = some (ob, e)) (ho : ob) : ∃ v, e = .v v ∧ binOp op t (.string a) (.string b) = Pure.pure v := by
  have hb : (bl a == bl b) = decide (bl a = bl b) := by rw [Bool.eq_iff_iff]; simp
  cases op <;> simp only [binStr, ret1, Option.some.injEq, Prod.mk.injEq, reduceCtorEq] at h <;> obtain ⟨rfl, rfl⟩ := h <;> refine ⟨_, rfl, ?_⟩ <;>
    simp only [binOp, Op.stringOp, bl_eq, hb]
  · rw [if_neg]
    · rw [app_mk]
    · simp only [maxInt] at ho
      rw [bl_size, bl_size]
      have : IntKind.i64.max = 9223372036854775807 := by decide
      rw [this]; omega

/-! Structs of scalars. -/
theorem veq_int {k k' : IntKind} {a b : Int} {r : Bool} (h : veq (.int k a) (.int k' b) = some r) : k = k' ∧ r = (a == b) := by
  simp only [veq] at h
  split at h
  · rename_i hk; exact ⟨hk, by simpa using h.symm⟩
  · simp at h
theorem eqFields_flat (htb : TbOK P tb) (w : World) (d : Nat) : ∀ (fields : List Field) (k : Nat) (xs ys : List Value) (XS YS : Array Value) (b : Bool), (∀ j, XS[k + j]? = xs[j]?) → (∀ j, YS[k + j]? = ys[j]?) → (∀ f ∈ fields, f.name ≠ "_") →
    flatOk tb k (fields.map fun f => (f.type, f.offset)) xs = true → flatOk tb k (fields.map fun f => (f.type, f.offset)) ys = true → ceq xs ys = some b → (Op.eqFields (d + 1) XS YS fields).run P w = .ok b w
  | [], k, xs, ys, XS, YS, b, _, _, _, hx, hy, hc => by
    cases xs with
    | cons x xs => simp [flatOk] at hx
    | nil =>
      cases ys with
      | cons y ys => simp [flatOk] at hy
      | nil => simp only [ceq, Option.some.injEq] at hc; subst hc; rfl
  | f :: fields, k, xs, ys, XS, YS, b, hX, hY, hn, hx, hy, hc => by
    cases xs with
    | nil => simp [flatOk] at hx
    | cons x xs =>
      cases ys with
      | nil => simp [flatOk] at hy
      | cons y ys =>
        simp only [List.map_cons, flatOk, Bool.and_eq_true, beq_iff_eq] at hx hy
        obtain ⟨⟨ho, hx1⟩, hx2⟩ := hx
        obtain ⟨⟨_, hy1⟩, hy2⟩ := hy
        simp only [ceq] at hc
        cases hv : veq x y with
        | none => simp [hv] at hc
        | some r =>
          cases hcc : ceq xs ys with
          | none => simp [hv, hcc] at hc
          | some r' =>
            simp only [hv, hcc, Option.some.injEq] at hc
            subst hc
            have hX0 := hX 0
            have hY0 := hY 0
            simp only [Nat.add_zero, List.getElem?_cons_zero] at hX0 hY0
            have ih := eqFields_flat htb w d fields (k + 1) xs ys XS YS r' (fun j => by have := hX (j + 1); simpa [Nat.add_assoc, Nat.add_comm 1 j] using this) (fun j => by have := hY (j + 1); simpa [Nat.add_assoc, Nat.add_comm 1 j] using this) (fun f hf => hn f (List.mem_cons_of_mem _ hf)) hx2 hy2 hcc
            have hname : f.name ≠ "_" := hn f (by simp)
            have key : ∀ i, tb f.type = some i → i.kind.agg = false → (Op.equalIn (d + 1) f.type x y).run P w = .ok r w → (Op.eqFields (d + 1) XS YS (f :: fields)).run P w = .ok (r && r') w := by
              intro i hi hag he
              have hA := run_isAgg htb hi w
              have p1 : (part f.type XS f.offset).run P w = .ok x w := by
                simp only [part, run_bind, hA, hag, ho, hX0]; rfl
              have p2 : (part f.type YS f.offset).run P w = .ok y w := by
                simp only [part, run_bind, hA, hag, ho, hY0]; rfl
              simp only [Op.eqFields, hname, ne_eq, not_false_eq_true, if_true, run_bind, p1, p2, he]
              cases r with
              | false => rfl
              | true => simpa using ih
            split at hx1
            · rename_i k1 _ _ _ _ k2 a hk1
              split at hy1
              · rename_i k3 _ _ _ _ k4 a' hk3
                obtain ⟨rfl, rfl⟩ := veq_int hv
                obtain ⟨dd, hd1, hd2⟩ := (htb _ _ hk1).kind
                simp only [TK.fits] at hd2
                exact key _ hk1 rfl (run_equalIn_int w d f.type _ _ _ _ (hd2 ▸ hd1))
              · exfalso; simp [veq] at hv
              · exfalso; simp [veq] at hv
              · exfalso; simp at hy1
            · rename_i hk1
              split at hy1
              · exfalso; simp [veq] at hv
              · rename_i s' hk3
                simp only [veq, Option.some.injEq] at hv
                subst hv
                obtain ⟨dd, hd1, hd2⟩ := (htb _ _ hk1).kind
                simp only [TK.fits] at hd2
                refine key _ hk1 rfl ?_
                rw [run_equalIn_string w d f.type _ _ (hd2 ▸ hd1), bl_eq, bl_eq]
                congr 1
                rw [Bool.eq_iff_iff]; simp
              · exfalso; simp [veq] at hv
              · exfalso; simp at hy1
            · rename_i hk1
              split at hy1
              · exfalso; simp [veq] at hv
              · exfalso; simp [veq] at hv
              · simp only [veq, Option.some.injEq] at hv
                subst hv
                obtain ⟨dd, hd1, hd2⟩ := (htb _ _ hk1).kind
                simp only [TK.fits] at hd2
                exact key _ hk1 rfl (run_equalIn_bool' w d f.type _ _ (hd2 ▸ hd1))
              · exfalso; simp at hy1
            · simp at hx1
theorem equal_flat (htb : TbOK P tb) (w : World) {t : TypeId} {fs : List (TypeId × Nat)} {sz by' : Nat} {z : List Value} {xs ys : Array Value} {b : Bool} (ht : tb t = some ⟨.struct fs, sz, by', z, true⟩)
    (hx : flatOk tb 0 fs xs.toList = true) (hy : flatOk tb 0 fs ys.toList = true) (hc : ceq xs.toList ys.toList = some b) : (Op.equalIn 10000 t (.agg xs) (.agg ys)).run P w = .ok b w := by
  obtain ⟨d, h1, h2⟩ := (htb t _ ht).kind
  simp only [TK.fits] at h2
  obtain ⟨fields, rfl, hf, hn⟩ := h2
  have hfo : P.fieldsOf t = fields := by simp [Program.fieldsOf, h1]
  rw [run_equalIn_struct w 9999 t xs ys (by rw [hfo]; exact h1) ((htb t _ ht).flat rfl).1, hfo]
  exact eqFields_flat htb w 9998 fields.toList 0 xs.toList ys.toList xs ys b (fun j => by simp) (fun j => by simp) hn (by rw [hf]; exact hx) (by rw [hf]; exact hy) hc

theorem binV_ok (htb : TbOK P tb) {op : BinOp} {t : TypeId} {x y : Operand} {a b : Value} {ob : Prop} {e : EV} (h : binV tb op t a b = some (ob, e)) (ho : ob) :
    ∃ v, e = .v v ∧ ∀ w, (do eqGuard op t x y a b; binOp op t a b : Sem Value).run P w = .ok v w := by
  unfold binV at h
  split at h
  · rename_i k a k' b
    split at h
    · simp only [Option.some.injEq, Prod.mk.injEq] at h
      obtain ⟨rfl, rfl⟩ := h
      refine ⟨_, rfl, fun w => ?_⟩
      simp only [eqGuard_int]
      simp [binOp, Op.shift, show ¬ b < 0 by omega]
    · simp only [Option.some.injEq, Prod.mk.injEq] at h
      obtain ⟨rfl, rfl⟩ := h
      refine ⟨_, rfl, fun w => ?_⟩
      simp only [eqGuard_int]
      simp [binOp, Op.shift, show ¬ b < 0 by omega]
    · rename_i h1 h2
      split at h
      · rename_i hk
        subst hk
        obtain ⟨v, rfl, hv⟩ := binInt_ok (t := t) ⟨h1, h2⟩ h ho
        refine ⟨v, rfl, fun w => ?_⟩
        rw [eqGuard_int, hv]; rfl
      · simp at h
  · obtain ⟨v, rfl, hv⟩ := binStr_ok (t := t) h ho
    refine ⟨v, rfl, fun w => ?_⟩
    rw [eqGuard_str, hv]; rfl
  · rename_i a b
    split at h
    · rename_i hk
      obtain ⟨d, h1, h2⟩ := und_of_tk htb hk
      simp only [TK.fits] at h2
      subst h2
      have he : ∀ w : World, (Op.equal t (.bool a) (.bool b)).run P w = .ok (a == b) w := fun w => run_equalIn_bool' w 9999 t a b h1
      split at h
      · simp only [ret1, Option.some.injEq, Prod.mk.injEq] at h
        obtain ⟨rfl, rfl⟩ := h
        refine ⟨_, rfl, fun w => ?_⟩
        simp only [eqGuard_bool, binOp]
        show (do let r ← Op.equal t (.bool a) (.bool b); Pure.pure (Value.bool r) : Sem Value).run P w = _
        rw [run_bind, he]; rfl
      · simp only [ret1, Option.some.injEq, Prod.mk.injEq] at h
        obtain ⟨rfl, rfl⟩ := h
        refine ⟨_, rfl, fun w => ?_⟩
        simp only [eqGuard_bool, binOp]
        show (do let r ← Op.equal t (.bool a) (.bool b); Pure.pure (Value.bool (!r)) : Sem Value).run P w = _
        rw [run_bind, he]; rfl
      · simp at h
    · simp at h
  · rename_i xs ys
    split at h
    · rename_i fs sz by' z ht
      split at h
      · rename_i hfl
        rw [Bool.and_eq_true] at hfl
        have hg : ∀ w : World, (eqGuard op t x y (.agg xs) (.agg ys)).run P w = .ok () w := fun w => run_eqGuard_agg w op t x y xs ys ((htb t _ ht).flat rfl).2
        split at h
        · rename_i b hc
          simp only [ret1, Option.some.injEq, Prod.mk.injEq] at h
          obtain ⟨rfl, rfl⟩ := h
          refine ⟨_, rfl, fun w => ?_⟩
          rw [run_bind, hg]
          simp only []
          rw [run_eql_struct, equal_flat htb w ht hfl.1 hfl.2 hc]; rfl
        · rename_i b hc
          simp only [ret1, Option.some.injEq, Prod.mk.injEq] at h
          obtain ⟨rfl, rfl⟩ := h
          refine ⟨_, rfl, fun w => ?_⟩
          rw [run_bind, hg]
          simp only []
          rw [run_neq_struct, equal_flat htb w ht hfl.1 hfl.2 hc]; rfl
        · simp at h
      · simp at h
    · simp at h
  · simp at h
end Go.TR
/-!
A small program logic of our own for the model. Part e: the pure operations, the rest of them. Nothing here speaks of one program.
-/
namespace Go.TR
variable {P : Program} {tb : Tb}

theorem extract_eq (cs : Array Value) (a b : Nat) : cs.extract a b = ((cs.toList.take b).drop a).toArray := by
  apply Array.ext'
  simp [List.drop_take]
theorem part_ok (htb : TbOK P tb) {t : TypeId} {cs : Array Value} {off : Nat} {x : Value} (h : partV tb t cs.toList off = some x) (w : World) : (part t cs off).run P w = .ok x w := by
  unfold partV at h
  split at h
  · rename_i i hi
    have h1 := run_isAgg htb hi w
    have h2 := run_sizeOf htb hi w
    split at h
    · rename_i ha
      rw [ha] at h1
      simp only [Option.some.injEq] at h
      subst h
      simp only [part, run_bind, h1, if_true, h2]
      rw [extract_eq]; rfl
    · rename_i ha
      have ha' : i.kind.agg = false := by simpa using ha
      rw [ha'] at h1
      have h3 : cs[off]? = some x := by simpa using h
      simp only [part, run_bind, h1, Bool.false_eq_true, if_false, h3]
      rfl
  · simp at h

theorem unV_ok {op : UnOp} {a : Value} {ob : Prop} {e : EV} (h : unV op a = some (ob, e)) : ∃ v, e = .v v ∧ ∀ w, (Op.unary op a).run P w = .ok v w := by
  unfold unV at h
  split at h
  · simp only [ret1, Option.some.injEq, Prod.mk.injEq] at h
    obtain ⟨rfl, rfl⟩ := h
    exact ⟨_, rfl, fun w => rfl⟩
  · simp only [ret1, Option.some.injEq, Prod.mk.injEq] at h
    obtain ⟨rfl, rfl⟩ := h
    exact ⟨_, rfl, fun w => rfl⟩
  · simp at h
/-- The kind of a source type that a value's form tells. -/
theorem convV_ok (htb : TbOK P tb) {src dst : TypeId} {a : Value} {ob : Prop} {e : EV} (hs : ∃ d, P.underlying src = some d) (h : convV tb dst a = some (ob, e)) : ∃ v, e = .v v ∧ ∀ w, (convert src dst a).run P w = .ok v w := by
  obtain ⟨ds, hs⟩ := hs
  unfold convV at h
  split at h
  · rename_i k n
    split at h
    · rename_i k' hk
      obtain ⟨d, h1, h2⟩ := und_of_tk htb hk
      simp only [TK.fits] at h2
      subst h2
      simp only [ret1, Option.some.injEq, Prod.mk.injEq] at h
      obtain ⟨rfl, rfl⟩ := h
      refine ⟨_, rfl, fun w => ?_⟩
      simp only [convert, run_bind, run_underlying' hs, run_underlying' h1]
      rfl
    · simp at h
  · rename_i s
    split at h
    · rename_i hk
      obtain ⟨d, h1, h2⟩ := und_of_tk htb hk
      simp only [TK.fits] at h2
      subst h2
      simp only [ret1, Option.some.injEq, Prod.mk.injEq] at h
      obtain ⟨rfl, rfl⟩ := h
      refine ⟨_, rfl, fun w => ?_⟩
      simp only [convert, run_bind, run_underlying' hs, run_underlying' h1]
      rfl
    · simp at h
  · simp at h

theorem fieldV_ok (htb : TbOK P tb) {t : TypeId} {f : Nat} {a : Value} {ob : Prop} {e : EV} (h : fieldV tb t f a = some (ob, e)) : ∃ v, e = .v v ∧ ∀ w, (Instr.field t a f).run P w = .ok v w := by
  unfold fieldV at h
  split at h
  · rename_i cs
    split at h
    · rename_i fs hk
      obtain ⟨d, h1, fields, rfl, hf, _⟩ := und_of_tk htb hk
      split at h
      · rename_i ft off hfo
        split at h
        · rename_i x hx
          simp only [ret1, Option.some.injEq, Prod.mk.injEq] at h
          obtain ⟨rfl, rfl⟩ := h
          refine ⟨_, rfl, fun w => ?_⟩
          rw [← hf, List.getElem?_map, Option.map_eq_some_iff] at hfo
          obtain ⟨fd, hfd, he⟩ := hfo
          simp only [Prod.mk.injEq] at he
          obtain ⟨rfl, rfl⟩ := he
          have hfd' : fields[f]? = some fd := by simpa using hfd
          simp only [Instr.field, run_bind, run_underlying' h1, hfd', asAgg]
          exact part_ok htb hx w
        · simp at h
      · simp at h
    · simp at h
  · simp at h
theorem extractV_ok {i : Nat} {a : Value} {ob : Prop} {e : EV} (h : extractV i a = some (ob, e)) : ∃ v, e = .v v ∧ ∀ w, (Instr.extract a i).run P w = .ok v w := by
  unfold extractV at h
  split at h
  · rename_i vs
    split at h
    · rename_i x hx
      simp only [ret1, Option.some.injEq, Prod.mk.injEq] at h
      obtain ⟨rfl, rfl⟩ := h
      refine ⟨_, rfl, fun w => ?_⟩
      have hx' : vs[i]? = some x := by simpa using hx
      simp only [Instr.extract, hx']; rfl
    · simp at h
  · simp at h

theorem addr_add (b o n : Nat) : (⟨b, o, none⟩ : Addr).add n = ⟨b, o + n, none⟩ := by
  unfold Addr.add; split <;> simp_all
theorem fieldPlace_ok (htb : TbOK P tb) {f : Field} {i : TI} (h : tb f.type = some i) (hz : i.size ≠ 0) (a : Addr) (w : World) : (fieldPlace a f).run P w = .ok (a.add f.offset) w := by
  simp only [fieldPlace, run_bind, run_sizeOf htb h, hz, if_false]
  rfl
theorem fieldAddrV_ok (htb : TbOK P tb) {rs : RL} {t : TypeId} {f : Nat} {x e : EV} {xv : Value} {ob : Prop} (h : fieldAddrV tb t f x = some (ob, e)) (hx : x.val rs = some xv) (ho : ob) : ∃ v, e.val rs = some v ∧ ∀ w, (Instr.fieldAt t xv f).run P w = .ok v w := by
  unfold fieldAddrV at h
  split at h
  · rename_i fs hk
    obtain ⟨d, h1, fields, rfl, hf, _⟩ := und_of_tk htb hk
    split at h
    · rename_i ft off hfo
      rw [← hf, List.getElem?_map, Option.map_eq_some_iff] at hfo
      obtain ⟨fd, hfd, he⟩ := hfo
      simp only [Prod.mk.injEq] at he
      obtain ⟨rfl, rfl⟩ := he
      have hfd' : fields[f]? = some fd := by simpa using hfd
      split at h
      · rename_i i hi
        split at h
        · simp at h
        · rename_i hz
          have key : ∀ a : Addr, ∀ w, (Instr.fieldAt t (.pointer (some a)) f).run P w = .ok (.pointer (some (a.add fd.offset))) w := fun a w => by
            simp only [Instr.fieldAt, run_bind, run_underlying' h1, hfd', Instr.sureAddr]
            simp only [run_pure, fieldPlace_ok htb hi hz]
          split at h
          · rename_i p
            simp only [Option.some.injEq, Prod.mk.injEq] at h
            obtain ⟨rfl, rfl⟩ := h
            simp only [EV.val, Option.some.injEq] at hx
            subst hx
            cases p with
            | none => simp at ho
            | some a => exact ⟨_, rfl, key a⟩
          · rename_i id o
            simp only [Option.some.injEq, Prod.mk.injEq] at h
            obtain ⟨rfl, rfl⟩ := h
            simp only [EV.val] at hx ⊢
            cases hr : lkR rs id with
            | none => simp [hr] at hx
            | some r =>
              cases hb : r.blk with
              | none => simp [hr, hb] at hx
              | some b =>
                simp only [hr, hb, Option.some.injEq] at hx
                subst hx
                refine ⟨_, by simp only [hb]; rfl, fun w => ?_⟩
                rw [key, addr_add]
          · simp at h
      · simp at h
    · simp at h
  · simp at h

theorem run_asIntOf (k : IntKind) (i : Int) (w : World) : (asIntOf (.int k i)).run P w = .ok (k, i) w := rfl
theorem indexAddrV_ok (htb : TbOK P tb) {rs : RL} {t : TypeId} {k : IntKind} {i : Int} {x e : EV} {xv : Value} {ob : Prop} (h : indexAddrV tb rs t x i = some (ob, e)) (hx : x.val rs = some xv) (ho : ob) : ∃ v, e.val rs = some v ∧ ∀ w, (Instr.indexAt t xv (.int k i)).run P w = .ok v w := by
  unfold indexAddrV at h
  split at h
  · rename_i el hk
    obtain ⟨d, h1, h2⟩ := und_of_tk htb hk
    simp only [TK.fits] at h2
    subst h2
    split at h
    · rename_i ti hti
      have key : ∀ (a : Addr) (n c : Nat), 0 ≤ i → i < n → ∀ w, (Instr.indexAt t (.slice (some a) n c) (.int k i)).run P w = .ok (.pointer (some (a.add (i.toNat * ti.size)))) w := fun a n c g1 g2 w => by
        simp only [Instr.indexAt, run_bind, run_asIntOf, run_underlying' h1, run_pure]
        simp only [g1, g2, if_true, run_bind, run_sizeOf htb hti, and_self, run_pure]
      split at h
      · rename_i p n c
        simp only [Option.some.injEq, Prod.mk.injEq] at h
        obtain ⟨rfl, rfl⟩ := h
        simp only [EV.val, Option.some.injEq] at hx
        subst hx
        obtain ⟨g1, g2, g3⟩ := ho
        cases p with
        | none => simp at g3
        | some a => exact ⟨_, rfl, key a n c g1 g2⟩
      · rename_i id o n c
        simp only [Option.some.injEq, Prod.mk.injEq] at h
        obtain ⟨rfl, rfl⟩ := h
        obtain ⟨g1, g2, r, b, hr, hb⟩ := ho
        simp only [EV.val, hr, hb, Option.map_some, Option.some.injEq] at hx ⊢
        subst hx
        refine ⟨_, rfl, fun w => ?_⟩
        rw [key _ n c g1 g2, addr_add]
      · simp at h
    · simp at h
  · rename_i n el hk
    obtain ⟨d, h1, h2⟩ := und_of_tk htb hk
    simp only [TK.fits] at h2
    subst h2
    split at h
    · rename_i ti hti
      have key : ∀ (a : Addr), 0 ≤ i → i < n → ∀ w, (Instr.indexAt t (.pointer (some a)) (.int k i)).run P w = .ok (.pointer (some (a.add (i.toNat * ti.size)))) w := fun a g1 g2 w => by
        simp only [Instr.indexAt, run_bind, run_asIntOf, run_underlying' h1, run_pure, Instr.sureAddr]
        simp only [g1, g2, if_true, run_bind, run_sizeOf htb hti, and_self, run_pure]
      split at h
      · rename_i p
        simp only [Option.some.injEq, Prod.mk.injEq] at h
        obtain ⟨rfl, rfl⟩ := h
        simp only [EV.val, Option.some.injEq] at hx
        subst hx
        obtain ⟨g1, g2, g3⟩ := ho
        cases p with
        | none => simp at g3
        | some a => exact ⟨_, rfl, key a g1 g2⟩
      · rename_i id o
        simp only [Option.some.injEq, Prod.mk.injEq] at h
        obtain ⟨rfl, rfl⟩ := h
        obtain ⟨g1, g2⟩ := ho
        simp only [EV.val] at hx ⊢
        cases hr : lkR rs id with
        | none => simp [hr] at hx
        | some r =>
          cases hb : r.blk with
          | none => simp [hr, hb] at hx
          | some b =>
            simp only [hr, hb, Option.some.injEq] at hx
            subst hx
            refine ⟨_, by simp only [hb]; rfl, fun w => ?_⟩
            rw [key _ g1 g2, addr_add]
      · simp at h
    · simp at h
  · simp at h

theorem byte_at (s : ByteArray) (i : Nat) : s[i]? = (bl s)[i]? := by
  obtain ⟨⟨l⟩⟩ := s
  simp only [bl]
  rw [getElem?_def, getElem?_def]
  rfl
theorem indexV_ok (htb : TbOK P tb) {t : TypeId} {k : IntKind} {i : Int} {a : Value} {ob : Prop} {e : EV} (h : indexV tb t a i = some (ob, e)) (ho : ob) : ∃ v, e = .v v ∧ ∀ w, (Instr.index t a (.int k i)).run P w = .ok v w := by
  unfold indexV at h
  split at h
  · rename_i s hk
    obtain ⟨d, h1, h2⟩ := und_of_tk htb hk
    simp only [TK.fits] at h2
    subst h2
    simp only [Option.some.injEq, Prod.mk.injEq] at h
    obtain ⟨rfl, rfl⟩ := h
    obtain ⟨g1, g2⟩ := ho
    refine ⟨_, rfl, fun w => ?_⟩
    have hl : i.toNat < (bl s).length := by omega
    have hb : s[i.toNat]? = some ((bl s).getD i.toNat 0) := by rw [byte_at, List.getD_eq_getElem?_getD, List.getElem?_eq_getElem hl]; rfl
    simp only [Instr.index, run_bind, run_asIntOf, run_underlying' h1, g1, if_true, hb, run_pure]
  · rename_i n el cs hk
    obtain ⟨d, h1, h2⟩ := und_of_tk htb hk
    simp only [TK.fits] at h2
    subst h2
    split at h
    · rename_i ti hti
      split at h
      · rename_i y hy
        simp only [Option.some.injEq, Prod.mk.injEq] at h
        obtain ⟨rfl, rfl⟩ := h
        obtain ⟨g1, g2⟩ := ho
        refine ⟨_, rfl, fun w => ?_⟩
        simp only [Instr.index, run_bind, run_asIntOf, run_underlying' h1, g1, g2, and_self, if_true, run_sizeOf htb hti]
        exact part_ok htb hy w
      · simp at h
    · simp at h
  · simp at h

end Go.TR
/-!
A small program logic of our own for the model. Part f: slices, builds, builtins; all pure operations together. Nothing here speaks of one program.
-/
namespace Go.TR
variable {P : Program} {tb : Tb}

theorem run_sliceBound (k : IntKind) (i : Int) (y : Nat) (code : BoundsCode) (h0 : 0 ≤ i) (h1 : i ≤ y) (w : World) : (Instr.sliceBound (.int k i) y code).run P w = .ok i.toNat w := by
  simp only [Instr.sliceBound, run_bind, run_asIntOf, h0, h1, and_self, if_true, run_pure]
theorem run_sliceBounds (isSlice : Bool) (len cap : Nat) (kl kh : IntKind) (lo hi : Option Int) (h : ∀ l, lo = some l → 0 ≤ l ∧ l ≤ ((hi.getD len : Int))) (h' : ∀ h, hi = some h → 0 ≤ h ∧ h ≤ cap) (w : World) :
    (Instr.sliceBounds isSlice len cap (lo.map (Value.int kl)) (hi.map (Value.int kh)) none).run P w = .ok ((lo.getD 0).toNat, (hi.getD len : Int).toNat, cap) w := by
  cases hi with
  | none =>
    cases lo with
    | none => simp [Instr.sliceBounds]
    | some l =>
      obtain ⟨h1, h2⟩ := h l rfl
      simp only [Instr.sliceBounds, Option.map_some, Option.map_none, Option.isSome_none, run_bind, run_pure, Option.getD_none, Option.getD_some, Bool.false_eq_true, if_false] at h2 ⊢
      rw [run_sliceBound kl l len _ h1 h2]
      rfl
  | some u =>
    obtain ⟨h3, h4⟩ := h' u rfl
    cases lo with
    | none =>
      simp only [Instr.sliceBounds, Option.map_some, Option.map_none, run_bind, run_pure, Option.getD_none, Option.getD_some]
      rw [run_sliceBound kh u cap _ h3 h4]
      rfl
    | some l =>
      obtain ⟨h1, h2⟩ := h l rfl
      simp only [Option.getD_some] at h2
      simp only [Instr.sliceBounds, Option.map_some, run_bind, run_pure, Option.getD_some]
      rw [run_sliceBound kh u cap _ h3 h4]
      simp only []
      rw [run_sliceBound kl l u.toNat _ h1 (by omega)]
theorem sliceAt_slice {t : TypeId} (x : Value) (lo hi mx : Option Value) {d : TypeDesc} (h : P.underlying t = some d) (hd : ∀ n e, d ≠ .array n e) (w : World) : (Instr.sliceAt t x lo hi mx).run P w = (Instr.slice t x lo hi mx).run P w := by
  simp only [Instr.sliceAt, run_bind, run_underlying' h]
  try cases d <;> first | rfl | exact absurd rfl (hd _ _)
theorem sliceV_ok (htb : TbOK P tb) {t : TypeId} {kl kh : IntKind} {lo hi : Option Int} {a : Value} {ob : Prop} {e : EV} (h : sliceV tb t a lo hi = some (ob, e)) (ho : ob) :
    ∃ v, e = .v v ∧ ∀ w, (Instr.sliceAt t a (lo.map (Value.int kl)) (hi.map (Value.int kh)) none).run P w = .ok v w := by
  unfold sliceV at h
  split at h
  · rename_i s hk
    obtain ⟨d, h1, h2⟩ := und_of_tk htb hk
    simp only [TK.fits] at h2
    subst h2
    have key : (∀ l, lo = some l → 0 ≤ l ∧ l ≤ ((hi.getD s.size : Int))) → (∀ h, hi = some h → 0 ≤ h ∧ h ≤ s.size) → ∀ w, (Instr.sliceAt t (.string s) (lo.map (Value.int kl)) (hi.map (Value.int kh)) none).run P w = .ok (S (((bl s).take (hi.getD s.size : Int).toNat).drop (lo.getD 0).toNat)) w := fun g1 g2 w => by
      rw [sliceAt_slice _ _ _ _ h1 (by simp)]
      simp only [Instr.slice, run_bind, run_underlying' h1, Option.isSome_none, Bool.false_eq_true, if_false, run_pure, run_sliceBounds false s.size s.size kl kh lo hi g1 g2]
      rw [← bl_extract]
      simp only [S, mk_bl]
    split at h
    · simp only [ret1, Option.some.injEq, Prod.mk.injEq] at h
      obtain ⟨rfl, rfl⟩ := h
      refine ⟨_, rfl, fun w => ?_⟩
      have := key (by simp) (by simp) w
      simpa [bl_size] using this
    · rename_i l
      simp only [Option.some.injEq, Prod.mk.injEq] at h
      obtain ⟨rfl, rfl⟩ := h
      refine ⟨_, rfl, fun w => ?_⟩
      have := key (by intro l' h'; cases h'; simpa [bl_size] using ho) (by simp) w
      simpa [bl_size] using this
    · rename_i u
      simp only [Option.some.injEq, Prod.mk.injEq] at h
      obtain ⟨rfl, rfl⟩ := h
      refine ⟨_, rfl, fun w => ?_⟩
      have := key (by simp) (by intro l' h'; cases h'; simpa [bl_size] using ho) w
      simpa [bl_size] using this
    · rename_i l u
      simp only [Option.some.injEq, Prod.mk.injEq] at h
      obtain ⟨rfl, rfl⟩ := h
      obtain ⟨g1, g2, g3⟩ := ho
      refine ⟨_, rfl, fun w => ?_⟩
      have := key (by intro l' h'; cases h'; simp only [Option.getD_some]; omega) (by intro l' h'; cases h'; rw [bl_size]; omega) w
      simpa [bl_size] using this
  · rename_i el p n c hk
    obtain ⟨d, h1, h2⟩ := und_of_tk htb hk
    simp only [TK.fits] at h2
    subst h2
    split at h
    · rename_i ti hti
      have key : (∀ l, lo = some l → 0 ≤ l ∧ l ≤ ((hi.getD n : Int))) → (∀ h, hi = some h → 0 ≤ h ∧ h ≤ c) → ∀ w, (Instr.sliceAt t (.slice p n c) (lo.map (Value.int kl)) (hi.map (Value.int kh)) none).run P w =
          .ok (.slice (slBase p (lo.getD 0).toNat c ti.size) ((hi.getD n : Int).toNat - (lo.getD 0).toNat) (c - (lo.getD 0).toNat)) w := fun g1 g2 w => by
        rw [sliceAt_slice _ _ _ _ h1 (by simp)]
        simp only [Instr.slice, run_bind, run_underlying' h1, run_sliceBounds true n c kl kh lo hi g1 g2, run_sizeOf htb hti, run_pure]
        rfl
      split at h
      · simp only [ret1, Option.some.injEq, Prod.mk.injEq] at h
        obtain ⟨rfl, rfl⟩ := h
        refine ⟨_, rfl, fun w => ?_⟩
        have := key (by simp) (by simp) w
        simpa using this
      · rename_i l
        simp only [Option.some.injEq, Prod.mk.injEq] at h
        obtain ⟨rfl, rfl⟩ := h
        obtain ⟨g1, g2, g3⟩ := ho
        refine ⟨_, rfl, fun w => ?_⟩
        have := key (by intro l' h'; cases h'; simp only [Option.getD_none]; omega) (by simp) w
        simpa using this
      · rename_i u
        simp only [Option.some.injEq, Prod.mk.injEq] at h
        obtain ⟨rfl, rfl⟩ := h
        refine ⟨_, rfl, fun w => ?_⟩
        have := key (by simp) (by intro l' h'; cases h'; exact ho) w
        simpa using this
      · rename_i l u
        simp only [Option.some.injEq, Prod.mk.injEq] at h
        obtain ⟨rfl, rfl⟩ := h
        obtain ⟨g1, g2, g3⟩ := ho
        refine ⟨_, rfl, fun w => ?_⟩
        have := key (by intro l' h'; cases h'; simp only [Option.getD_some]; omega) (by intro l' h'; cases h'; omega) w
        simpa using this
    · simp at h
  · simp at h

theorem sliceR_ok (htb : TbOK P tb) {rs : RL} {t : TypeId} {kl kh : IntKind} {lo hi : Option Int} {id o n c : Nat} {a : Value} {ob : Prop} {e : EV} (hx : (EV.row id o n c).val rs = some a) (h : sliceR tb t id o n c lo hi = some (ob, e)) (ho : ob) :
    ∃ v, e.val rs = some v ∧ ∀ w, (Instr.sliceAt t a (lo.map (Value.int kl)) (hi.map (Value.int kh)) none).run P w = .ok v w := by
  simp only [EV.val] at hx
  split at hx
  · rename_i r hr
    simp only [Option.some.injEq] at hx
    subst hx
    have base : ∀ l m size, slBase (r.blk.map fun b => (⟨b, o, none⟩ : Addr)) l m size = r.blk.map fun b => (⟨b, slOff o l m size, none⟩ : Addr) := fun l m size => by
      unfold slBase slOff
      split <;> cases r.blk <;> simp [addr_add]
    have val : ∀ o' n' c', (EV.row id o' n' c').val rs = some (.slice (r.blk.map fun b => (⟨b, o', none⟩ : Addr)) n' c') := fun o' n' c' => by simp only [EV.val, hr]
    unfold sliceR at h
    split at h
    · rename_i el hk
      split at h
      · rename_i ti hti
        have go : ∀ x, sliceV tb t (.slice (r.blk.map fun b => (⟨b, o, none⟩ : Addr)) n c) lo hi = some (ob, .v x) → ∀ w, (Instr.sliceAt t (.slice (r.blk.map fun b => (⟨b, o, none⟩ : Addr)) n c) (lo.map (Value.int kl)) (hi.map (Value.int kh)) none).run P w = .ok x w := fun x hs => by
          obtain ⟨v, hv, hr⟩ := sliceV_ok htb (kl := kl) (kh := kh) hs ho
          cases hv
          exact hr
        split at h <;> simp only [Option.some.injEq, Prod.mk.injEq] at h <;> obtain ⟨rfl, rfl⟩ := h <;> refine ⟨_, val _ _ _, go _ ?_⟩ <;> simp only [sliceV, hk, hti, ret1, base]
        · have : slOff o 0 c ti.size = o := by unfold slOff; split <;> simp
          rw [this]
        · have : slOff o 0 c ti.size = o := by unfold slOff; split <;> simp
          rw [this]
      · simp at h
    · simp at h
  · simp at hx
theorem sliceA_ok (htb : TbOK P tb) {rs : RL} {t : TypeId} {kl kh : IntKind} {lo hi : Option Int} {id o : Nat} {a : Value} {ob : Prop} {e : EV} (hx : (EV.loc id o).val rs = some a) (h : sliceA tb t id o lo hi = some (ob, e)) :
    ∃ v, e.val rs = some v ∧ ∀ w, (Instr.sliceAt t a (lo.map (Value.int kl)) (hi.map (Value.int kh)) none).run P w = .ok v w := by
  simp only [EV.val] at hx
  split at hx
  · rename_i r hr
    split at hx
    · rename_i b hb
      simp only [Option.some.injEq] at hx
      subst hx
      unfold sliceA at h
      split at h
      · rename_i n el hk
        obtain ⟨d, h1, h2⟩ := und_of_tk htb hk
        simp only [TK.fits] at h2
        subst h2
        split at h
        · rename_i ti hti
          split at h
          · simp only [Option.some.injEq, Prod.mk.injEq] at h
            obtain ⟨_, rfl⟩ := h
            refine ⟨.slice (some ⟨b, o, none⟩) n n, by simp only [EV.val, hr, hb, Option.map_some], fun w => ?_⟩
            have hb2 := run_sliceBounds false n n kl kh none none (by simp) (by simp) w (P := P)
            simp only [Option.map_none, Option.getD_none] at hb2
            simp only [Option.map_none, Instr.sliceAt, run_bind, run_underlying' h1, Instr.sureAddr, run_pure, hb2, run_sizeOf htb hti]
            simp [addr_add]
          · simp at h
        · simp at h
      · simp at h
    · simp at hx
  · simp at hx
theorem run_sliceBounds3 (len cap : Nat) (kh km : IntKind) (h m : Int) (h1 : 0 ≤ h ∧ h ≤ m) (h2 : m ≤ cap) (w : World) :
    (Instr.sliceBounds true len cap none (some (.int kh h)) (some (.int km m))).run P w = .ok (0, h.toNat, m.toNat) w := by
  simp only [Instr.sliceBounds, run_bind, run_pure]
  rw [run_sliceBound km m cap _ (by omega) h2]
  simp only []
  rw [run_sliceBound kh h m.toNat _ h1.1 (by omega)]
theorem sliceV3_ok (htb : TbOK P tb) {t : TypeId} {kl kh km : IntKind} {lo hi : Option Int} {m : Int} {a : Value} {ob : Prop} {e : EV} (h : sliceV3 tb t a lo hi m = some (ob, e)) (ho : ob) :
    ∃ v, e = .v v ∧ ∀ w, (Instr.sliceAt t a (lo.map (Value.int kl)) (hi.map (Value.int kh)) (some (.int km m))).run P w = .ok v w := by
  unfold sliceV3 at h
  split at h
  · rename_i el p n c hk
    obtain ⟨d, h1, h2⟩ := und_of_tk htb hk
    simp only [TK.fits] at h2
    subst h2
    split at h
    · rename_i ti hti
      split at h
      · rename_i u
        simp only [Option.some.injEq, Prod.mk.injEq] at h
        obtain ⟨rfl, rfl⟩ := h
        obtain ⟨g1, g2, g3⟩ := ho
        refine ⟨_, rfl, fun w => ?_⟩
        rw [sliceAt_slice _ _ _ _ h1 (by simp)]
        simp only [Instr.slice, run_bind, run_underlying' h1, Option.map_none, Option.map_some, run_sliceBounds3 n c kh km u m ⟨g1, g2⟩ g3, run_sizeOf htb hti, run_pure, Nat.sub_zero]
        rfl
      · simp at h
    · simp at h
  · simp at h

/-! Builds. -/
theorem fold_set (off : Nat) : ∀ (l : List Value) (k : Nat) (cs : Array Value), off + k + l.length ≤ cs.size →
    ((l.zipIdx k).foldl (fun cs (x : Value × Nat) => cs.setIfInBounds (off + x.2) x.1) cs).toList = cs.toList.take (off + k) ++ l ++ cs.toList.drop (off + k + l.length)
  | [], k, cs, _ => by simp
  | v :: l, k, cs, h => by
    simp only [List.length_cons] at h
    simp only [List.zipIdx_cons, List.foldl_cons]
    rw [fold_set off l (k + 1) _ (by simp; omega)]
    apply List.ext_getElem?
    intro i
    simp only [Array.toList_setIfInBounds, List.length_cons, List.append_assoc, List.cons_append]
    rw [List.getElem?_append, List.getElem?_append, List.getElem?_append]
    simp only [List.length_take, List.length_set, Array.length_toList]
    have e1 : min (off + (k + 1)) cs.size = off + k + 1 := by omega
    have e2 : min (off + k) cs.size = off + k := by omega
    rw [e1, e2]
    by_cases c1 : i < off + k
    · rw [if_pos (by omega), if_pos c1]
      simp only [List.getElem?_take]
      rw [if_pos (by omega), if_pos c1, List.getElem?_set_ne (by omega)]
    · rw [if_neg c1]
      by_cases c2 : i = off + k
      · subst c2
        rw [if_pos (by omega)]
        simp only [List.getElem?_take]
        rw [if_pos (by omega), List.getElem?_set_self (by simp; omega)]
        simp
      · rw [if_neg (by omega)]
        obtain ⟨j, rfl⟩ : ∃ j, i = off + k + 1 + j := ⟨i - (off + k + 1), by omega⟩
        have e3 : off + k + 1 + j - (off + k + 1) = j := by omega
        have e4 : off + k + 1 + j - (off + k) = j + 1 := by omega
        rw [e3, e4, List.getElem?_cons_succ]
        rw [List.getElem?_append]
        split
        · rfl
        · rename_i c3
          simp only [List.getElem?_drop]
          rw [List.getElem?_set_ne (by omega)]
          congr 1
          omega
theorem fill_ok (place place' : Nat → Option (Nat × Nat)) (hp : ∀ i x, place i = some x → place' i = some x) : ∀ (parts : List (Nat × Value)) (cs : Array Value) (out : List Value), fillV place cs.toList parts = some out → Instr.fill place' cs parts = some out.toArray
  | [], cs, out, h => by
    simp only [fillV, Option.some.injEq] at h
    subst h
    simp [Instr.fill]
  | (i, v) :: parts, cs, out, h => by
    simp only [fillV] at h
    split at h
    · rename_i off size hpl
      split at h
      · rename_i hc
        obtain ⟨hc1, hc2⟩ := hc
        simp only [Instr.fill, hp _ _ hpl]
        have hs : v.cells.size = size := by simpa using hc1
        have hcs : off + size ≤ cs.size := by simpa using hc2
        rw [if_neg (by simp only [hs, ne_eq, not_true_eq_false, decide_false, Bool.false_or, decide_eq_true_eq]; omega)]
        have hf := fold_set off v.cells.toList 0 cs (by simp only [Nat.add_zero, Array.length_toList]; omega)
        have e : (v.cells.zipIdx.foldl (fun cs (x : Value × Nat) => cs.setIfInBounds (off + x.2) x.1) cs).toList = cs.toList.take off ++ v.cells.toList ++ cs.toList.drop (off + size) := by
          rw [← Array.foldl_toList, Array.toList_zipIdx, hf]
          simp [hs]
        refine fill_ok place place' hp parts _ out ?_
        rw [← h, ← e]
      · simp at h
    · simp at h
theorem placeS_ok (htb : TbOK P tb) {fields : Array Field} (hall : (fields.toList.map fun f => (f.type, f.offset)).all (fun f => (tb f.1).isSome) = true) (w : World) :
    ∃ places : Array (Nat × Nat), (fields.mapM (m := Sem) fun f => do Pure.pure (f.offset, ← sizeOf f.type)).run P w = .ok places w ∧
      ∀ i x, placeS tb (fields.toList.map fun f => (f.type, f.offset)) i = some x → places[i]? = some x := by
  have key : ∀ (l : List Field), (l.map fun f => (f.type, f.offset)).all (fun f => (tb f.1).isSome) = true →
      ∃ ps : List (Nat × Nat), (l.mapM (m := Sem) fun f => do Pure.pure (f.offset, ← sizeOf f.type)).run P w = .ok ps w ∧
        ∀ i x, placeS tb (l.map fun f => (f.type, f.offset)) i = some x → ps[i]? = some x := by
    intro l
    induction l with
    | nil => intro _; exact ⟨[], rfl, fun i x h => by simp [placeS] at h⟩
    | cons f l ih =>
      intro hl
      simp only [List.map_cons, List.all_cons, Bool.and_eq_true] at hl
      obtain ⟨h1, h2⟩ := hl
      obtain ⟨ps, hr, hps⟩ := ih h2
      obtain ⟨ti, hti⟩ := Option.isSome_iff_exists.1 h1
      refine ⟨(f.offset, ti.size) :: ps, ?_, ?_⟩
      · rw [List.mapM_cons]
        simp only [run_bind, run_sizeOf htb hti, run_pure, hr]
      · intro i x hx
        cases i with
        | zero => simpa [placeS, hti] using hx
        | succ i =>
          rw [List.getElem?_cons_succ]
          exact hps i x (by simpa [placeS] using hx)
  obtain ⟨ps, h1, h2⟩ := key fields.toList hall
  refine ⟨ps.toArray, ?_, fun i x hx => by simpa using h2 i x hx⟩
  rw [Array.mapM_eq_mapM_toList, ← bind_pure_comp, run_bind, h1]
  rfl
theorem buildV_ok (htb : TbOK P tb) {t : TypeId} {parts : List (Nat × Value)} {ob : Prop} {e : EV} (h : buildV tb t parts = some (ob, e)) : ∃ v, e = .v v ∧ ∀ w, (Instr.build t parts.toArray).run P w = .ok v w := by
  have zero : ∀ {i : TI}, tb t = some i → ∃ z : Value, z.cells.toList = i.zero ∧ ∀ w, (zeroValue t).run P w = .ok z w := fun {i} hi => by
    obtain ⟨info, h1, _, _, z, h2, h3⟩ := (htb t i hi).info
    exact ⟨z, h3, fun w => by simp [zeroValue, typeInfo, h1, h2]⟩
  unfold buildV at h
  split at h
  · rename_i fs sz by' z fl ht
    split at h
    · rename_i hall
      split at h
      · rename_i cs hcs
        simp only [ret1, Option.some.injEq, Prod.mk.injEq] at h
        obtain ⟨rfl, rfl⟩ := h
        refine ⟨_, rfl, fun w => ?_⟩
        obtain ⟨z', hz1, hz2⟩ := zero ht
        obtain ⟨d, h1, fields, rfl, hf, _⟩ := (htb t _ ht).kind
        subst hf
        obtain ⟨places, hp1, hp2⟩ := placeS_ok htb hall w
        simp only at hz1
        rw [← hz1] at hcs
        have := fill_ok _ (places[·]?) hp2 parts z'.cells cs hcs
        simp only [Instr.build, run_bind, hz2, run_underlying' h1]
        simp only [hp1]
        simp only [this]
        rfl
      · simp at h
    · simp at h
  · rename_i n el sz by' z fl ht
    split at h
    · rename_i ti hti
      split at h
      · rename_i cs hcs
        simp only [ret1, Option.some.injEq, Prod.mk.injEq] at h
        obtain ⟨rfl, rfl⟩ := h
        refine ⟨_, rfl, fun w => ?_⟩
        obtain ⟨z', hz1, hz2⟩ := zero ht
        obtain ⟨d, h1, h2⟩ := (htb t _ ht).kind
        simp only [TK.fits] at h2
        subst h2
        simp only at hz1
        rw [← hz1] at hcs
        have := fill_ok _ (fun i => some (i * ti.size, ti.size)) (fun i x hx => hx) parts z'.cells cs hcs
        simp only [Instr.build, run_bind, hz2, run_underlying' h1, run_sizeOf htb hti]
        simp only [this]
        rfl
      · simp at h
    · simp at h
  · simp at h

/-! All of them. -/
def Fits (rs : RL) (ρ : Operand → Option EV) (ρ' : Operand → Value) : Prop := ∀ o e, ρ o = some e → e.val rs = some (ρ' o)

theorem vals_ok {rs : RL} {ρ : Operand → Option EV} {ρ' : Operand → Value} (hρ : Fits rs ρ ρ') : ∀ {l : List Operand} {xs : List Value}, vals rs ρ l = some xs → l.map ρ' = xs
  | [], xs, h => by simpa [vals] using h
  | o :: l, xs, h => by
    simp only [vals] at h
    split at h
    · rename_i e he
      split at h
      · rename_i x ys hx hy
        simp only [Option.some.injEq] at h
        subst h
        have := hρ o e he
        rw [this] at hx
        simp only [Option.some.injEq] at hx
        subst hx
        rw [List.map_cons, vals_ok hρ hy]
      · simp at h
    · simp at h
theorem partsOf_ok {rs : RL} {ρ : Operand → Option EV} {ρ' : Operand → Value} (hρ : Fits rs ρ ρ') : ∀ {l : List (Nat × Operand)} {xs : List (Nat × Value)}, partsOf rs ρ l = some xs → (l.map fun (i, x) => (i, ρ' x)) = xs
  | [], xs, h => by simpa [partsOf] using h
  | (i, o) :: l, xs, h => by
    simp only [partsOf] at h
    split at h
    · rename_i e he
      split at h
      · rename_i x ys hx hy
        simp only [Option.some.injEq] at h
        subst h
        have := hρ o e he
        rw [this] at hx
        simp only [Option.some.injEq] at hx
        subst hx
        rw [List.map_cons, partsOf_ok hρ hy]
      · simp at h
    · simp at h
theorem evs_ok {rs : RL} {ρ : Operand → Option EV} {ρ' : Operand → Value} (hρ : Fits rs ρ ρ') : ∀ {l : List Operand} {es : List EV}, evs ρ l = some es → es.map (·.val rs) = l.map fun o => some (ρ' o)
  | [], es, h => by
    simp only [evs, Option.some.injEq] at h
    subst h; rfl
  | o :: l, es, h => by
    simp only [evs] at h
    split at h
    · rename_i e es' he hes
      simp only [Option.some.injEq] at h
      subst h
      simp only [List.map_cons, evs_ok hρ hes, hρ o e he]
    · simp at h
theorem lenV_ok (htb : TbOK P tb) {rs : RL} {t : TypeId} {x e : EV} {xv : Value} {ob : Prop} (h : lenV tb t x = some (ob, e)) (hx : x.val rs = some xv) (ty : TypeId) : ∃ v, e = .v v ∧ ∀ w, (Builtin.len_ #[t] ty #[xv]).run P w = .ok v w := by
  have sl : ∀ (p : Option Addr) (n c : Nat) (el : TypeId), tk tb t = some (.slice el) → ∀ w, (Builtin.len_ #[t] ty #[.slice p n c]).run P w = .ok (.int .i64 n) w := fun p n c el hk w => by
    obtain ⟨d, h1, h2⟩ := und_of_tk htb hk
    simp only [TK.fits] at h2
    subst h2
    simp only [Builtin.len_, List.getElem?_toArray, List.getElem?_cons_zero, run_bind, run_underlying' h1]
    rfl
  unfold lenV at h
  split at h
  · rename_i s
    simp only [EV.val, Option.some.injEq] at hx
    subst hx
    split at h
    · rename_i hk
      obtain ⟨d, h1, h2⟩ := und_of_tk htb hk
      simp only [TK.fits] at h2
      subst h2
      simp only [ret1, Option.some.injEq, Prod.mk.injEq] at h
      obtain ⟨rfl, rfl⟩ := h
      refine ⟨_, rfl, fun w => ?_⟩
      simp only [Builtin.len_, List.getElem?_toArray, List.getElem?_cons_zero, run_bind, run_underlying' h1, bl_size]
      rfl
    · simp at h
  · rename_i p n c
    simp only [EV.val, Option.some.injEq] at hx
    subst hx
    split at h
    · rename_i el hk
      simp only [ret1, Option.some.injEq, Prod.mk.injEq] at h
      obtain ⟨rfl, rfl⟩ := h
      exact ⟨_, rfl, sl p n c el hk⟩
    · simp at h
  · rename_i id n c
    split at h
    · rename_i el hk
      simp only [ret1, Option.some.injEq, Prod.mk.injEq] at h
      obtain ⟨rfl, rfl⟩ := h
      simp only [EV.val] at hx
      split at hx
      · simp only [Option.some.injEq] at hx
        subst hx
        exact ⟨_, rfl, sl _ n c el hk⟩
      · simp at hx
    · simp at h
  · simp at h
theorem capV_ok (htb : TbOK P tb) {rs : RL} {t : TypeId} {x e : EV} {xv : Value} {ob : Prop} (h : capV tb t x = some (ob, e)) (hx : x.val rs = some xv) (ty : TypeId) : ∃ v, e = .v v ∧ ∀ w, (Builtin.cap_ #[t] ty #[xv]).run P w = .ok v w := by
  have sl : ∀ (p : Option Addr) (n c : Nat) (el : TypeId), tk tb t = some (.slice el) → ∀ w, (Builtin.cap_ #[t] ty #[.slice p n c]).run P w = .ok (.int .i64 c) w := fun p n c el hk w => by
    obtain ⟨d, h1, h2⟩ := und_of_tk htb hk
    simp only [TK.fits] at h2
    subst h2
    simp only [Builtin.cap_, List.getElem?_toArray, List.getElem?_cons_zero, run_bind, run_underlying' h1]
    rfl
  unfold capV at h
  split at h
  · rename_i p n c
    simp only [EV.val, Option.some.injEq] at hx
    subst hx
    split at h
    · rename_i el hk
      simp only [ret1, Option.some.injEq, Prod.mk.injEq] at h
      obtain ⟨rfl, rfl⟩ := h
      exact ⟨_, rfl, sl p n c el hk⟩
    · simp at h
  · rename_i id n c
    split at h
    · rename_i el hk
      simp only [ret1, Option.some.injEq, Prod.mk.injEq] at h
      obtain ⟨rfl, rfl⟩ := h
      simp only [EV.val] at hx
      split at hx
      · simp only [Option.some.injEq] at hx
        subst hx
        exact ⟨_, rfl, sl _ n c el hk⟩
      · simp at hx
    · simp at h
  · simp at h
theorem value_run {s : Sem Value} {v : Value} {w : World} (h : s.run P w = .ok v w) : (do Pure.pure (Next.value (← s)) : Sem Next).run P w = .ok (.value v) w := by
  rw [run_bind, h]; rfl
theorem builtV_ok (htb : TbOK P tb) {rs : RL} {ρ : Operand → Option EV} {ρ' : Operand → Value} (hρ : Fits rs ρ ρ') {b : Builtin} {args : List Operand} {ts : List TypeId} {ob : Prop} {e : EV} (h : builtV tb rs b (evs ρ args) ts = some (ob, e)) (ho : ob) (ty : TypeId) (cs : Array Bool) :
    ∃ v, e.val rs = some v ∧ ∀ w, (builtin b ts.toArray ty cs (args.map ρ').toArray).run P w = .ok (.value v) w := by
  unfold builtV at h
  split at h
  · rename_i n c he
    have h1 := evs_ok hρ he
    rcases args with _ | ⟨o, _ | ⟨o', l⟩⟩ <;> simp only [List.map_cons, List.map_nil, List.cons.injEq, and_true, reduceCtorEq, and_false, EV.val, Option.some.injEq] at h1
    simp only [Option.some.injEq, Prod.mk.injEq] at h
    obtain ⟨rfl, rfl⟩ := h
    refine ⟨_, rfl, fun w => value_run ?_⟩
    simp only [List.map_cons, List.map_nil, ← h1]
    exact Lib.run_unsafeSliceData_nil w _ _ _ _
  · rename_i id off n c he
    have h1 := evs_ok hρ he
    rcases args with _ | ⟨o, _ | ⟨o', l⟩⟩ <;> simp only [List.map_cons, List.map_nil, List.cons.injEq, and_true, reduceCtorEq, and_false] at h1
    simp only [Option.some.injEq, Prod.mk.injEq] at h
    obtain ⟨rfl, rfl⟩ := h
    obtain ⟨hc, r, b, hr, hb⟩ := ho
    simp only [EV.val, hr, hb, Option.map_some, Option.some.injEq] at h1
    refine ⟨.pointer (some ⟨b, off, none⟩), by simp only [EV.val, hr, hb], fun w => value_run ?_⟩
    simp only [List.map_cons, List.map_nil, ← h1]
    exact Lib.run_unsafeSliceData_row w _ _ _ _ _ hc
  · rename_i x t he
    have h1 := evs_ok hρ he
    rcases args with _ | ⟨o, _ | ⟨o', l⟩⟩ <;> simp only [List.map_cons, List.map_nil, List.cons.injEq, and_true, reduceCtorEq, and_false] at h1
    · skip
      obtain ⟨v, rfl, hv⟩ := lenV_ok htb h h1 ty
      exact ⟨v, rfl, fun w => value_run (hv w)⟩
  · rename_i x t he
    have h1 := evs_ok hρ he
    rcases args with _ | ⟨o, _ | ⟨o', l⟩⟩ <;> simp only [List.map_cons, List.map_nil, List.cons.injEq, and_true, reduceCtorEq, and_false] at h1
    · skip
      obtain ⟨v, rfl, hv⟩ := capV_ok htb h h1 ty
      exact ⟨v, rfl, fun w => value_run (hv w)⟩
  · rename_i x y he
    have h1 := evs_ok hρ he
    rcases args with _ | ⟨o, _ | ⟨o', _ | ⟨o'', l⟩⟩⟩ <;> simp only [List.map_cons, List.map_nil, List.cons.injEq, and_true, EV.val, Option.some.injEq, reduceCtorEq, and_false, List.nil_eq, List.cons_ne_self] at h1
    · obtain ⟨rfl, rfl⟩ := h1
      unfold minV at h
      split at h
      · simp only [ret1, Option.some.injEq, Prod.mk.injEq] at h
        obtain ⟨rfl, rfl⟩ := h
        rename_i k a k' b' ha hb
        refine ⟨_, rfl, fun w => value_run ?_⟩
        simp only [List.map_cons, List.map_nil, ha, hb]
        rfl
      · simp at h
  · rename_i x y he
    have h1 := evs_ok hρ he
    rcases args with _ | ⟨o, _ | ⟨o', _ | ⟨o'', l⟩⟩⟩ <;> simp only [List.map_cons, List.map_nil, List.cons.injEq, and_true, EV.val, Option.some.injEq, reduceCtorEq, and_false, List.nil_eq, List.cons_ne_self] at h1
    · obtain ⟨rfl, rfl⟩ := h1
      unfold maxV at h
      split at h
      · simp only [ret1, Option.some.injEq, Prod.mk.injEq] at h
        obtain ⟨rfl, rfl⟩ := h
        rename_i k a k' b' ha hb
        refine ⟨_, rfl, fun w => value_run ?_⟩
        simp only [List.map_cons, List.map_nil, ha, hb]
        rfl
      · simp at h
  · simp at h
theorem bound_ok {rs : RL} {ρ : Operand → Option EV} {ρ' : Operand → Value} (hρ : Fits rs ρ ρ') {o : Option Operand} {r : Option Int} (h : bound ρ o = some r) : ∃ k, o.map ρ' = r.map (Value.int k) := by
  unfold bound at h
  split at h
  · simp only [Option.some.injEq] at h
    subst h
    exact ⟨.i64, rfl⟩
  · rename_i o'
    split at h
    · rename_i k n he
      simp only [Option.some.injEq] at h
      subst h
      have := hρ _ _ he
      simp only [EV.val, Option.some.injEq] at this
      exact ⟨k, by simp [this]⟩
    · simp at h

theorem pv_ok (htb : TbOK P tb) {rs : RL} {ρ : Operand → Option EV} {ρ' : Operand → Value} (hρ : Fits rs ρ ρ') {o : Oper} {ob : Prop} {e : EV} (h : pv tb rs ρ o.op = some (ob, e)) (ho : ob) :
    ∃ v, e.val rs = some v ∧ ∀ w, (execOp ρ' o).run P w = .ok (.value v) w := by
  obtain ⟨dst, op, type, pos, after, guard⟩ := o
  simp only at h
  unfold pv at h
  split at h
  · rename_i x
    split at h
    · rename_i ev hx
      simp only [Option.some.injEq, Prod.mk.injEq] at h
      obtain ⟨rfl, rfl⟩ := h
      exact ⟨_, hρ _ _ hx, fun w => rfl⟩
    · simp at h
  · rename_i x
    split at h
    · rename_i ev hx
      simp only [Option.some.injEq, Prod.mk.injEq] at h
      obtain ⟨rfl, rfl⟩ := h
      exact ⟨_, hρ _ _ hx, fun w => rfl⟩
    · simp at h
  · rename_i op t x y yt
    split at h
    · rename_i a b hx hy
      have e1 := hρ _ _ hx
      have e2 := hρ _ _ hy
      simp only [EV.val, Option.some.injEq] at e1 e2
      obtain ⟨v, rfl, hv⟩ := binV_ok htb (x := x) (y := y) h ho
      refine ⟨v, rfl, fun w => ?_⟩
      simp only [execOp, ← e1, ← e2]
      exact value_run (hv w)
    · simp at h
  · rename_i op t x
    split at h
    · rename_i a hx
      have e1 := hρ _ _ hx
      simp only [EV.val, Option.some.injEq] at e1
      obtain ⟨v, rfl, hv⟩ := unV_ok (P := P) h
      refine ⟨v, rfl, fun w => ?_⟩
      simp only [execOp, ← e1]
      exact value_run (hv w)
    · simp at h
  · rename_i src dst' x
    split at h
    · rename_i i a hsrc hx
      have e1 := hρ _ _ hx
      simp only [EV.val, Option.some.injEq] at e1
      obtain ⟨d, hd, _⟩ := (htb _ _ hsrc).kind
      obtain ⟨v, rfl, hv⟩ := convV_ok htb ⟨d, hd⟩ h
      refine ⟨v, rfl, fun w => ?_⟩
      simp only [execOp, ← e1]
      exact value_run (hv w)
    · simp at h
  · rename_i t x f
    split at h
    · rename_i a hx
      have e1 := hρ _ _ hx
      simp only [EV.val, Option.some.injEq] at e1
      obtain ⟨v, rfl, hv⟩ := fieldV_ok htb h
      refine ⟨v, rfl, fun w => ?_⟩
      simp only [execOp, ← e1]
      exact value_run (hv w)
    · simp at h
  · rename_i x i
    split at h
    · rename_i a hx
      have e1 := hρ _ _ hx
      simp only [EV.val, Option.some.injEq] at e1
      obtain ⟨v, rfl, hv⟩ := extractV_ok (P := P) h
      refine ⟨v, rfl, fun w => ?_⟩
      simp only [execOp, ← e1]
      exact value_run (hv w)
    · simp at h
  · rename_i t x f
    split at h
    · rename_i ev hx
      obtain ⟨v, he, hv⟩ := fieldAddrV_ok htb h (hρ _ _ hx) ho
      exact ⟨v, he, fun w => value_run (hv w)⟩
    · simp at h
  · rename_i t x i
    split at h
    · rename_i ev k n hx hi
      have e2 := hρ _ _ hi
      simp only [EV.val, Option.some.injEq] at e2
      obtain ⟨v, he, hv⟩ := indexAddrV_ok htb (k := k) h (hρ _ _ hx) ho
      refine ⟨v, he, fun w => ?_⟩
      simp only [execOp, ← e2]
      exact value_run (hv w)
    · simp at h
  · rename_i t x i
    split at h
    · rename_i a k n hx hi
      have e1 := hρ _ _ hx
      have e2 := hρ _ _ hi
      simp only [EV.val, Option.some.injEq] at e1 e2
      obtain ⟨v, rfl, hv⟩ := indexV_ok htb (k := k) h ho
      refine ⟨v, rfl, fun w => ?_⟩
      simp only [execOp, ← e1, ← e2]
      exact value_run (hv w)
    · simp at h
  · rename_i t x lo hi
    unfold sliceGo at h
    split at h
    · rename_i a l u hx hl hu
      have e1 := hρ _ _ hx
      simp only [EV.val, Option.some.injEq] at e1
      obtain ⟨kl, e2⟩ := bound_ok hρ hl
      obtain ⟨kh, e3⟩ := bound_ok hρ hu
      obtain ⟨v, rfl, hv⟩ := sliceV_ok htb (kl := kl) (kh := kh) h ho
      refine ⟨v, rfl, fun w => ?_⟩
      simp only [execOp, ← e1, e2, e3]
      exact value_run (hv w)
    · rename_i id o n c l u hx hl hu
      have e1 := hρ _ _ hx
      obtain ⟨kl, e2⟩ := bound_ok hρ hl
      obtain ⟨kh, e3⟩ := bound_ok hρ hu
      obtain ⟨v, hv1, hv⟩ := sliceR_ok htb (kl := kl) (kh := kh) e1 h ho
      refine ⟨v, hv1, fun w => ?_⟩
      simp only [execOp, e2, e3]
      exact value_run (hv w)
    · rename_i id o l u hx hl hu
      have e1 := hρ _ _ hx
      obtain ⟨kl, e2⟩ := bound_ok hρ hl
      obtain ⟨kh, e3⟩ := bound_ok hρ hu
      obtain ⟨v, hv1, hv⟩ := sliceA_ok htb (kl := kl) (kh := kh) e1 h
      refine ⟨v, hv1, fun w => ?_⟩
      simp only [execOp, e2, e3]
      exact value_run (hv w)
    · simp at h
  · rename_i t x lo hi m
    unfold sliceGo3 at h
    split at h
    · rename_i a l u mm hx hl hu hm
      have e1 := hρ _ _ hx
      simp only [EV.val, Option.some.injEq] at e1
      obtain ⟨kl, e2⟩ := bound_ok hρ hl
      obtain ⟨kh, e3⟩ := bound_ok hρ hu
      obtain ⟨km, e4⟩ := bound_ok hρ hm
      obtain ⟨v, rfl, hv⟩ := sliceV3_ok htb (kl := kl) (kh := kh) (km := km) h ho
      refine ⟨v, rfl, fun w => ?_⟩
      simp only [Option.map_some] at e4
      simp only [execOp, ← e1, e2, e3, Option.map_some, e4]
      exact value_run (hv w)
    · simp at h
  · rename_i t parts
    split at h
    · rename_i ps hps
      obtain ⟨v, rfl, hv⟩ := buildV_ok htb h
      refine ⟨v, rfl, fun w => ?_⟩
      have e1 := partsOf_ok hρ hps
      have e2 : (parts.map fun (i, x) => (i, ρ' x)) = ps.toArray := by
        apply Array.ext'
        simpa using e1
      simp only [execOp, e2]
      exact value_run (hv w)
    · simp at h
  · rename_i fn first captured
    split at h
    · rename_i xs ys hx hy
      simp only [ret1, Option.some.injEq, Prod.mk.injEq] at h
      obtain ⟨rfl, rfl⟩ := h
      refine ⟨_, rfl, fun w => ?_⟩
      have e1 := vals_ok hρ hx
      have e2 := vals_ok hρ hy
      have e3 : first.map ρ' = xs.toArray := by apply Array.ext'; simpa using e1
      have e4 : captured.map ρ' = ys.toArray := by apply Array.ext'; simpa using e2
      simp only [execOp, e3, e4, Instr.makeFunc]
      rfl
    · simp at h
  · rename_i x
    split at h
    · rename_i p hx
      have e1 := hρ _ _ hx
      simp only [EV.val, Option.some.injEq] at e1
      simp only [Option.some.injEq, Prod.mk.injEq] at h
      obtain ⟨rfl, rfl⟩ := h
      refine ⟨_, rfl, fun w => ?_⟩
      cases p with
      | none => simp at ho
      | some a => simp only [execOp, ← e1]; rfl
    · rename_i id o' hx
      have e1 := hρ _ _ hx
      simp only [Option.some.injEq, Prod.mk.injEq] at h
      obtain ⟨rfl, rfl⟩ := h
      refine ⟨_, e1, fun w => ?_⟩
      have e2 := e1
      simp only [EV.val] at e2
      split at e2
      · split at e2
        · simp only [Option.some.injEq] at e2
          simp only [execOp, ← e2]
          rfl
        · simp at e2
      · simp at e2
    · simp at h
  · rename_i b args ts
    obtain ⟨v, he, hv⟩ := builtV_ok htb hρ h ho type (args.map fun | .const _ => true | _ => false)
    refine ⟨v, he, fun w => ?_⟩
    have := hv w
    simp only [execOp, resolve, run_bind, run_pure, invoke]
    have e1 : (args.toList.map ρ').toArray = args.map ρ' := by apply Array.ext'; simp
    rw [e1] at this
    exact this
  · simp at h
end Go.TR
/-!
A small program logic of our own for the model. Part g: what it means that a state of the evaluator fits the machine's; one quiet operation. Nothing here speaks of one program.
-/
namespace Go.TR
variable {P : Program} {tb : Tb} {N : Nat}

theorem GSat.drop {c : Ctx} {g : GEnv} {st : St} {a : Act} {w : World} (h : GSat c N g st a w) : Sat c N st a w where
  size := h.size
  defers := h.defers
  wok := h.wok
  hist := h.hist
  rids := h.rids
  ids := h.ids
  env := fun n e x _ h1 h2 => by
    cases hg : lkG g n with
    | none => exact h.env n e x hg h1 h2
    | some p =>
      obtain ⟨ch, e'⟩ := p
      have := (h.gv n ch e' hg).2.2.2
      rw [this] at h1; cases h1
  gv := fun n ch e h => by simp [lkG] at h

theorem lkG_cons (n m : Nat) (c : Chain) (v : EV) (t : GEnv) : lkG ((m, c, v) :: t) n = if n = m then some (c, v) else lkG t n := by
  simp only [lkG]
  by_cases h : n = m
  · subst h; simp
  · rw [if_neg h, show Nat.beq n m = false from (by cases hb : Nat.beq n m with | false => rfl | true => exact absurd (Nat.eq_of_beq_eq_true hb) h)]
theorem lk_cons (n m : Nat) (v : EV) (t : Env) : lk ((m, v) :: t) n = if n = m then some v else lk t n := by
  simp only [lk]
  by_cases h : n = m
  · subst h; simp
  · rw [if_neg h, show Nat.beq n m = false from (by cases hb : Nat.beq n m with | false => rfl | true => exact absurd (Nat.eq_of_beq_eq_true hb) h)]
theorem lkR_cons (n m : Nat) (r : Blk) (t : RL) : lkR ((m, r) :: t) n = if n = m then some r else lkR t n := by
  simp only [lkR]
  by_cases h : n = m
  · subst h; simp
  · rw [if_neg h, show Nat.beq n m = false from (by cases hb : Nat.beq n m with | false => rfl | true => exact absurd (Nat.eq_of_beq_eq_true hb) h)]

theorem getD_put {a : Act} {d n : Nat} {v : Value} (hd : d < a.tmps.size) : (a.put (some d) v).tmps.getD n undef = if n = d then v else a.tmps.getD n undef := by
  simp only [Act.put, Array.getD_eq_getD_getElem?, Array.getElem?_setIfInBounds]
  by_cases h : d = n
  · subst h; simp [hd]
  · rw [if_neg h, if_neg (fun e => h e.symm)]
theorem size_put {a : Act} {d : Nat} {v : Value} : (a.put (some d) v).tmps.size = a.tmps.size := by simp [Act.put]

theorem chainFree_spec {d : Nat} : ∀ {g : GEnv}, chainFree d g = true → lkG g d = none ∧ ∀ n ch e, lkG g n = some (ch, e) → ∀ s w b, (s, w, b) ∈ ch → s ≠ d
  | [], _ => ⟨rfl, fun n ch e h => by simp [lkG] at h⟩
  | (m, c, v) :: t, h => by
    simp only [chainFree, Bool.and_eq_true, Bool.not_eq_true', List.all_eq_true] at h
    obtain ⟨⟨h1, h2⟩, h3⟩ := h
    obtain ⟨i1, i2⟩ := chainFree_spec h3
    have hm : d ≠ m := by rintro rfl; simp at h1
    refine ⟨by rw [lkG_cons, if_neg hm]; exact i1, fun n ch e hn s w b hs => ?_⟩
    rw [lkG_cons] at hn
    split at hn
    · simp only [Option.some.injEq, Prod.mk.injEq] at hn
      obtain ⟨rfl, rfl⟩ := hn
      have := h2 _ hs
      rintro rfl
      simp at this
    · exact i2 n ch e hn s w b hs
theorem gA_put {ch : Chain} {a : Act} {d : Nat} {v : Value} (hd : d < a.tmps.size) (h : ∀ s w b, (s, w, b) ∈ ch → s ≠ d) : gA ch (a.put (some d) v) ↔ gA ch a := by
  unfold gA
  constructor
  · intro h1 s w b hs
    have := h1 s w b hs
    rwa [getD_put hd, if_neg (h s w b hs)] at this
  · intro h1 s w b hs
    rw [getD_put hd, if_neg (h s w b hs)]
    exact h1 s w b hs

theorem alive_val {rs : RL} {e e' : EV} (h : alive rs e = some e') : e' = e ∧ ∃ x, e.val rs = some x := by
  unfold alive at h
  split at h
  · simp only [Option.some.injEq] at h; exact ⟨h.symm, _, rfl⟩
  · rename_i id o
    split at h
    · rename_i r hr
      split at h
      · rename_i b hb
        simp only [Option.some.injEq] at h
        exact ⟨h.symm, _, by simp only [EV.val, hr, hb]; rfl⟩
      · simp at h
    · simp at h
  · rename_i id n c
    split at h
    · rename_i r hr
      simp only [Option.some.injEq] at h
      exact ⟨h.symm, _, by simp only [EV.val, hr]; rfl⟩
    · simp at h
theorem lt_of_val {rs : RL} {nx : Nat} (hr : ∀ id r, lkR rs id = some r → id < nx) {e : EV} {x : Value} (h : e.val rs = some x) : e.lt nx := by
  cases e with
  | v _ => trivial
  | loc id o =>
    simp only [EV.val] at h
    split at h
    · rename_i r hl; exact hr _ _ hl
    · simp at h
  | row id o n c =>
    simp only [EV.val] at h
    split at h
    · rename_i r hl; exact hr _ _ hl
    · simp at h

theorem pre_spec {a : Act} : ∀ {c ch : Chain}, pre c ch = true → gA ch a → gA c a
  | [], _, _, _ => fun s w b h => by simp at h
  | (s, w, b) :: t, [], h, _ => by simp [pre] at h
  | (s, w, b) :: t, (s', w', b') :: t', h, hg => by
    simp only [pre, Bool.and_eq_true, beq_iff_eq, Nat.beq_eq] at h
    obtain ⟨⟨rfl, rfl⟩, h3⟩ := h
    have ht : gA t' a := fun x y z hx => hg x y z (List.mem_cons_of_mem _ hx)
    intro x y z hx
    rcases List.mem_cons.1 hx with e | hx
    · simp only [Prod.mk.injEq] at e
      obtain ⟨rfl, rfl, rfl⟩ := e
      exact hg x y b' (by simp)
    · exact pre_spec h3 ht x y z hx

/-- Operands read as the evaluator says. -/
theorem fits_opd {c : Ctx} {g : GEnv} {st : St} {a : Act} {w : World} (h : GSat c N g st a w) {ch : Chain} (hg : gA ch a) : Fits st.rs (opd st.rs g st.env ch) a.eval := by
  intro o e he
  cases o with
  | const v => simp only [opd, Option.some.injEq] at he; subst he; rfl
  | global i => simp only [opd, Option.some.injEq] at he; subst he; rfl
  | func f => simp only [opd, Option.some.injEq] at he; subst he; rfl
  | tmp n =>
    simp only [opd] at he
    split at he
    · rename_i e' hp
      obtain ⟨rfl, x, hx⟩ := alive_val he
      simp only [Act.eval]
      unfold pick1 at hp
      split at hp
      · rename_i cc v hv
        split at hp
        · rename_i hpre
          simp only [Option.some.injEq] at hp
          subst hp
          rw [((h.gv n cc v hv).1 (pre_spec hpre hg)).1 x hx, hx]
        · simp at hp
      · rename_i hn
        rw [h.env n e x hn hp hx, hx]
    · simp at he

/-- The slots of a guard are none that the list of guards and the slots leave free. -/
def ChFree (g : GEnv) (env : Env) (ch : Chain) : Prop := ∀ d, lkG g d = none → lk env d = none → (∀ n ch' e', lkG g n = some (ch', e') → ∀ s w b, (s, w, b) ∈ ch' → s ≠ d) → ∀ s w b, (s, w, b) ∈ ch → s ≠ d
theorem putV_sat {c : Ctx} {g : GEnv} {st : St} {a : Act} {w : World} (h : GSat c N g st a w) {ch : Chain} {d : Option Nat} {e : EV} {v : Value} {K : GEnv → St → Prop} (hlt : e.lt st.nx) (hv : gA ch a → e.val st.rs = some v) (hgp : gA ch a → gP ch) (hf : ChFree g st.env ch) (hk : putV N ch d e K g st) :
    ∃ g' st', K g' st' ∧ st'.F = st.F ∧ st'.rs = st.rs ∧ st'.nx = st.nx ∧ (gA ch a → GSat c N g' st' (a.put d v) w) ∧ (¬ gA ch a → GSat c N g' st' (a.put d undef) w) := by
  obtain ⟨env, F, rs, nx⟩ := st
  cases d with
  | none => simp [putV] at hk
  | some d =>
    cases ch with
    | nil =>
      have hk' : d < N ∧ chainFree d g = true ∧ K g ⟨(d, e) :: env, F, rs, nx⟩ := by
        cases g with
        | nil => simp only [putV] at hk; exact ⟨hk.1, rfl, hk.2⟩
        | cons x g => simpa only [putV] using hk
      obtain ⟨hd, hc, hK⟩ := hk'
      have hds : d < a.tmps.size := by rw [h.size]; exact hd
      obtain ⟨hc1, hc2⟩ := chainFree_spec hc
      have hv := hv (fun s w b hs => by simp at hs)
      refine ⟨g, _, hK, rfl, rfl, rfl, fun _ => ?_, fun hn => absurd (fun s w b hs => by simp at hs) hn⟩
      exact {
        size := by rw [size_put]; exact h.size
        defers := h.defers
        wok := h.wok
        hist := h.hist
        rids := h.rids
        ids := fun n e' he' => by
          simp only [lk_cons] at he'
          split at he'
          · simp only [Option.some.injEq] at he'; subst he'; exact hlt
          · exact h.ids n e' he'
        env := fun n e' x hg he' hx => by
          rw [getD_put hds]
          simp only [lk_cons] at he'
          split at he'
          · simp only [Option.some.injEq] at he'
            subst he'
            rw [if_pos (by assumption)]
            exact Option.some.inj (hv.symm.trans hx)
          · rename_i hne
            rw [if_neg hne]
            exact h.env n e' x hg he' hx
        gv := fun n ch' e' hg => by
          have hnd : n ≠ d := by rintro rfl; rw [hc1] at hg; cases hg
          have hf := hc2 n ch' e' hg
          obtain ⟨g1, g2, g3, g4⟩ := h.gv n ch' e' hg
          rw [gA_put hds hf, getD_put hds, if_neg hnd]
          refine ⟨g1, g2, g3, ?_⟩
          rw [lk_cons, if_neg hnd]
          exact g4 }
    | cons c0 ch =>
      simp only [putV, Bool.and_eq_true] at hk
      obtain ⟨hd, ⟨hc, he⟩, hK⟩ := hk
      have hds : d < a.tmps.size := by rw [h.size]; exact hd
      obtain ⟨hc1, hc2⟩ := chainFree_spec hc
      have hed : lk env d = none := by
        unfold envFree at he
        split at he
        · simp at he
        · assumption
      have key : ∀ u, (gA (c0 :: ch) a → u = v) → (¬ gA (c0 :: ch) a → u = undef) → (∀ s w b, (s, w, b) ∈ (c0 :: ch) → s ≠ d) → GSat c N ((d, c0 :: ch, e) :: g) ⟨env, F, rs, nx⟩ (a.put (some d) u) w := by
        intro u hu1 hu2 hfr
        exact {
          size := by rw [size_put]; exact h.size
          defers := h.defers
          wok := h.wok
          hist := h.hist
          rids := h.rids
          ids := h.ids
          env := fun n e' x hg he' hx => by
            rw [lkG_cons] at hg
            split at hg
            · simp at hg
            · rename_i hne
              rw [getD_put hds, if_neg hne]
              exact h.env n e' x hg he' hx
          gv := fun n ch' e' hg => by
            rw [lkG_cons] at hg
            split at hg
            · rename_i hnd
              simp only [Option.some.injEq, Prod.mk.injEq] at hg
              obtain ⟨rfl, rfl⟩ := hg
              subst hnd
              rw [gA_put hds hfr, getD_put hds, if_pos rfl]
              refine ⟨fun hA => ⟨fun x hx => ?_, hgp hA⟩, hu2, hlt, hed⟩
              rw [hu1 hA]
              exact Option.some.inj ((hv hA).symm.trans hx)
            · rename_i hnd
              have hf := hc2 n ch' e' hg
              obtain ⟨g1, g2, g3, g4⟩ := h.gv n ch' e' hg
              rw [gA_put hds hf, getD_put hds, if_neg hnd]
              exact ⟨g1, g2, g3, g4⟩ }
      have hfr := hf d hc1 hed hc2
      exact ⟨_, _, hK, rfl, rfl, rfl, fun hA => key v (fun _ => rfl) (fun hn => absurd hA hn) hfr, fun hn => key undef (fun hA => absurd hA hn) (fun _ => rfl) hfr⟩

/-! ### Loads -/
theorem mem_cell {F : Hp} {w : World} (h : F.le w) {p : Option Addr} {v : Value} (e : Pcell F p = some v) : ∃ a, p = some a ∧ w.cell? a = some v := by
  cases p with
  | none => simp [Pcell] at e
  | some a => exact ⟨a, rfl, Fcell.world h (by simpa [Pcell] using e)⟩
theorem run_load {w : World} {a : Addr} {v : Value} (h : w.cell? a = some v) : (load a).run P w = .ok v w := by simp [load, Sem.run, h]
theorem run_loadAt_cell (htb : TbOK P tb) {t : TypeId} {i : TI} (hi : tb t = some i) (ha : i.kind.agg = false) {a : Addr} {v : Value} {w : World} (h : w.cell? a = some v) : (Instr.loadAt t (.pointer (some a))).run P w = .ok v w := by
  simp only [Instr.loadAt, Instr.sureAddr, run_bind, run_pure, loadVar, run_isAgg htb hi, ha, Bool.false_eq_true, if_false]
  exact run_load h
theorem run_loadAt_agg (htb : TbOK P tb) {t : TypeId} {i : TI} (hi : tb t = some i) (ha : i.kind.agg = true) {a : Addr} {cs : List Value} (hl : cs.length = i.size) {w : World} (h : ∀ j v, cs[j]? = some v → w.cell? (a.add j) = some v) :
    (Instr.loadAt t (.pointer (some a))).run P w = .ok (.agg cs.toArray) w := by
  simp only [Instr.loadAt, Instr.sureAddr, run_bind, run_pure, loadVar, run_isAgg htb hi, ha, if_true, run_sizeOf htb hi]
  rw [← hl, run_loadCells_list w a cs h]
theorem allV_spec {rs : RL} : ∀ {l : List EV} {xs : List Value}, allV rs l = some xs → xs.length = l.length ∧ ∀ (j : Nat) (x : Value), xs[j]? = some x → ∃ e : EV, l[j]? = some e ∧ e.val rs = some x
  | [], xs, h => by simp only [allV, Option.some.injEq] at h; subst h; exact ⟨rfl, fun j x hx => by simp at hx⟩
  | e :: l, xs, h => by
    simp only [allV] at h
    split at h
    · rename_i x ys hx hy
      simp only [Option.some.injEq] at h
      subst h
      obtain ⟨h1, h2⟩ := allV_spec hy
      refine ⟨by simp [h1], fun j y hj => ?_⟩
      cases j with
      | zero => simp only [List.getElem?_cons_zero, Option.some.injEq] at hj; subst hj; exact ⟨e, rfl, hx⟩
      | succ j => simpa using h2 j y (by simpa using hj)
    · simp at h
theorem Owned.cell {F : Hp} {rs : RL} {w : World} (h : Owned F rs w) {id : Nat} {r : Blk} {b : Nat} (hr : lkR rs id = some r) (hb : r.blk = some b) {j : Nat} {e : EV} {x : Value} (he : r.cells[j]? = some e) (hx : e.val rs = some x) : w.cell? ⟨b, j, none⟩ = some x := by
  have := h.own id r hr
  rw [hb] at this
  obtain ⟨_, _, cur, h1, _, h2⟩ := this
  simp only [World.cell?, h1]
  exact h2 j e x he hx

/-- A value in the machine's words. -/
theorem quiet_of_run {C : World → Prop} {a : Act} {o : Oper} {v : Value} {w : World} (h : (execOp a.eval o).run P w = .ok (.value v) w) : o.quietAt P a C w v := by
  unfold Oper.quietAt
  rw [h]
  exact ⟨rfl, rfl⟩

def C (c : Ctx) (st : St) : World → Prop := fun w => WOK c st.F st.rs w
theorem WOK.pres' {c : Ctx} {F : Hp} {rs : RL} {w w' : World} (h : WOK c F rs w) (p : Pres [] w w') : WOK c F rs w' where
  le := h.le.pres p (by simp)
  own := {
    own := fun id r hr => by
      have := h.own.own id r hr
      cases hb : r.blk with
      | none => rw [hb] at this; exact this
      | some b =>
        rw [hb] at this
        obtain ⟨h1, h2, cur, h3, h4⟩ := this
        exact ⟨h1, h2, cur, (p.block b (lt_of_some h3) (by simp)).trans h3, h4⟩
    apart := h.own.apart }
  pres := h.pres.trans' p (by simp)
  new := h.new
  fnew := h.fnew
  sz := Nat.le_trans h.sz p.size
  tp := h.tp

/-- The part of memory that a state's reads lean on. -/
def Sw (st : St) (w : World) : Prop := st.F.le w ∧ ∀ id r b, lkR st.rs id = some r → r.blk = some b → r.cells ≠ [] → ∃ cur : Array Value, w.heap[b]? = some (.cells cur r.ty (0, 0)) ∧
  ∀ (j : Nat) (ev : EV) (x : Value), r.cells[j]? = some ev → ev.val st.rs = some x → cur[j]? = some x
structure Rd (st : St) (CC : World → Prop) : Prop where
  rd : ∀ w, CC w → Sw st w
  pres : ∀ w w', CC w → Pres [] w w' → CC w'
theorem rd_wok (c : Ctx) (st : St) : Rd st (C c st) where
  rd := fun w h => ⟨h.le, fun id r b hr hb _ => by
    have := h.own.own id r hr
    rw [hb] at this
    obtain ⟨_, _, cur, h1, _, h2⟩ := this
    exact ⟨cur, h1, h2⟩⟩
  pres := fun w w' h p => WOK.pres' h p
theorem rd_sw (st : St) : Rd st (Sw st) where
  rd := fun w h => h
  pres := fun w w' h p => ⟨h.1.pres p (by simp), fun id r b hr hb hc => by
    obtain ⟨cur, h1, h2⟩ := h.2 id r b hr hb hc
    exact ⟨cur, (p.block b (lt_of_some h1) (by simp)).trans h1, h2⟩⟩
theorem Sw.cell {st : St} {w : World} (h : Sw st w) {id : Nat} {r : Blk} {b : Nat} (hr : lkR st.rs id = some r) (hb : r.blk = some b) {j : Nat} {e : EV} {x : Value} (he : r.cells[j]? = some e) (hx : e.val st.rs = some x) : w.cell? ⟨b, j, none⟩ = some x := by
  obtain ⟨cur, h1, h2⟩ := h.2 id r b hr hb (by intro h0; rw [h0] at he; simp at he)
  simp only [World.cell?, h1]
  exact h2 j e x he hx

/-- What a quiet operation gives. -/
structure Quiet (P : Program) (st : St) (ch : Chain) (a : Act) (o : Oper) (e : EV) (v : Value) : Prop where
  lt : e.lt st.nx
  val : gA ch a → e.val st.rs = some v
  run : gA ch a → ∀ CC : World → Prop, Rd st CC → ∀ w, CC w → o.quietAt P a CC w v


theorem imp_gP {ch : Chain} {p : Prop} (h : imp ch p) (hg : gP ch) : p := by
  cases ch with
  | nil => exact h
  | cons c ch => exact h hg

theorem load_quiet (htb : TbOK P tb) {c : Ctx} {g : GEnv} {st : St} {a : Act} {w : World} (h : GSat c N g st a w) {ch : Chain} (hgp : gA ch a → gP ch) {K : EV → Prop} {o : Oper} {t : TypeId} {x : Operand} (ho : o.op = .load t x)
    (hk : loadGo st.F st.rs ch K (tb t) (opd st.rs g st.env ch x)) : ∃ e v, Quiet P st ch a o e v ∧ K e := by
  unfold loadGo at hk
  split at hk
  · rename_i i p hi hx
    cases ha : i.kind.agg with
    | false =>
      rw [ha] at hk
      simp only [loadF] at hk
      obtain ⟨v, h1, h2⟩ := hk
      refine ⟨.v v, v, ⟨trivial, fun _ => rfl, fun hA CC hC w' hw' => quiet_of_run ?_⟩, h2⟩
      obtain ⟨ad, rfl, hc⟩ := mem_cell (hC.rd _ hw').1 (imp_gP h1 (hgp hA))
      have e1 := fits_opd h hA _ _ hx
      simp only [EV.val, Option.some.injEq] at e1
      simp only [execOp, ho, ← e1]
      exact value_run (run_loadAt_cell htb hi ha hc)
    | true =>
      rw [ha] at hk
      simp only [loadF] at hk
      obtain ⟨cs, hl, h1, h2⟩ := hk
      refine ⟨.v (.agg cs.toArray), .agg cs.toArray, ⟨trivial, fun _ => rfl, fun hA CC hC w' hw' => quiet_of_run ?_⟩, h2⟩
      obtain ⟨hp, h3⟩ := imp_gP h1 (hgp hA)
      obtain ⟨ad, rfl⟩ := Option.isSome_iff_exists.1 hp
      have e1 := fits_opd h hA _ _ hx
      simp only [EV.val, Option.some.injEq] at e1
      simp only [execOp, ho, ← e1]
      refine value_run (run_loadAt_agg htb hi ha hl fun j v hj => ?_)
      have hjl : j < i.size := by rw [← hl]; exact (List.getElem?_eq_some_iff.1 hj).1
      have h4 := h3 j hjl
      rw [hj] at h4
      obtain ⟨ad', e2, hc⟩ := mem_cell (hC.rd _ hw').1 h4
      simp only [padd, Option.map_some, Option.some.injEq] at e2
      rw [e2]; exact hc
  · rename_i i id off hi hx
    cases hr : lkR st.rs id with
    | none => rw [hr] at hk; cases i.kind.agg <;> simp [loadL] at hk
    | some r =>
      rw [hr] at hk
      have hblk : ∀ ad, gA ch a → a.eval x = ad → ∃ b, r.blk = some b ∧ ad = .pointer (some ⟨b, off, none⟩) := fun ad hA had => by
        have e1 := fits_opd h hA _ _ hx
        simp only [EV.val, hr] at e1
        split at e1
        · rename_i b hb
          simp only [Option.some.injEq] at e1
          exact ⟨b, hb, by rw [← had, ← e1]⟩
        · simp at e1
      cases ha : i.kind.agg with
      | false =>
        rw [ha] at hk
        simp only [loadL] at hk
        cases he : r.cells[off]? with
        | none => simp [he, aliveO, optV] at hk
        | some e =>
          simp only [he, aliveO] at hk
          cases hal : alive st.rs e with
          | none => simp [hal, optV] at hk
          | some e' =>
            simp only [hal, optV] at hk
            obtain ⟨rfl, v, hv⟩ := alive_val hal
            refine ⟨e', v, ⟨lt_of_val (fun id r hr => (h.rids id r hr).1) hv, fun _ => hv, fun hA CC hC w' hw' => quiet_of_run ?_⟩, hk⟩
            obtain ⟨b, hb, hp⟩ := hblk _ hA rfl
            simp only [execOp, ho, hp]
            exact value_run (run_loadAt_cell htb hi ha ((hC.rd _ hw').cell hr hb he hv))
      | true =>
        rw [ha] at hk
        simp only [loadL] at hk
        obtain ⟨hle, hk⟩ := hk
        cases hal : allV st.rs ((r.cells.take (off + i.size)).drop off) with
        | none => simp [hal, optL] at hk
        | some cs =>
          simp only [hal, optL] at hk
          obtain ⟨hl, hcs⟩ := allV_spec hal
          refine ⟨.v (.agg cs.toArray), .agg cs.toArray, ⟨trivial, fun _ => rfl, fun hA CC hC w' hw' => quiet_of_run ?_⟩, hk⟩
          obtain ⟨b, hb, hp⟩ := hblk _ hA rfl
          simp only [execOp, ho, hp]
          refine value_run (run_loadAt_agg htb hi ha (by rw [hl]; simp; omega) fun j v hj => ?_)
          obtain ⟨e, he, hv⟩ := hcs j v hj
          rw [addr_add]
          refine (hC.rd _ hw').cell hr hb ?_ hv
          rw [List.getElem?_drop, List.getElem?_take] at he
          split at he
          · exact he
          · simp at he
  · exact hk.elim
end Go.TR
/-!
A small program logic of our own for the model. Part h: every operation of the evaluator is sound; lists of operations. Nothing here speaks of one program.
-/
namespace Go.TR
variable {P : Program} {tb : Tb} {N : Nat}

theorem pick_quiet {c : Ctx} {g : GEnv} {st : St} {a : Act} {w : World} (h : GSat c N g st a w) {ch : Chain} {d : Option Nat} {K : GEnv → St → Prop} {o : Oper} {s : Nat} {x y : Operand} (ho : o.op = .pick (.tmp s) x y)
    (hk : pickTo N ch d K g st s x y (opd st.rs g st.env ch (.tmp s)) ∨ pickN N ch d K g st x y (opd st.rs g st.env ch (.tmp s))) : ∃ e v, Quiet P st ch a o e v ∧ putV N ch d e K g st := by
  rcases hk with hk | hk
  case inr =>
    have go : ∀ (t : Bool) (z : Operand) (e : EV), opd st.rs g st.env ch (.tmp s) = some (.v (.bool t)) → (z = if t then x else y) → opd st.rs g st.env ch z = some e → putV N ch d e K g st → ∃ e v, Quiet P st ch a o e v ∧ putV N ch d e K g st := fun t z e ht hz he hput => by
      by_cases hA : gA ch a
      · have e1 := fits_opd h hA _ _ ht
        have e2 := fits_opd h hA _ _ he
        simp only [EV.val, Option.some.injEq] at e1
        refine ⟨e, a.eval z, ⟨?_, fun _ => e2, fun _ CC _ w' _ => quiet_of_run ?_⟩, hput⟩
        · cases z with
          | tmp n =>
            simp only [opd] at he
            split at he
            · obtain ⟨rfl, u, hu⟩ := alive_val he
              exact lt_of_val (fun id r hr => (h.rids id r hr).1) hu
            · simp at he
          | const v => simp only [opd, Option.some.injEq] at he; subst he; trivial
          | global v => simp only [opd, Option.some.injEq] at he; subst he; trivial
          | func v => simp only [opd, Option.some.injEq] at he; subst he; trivial
        · simp only [execOp, ho, run_bind, ← e1, asBool, run_pure]
          subst hz
          cases t <;> rfl
      · refine ⟨e, undef, ⟨?_, fun hA' => absurd hA' hA, fun hA' => absurd hA' hA⟩, hput⟩
        cases z with
        | tmp n =>
          simp only [opd] at he
          split at he
          · obtain ⟨rfl, u, hu⟩ := alive_val he
            exact lt_of_val (fun id r hr => (h.rids id r hr).1) hu
          · simp at he
        | const v => simp only [opd, Option.some.injEq] at he; subst he; trivial
        | global v => simp only [opd, Option.some.injEq] at he; subst he; trivial
        | func v => simp only [opd, Option.some.injEq] at he; subst he; trivial
    unfold pickN at hk
    split at hk
    · rename_i ht
      cases he : opd st.rs g st.env ch x with
      | none => simp [he, pickO] at hk
      | some e => rw [he] at hk; exact go true x e ht rfl he hk
    · rename_i ht
      cases he : opd st.rs g st.env ch y with
      | none => simp [he, pickO] at hk
      | some e => rw [he] at hk; exact go false y e ht rfl he hk
    · exact hk.elim
  unfold pickTo at hk
  split at hk
  · rename_i t ht
    unfold pickGo at hk
    split at hk
    · rename_i u z hu hz
      refine ⟨.v (.bool (bpick t u z)), .bool (bpick t u z), ⟨trivial, fun _ => rfl, fun hA CC _ w' _ => quiet_of_run ?_⟩, hk⟩
      have e1 := fits_opd h hA _ _ ht
      simp only [EV.val, Option.some.injEq] at e1
      simp only [execOp, ho, run_bind, ← e1, asBool, run_pure]
      have hsl : a.tmps.getD s undef = .bool t := by simpa [Act.eval] using e1.symm
      cases t with
      | true =>
        have hA' : gA (ch ++ [(s, true, true)]) a := fun s' w' b' hm => by
          rcases List.mem_append.1 hm with hm | hm
          · exact hA s' w' b' hm
          · simp only [List.mem_singleton, Prod.mk.injEq] at hm
            obtain ⟨rfl, rfl, rfl⟩ := hm
            exact hsl
        have e2 := fits_opd h hA' _ _ hu
        simp only [EV.val, Option.some.injEq] at e2
        simp only [bpick, if_true, ← e2]
      | false =>
        have hA' : gA (ch ++ [(s, false, false)]) a := fun s' w' b' hm => by
          rcases List.mem_append.1 hm with hm | hm
          · exact hA s' w' b' hm
          · simp only [List.mem_singleton, Prod.mk.injEq] at hm
            obtain ⟨rfl, rfl, rfl⟩ := hm
            exact hsl
        have e2 := fits_opd h hA' _ _ hz
        simp only [EV.val, Option.some.injEq] at e2
        simp only [bpick, Bool.false_eq_true, if_false, ← e2]
    · exact hk.elim
  · exact hk.elim

theorem evs_one {ρ : Operand → Option EV} {args : List Operand} {e : EV} (h : evs ρ args = some [e]) : ∃ o, ρ o = some e := by
  cases args with
  | nil => simp [evs] at h
  | cons o t =>
    simp only [evs] at h
    split at h
    · rename_i e1 es h1 h2
      simp only [Option.some.injEq, List.cons.injEq] at h
      exact ⟨o, by rw [h1, h.1]⟩
    · cases h
theorem pv_lt {rs : RL} {ρ : Operand → Option EV} {nx : Nat} (hρ : ∀ o e, ρ o = some e → e.lt nx) {op : Op} {ob : Prop} {e : EV} (h : pv tb rs ρ op = some (ob, e)) : e.lt nx := by
  have bi : ∀ {op k a b ob e}, binInt op k a b = some (ob, e) → e.lt nx := by
    intro op k a b ob e h
    cases op <;> simp only [binInt, ret1, Option.some.injEq, Prod.mk.injEq, reduceCtorEq] at h <;> (obtain ⟨_, rfl⟩ := h; trivial)
  have bs : ∀ {op a b ob e}, binStr op a b = some (ob, e) → e.lt nx := by
    intro op a b ob e h
    cases op <;> simp only [binStr, ret1, Option.some.injEq, Prod.mk.injEq, reduceCtorEq] at h <;> (obtain ⟨_, rfl⟩ := h; trivial)
  unfold pv at h
  split at h
  · split at h
    · rename_i x ev hx; simp only [Option.some.injEq, Prod.mk.injEq] at h; obtain ⟨_, rfl⟩ := h; exact hρ _ _ hx
    · simp at h
  · split at h
    · rename_i x ev hx; simp only [Option.some.injEq, Prod.mk.injEq] at h; obtain ⟨_, rfl⟩ := h; exact hρ _ _ hx
    · simp at h
  · split at h
    · unfold binV at h
      repeat' (first | (simp only [ret1, Option.some.injEq, Prod.mk.injEq] at h; obtain ⟨_, rfl⟩ := h; trivial) | exact bi h | exact bs h | (simp at h; done) | split at h)
    · simp at h
  · split at h
    · unfold unV at h
      repeat' (first | (simp only [ret1, Option.some.injEq, Prod.mk.injEq] at h; obtain ⟨_, rfl⟩ := h; trivial) | (simp at h; done) | split at h)
    · simp at h
  · split at h
    · unfold convV at h
      repeat' (first | (simp only [ret1, Option.some.injEq, Prod.mk.injEq] at h; obtain ⟨_, rfl⟩ := h; trivial) | (simp at h; done) | split at h)
    · simp at h
  · split at h
    · unfold fieldV at h
      repeat' (first | (simp only [ret1, Option.some.injEq, Prod.mk.injEq] at h; obtain ⟨_, rfl⟩ := h; trivial) | (simp at h; done) | split at h)
    · simp at h
  · split at h
    · unfold extractV at h
      repeat' (first | (simp only [ret1, Option.some.injEq, Prod.mk.injEq] at h; obtain ⟨_, rfl⟩ := h; trivial) | (simp at h; done) | split at h)
    · simp at h
  · split at h
    · rename_i x ev hx
      have hl := hρ _ _ hx
      unfold fieldAddrV at h
      repeat' (first | (simp only [Option.some.injEq, Prod.mk.injEq] at h; obtain ⟨_, rfl⟩ := h; first | trivial | exact hl) | (simp at h; done) | split at h)
    · simp at h
  · split at h
    · rename_i x ev k n hx hi
      have hl := hρ _ _ hx
      unfold indexAddrV at h
      repeat' (first | (simp only [Option.some.injEq, Prod.mk.injEq] at h; obtain ⟨_, rfl⟩ := h; first | trivial | exact hl) | (simp at h; done) | split at h)
    · simp at h
  · split at h
    · unfold indexV at h
      repeat' (first | (simp only [Option.some.injEq, Prod.mk.injEq] at h; obtain ⟨_, rfl⟩ := h; trivial) | (simp at h; done) | split at h)
    · simp at h
  · unfold sliceGo at h
    split at h
    · unfold sliceV at h
      repeat' (first | (simp only [ret1, Option.some.injEq, Prod.mk.injEq] at h; obtain ⟨_, rfl⟩ := h; trivial) | (simp at h; done) | split at h)
    · rename_i hx _ _
      have hl := hρ _ _ hx
      unfold sliceR at h
      repeat' (first | (simp only [Option.some.injEq, Prod.mk.injEq] at h; obtain ⟨_, rfl⟩ := h; exact hl) | (simp at h; done) | split at h)
    · rename_i hx _ _
      have hl := hρ _ _ hx
      unfold sliceA at h
      repeat' (first | (simp only [Option.some.injEq, Prod.mk.injEq] at h; obtain ⟨_, rfl⟩ := h; exact hl) | (simp at h; done) | split at h)
    · simp at h
  · unfold sliceGo3 at h
    split at h
    · unfold sliceV3 at h
      repeat' (first | (simp only [Option.some.injEq, Prod.mk.injEq] at h; obtain ⟨_, rfl⟩ := h; trivial) | (simp at h; done) | split at h)
    · simp at h
  · split at h
    · unfold buildV at h
      repeat' (first | (simp only [ret1, Option.some.injEq, Prod.mk.injEq] at h; obtain ⟨_, rfl⟩ := h; trivial) | (simp at h; done) | split at h)
    · simp at h
  · repeat' (first | (simp only [ret1, Option.some.injEq, Prod.mk.injEq] at h; obtain ⟨_, rfl⟩ := h; trivial) | (simp at h; done) | split at h)
  · split at h
    · simp only [Option.some.injEq, Prod.mk.injEq] at h; obtain ⟨_, rfl⟩ := h; trivial
    · rename_i id o hx
      have hl := hρ _ _ hx
      simp only [Option.some.injEq, Prod.mk.injEq] at h; obtain ⟨_, rfl⟩ := h; exact hl
    · simp at h
  · unfold builtV at h
    split at h
    · simp only [Option.some.injEq, Prod.mk.injEq] at h; obtain ⟨_, rfl⟩ := h; trivial
    · rename_i id off n c he
      simp only [Option.some.injEq, Prod.mk.injEq] at h
      obtain ⟨_, rfl⟩ := h
      obtain ⟨o, ho⟩ := evs_one he
      have hl := hρ _ _ ho
      exact hl
    all_goals
      (try unfold lenV at h)
      (try unfold capV at h)
      (try unfold minV at h)
      (try unfold maxV at h)
      repeat' (first | (simp only [ret1, Option.some.injEq, Prod.mk.injEq] at h; obtain ⟨_, rfl⟩ := h; trivial) | (simp at h; done) | split at h)
  · simp at h
theorem opd_lt {c : Ctx} {g : GEnv} {st : St} {a : Act} {w : World} (h : GSat c N g st a w) (ch : Chain) : ∀ o e, opd st.rs g st.env ch o = some e → e.lt st.nx := by
  intro o e he
  cases o with
  | tmp n =>
    simp only [opd] at he
    split at he
    · obtain ⟨rfl, x, hx⟩ := alive_val he
      exact lt_of_val (fun id r hr => (h.rids id r hr).1) hx
    · simp at he
  | const v => simp only [opd, Option.some.injEq] at he; subst he; trivial
  | global v => simp only [opd, Option.some.injEq] at he; subst he; trivial
  | func v => simp only [opd, Option.some.injEq] at he; subst he; trivial
theorem pure_quiet (htb : TbOK P tb) {c : Ctx} {g : GEnv} {st : St} {a : Act} {w : World} (h : GSat c N g st a w) {ch : Chain} (hgp : gA ch a → gP ch) {d : Option Nat} {K : GEnv → St → Prop} {o : Oper}
    (hk : putO N (pv tb st.rs (opd st.rs g st.env ch) o.op) ch d K g st) : ∃ e v, Quiet P st ch a o e v ∧ putV N ch d e K g st := by
  cases hpv : pv tb st.rs (opd st.rs g st.env ch) o.op with
  | none => simp [hpv, putO] at hk
  | some p =>
    obtain ⟨ob, e⟩ := p
    simp only [hpv, putO] at hk
    obtain ⟨h1, h2⟩ := hk
    have hlt := pv_lt (opd_lt h ch) hpv
    by_cases hA : gA ch a
    · obtain ⟨v, hv, hr⟩ := pv_ok htb (fits_opd h hA) hpv (imp_gP h1 (hgp hA))
      exact ⟨e, v, ⟨hlt, fun _ => hv, fun _ CC _ w' _ => quiet_of_run (hr w')⟩, h2⟩
    · exact ⟨e, undef, ⟨hlt, fun hA' => absurd hA' hA, fun hA' => absurd hA' hA⟩, h2⟩

/-- How a call of a Go function with a text is carried out. -/
theorem run_call {a : Act} {o : Oper} {f : Operand} {args : Array Operand} {ts : Array TypeId} {n : FuncId} {first captured : Array Value} (ho : o.op = .call ⟨.value f, args, ts⟩) (hf : a.eval f = .func (.func n) first captured) (hb : bodied P n) (w : World) :
    (execOp a.eval o).run P w = .ok (.enter n (first ++ args.map a.eval ++ captured)) w := by
  obtain ⟨fn, h1, h2, h3⟩ := hb
  simp only [execOp, ho, resolve, run_bind, hf, Deferred.ofValue, run_pure, invoke, callFunc]
  have hp : (program : Sem Program).run P w = .ok P w := rfl
  simp only [hp, h1, h3, h2, Bool.false_eq_true, if_false, run_pure]
theorem call_quiet {c : Ctx} {g : GEnv} {st : St} {a : Act} {w : World} (h : GSat c N g st a w) {ch : Chain} (hgp : gA ch a → gP ch) {d : Option Nat} {K : GEnv → St → Prop} {o : Oper} {f : Operand} {args : Array Operand} {ts : Array TypeId} (ho : o.op = .call ⟨.value f, args, ts⟩)
    {n : FuncId} {first captured : Array Value} {xs : List Value} (hf : opd st.rs g st.env ch f = some (.v (.func (.func n) first captured))) (hx : vals st.rs (opd st.rs g st.env ch) args.toList = some xs) (hb : bodied P n)
    (hk : callPlain P N ch n (first.toList ++ xs ++ captured.toList) d K g st) : ∃ e v, Quiet P st ch a o e v ∧ putV N ch d e K g st := by
  obtain ⟨x, h1, h2⟩ := hk
  refine ⟨.v x, x, ⟨trivial, fun _ => rfl, fun hA CC hC w' hw' => ?_⟩, h2⟩
  have hF := fits_opd h hA
  have e1 := hF _ _ hf
  simp only [EV.val, Option.some.injEq] at e1
  have e2 := vals_ok hF hx
  unfold Oper.quietAt
  rw [run_call ho e1.symm hb]
  refine ⟨rfl, ?_⟩
  have e3 : first ++ args.map a.eval ++ captured = (first.toList ++ xs ++ captured.toList).toArray := by
    apply Array.ext'
    simp [← e2]
  rw [e3]
  exact (imp_gP h1 (hgp hA) w' (hC.rd _ hw').1).mono fun e w'' ⟨he, hp⟩ => ⟨he, hC.pres _ _ hw' hp⟩

/-! ### Guards -/
theorem gA_snoc {ch : Chain} {s : Nat} {w b : Bool} {a : Act} : gA (ch ++ [(s, w, b)]) a ↔ gA ch a ∧ a.tmps.getD s undef = .bool w := by
  constructor
  · intro h
    exact ⟨fun s' w' b' hm => h s' w' b' (List.mem_append_left _ hm), h s w b (by simp)⟩
  · rintro ⟨h1, h2⟩ s' w' b' hm
    rcases List.mem_append.1 hm with hm | hm
    · exact h1 s' w' b' hm
    · simp only [List.mem_singleton, Prod.mk.injEq] at hm
      obtain ⟨rfl, rfl, rfl⟩ := hm
      exact h2
theorem gP_snoc : ∀ {ch : Chain} {s : Nat} {w b : Bool}, gP ch → b = w → gP (ch ++ [(s, w, b)])
  | [], _, _, _, _, h => ⟨h, trivial⟩
  | (_, _, _) :: _, _, _, _, h, e => ⟨h.1, gP_snoc h.2 e⟩
theorem wanted_iff {ops : Array Oper} {o : Oper} {j s : Nat} {want : Bool} {oj : Oper} {tmps : Array Value} (hg : o.guard = some (j, want)) (hj : ops[j]? = some oj) (hs : oj.dst = some s) : Region.wanted o (yielded ops tmps) = true ↔ tmps.getD s undef = .bool want := by
  simp only [Region.wanted, hg, yielded, hj, Option.bind_some, hs]
  rw [Array.getD_eq_getD_getElem?]
  cases h : tmps[s]? with
  | none => simp [undef]
  | some v =>
    cases v <;> simp
/-- What an operation's guard comes to. -/
structure Guarded (g : GEnv) (st : St) (ops : Array Oper) (a : Act) (o : Oper) (ch : Chain) : Prop where
  wanted : Region.wanted o (yielded ops a.tmps) = true ↔ gA ch a
  gp : gA ch a → gP ch
  free : ChFree g st.env ch
theorem guarded_none {g : GEnv} {st : St} {ops : Array Oper} {a : Act} {o : Oper} (h : o.guard = none) : Guarded g st ops a o [] where
  wanted := by
    simp only [Region.wanted, h]
    exact ⟨fun _ s w b hs => by simp at hs, fun _ => trivial⟩
  gp := fun _ => trivial
  free := fun d _ _ _ s w b hs => by simp at hs
theorem guarded_some {c : Ctx} {g : GEnv} {st : St} {a : Act} {w : World} (h : GSat c N g st a w) {ops : Array Oper} {o : Oper} {j : Nat} {want : Bool} (hg : o.guard = some (j, want)) {dr : Bool} {op : Op} {d : Option Nat} {K : GEnv → St → Prop}
    (hk : guardS P tb N dr want op d K g st (dstOf ops.toList[j]?)) : ∃ ch, Guarded g st ops a o ch ∧ opV P tb N dr ch d K g st op ∧ ch ≠ [] := by
  cases hj : ops[j]? with
  | none => simp [hj, dstOf, guardS] at hk
  | some oj =>
    have hj' : ops.toList[j]? = some oj := by simpa using hj
    cases hs : oj.dst with
    | none => simp [hj', dstOf, hs, guardS] at hk
    | some s =>
      simp only [hj', dstOf, hs, guardS] at hk
      cases hl : lkG g s with
      | some cv =>
        obtain ⟨cc, ev⟩ := cv
        rw [hl] at hk
        obtain ⟨g1, g2, g3, g4⟩ := h.gv s cc ev hl
        have key : ∀ b, ev = .v (.bool b) → Guarded g st ops a o (cc ++ [(s, want, b)]) := fun b hev => by
          subst hev
          refine ⟨?_, ?_, ?_⟩
          · rw [wanted_iff hg hj hs, gA_snoc]
            refine ⟨fun e => ⟨?_, e⟩, fun e => e.2⟩
            by_cases hA : gA cc a
            · exact hA
            · rw [g2 hA] at e; simp [undef] at e
          · intro hA
            obtain ⟨h1, h2⟩ := gA_snoc.1 hA
            obtain ⟨h3, h4⟩ := g1 h1
            have h5 := h3 _ rfl
            rw [h2] at h5
            simp only [Value.bool.injEq] at h5
            exact gP_snoc h4 h5.symm
          · intro d hd1 hd2 hd3 s' w' b' hm
            rcases List.mem_append.1 hm with hm | hm
            · exact hd3 s cc _ hl s' w' b' hm
            · simp only [List.mem_singleton, Prod.mk.injEq] at hm
              obtain ⟨rfl, rfl, rfl⟩ := hm
              rintro rfl
              rw [hd1] at hl; cases hl
        cases ev with
        | v x =>
          cases x with
          | bool b => exact ⟨_, key b rfl, by simpa only [guardG] using hk, by simp⟩
          | _ => simp [guardG] at hk
        | _ => simp [guardG] at hk
      | none =>
        rw [hl] at hk
        simp only [guardG] at hk
        cases he : lk st.env s with
        | none => simp [he, guardE] at hk
        | some ev =>
          rw [he] at hk
          have key : ∀ b, ev = .v (.bool b) → Guarded g st ops a o [(s, want, b)] := fun b hev => by
            subst hev
            have h5 := h.env s _ _ hl he rfl
            have hsn : gA [(s, want, b)] a ↔ a.tmps.getD s undef = .bool want := by
              have := gA_snoc (ch := []) (s := s) (w := want) (b := b) (a := a)
              simp only [List.nil_append] at this
              rw [this]
              exact ⟨fun e => e.2, fun e => ⟨fun s w b hs => by simp at hs, e⟩⟩
            refine ⟨?_, ?_, ?_⟩
            · rw [wanted_iff hg hj hs, hsn]
            · intro hA
              have h2 := hsn.1 hA
              rw [h5] at h2
              simp only [Value.bool.injEq] at h2
              exact ⟨h2, trivial⟩
            · intro d hd1 hd2 hd3 s' w' b' hm
              simp only [List.mem_singleton, Prod.mk.injEq] at hm
              obtain ⟨rfl, rfl, rfl⟩ := hm
              rintro rfl
              rw [hd2] at he; cases he
          cases ev with
          | v x =>
            cases x with
            | bool b => exact ⟨_, key b rfl, by simpa only [guardE] using hk, by simp⟩
            | _ => simp [guardE] at hk
          | _ => simp [guardE] at hk

/-- A guard whose answer is known. -/
theorem guarded_known {c : Ctx} {g : GEnv} {st : St} {a : Act} {w : World} (h : GSat c N g st a w) {ops : Array Oper} {o : Oper} {j : Nat} {want : Bool} (hg : o.guard = some (j, want)) {dr : Bool} {op : Op} {d : Option Nat} {K : GEnv → St → Prop}
    (hk : guardK P tb N dr want op d K g st (dstOf ops.toList[j]?)) : (Region.wanted o (yielded ops a.tmps) = true ∧ opX P tb N dr d K g st op) ∨ (¬ Region.wanted o (yielded ops a.tmps) = true ∧ skipV N d K g st) := by
  cases hj : ops[j]? with
  | none => simp [hj, dstOf, guardK] at hk
  | some oj =>
    have hj' : ops.toList[j]? = some oj := by simpa using hj
    cases hs : oj.dst with
    | none => simp [hj', dstOf, hs, guardK] at hk
    | some s =>
      simp only [hj', dstOf, hs, guardK] at hk
      obtain ⟨b, h1, h2, h3⟩ := hk
      have h5 := h.env s _ _ h1 h2 rfl
      have hw := wanted_iff (tmps := a.tmps) hg hj hs
      rw [h5] at hw
      rcases h3 with ⟨rfl, h3⟩ | ⟨hne, h3⟩
      · exact .inl ⟨hw.2 rfl, h3⟩
      · exact .inr ⟨fun e => hne (hw.1 e), h3⟩
/-- An operation that is not wanted leaves a slot without a value. -/
theorem skip_sat {c : Ctx} {g : GEnv} {st : St} {a : Act} {w : World} (h : GSat c N g st a w) {d : Option Nat} {K : GEnv → St → Prop} (hk : skipV N d K g st) : ∃ g' st', K g' st' ∧ st'.F = st.F ∧ st'.rs = st.rs ∧ st'.nx = st.nx ∧ GSat c N g' st' (a.put d undef) w := by
  cases d with
  | none => exact ⟨g, st, hk, rfl, rfl, rfl, h⟩
  | some d =>
    have hA : gA [] a := fun s w b hs => by simp at hs
    obtain ⟨g', st', hK, hF, hrs, hnx, h1, _⟩ := putV_sat h (ch := []) (d := some d) (e := .v undef) (v := undef) trivial (fun _ => rfl) (fun _ => trivial) (fun d _ _ _ s w b hs => by simp at hs) hk
    exact ⟨g', st', hK, hF, hrs, hnx, h1 hA⟩

/-! ### One quiet operation, guarded or not -/
theorem quiet_op (htb : TbOK P tb) {c : Ctx} {g : GEnv} {st : St} {a : Act} {w : World} (h : GSat c N g st a w) {ch : Chain} (hgp : gA ch a → gP ch) {d : Option Nat} {K : GEnv → St → Prop} {o : Oper} (hk : opV P tb N true ch d K g st o.op) :
    ∃ e v, Quiet P st ch a o e v ∧ putV N ch d e K g st := by
  cases ho : o.op with
  | pick x y z =>
    rw [ho] at hk
    cases x with
    | tmp s => exact pick_quiet h ho hk
    | _ => exact hk.elim
  | load t x =>
    rw [ho] at hk
    obtain ⟨e, v, h1, h2⟩ := load_quiet htb h hgp ho hk
    exact ⟨e, v, h1, h2⟩
  | call cc =>
    rw [ho] at hk
    obtain ⟨callee, args, ts⟩ := cc
    cases callee with
    | value f =>
      simp only [opV] at hk
      cases hf : opd st.rs g st.env ch f with
      | none => simp [hf, callGo] at hk
      | some ef =>
        cases hx : vals st.rs (opd st.rs g st.env ch) args.toList with
        | none => rw [hf, hx] at hk; cases ef with
          | v x => cases x with
            | func fn p q => cases fn <;> simp [callGo] at hk
            | _ => simp [callGo] at hk
          | _ => simp [callGo] at hk
        | some xs =>
          rw [hf, hx] at hk
          cases ef with
          | v x =>
            cases x with
            | func fn p q =>
              cases fn with
              | func n =>
                simp only [callGo, callV] at hk
                exact call_quiet h hgp ho hf hx hk.1 hk.2
              | _ => simp [callGo] at hk
            | _ => simp [callGo] at hk
          | _ => simp [callGo] at hk
    | builtin b => exact pure_quiet htb h hgp (by rw [ho]; exact hk)
    | invoke r m => exact hk.elim
  | alloc t => rw [ho] at hk; simp [opV] at hk
  | box t x => rw [ho] at hk; simp [opV] at hk
  | store t x y => rw [ho] at hk; simp [opV] at hk
  | buildSlice t n ps => rw [ho] at hk; simp [opV] at hk
  | move x => exact pure_quiet htb h hgp (by rw [ho] at hk ⊢; exact hk)
  | assign x => exact pure_quiet htb h hgp (by rw [ho] at hk ⊢; exact hk)
  | build _ _ => exact pure_quiet htb h hgp (by rw [ho] at hk ⊢; exact hk)
  | nilCheck _ => exact pure_quiet htb h hgp (by rw [ho] at hk ⊢; exact hk)
  | binOp _ _ _ _ _ => exact pure_quiet htb h hgp (by rw [ho] at hk ⊢; exact hk)
  | unOp _ _ _ => exact pure_quiet htb h hgp (by rw [ho] at hk ⊢; exact hk)
  | convert _ _ _ => exact pure_quiet htb h hgp (by rw [ho] at hk ⊢; exact hk)
  | makeFunc _ _ _ => exact pure_quiet htb h hgp (by rw [ho] at hk ⊢; exact hk)
  | slice _ _ _ _ _ => exact pure_quiet htb h hgp (by rw [ho] at hk ⊢; exact hk)
  | fieldAddr _ _ _ => exact pure_quiet htb h hgp (by rw [ho] at hk ⊢; exact hk)
  | field _ _ _ => exact pure_quiet htb h hgp (by rw [ho] at hk ⊢; exact hk)
  | indexAddr _ _ _ => exact pure_quiet htb h hgp (by rw [ho] at hk ⊢; exact hk)
  | index _ _ _ => exact pure_quiet htb h hgp (by rw [ho] at hk ⊢; exact hk)
  | extract _ _ => exact pure_quiet htb h hgp (by rw [ho] at hk ⊢; exact hk)
  | _ => rw [ho] at hk; exact hk.elim
/-- One quiet operation of a region, guarded or not: what it gives wherever CC holds, and the state behind it. -/
theorem quiet_step (htb : TbOK P tb) {c : Ctx} {g : GEnv} {st : St} {a : Act} {w : World} (h : GSat c N g st a w) {ops : Array Oper} {o : Oper} {K : GEnv → St → Prop} (hk : stepV P tb N true ops.toList o.op o.dst K g st o.guard) :
    ∃ v g2 st2, K g2 st2 ∧ st2.F = st.F ∧ st2.rs = st.rs ∧ st2.nx = st.nx ∧ (Region.wanted o (yielded ops a.tmps) = true → (∀ CC : World → Prop, Rd st CC → ∀ w', CC w' → o.quietAt P a CC w' v) ∧ GSat c N g2 st2 (a.put o.dst v) w) ∧ (¬ Region.wanted o (yielded ops a.tmps) = true → GSat c N g2 st2 (a.put o.dst undef) w) := by
  have go : ∀ ch, Guarded g st ops a o ch → opV P tb N true ch o.dst K g st o.op → ∃ v g2 st2, K g2 st2 ∧ st2.F = st.F ∧ st2.rs = st.rs ∧ st2.nx = st.nx ∧ (Region.wanted o (yielded ops a.tmps) = true → (∀ CC : World → Prop, Rd st CC → ∀ w', CC w' → o.quietAt P a CC w' v) ∧ GSat c N g2 st2 (a.put o.dst v) w) ∧ (¬ Region.wanted o (yielded ops a.tmps) = true → GSat c N g2 st2 (a.put o.dst undef) w) := fun ch hG hop => by
    obtain ⟨e, v, hq, hp⟩ := quiet_op htb h hG.gp hop
    obtain ⟨g', st', hK, hF, hrs, hnx, h1, h2⟩ := putV_sat h hq.lt hq.val hG.gp hG.free hp
    exact ⟨v, g', st', hK, hF, hrs, hnx, fun hw => ⟨hq.run (hG.wanted.1 hw), h1 (hG.wanted.1 hw)⟩, fun hw => h2 (fun hA => hw (hG.wanted.2 hA))⟩
  cases hg : o.guard with
  | none =>
    rw [hg] at hk
    rcases hk with hk | ⟨hk, _⟩ | ⟨hk, _⟩
    · exact go [] (guarded_none hg) hk
    · cases hk
    · cases hk
  | some jw =>
    obtain ⟨j, want⟩ := jw
    rw [hg] at hk
    rcases hk with hk | hk
    · obtain ⟨ch, h1, h2, _⟩ := guarded_some h hg hk
      exact go ch h1 h2
    · rcases guarded_known h hg hk with ⟨hw, hk | ⟨hk, _⟩ | ⟨hk, _⟩⟩ | ⟨hw, hk⟩
      · obtain ⟨e, v, hq, hp⟩ := quiet_op htb h (ch := []) (fun _ => trivial) hk
        have hA : gA [] a := fun s w b hs => by simp at hs
        obtain ⟨g', st', hK, hF, hrs, hnx, h1, _⟩ := putV_sat h (ch := []) hq.lt hq.val (fun _ => trivial) (fun d _ _ _ s w b hs => by simp at hs) hp
        exact ⟨v, g', st', hK, hF, hrs, hnx, fun _ => ⟨hq.run hA, h1 hA⟩, fun hn => absurd hw hn⟩
      · cases hk
      · cases hk
      · obtain ⟨g', st', h1, hF, hrs, hnx, h2⟩ := skip_sat h hk
        exact ⟨undef, g', st', h1, hF, hrs, hnx, fun hn => absurd hn hw, fun _ => h2⟩
end Go.TR
/-!
A small program logic of our own for the model. Part c: the evaluator's steps as lemmas, one a kind of operation; each is used by 'refine'. Nothing here speaks of one program.
-/
namespace Go.TR
section
variable {P : Program} {tb : Tb} {N : Nat} {dr : Bool} {all rest : List Oper} {K : GEnv → St → Prop} {KK : Exit → St → Prop} {g : GEnv} {st : St}

/-- The same list, its cells laid out one by one (so that a unifier that goes to the head alone lays all of it out). -/
def forceL {α : Type} : List α → Option (List α)
  | [] => some []
  | x :: t => match forceL t with
    | some l => some (x :: l)
    | none => none
theorem forceL_eq {α : Type} : ∀ l : List α, forceL l = some l
  | [] => rfl
  | x :: t => by simp only [forceL, forceL_eq t]
def aggF (ob : Prop) (cs : Array Value) : PV :=
  match forceL cs.toList with
  | some l => some (ob, .v (.agg l.toArray))
  | none => none
def normPV : PV → PV
  | some (ob, .v (.agg cs)) => aggF ob cs
  | some (ob, .v (.bool x)) => some (ob, .v (.bool x))
  | some (ob, .v (.int k x)) => some (ob, .v (.int k x))
  | some (ob, .v x) => some (ob, .v x)
  | some (ob, .loc i o) => some (ob, .loc i o)
  | some (ob, .row i o n c) => some (ob, .row i o n c)
  | none => none
theorem normPV_eq (p : PV) : normPV p = p := by
  unfold normPV
  split <;> try rfl
  rename_i ob cs
  simp only [aggF, forceL_eq]
def isPure : Op → Bool
  | .move _ | .assign _ | .build _ _ | .nilCheck _ | .binOp _ _ _ _ _ | .unOp _ _ _ | .convert _ _ _ | .makeFunc _ _ _ | .slice _ _ _ _ _ | .fieldAddr _ _ _ | .field _ _ _
  | .indexAddr _ _ _ | .index _ _ _ | .extract _ _ => true
  | .call ⟨.builtin _, _, _⟩ => true
  | _ => false
theorem opV_pure {op : Op} (h : isPure op = true) {ch : Chain} {d : Option Nat} {K : GEnv → St → Prop} : opV P tb N dr ch d K g st op = putO N (pv tb st.rs (opd st.rs g st.env ch) op) ch d K g st := by
  cases op <;> first | rfl | cases h | skip
  rename_i c
  obtain ⟨c, a, t⟩ := c
  cases c <;> first | rfl | cases h

/-- An unguarded pure operation without a condition. -/
theorem s_pure {d : Nat} {op : Op} {ty : TypeId} {pos : String} {af : Array Edge} {env : Env} {F : Hp} {rs : RL} {nx : Nat} {e : EV} (hp : isPure op = true) (h : normPV (pv tb rs (opd rs [] env []) op) = some (True, e)) (hd : Nat.blt d N = true)
    (k : vcOps P tb N dr all rest K [] ⟨(d, e) :: env, F, rs, nx⟩) : vcOps P tb N dr all (⟨some d, op, ty, pos, af, none⟩ :: rest) K [] ⟨env, F, rs, nx⟩ := by
  have hd' : d < N := by simpa using hd
  rw [normPV_eq] at h
  refine .inl ?_
  simp only [opV_pure hp, h, putO, putV, imp]
  exact ⟨trivial, hd', k⟩
theorem s_pureG {d : Nat} {op : Op} {ty : TypeId} {pos : String} {af : Array Edge} {env : Env} {F : Hp} {rs : RL} {nx : Nat} {x : Nat × Chain × EV} {e : EV} (hp : isPure op = true) (h : normPV (pv tb rs (opd rs (x :: g) env []) op) = some (True, e)) (hd : Nat.blt d N = true) (hc : chainFree d (x :: g) = true)
    (k : vcOps P tb N dr all rest K (x :: g) ⟨(d, e) :: env, F, rs, nx⟩) : vcOps P tb N dr all (⟨some d, op, ty, pos, af, none⟩ :: rest) K (x :: g) ⟨env, F, rs, nx⟩ := by
  have hd' : d < N := by simpa using hd
  rw [normPV_eq] at h
  refine .inl ?_
  simp only [opV_pure hp, h, putO, putV, imp]
  exact ⟨trivial, hd', hc, k⟩
/-- .. with a condition. -/
theorem s_pureO {d : Nat} {op : Op} {ty : TypeId} {pos : String} {af : Array Edge} {env : Env} {F : Hp} {rs : RL} {nx : Nat} {e : EV} {ob : Prop} (hp : isPure op = true) (h : normPV (pv tb rs (opd rs [] env []) op) = some (ob, e)) (hd : Nat.blt d N = true) (ho : ob)
    (k : vcOps P tb N dr all rest K [] ⟨(d, e) :: env, F, rs, nx⟩) : vcOps P tb N dr all (⟨some d, op, ty, pos, af, none⟩ :: rest) K [] ⟨env, F, rs, nx⟩ := by
  have hd' : d < N := by simpa using hd
  rw [normPV_eq] at h
  refine .inl ?_
  simp only [opV_pure hp, h, putO, putV, imp]
  exact ⟨ho, hd', k⟩
/-- The chain of an operation that is guarded by the answer of operation j. -/
def chainOf (all : List Oper) (g : GEnv) (env : Env) (j : Nat) (want : Bool) : Option Chain :=
  match dstOf all[j]? with
  | some s => (match lkG g s with
    | some (c, .v (.bool b)) => some (c ++ [(s, want, b)])
    | some _ => none
    | none => (match lk env s with
      | some (.v (.bool b)) => some [(s, want, b)]
      | _ => none))
  | none => none
theorem stepV_guard {op : Op} {d : Option Nat} {K : GEnv → St → Prop} {j : Nat} {want : Bool} {ch : Chain} (h : chainOf all g st.env j want = some ch) (k : opV P tb N dr ch d K g st op) : stepV P tb N dr all op d K g st (some (j, want)) := by
  suffices e : guardS P tb N dr want op d K g st (dstOf all[j]?) = opV P tb N dr ch d K g st op from .inl (by rw [e]; exact k)
  unfold chainOf at h
  cases hd : dstOf all[j]? with
  | none => simp [hd] at h
  | some s =>
    simp only [hd] at h
    simp only [guardS]
    cases hg : lkG g s with
    | some cv =>
      obtain ⟨c, ev⟩ := cv
      simp only [hg] at h
      cases ev with
      | v x => cases x <;> simp at h <;> subst h <;> rfl
      | loc _ _ => simp at h
      | row _ _ _ _ => simp at h
    | none =>
      simp only [hg] at h
      simp only [guardG]
      cases he : lk st.env s with
      | none => simp [he] at h
      | some ev =>
        simp only [he] at h
        cases ev with
        | v x => cases x <;> simp at h <;> subst h <;> rfl
        | loc _ _ => simp at h
        | row _ _ _ _ => simp at h
theorem s_gpure {d j : Nat} {want : Bool} {op : Op} {ty : TypeId} {pos : String} {af : Array Edge} {env : Env} {F : Hp} {rs : RL} {nx : Nat} {e : EV} {c : Nat × Bool × Bool} {ch : Chain} (hp : isPure op = true) (hg : chainOf all g env j want = some (c :: ch))
    (h : normPV (pv tb rs (opd rs g env (c :: ch)) op) = some (True, e)) (hd : Nat.blt d N = true) (hc : (chainFree d g && envFree d env) = true)
    (k : vcOps P tb N dr all rest K ((d, c :: ch, e) :: g) ⟨env, F, rs, nx⟩) : vcOps P tb N dr all (⟨some d, op, ty, pos, af, some (j, want)⟩ :: rest) K g ⟨env, F, rs, nx⟩ := by
  have hd' : d < N := by simpa using hd
  rw [normPV_eq] at h
  refine stepV_guard (st := ⟨env, F, rs, nx⟩) hg ?_
  simp only [opV_pure hp, h, putO, putV, imp]
  exact ⟨fun _ => trivial, hd', hc, k⟩
theorem s_gpureO {d j : Nat} {want : Bool} {op : Op} {ty : TypeId} {pos : String} {af : Array Edge} {env : Env} {F : Hp} {rs : RL} {nx : Nat} {e : EV} {c : Nat × Bool × Bool} {ch : Chain} {ob : Prop} (hp : isPure op = true) (hg : chainOf all g env j want = some (c :: ch))
    (h : normPV (pv tb rs (opd rs g env (c :: ch)) op) = some (ob, e)) (hd : Nat.blt d N = true) (hc : (chainFree d g && envFree d env) = true) (ho : gP (c :: ch) → ob)
    (k : vcOps P tb N dr all rest K ((d, c :: ch, e) :: g) ⟨env, F, rs, nx⟩) : vcOps P tb N dr all (⟨some d, op, ty, pos, af, some (j, want)⟩ :: rest) K g ⟨env, F, rs, nx⟩ := by
  have hd' : d < N := by simpa using hd
  rw [normPV_eq] at h
  refine stepV_guard (st := ⟨env, F, rs, nx⟩) hg ?_
  simp only [opV_pure hp, h, putO, putV, imp]
  exact ⟨ho, hd', hc, k⟩
/-- The merge of '&&', '||'. -/
def pickE (rs : RL) (g : GEnv) (env : Env) (ch : Chain) (c : Nat) (a b : Operand) : Option Bool :=
  match opd rs g env ch (.tmp c) with
  | some (.v (.bool t)) => (match opd rs g env (ch ++ [(c, true, t)]) a, opd rs g env (ch ++ [(c, false, t)]) b with
    | some (.v (.bool x)), some (.v (.bool y)) => some (bpick t x y)
    | _, _ => none)
  | _ => none
theorem opV_pick {ch : Chain} {d : Option Nat} {K : GEnv → St → Prop} {c : Nat} {a b : Operand} {r : Bool} (h : pickE st.rs g st.env ch c a b = some r) (k : putV N ch d (.v (.bool r)) K g st) : opV P tb N dr ch d K g st (.pick (.tmp c) a b) := by
  left
  unfold pickE at h
  split at h
  · rename_i t ht
    simp only [ht, pickTo]
    split at h
    · rename_i x y hx hy
      simp only [hx, hy, pickGo]
      simp only [Option.some.injEq] at h
      subst h
      exact k
    · simp at h
  · simp at h
/-- The merge where the answer is known. -/
def pickKE (rs : RL) (g : GEnv) (env : Env) (ch : Chain) (c : Nat) (a b : Operand) : Option EV :=
  match opd rs g env ch (.tmp c) with
  | some (.v (.bool true)) => opd rs g env ch a
  | some (.v (.bool false)) => opd rs g env ch b
  | _ => none
theorem opV_pickK {ch : Chain} {d : Option Nat} {K : GEnv → St → Prop} {c : Nat} {a b : Operand} {e : EV} (h : pickKE st.rs g st.env ch c a b = some e) (k : putV N ch d e K g st) : opV P tb N dr ch d K g st (.pick (.tmp c) a b) := by
  right
  unfold pickKE at h
  split at h
  · rename_i ht
    simp only [ht, pickN, h, pickO]
    exact k
  · rename_i ht
    simp only [ht, pickN, h, pickO]
    exact k
  · simp at h
theorem s_pickK {d c : Nat} {a b : Operand} {ty : TypeId} {pos : String} {af : Array Edge} {env : Env} {F : Hp} {rs : RL} {nx : Nat} {e : EV} (h : pickKE rs [] env [] c a b = some e) (hd : Nat.blt d N = true)
    (k : vcOps P tb N dr all rest K [] ⟨(d, e) :: env, F, rs, nx⟩) : vcOps P tb N dr all (⟨some d, .pick (.tmp c) a b, ty, pos, af, none⟩ :: rest) K [] ⟨env, F, rs, nx⟩ := by
  have hd' : d < N := by simpa using hd
  refine .inl (opV_pickK (st := ⟨env, F, rs, nx⟩) h ?_)
  simp only [putV]
  exact ⟨hd', k⟩
theorem s_pick {d c : Nat} {a b : Operand} {ty : TypeId} {pos : String} {af : Array Edge} {env : Env} {F : Hp} {rs : RL} {nx : Nat} {x : Nat × Chain × EV} {r : Bool} (h : pickE rs (x :: g) env [] c a b = some r) (hd : Nat.blt d N = true) (hc : chainFree d (x :: g) = true)
    (k : vcOps P tb N dr all rest K (x :: g) ⟨(d, .v (.bool r)) :: env, F, rs, nx⟩) : vcOps P tb N dr all (⟨some d, .pick (.tmp c) a b, ty, pos, af, none⟩ :: rest) K (x :: g) ⟨env, F, rs, nx⟩ := by
  have hd' : d < N := by simpa using hd
  refine .inl (opV_pick (st := ⟨env, F, rs, nx⟩) h ?_)
  simp only [putV]
  exact ⟨hd', hc, k⟩
theorem s_pick0 {d c : Nat} {a b : Operand} {ty : TypeId} {pos : String} {af : Array Edge} {env : Env} {F : Hp} {rs : RL} {nx : Nat} {r : Bool} (h : pickE rs [] env [] c a b = some r) (hd : Nat.blt d N = true)
    (k : vcOps P tb N dr all rest K [] ⟨(d, .v (.bool r)) :: env, F, rs, nx⟩) : vcOps P tb N dr all (⟨some d, .pick (.tmp c) a b, ty, pos, af, none⟩ :: rest) K [] ⟨env, F, rs, nx⟩ := by
  have hd' : d < N := by simpa using hd
  refine .inl (opV_pick (st := ⟨env, F, rs, nx⟩) h ?_)
  simp only [putV]
  exact ⟨hd', k⟩
theorem s_gpick {d j c : Nat} {want : Bool} {a b : Operand} {ty : TypeId} {pos : String} {af : Array Edge} {env : Env} {F : Hp} {rs : RL} {nx : Nat} {cc : Nat × Bool × Bool} {ch : Chain} {r : Bool} (hg : chainOf all g env j want = some (cc :: ch)) (h : pickE rs g env (cc :: ch) c a b = some r) (hd : Nat.blt d N = true) (hc : (chainFree d g && envFree d env) = true)
    (k : vcOps P tb N dr all rest K ((d, cc :: ch, .v (.bool r)) :: g) ⟨env, F, rs, nx⟩) : vcOps P tb N dr all (⟨some d, .pick (.tmp c) a b, ty, pos, af, some (j, want)⟩ :: rest) K g ⟨env, F, rs, nx⟩ := by
  have hd' : d < N := by simpa using hd
  refine stepV_guard (st := ⟨env, F, rs, nx⟩) hg (opV_pick (st := ⟨env, F, rs, nx⟩) h ?_)
  simp only [putV]
  exact ⟨hd', hc, k⟩

/-! Guards whose answer is known. -/
theorem s_known {d : Option Nat} {j s : Nat} {want : Bool} {op : Op} {ty : TypeId} {pos : String} {af : Array Edge} (hs : dstOf all[j]? = some s) (h1 : lkG g s = none) (h2 : lk st.env s = some (.v (.bool want)))
    (k : vcOps P tb N dr all (⟨d, op, ty, pos, af, none⟩ :: rest) K g st) : vcOps P tb N dr all (⟨d, op, ty, pos, af, some (j, want)⟩ :: rest) K g st := by
  simp only [vcOps, stepV] at k ⊢
  right
  rw [hs]
  exact ⟨.bool want, h1, h2, .inl ⟨rfl, k⟩⟩
theorem s_unwanted0 {d j s : Nat} {want : Bool} {op : Op} {ty : TypeId} {pos : String} {af : Array Edge} {env : Env} {F : Hp} {rs : RL} {nx : Nat} {b : Value} (hs : dstOf all[j]? = some s) (h2 : lk env s = some (.v b)) (hb : b ≠ .bool want) (hd : Nat.blt d N = true)
    (k : vcOps P tb N dr all rest K [] ⟨(d, .v (.tuple #[])) :: env, F, rs, nx⟩) : vcOps P tb N dr all (⟨some d, op, ty, pos, af, some (j, want)⟩ :: rest) K [] ⟨env, F, rs, nx⟩ := by
  have hd' : d < N := by simpa using hd
  simp only [vcOps, stepV]
  right
  rw [hs]
  refine ⟨b, rfl, h2, .inr ⟨hb, ?_⟩⟩
  simp only [skipV, putV]
  exact ⟨hd', k⟩
theorem s_unwantedG0 {d j s : Nat} {want : Bool} {op : Op} {ty : TypeId} {pos : String} {af : Array Edge} {env : Env} {F : Hp} {rs : RL} {nx : Nat} {b : Value} {x : Nat × Chain × EV} (hs : dstOf all[j]? = some s) (h1 : lkG (x :: g) s = none) (h2 : lk env s = some (.v b)) (hb : b ≠ .bool want) (hd : Nat.blt d N = true) (hc : chainFree d (x :: g) = true)
    (k : vcOps P tb N dr all rest K (x :: g) ⟨(d, .v (.tuple #[])) :: env, F, rs, nx⟩) : vcOps P tb N dr all (⟨some d, op, ty, pos, af, some (j, want)⟩ :: rest) K (x :: g) ⟨env, F, rs, nx⟩ := by
  have hd' : d < N := by simpa using hd
  simp only [vcOps, stepV]
  right
  rw [hs]
  refine ⟨b, h1, h2, .inr ⟨hb, ?_⟩⟩
  simp only [skipV, putV]
  exact ⟨hd', hc, k⟩
theorem bool_ne {want : Bool} : (Value.bool (!want)) ≠ .bool want := by cases want <;> simp
theorem s_unwanted {d j s : Nat} {want : Bool} {op : Op} {ty : TypeId} {pos : String} {af : Array Edge} {env : Env} {F : Hp} {rs : RL} {nx : Nat} (hs : dstOf all[j]? = some s) (h2 : lk env s = some (.v (.bool (!want)))) (hd : Nat.blt d N = true)
    (k : vcOps P tb N dr all rest K [] ⟨(d, .v (.tuple #[])) :: env, F, rs, nx⟩) : vcOps P tb N dr all (⟨some d, op, ty, pos, af, some (j, want)⟩ :: rest) K [] ⟨env, F, rs, nx⟩ := s_unwanted0 hs h2 bool_ne hd k
theorem s_unwantedG {d j s : Nat} {want : Bool} {op : Op} {ty : TypeId} {pos : String} {af : Array Edge} {env : Env} {F : Hp} {rs : RL} {nx : Nat} {x : Nat × Chain × EV} (hs : dstOf all[j]? = some s) (h1 : lkG (x :: g) s = none) (h2 : lk env s = some (.v (.bool (!want)))) (hd : Nat.blt d N = true) (hc : chainFree d (x :: g) = true)
    (k : vcOps P tb N dr all rest K (x :: g) ⟨(d, .v (.tuple #[])) :: env, F, rs, nx⟩) : vcOps P tb N dr all (⟨some d, op, ty, pos, af, some (j, want)⟩ :: rest) K (x :: g) ⟨env, F, rs, nx⟩ := s_unwantedG0 hs h1 h2 bool_ne hd hc k
/-- The guard is an operation that was not wanted itself. -/
theorem s_unwantedU {d j s : Nat} {want : Bool} {op : Op} {ty : TypeId} {pos : String} {af : Array Edge} {env : Env} {F : Hp} {rs : RL} {nx : Nat} (hs : dstOf all[j]? = some s) (h2 : lk env s = some (.v (.tuple #[]))) (hd : Nat.blt d N = true)
    (k : vcOps P tb N dr all rest K [] ⟨(d, .v (.tuple #[])) :: env, F, rs, nx⟩) : vcOps P tb N dr all (⟨some d, op, ty, pos, af, some (j, want)⟩ :: rest) K [] ⟨env, F, rs, nx⟩ := s_unwanted0 hs h2 (by simp) hd k
theorem s_unwantedUG {d j s : Nat} {want : Bool} {op : Op} {ty : TypeId} {pos : String} {af : Array Edge} {env : Env} {F : Hp} {rs : RL} {nx : Nat} {x : Nat × Chain × EV} (hs : dstOf all[j]? = some s) (h1 : lkG (x :: g) s = none) (h2 : lk env s = some (.v (.tuple #[]))) (hd : Nat.blt d N = true) (hc : chainFree d (x :: g) = true)
    (k : vcOps P tb N dr all rest K (x :: g) ⟨(d, .v (.tuple #[])) :: env, F, rs, nx⟩) : vcOps P tb N dr all (⟨some d, op, ty, pos, af, some (j, want)⟩ :: rest) K (x :: g) ⟨env, F, rs, nx⟩ := s_unwantedG0 hs h1 h2 (by simp) hd hc k

/-! Loads out of owned blocks. -/
def locE (tb : Tb) (rs : RL) (t : TypeId) (a : Option EV) : Option EV :=
  match tb t, a with
  | some i, some (.loc id off) => (match lkR rs id with
    | some r => (match i.kind.agg with
      | true => (match Nat.ble (off + i.size) r.cells.length with
        | true => (match allV rs ((r.cells.take (off + i.size)).drop off) with
          | some cs => some (.v (.agg cs.toArray))
          | none => none)
        | false => none)
      | false => aliveO rs r.cells[off]?)
    | none => none)
  | _, _ => none
theorem loadGo_loc {F : Hp} {rs : RL} {ch : Chain} {K : EV → Prop} {t : TypeId} {a : Option EV} {e : EV} (h : locE tb rs t a = some e) : loadGo F rs ch K (tb t) a = K e := by
  unfold locE at h
  split at h
  · rename_i i id off ht
    simp only [ht, loadGo]
    split at h
    · rename_i r hr
      simp only [hr]
      split at h
      · rename_i ha
        simp only [ha, loadL]
        split at h
        · rename_i hb
          have hb' : off + i.size ≤ r.cells.length := by simpa using hb
          split at h
          · rename_i cs hcs
            simp only [hcs, optL]
            simp only [Option.some.injEq] at h
            subst h
            simp [hb']
          · simp at h
        · simp at h
      · rename_i ha
        simp only [ha, loadL, h, optV]
    · simp at h
  · simp at h
theorem s_loc {d : Nat} {t : TypeId} {a : Operand} {ty : TypeId} {pos : String} {af : Array Edge} {env : Env} {F : Hp} {rs : RL} {nx : Nat} {e : EV} (h : locE tb rs t (opd rs [] env [] a) = some e) (hd : Nat.blt d N = true)
    (k : vcOps P tb N dr all rest K [] ⟨(d, e) :: env, F, rs, nx⟩) : vcOps P tb N dr all (⟨some d, .load t a, ty, pos, af, none⟩ :: rest) K [] ⟨env, F, rs, nx⟩ := by
  have hd' : d < N := by simpa using hd
  refine .inl ?_
  simp only [opV, loadGo_loc h, putK, putV]
  exact ⟨hd', k⟩
theorem s_locG {d : Nat} {t : TypeId} {a : Operand} {ty : TypeId} {pos : String} {af : Array Edge} {env : Env} {F : Hp} {rs : RL} {nx : Nat} {x : Nat × Chain × EV} {e : EV} (h : locE tb rs t (opd rs (x :: g) env [] a) = some e) (hd : Nat.blt d N = true) (hc : chainFree d (x :: g) = true)
    (k : vcOps P tb N dr all rest K (x :: g) ⟨(d, e) :: env, F, rs, nx⟩) : vcOps P tb N dr all (⟨some d, .load t a, ty, pos, af, none⟩ :: rest) K (x :: g) ⟨env, F, rs, nx⟩ := by
  have hd' : d < N := by simpa using hd
  refine .inl ?_
  simp only [opV, loadGo_loc h, putK, putV]
  exact ⟨hd', hc, k⟩
theorem s_gloc {d j : Nat} {want : Bool} {t : TypeId} {a : Operand} {ty : TypeId} {pos : String} {af : Array Edge} {env : Env} {F : Hp} {rs : RL} {nx : Nat} {e : EV} {c : Nat × Bool × Bool} {ch : Chain} (hg : chainOf all g env j want = some (c :: ch))
    (h : locE tb rs t (opd rs g env (c :: ch) a) = some e) (hd : Nat.blt d N = true) (hc : (chainFree d g && envFree d env) = true)
    (k : vcOps P tb N dr all rest K ((d, c :: ch, e) :: g) ⟨env, F, rs, nx⟩) : vcOps P tb N dr all (⟨some d, .load t a, ty, pos, af, some (j, want)⟩ :: rest) K g ⟨env, F, rs, nx⟩ := by
  have hd' : d < N := by simpa using hd
  refine stepV_guard (st := ⟨env, F, rs, nx⟩) hg ?_
  simp only [opV, loadGo_loc h, putK, putV]
  exact ⟨hd', hc, k⟩

/-! New blocks. -/
theorem s_box {d : Nat} {t : TypeId} {x : Operand} {ty : TypeId} {pos : String} {af : Array Edge} {env : Env} {F : Hp} {rs : RL} {nx : Nat} {e : EV} {cells : List EV} {n : Nat} (h : opd rs [] env [] x = some e) (hc' : forceL (cellsOf e) = some cells) (hn : cells.length = n) (hd : Nat.blt d N = true)
    (k : ∀ b, vcOps P tb N false all rest K [] ⟨(d, .loc nx 0) :: env, F, (nx, ⟨some b, cells, t, n⟩) :: rs, nx + 1⟩) : vcOps P tb N false all (⟨some d, .box t x, ty, pos, af, none⟩ :: rest) K [] ⟨env, F, rs, nx⟩ := by
  have hd' : d < N := by simpa using hd
  rw [forceL_eq, Option.some.injEq] at hc'
  subst hc' hn
  refine .inl ?_
  simp only [opV, h, boxGo, newV, putV]
  exact ⟨trivial, trivial, fun b => ⟨hd', k b⟩⟩
theorem s_alloc {d : Nat} {t : TypeId} {ty : TypeId} {pos : String} {af : Array Edge} {env : Env} {F : Hp} {rs : RL} {nx : Nat} {i : TI} {cells : List EV} {n : Nat} (h : tb t = some i) (hc' : forceL (i.zero.map EV.v) = some cells) (hn : cells.length = n) (hd : Nat.blt d N = true)
    (k : ∀ b, vcOps P tb N false all rest K [] ⟨(d, .loc nx 0) :: env, F, (nx, ⟨some b, cells, t, n⟩) :: rs, nx + 1⟩) : vcOps P tb N false all (⟨some d, .alloc t, ty, pos, af, none⟩ :: rest) K [] ⟨env, F, rs, nx⟩ := by
  have hd' : d < N := by simpa using hd
  rw [forceL_eq, Option.some.injEq] at hc'
  subst hc' hn
  refine .inl ?_
  simp only [opV, h, allocGo, newV, putV]
  exact ⟨trivial, trivial, fun b => ⟨hd', k b⟩⟩
def storeE (tb : Tb) (rs : RL) (t : TypeId) (a x : Option EV) : Option RL :=
  match tb t, a, x with
  | some i, some (.loc id off), some e => (match lkR rs id with
    | some r => (match Nat.beq (cellsOf e).length i.size && ((cellsOf e).all one && Nat.ble (off + i.size) r.cells.length) with
      | true => (match forceL (r.cells.take off ++ cellsOf e ++ r.cells.drop (off + i.size)) with
        | some cs => forceL (setR rs id ⟨r.blk, cs, r.ty, r.cap⟩)
        | none => none)
      | false => none)
    | none => none)
  | _, _, _ => none
theorem s_store {t : TypeId} {a x : Operand} {ty : TypeId} {pos : String} {af : Array Edge} {env : Env} {F : Hp} {rs rs' : RL} {nx : Nat} (h : storeE tb rs t (opd rs g env [] a) (opd rs g env [] x) = some rs')
    (k : vcOps P tb N false all rest K g ⟨env, F, rs', nx⟩) : vcOps P tb N false all (⟨none, .store t a x, ty, pos, af, none⟩ :: rest) K g ⟨env, F, rs, nx⟩ := by
  refine .inl ?_
  simp only [opV]
  unfold storeE at h
  split at h
  · rename_i i id off e h1 h2 h3
    split at h
    · rename_i r hr
      split at h
      · rename_i hb
        simp only [Bool.and_eq_true, Nat.beq_eq, Nat.ble_eq] at hb
        simp only [forceL_eq, Option.some.injEq] at h
        subst h
        simp only [h1, h2, h3, storeGo, hr, storeIn]
        exact ⟨trivial, trivial, trivial, hb.1, hb.2.1, hb.2.2, k⟩
      · simp at h
    · simp at h
  · simp at h

/-! Code. -/
theorem s_nil (k : K g st) : vcOps P tb N dr all [] K g st := k
theorem s_drop {K : St → Prop} (k : K st) : dropG K g st := k
theorem VS.id {G : St → Prop} (h : G st) : VS N g st G := fun _ _ _ hs => ⟨st, hs, h⟩
theorem s_region {id : Nat} {l : List Oper} (k : vcOps P tb N false l l (dropG (KK .normal)) [] st) : vc P tb N (.region id l.toArray false) KK st := VS.id (.inl ⟨fun h => (by cases h), k⟩)
theorem s_regiond {id : Nat} {l : List Oper} (h : Region.lexB .any l.toArray = true) (k : vcOps P tb N true l l (dropG (KK .normal)) [] st) : vc P tb N (.region id l.toArray true) KK st := VS.id (.inl ⟨fun _ => h, k⟩)
/-- A region that draws its order but for its last operations, from number n on. -/
theorem s_regiont {id : Nat} {l : List Oper} (n : Nat) {l1 l2 : List Oper} (h : Region.lexTailB .any l.toArray n = true) (h1 : l.take n = l1) (h2 : l.drop n = l2) (k : vcOps P tb N true l l1 (dropG (vcOps P tb N false l l2 (dropG (KK .normal)) [])) [] st) : vc P tb N (.region id l.toArray true) KK st := VS.id (.inr (.inl ⟨n, h, by subst h1 h2; exact k⟩))
/-- At a region's beginning memory may be named anew. -/
theorem s_vs {id : Nat} {ops : Array Oper} {b : Bool} (h : VS N [] st fun st => vc P tb N (.region id ops b) KK st) : vc P tb N (.region id ops b) KK st := fun c a w hs => by
  obtain ⟨st1, h1, h2⟩ := h c a w hs
  exact h2 c a w h1
/-- A region that draws its order, operation by operation. -/
theorem s_regiona {id : Nat} {l : List Oper} (kept : List Nat) (h : Region.noSelect l.toArray = true) (k : vcAny P tb N l.toArray kept (KK .normal) (l.toArray.size + 1) l.toArray.size (Array.replicate l.toArray.size false) [] st) : vc P tb N (.region id l.toArray true) KK st := VS.id (.inr (.inr ⟨rfl, h, kept, k⟩))
theorem s_seq {x y : Code} (k : vc P tb N x (seqK (vc P tb N y KK) KK) st) : vc P tb N (.seq x y) KK st := k
theorem s_block {id : Nat} {x : Code} (k : vc P tb N x (blockK id KK) st) : vc P tb N (.block id x) KK st := k
theorem s_skip (k : KK .normal st) : vc P tb N .skip KK st := k
theorem s_ret (k : KK .ret st) : vc P tb N .ret KK st := k
theorem s_exit {id : Nat} (k : KK (.exit id) st) : vc P tb N (.exit id) KK st := k
theorem s_seqn {G : St → Prop} (k : G st) : seqK G KK .normal st := k
theorem s_seqr {G : St → Prop} (k : KK .ret st) : seqK G KK .ret st := k
theorem s_seqe {G : St → Prop} {id : Nat} (k : KK (.exit id) st) : seqK G KK (.exit id) st := k
theorem s_blockn {id : Nat} (k : KK .normal st) : blockK id KK .normal st := k
theorem s_blockr {id : Nat} (k : KK .ret st) : blockK id KK .ret st := k
theorem s_blocke {id : Nat} (k : KK .normal st) : blockK id KK (.exit id) st := by simp only [blockK, beq_self_eq_true, exitK]; exact k
theorem s_blocko {id j : Nat} (h : (j == id) = false) (k : KK (.exit j) st) : blockK id KK (.exit j) st := by simp only [blockK, h, exitK]; exact k
theorem s_cond {c : Operand} {x y : Code} {b : Bool} (h : opd st.rs [] st.env [] c = some (.v (.bool b))) (k1 : b = true → vc P tb N x KK st) (k2 : b = false → vc P tb N y KK st) : vc P tb N (.cond c x y) KK st := by
  simp only [vc, h]
  cases b with
  | true => exact k1 rfl
  | false => exact k2 rfl
theorem s_condt {c : Operand} {x y : Code} (h : opd st.rs [] st.env [] c = some (.v (.bool true))) (k : vc P tb N x KK st) : vc P tb N (.cond c x y) KK st := by
  simp only [vc, h]; exact k
theorem s_condf {c : Operand} {x y : Code} (h : opd st.rs [] st.env [] c = some (.v (.bool false))) (k : vc P tb N y KK st) : vc P tb N (.cond c x y) KK st := by
  simp only [vc, h]; exact k
theorem s_end {rv : List ResultVar} {Q : Value → Prop} {xs : List Value} (h : resV tb st rv = some xs) (k : Q (tupV xs)) : retK tb rv Q .ret st := by
  simp only [retK, h]; exact k
theorem s_endn {rv : List ResultVar} {Q : Value → Prop} {xs : List Value} (h : resV tb st rv = some xs) (k : Q (tupV xs)) : retK tb rv Q .normal st := by
  simp only [retK, h]; exact k
end

end Go.TR
/-!
A small program logic of our own for the model. Part i: operations that make or write memory, calls that hand memory over; lists of operations. Nothing here speaks of one program.
-/
namespace Go.TR
variable {P : Program} {tb : Tb} {N : Nat}

/-! ### Lists of quiet operations -/
theorem GSat.world {c : Ctx} {g : GEnv} {st : St} {a : Act} {w w' : World} (h : GSat c N g st a w) (hw : C c st w') : GSat c N g st a w' := { h with wok := hw }

theorem ops_quiet (htb : TbOK P tb) {c : Ctx} {ops : Array Oper} {K : GEnv → St → Prop} : ∀ (l : List Oper) (g : GEnv) (st : St) (a : Act) (w : World), GSat c N g st a w → vcOps P tb N true ops.toList l K g st →
    wpQuiet P ops (C c st) (fun a' => ∃ g' st', K g' st' ∧ ∀ w', C c st w' → GSat c N g' st' a' w') l a
  | [], g, st, a, w, h, hk => ⟨g, st, hk, fun w' hw' => h.world hw'⟩
  | o :: l, g, st, a, w, h, hk => by
    obtain ⟨v, g', st', hK, hF, hrs, _, h1, h2⟩ := quiet_step htb h (o := o) hk
    have hC : C c st' = C c st := by unfold C; rw [hF, hrs]
    unfold wpQuiet
    split
    · rename_i hw
      obtain ⟨hq, hs⟩ := h1 hw
      refine ⟨v, hq _ (rd_wok c st), ?_⟩
      have := ops_quiet htb l g' st' _ w hs hK
      rw [hC] at this
      exact this
    · rename_i hw
      have := ops_quiet htb l g' st' _ w (h2 hw) hK
      rw [hC] at this
      exact this

/-! ### A region whose last operations come up one by one, behind all others -/
section
variable {ops : Array Oper} {md : Region.Mode} {C : World → Prop}
/-- The first f operations, in whatever order; then L. -/
def HeadQ (P : Program) (md : Region.Mode) (ops : Array Oper) (C : World → Prop) (n : Nat) (L : Array Bool → Act → Prop) : Nat → Array Bool → Act → Prop
  | 0, done, a => L done a
  | f + 1, done, a => Region.ready md ops done ≠ [] ∧ ∀ i ∈ Region.ready md ops done, i < n ∧ qOp P ops C i (HeadQ P md ops C n L f (done.setIfInBounds i true)) a
theorem HeadQ.any {n k : Nat} {L : Array Bool → Act → Prop} {Q : Exit → Act → World → Prop} (hL : ∀ done a, L done a → ∀ w, C w → wpAny P md ops Q k done a w) :
    ∀ (f : Nat) (done : Array Bool) (a : Act) (w : World), C w → HeadQ P md ops C n L f done a → wpAny P md ops Q (f + k) done a w := by
  intro f
  induction f with
  | zero => intro done a w hw h; rw [Nat.zero_add]; exact hL _ _ h w hw
  | succ f ih =>
    intro done a w hw h
    have e : f + 1 + k = (f + k) + 1 := by omega
    rw [e]
    exact ⟨fun h0 => absurd h0 h.1, fun i hi => wpOp_of_qOp hw (fun a' w' hw' h' => ih _ a' w' hw' h') (h.2 i hi).2⟩
/-- What may come first may be taken first. -/
theorem HeadQ.first {n i : Nat} {oi : Oper} {v : Value} {L : Array Bool → Act → Prop} (hi : ops[i]? = some oi) (hsel : ∀ (j : Nat) (o : Oper) cs b, ops[j]? = some o → o.op ≠ .select cs b)
    (hs : Region.sinkB md ops n = true) (hc : Region.chainB md ops n = true) (hn : n < ops.size) (hin : i < n) (hdone : ∀ done a, L done a → ∀ j ∈ Region.ready md ops done, n ≤ j) :
    ∀ (f : Nat) (done : Array Bool) (a : Act), HeadInv md ops n done →
      (∀ j oj, ops[j]? = some oj → j ≠ i → done.getD j true = false → (∀ e ∈ oj.after, Region.binds md e = true → e.on ≠ i) → oi.apart ops oj = true) →
      i ∈ Region.ready md ops done → YieldsIn P ops C oi v a → HeadQ P md ops C n L f (done.setIfInBounds i true) (a.put oi.dst v) → HeadQ P md ops C n L (f + 1) done a := by
  intro f
  induction f with
  | zero =>
    intro done a inv _ hr hy H
    refine ⟨fun h => (by rw [h] at hr; cases hr), fun j hj => ?_⟩
    have hjn : j < n := Nat.lt_of_not_le fun h => tail_waits hs hc hn inv _ i rfl hin (mem_ready.1 hr).1 j h hj
    refine ⟨hjn, ?_⟩
    by_cases hji : j = i
    · subst hji; exact hy.qOp hi H
    · have := hdone _ _ H j (ready_mono hj hji)
      omega
  | succ f ih =>
    intro done a inv hfree hr hy H
    have hun := (mem_ready.1 hr).1
    refine ⟨fun h => (by rw [h] at hr; cases hr), fun j hj => ?_⟩
    have hjn : j < n := Nat.lt_of_not_le fun h => tail_waits hs hc hn inv _ i rfl hin hun j h hj
    refine ⟨hjn, ?_⟩
    by_cases hji : j = i
    · subst hji; exact hy.qOp hi H
    · obtain ⟨hjun, oj, hoj, hall⟩ := mem_ready.1 hj
      have hnot : ∀ e ∈ oj.after, Region.binds md e = true → e.on ≠ i := fun e he hb heq => by
        have h1 := hall e he hb
        rw [heq, getD_both hun] at h1
        cases h1
      have h2 := qOp_put hoj (hfree j oj hoj hji hjun hnot) (fun cs b => hsel i oi cs b hi) (fun cs b => hsel j oj cs b hoj) hy (H.2 j (ready_mono hj hji)).2
      refine qOp_mono (fun a' h3 => ih (done.setIfInBounds j true) a' (inv.set hj hjn) (fun k ok hk hki hu hno => hfree k ok hk hki ?_ hno) (ready_mono hr (Ne.symm hji)) h3.1 ?_) h2
      · by_cases hjk : j = k
        · subst hjk; exact hjun
        · rw [getD_set_ne true hjk] at hu; exact hu
      · rw [Array.setIfInBounds_comm _ _ hji]
        exact h3.2
theorem HeadQ.lex {n k : Nat} {R : Act → Prop} (hsel : Region.noSelect ops = true) (hs : Region.sinkB md ops n = true) (hc : Region.chainB md ops n = true) (hn : n < ops.size) :
    ∀ (l : List Oper) (m : Nat) (done : Array Bool) (a : Act), (∀ j, j < l.length → l[j]? = ops[m + j]?) → m + l.length = n → HeadInv md ops n done → Region.lexHead md ops k l.length m done = true → wpQuiet P ops C R l a →
    HeadQ P md ops C n (fun done' a' => Region.seqB md ops k n done' = true ∧ R a') l.length done a := by
  intro l
  induction l with
  | nil =>
    intro m done a _ hk _ hB h
    have : m = n := by simpa using hk
    subst this
    exact ⟨by simpa [Region.lexHead] using hB, h⟩
  | cons o l ih =>
    intro m done a hl hk inv hB h
    have h0 : ops[m]? = some o := by simpa using (hl 0 (by simp)).symm
    simp only [List.length_cons, Region.lexHead, Bool.and_eq_true] at hB
    obtain ⟨⟨hr, hf⟩, hB'⟩ := hB
    have hmn : m < n := by simp only [List.length_cons] at hk; omega
    have hr' : m ∈ Region.ready md ops done := by simpa using hr
    have hst : qOp P ops C m (wpQuiet P ops C R l) a := by unfold qOp; simp only [h0]; exact h
    obtain ⟨v, hy, hK⟩ := yieldsIn_of_qOp h0 hst
    exact HeadQ.first h0 (Region.noSelect_spec hsel) hs hc hn hmn (fun done' a' hL => seqB_ready hL.1) l.length done a inv (Region.free_spec h0 hf) hr' hy
      (ih (m + 1) _ _ (fun j hj => by have := hl (j + 1) (by simp; omega); simpa [Nat.add_assoc, Nat.add_comm 1 j] using this) (by simp only [List.length_cons] at hk; omega) (inv.set hr' hmn) hB' hK)
theorem wp_region_head {id : Nat} {Q : Exit → Act → World → Prop} {a : Act} {w : World} {l : List Oper} (n : Nat) (hm : P.follows .mixedOrders = true) (hB : Region.lexTailB .any l.toArray n = true) (hC : C { w with drawn := w.drawn + 1 })
    (h : wpQuiet P l.toArray C (fun a' => ∀ w', C w' → wpList P l.toArray Q (l.drop n) a' w') (l.take n) a) : (Code.region id l.toArray true).wp P Q a w := by
  simp only [Region.lexTailB, Bool.and_eq_true, decide_eq_true_eq] at hB
  obtain ⟨⟨⟨⟨hsel, hn⟩, hs⟩, hc⟩, hlex⟩ := hB
  have hn' : n < l.length := by simpa using hn
  have htl : (l.take n).length = n := by simp; omega
  have hdl : (l.drop n).length = l.toArray.size - n := by simp
  have inv0 : HeadInv .any l.toArray n (Array.replicate l.toArray.size false) :=
    ⟨by simp, fun j oj _ hl => (by rw [getD_replicate_false] at hl; cases hl), fun t _ ht => getD_in (by simpa using ht) (getD_replicate_false _ _)⟩
  have H := HeadQ.lex (md := .any) (k := l.toArray.size - n) hsel hs hc hn (l.take n) 0 _ a (fun j hj => by
    have hj' : j < n := by rw [htl] at hj; exact hj
    simp [hj']) (by simpa using htl) inv0 (by rw [htl]; exact hlex) h
  refine wp_region_any hm ?_
  have := HeadQ.any (Q := Q) (k := l.toArray.size - n) (fun done a' hL w' hw' => by
    have := wpAny_of_seq (md := .any) (Q' := Q) (l.drop n) n done a' w' (fun j => by simp [List.getElem?_drop]) (by rw [hdl]; exact hL.1) (hL.2 w' hw')
    rwa [hdl] at this) _ _ _ { w with drawn := w.drawn + 1 } hC H
  rw [htl, show n + (l.toArray.size - n) = l.toArray.size by omega] at this
  exact this
end

/-! ### New blocks -/
theorem Hist.cons {c : Ctx} {F : Hp} {rs : RL} {nx : Nat} (h : Hist c F rs nx) (r : Blk) : Hist c F ((nx, r) :: rs) (nx + 1) where
  sub := h.sub
  nxle := Nat.le_succ_of_le h.nxle
  succ := fun id r' hid hr => by
    have := h.nxle
    rw [lkR_cons, if_neg (by omega)] at hr
    exact h.succ id r' hid hr
theorem val_cons {rs : RL} {nx : Nat} {r : Blk} {e : EV} (h : e.lt nx) : e.val ((nx, r) :: rs) = e.val rs := by
  cases e with
  | v x => rfl
  | loc id o =>
    have : id ≠ nx := by simp only [EV.lt] at h; omega
    simp only [EV.val, lkR_cons, if_neg this]
  | row id o n c =>
    have : id ≠ nx := by simp only [EV.lt] at h; omega
    simp only [EV.val, lkR_cons, if_neg this]
theorem EV.lt.mono {e : EV} {m n : Nat} (h : e.lt m) (hm : m ≤ n) : e.lt n := by
  cases e <;> simp only [EV.lt] at * <;> omega
theorem Owned.lt {F : Hp} {rs : RL} {w : World} (h : Owned F rs w) {id : Nat} {r : Blk} {b : Nat} (hr : lkR rs id = some r) (hb : r.blk = some b) : b < w.heap.size := by
  have := h.own id r hr
  rw [hb] at this
  obtain ⟨_, _, cur, h1, _⟩ := this
  exact lt_of_some h1

theorem alloc_sat {c : Ctx} {g : GEnv} {env : Env} {F : Hp} {rs : RL} {nx : Nat} {a : Act} {w : World} (h : GSat c N g ⟨env, F, rs, nx⟩ a w) {cells : List EV} {cs : Array Value} {t : TypeId} (hl : cs.size = cells.length) (hlt : ∀ e ∈ cells, e.lt nx)
    (hcs : ∀ (j : Nat) (e : EV) (x : Value), cells[j]? = some e → e.val rs = some x → cs[j]? = some x) :
    GSat c N g ⟨env, F, (nx, ⟨some w.heap.size, cells, t, cells.length⟩) :: rs, nx + 1⟩ a (w.alloc (.cells cs t)) := by
  have hfr : F w.heap.size = none := by
    cases hf : F w.heap.size with
    | none => rfl
    | some o => have := lt_of_some (h.wok.le _ _ hf); omega
  have hp : Pres [] w (w.alloc (.cells cs t)) := Pres.alloc [] w _
  have hw := h.wok.pres' hp
  have hrlt : ∀ id r, lkR rs id = some r → id ≠ nx := fun id r hr => by have := (h.rids id r hr).1; simp only at this; omega
  exact {
    size := h.size
    defers := h.defers
    wok := {
      le := hw.le
      own := {
        own := fun id r hr => by
          rw [lkR_cons] at hr
          split at hr
          · simp only [Option.some.injEq] at hr
            subst hr
            refine ⟨hfr, Nat.le_refl _, cs, heap_alloc_new w _, hl, fun j ev x hj hx => ?_⟩
            have hm := hlt ev (List.mem_of_getElem? hj)
            rw [val_cons hm] at hx
            exact hcs j ev x hj hx
          · have h1 := hw.own.own id r hr
            cases hb : r.blk with
            | none => rw [hb] at h1; exact h1
            | some b =>
              rw [hb] at h1
              obtain ⟨g1, g2, cur, g3, g4, g5⟩ := h1
              refine ⟨g1, g2, cur, g3, g4, fun j ev x hj hx => ?_⟩
              have hm := (h.rids id r hr).2 ev (List.mem_of_getElem? hj)
              rw [val_cons hm] at hx
              exact g5 j ev x hj hx
        apart := fun i j r s b hi hj hb hs => by
          rw [lkR_cons] at hi hj
          split at hi
          · split at hj
            · omega
            · simp only [Option.some.injEq] at hi
              subst hi
              simp only [Option.some.injEq] at hb
              have := h.wok.own.lt hj hs
              omega
          · split at hj
            · simp only [Option.some.injEq] at hj
              subst hj
              simp only [Option.some.injEq] at hs
              have := h.wok.own.lt hi hb
              omega
            · exact h.wok.own.apart i j r s b hi hj hb hs }
      pres := hw.pres
      new := fun id r b hr hb => by
        rw [lkR_cons] at hr
        split at hr
        · simp only [Option.some.injEq] at hr
          subst hr
          rcases hb with hb | ⟨hb, _⟩
          · simp only [Option.some.injEq] at hb
            have := h.wok.pres.size
            omega
          · cases hb
        · exact h.wok.new id r b hr hb
      fnew := h.wok.fnew
      sz := hw.sz
      tp := hw.tp }
    hist := h.hist.cons _
    rids := fun id r hr => by
      simp only [lkR_cons] at hr
      split at hr
      · simp only [Option.some.injEq] at hr
        subst hr
        exact ⟨by simp only; omega, fun e he => (hlt e he).mono (Nat.le_succ _)⟩
      · obtain ⟨h1, h2⟩ := h.rids id r hr
        exact ⟨by simp only at h1 ⊢; omega, fun e he => (h2 e he).mono (Nat.le_succ _)⟩
    ids := fun n e he => (h.ids n e he).mono (Nat.le_succ _)
    env := fun n e x hg he hx => by
      rw [val_cons (h.ids n e he)] at hx
      exact h.env n e x hg he hx
    gv := fun n ch e hg => by
      obtain ⟨h1, h2, h3, h4⟩ := h.gv n ch e hg
      refine ⟨fun hA => ⟨fun x hx => (h1 hA).1 x ?_, (h1 hA).2⟩, h2, h3.mono (Nat.le_succ _), h4⟩
      rw [val_cons h3] at hx
      exact hx }

theorem gA_nil (a : Act) : gA [] a := fun s w b hs => by simp at hs
theorem chfree_nil (g : GEnv) (env : Env) : ChFree g env [] := fun d _ _ _ s w b hs => by simp at hs

/-- Behind a new block: its address is laid down. -/
theorem newV_wp {c : Ctx} {g : GEnv} {st : St} {a : Act} {w : World} (h : GSat c N g st a w) {cells : List EV} {cs : Array Value} {t : TypeId} {d : Option Nat} {K : GEnv → St → Prop} (hl : cs.size = cells.length) (hlt : ∀ e ∈ cells, e.lt st.nx)
    (hcs : ∀ (j : Nat) (e : EV) (x : Value), cells[j]? = some e → e.val st.rs = some x → cs[j]? = some x) (hk : newV N d K g t cells st) :
    ∃ g' st', K g' st' ∧ GSat c N g' st' (a.put d (.pointer (some ⟨w.heap.size, 0, none⟩))) (w.alloc (.cells cs t)) := by
  obtain ⟨env, F, rs, nx⟩ := st
  have hs := alloc_sat h (t := t) hl hlt hcs
  have hv : (EV.loc nx 0).val ((nx, ⟨some w.heap.size, cells, t, cells.length⟩) :: rs) = some (.pointer (some ⟨w.heap.size, 0, none⟩)) := by
    simp only [EV.val, lkR_cons, if_true]
  obtain ⟨g', st', h1, _, _, _, h2, _⟩ := putV_sat hs (ch := []) (e := .loc nx 0) (v := .pointer (some ⟨w.heap.size, 0, none⟩)) (by simp only [EV.lt]; omega) (fun _ => hv) (fun _ => trivial) (chfree_nil _ _) (hk w.heap.size)
  exact ⟨g', st', h1, h2 (gA_nil a)⟩

theorem cellsOf_spec {rs : RL} {e : EV} {v : Value} (hv : e.val rs = some v) : v.cells.size = (cellsOf e).length ∧ (∀ (j : Nat) (e' : EV) (x : Value), (cellsOf e)[j]? = some e' → e'.val rs = some x → v.cells[j]? = some x) ∧
    (∀ nx, e.lt nx → ∀ e' ∈ cellsOf e, e'.lt nx) ∧ ∀ (j : Nat) (x : Value), v.cells[j]? = some x → ∃ e', (cellsOf e)[j]? = some e' ∧ e'.val rs = some x := by
  have single : ∀ (e : EV) (v : Value), e.val rs = some v → cellsOf e = [e] → v.cells = #[v] → v.cells.size = (cellsOf e).length ∧ (∀ (j : Nat) (e' : EV) (x : Value), (cellsOf e)[j]? = some e' → e'.val rs = some x → v.cells[j]? = some x) ∧
      (∀ nx, e.lt nx → ∀ e' ∈ cellsOf e, e'.lt nx) ∧ ∀ (j : Nat) (x : Value), v.cells[j]? = some x → ∃ e', (cellsOf e)[j]? = some e' ∧ e'.val rs = some x := by
    intro e v hv h1 h2
    rw [h1, h2]
    refine ⟨rfl, fun j e' x hj hx => ?_, fun nx hl e' he => by rw [List.mem_singleton.1 he]; exact hl, fun j x hj => ?_⟩
    · cases j with
      | zero =>
        simp only [List.getElem?_cons_zero, Option.some.injEq] at hj
        subst hj
        rw [hv] at hx
        simpa using hx
      | succ j => simp at hj
    · cases j with
      | zero =>
        simp only [List.getElem?_toArray, List.getElem?_cons_zero, Option.some.injEq] at hj
        subst hj
        exact ⟨e, rfl, hv⟩
      | succ j => simp at hj
  cases e with
  | v x =>
    simp only [EV.val, Option.some.injEq] at hv
    subst hv
    cases x with
    | agg cs =>
      refine ⟨by simp [Value.cells, cellsOf], fun j e' y hj hy => ?_, fun nx _ e' he => ?_, fun j y hj => ?_⟩
      · simp only [cellsOf, List.getElem?_map, Option.map_eq_some_iff] at hj
        obtain ⟨u, hu, rfl⟩ := hj
        simp only [EV.val, Option.some.injEq] at hy
        subst hy
        simpa [Value.cells] using hu
      · simp only [cellsOf, List.mem_map] at he
        obtain ⟨u, _, rfl⟩ := he
        trivial
      · refine ⟨.v y, ?_, rfl⟩
        simp only [cellsOf, List.getElem?_map]
        simp only [Value.cells] at hj
        rw [show cs.toList[j]? = some y by simpa using hj]
        rfl
    | _ => exact single _ _ rfl rfl rfl
  | loc id o =>
    have : v.cells = #[v] := by
      simp only [EV.val] at hv
      split at hv
      · split at hv
        · simp only [Option.some.injEq] at hv; subst hv; rfl
        · simp at hv
      · simp at hv
    exact single _ _ hv rfl this
  | row id o n c =>
    have : v.cells = #[v] := by
      simp only [EV.val] at hv
      split at hv
      · simp only [Option.some.injEq] at hv; subst hv; rfl
      · simp at hv
    exact single _ _ hv rfl this
theorem wp_of_run {a : Act} {w w' : World} {o : Oper} {v : Value} {K' : Act → World → Prop} {Q : Exit → Act → World → Prop} (h : (execOp a.eval o).run P w = .ok (.value v) w') (hk : K' (a.put o.dst v) w') : o.wp P a w K' Q := by
  unfold Oper.wp
  rw [h]
  exact hk

theorem box_wp {c : Ctx} {g : GEnv} {st : St} {a : Act} {w : World} (h : GSat c N g st a w) {o : Oper} {t : TypeId} {x : Operand} (ho : o.op = .box t x) {K : GEnv → St → Prop} {Q : Exit → Act → World → Prop} {K' : Act → World → Prop}
    (hK : ∀ g' st' a' w', GSat c N g' st' a' w' → K g' st' → K' a' w') (hk : boxGo N o.dst K g t st (opd st.rs g st.env [] x)) : o.wp P a w K' Q := by
  cases hx : opd st.rs g st.env [] x with
  | none => simp [hx, boxGo] at hk
  | some e =>
    rw [hx] at hk
    simp only [boxGo] at hk
    have hv := fits_opd h (gA_nil a) _ _ hx
    have hlt := opd_lt h [] _ _ hx
    obtain ⟨h1, h2, h3, _⟩ := cellsOf_spec hv
    obtain ⟨g', st', h5, h6⟩ := newV_wp h (t := t) h1 (h3 _ hlt) h2 hk
    refine wp_of_run ?_ (hK _ _ _ _ h6 h5)
    simp only [execOp, ho, Instr.box, newVar, newRow, newObj]
    rfl
theorem rowV_wp {c : Ctx} {g : GEnv} {st : St} {a : Act} {w : World} (h : GSat c N g st a w) {cells : List EV} {cs : Array Value} {t : TypeId} {n : Nat} {d : Option Nat} {K : GEnv → St → Prop} (hl : cs.size = cells.length) (hlt : ∀ e ∈ cells, e.lt st.nx)
    (hcs : ∀ (j : Nat) (e : EV) (x : Value), cells[j]? = some e → e.val st.rs = some x → cs[j]? = some x) (hk : rowV N d K g t n cells st) :
    ∃ g' st', K g' st' ∧ GSat c N g' st' (a.put d (.slice (some ⟨w.heap.size, 0, none⟩) n n)) (w.alloc (.cells cs t)) := by
  obtain ⟨env, F, rs, nx⟩ := st
  have hs := alloc_sat h (t := t) hl hlt hcs
  have hv : (EV.row nx 0 n n).val ((nx, ⟨some w.heap.size, cells, t, cells.length⟩) :: rs) = some (.slice (some ⟨w.heap.size, 0, none⟩) n n) := by
    simp only [EV.val, lkR_cons, if_true]
    rfl
  obtain ⟨g', st', h1, _, _, _, h2, _⟩ := putV_sat hs (ch := []) (e := .row nx 0 n n) (v := .slice (some ⟨w.heap.size, 0, none⟩) n n) (by simp only [EV.lt]; omega) (fun _ => hv) (fun _ => trivial) (chfree_nil _ _) (hk w.heap.size)
  exact ⟨g', st', h1, h2 (gA_nil a)⟩
theorem bslice_wp (htb : TbOK P tb) {c : Ctx} {g : GEnv} {st : St} {a : Act} {w : World} (h : GSat c N g st a w) {o : Oper} {t : TypeId} {n : Nat} {ps : Array (Nat × Operand)} (ho : o.op = .buildSlice t n ps) {K : GEnv → St → Prop} {Q : Exit → Act → World → Prop} {K' : Act → World → Prop}
    (hK : ∀ g' st' a' w', GSat c N g' st' a' w' → K g' st' → K' a' w') (hk : bsGo tb N o.dst K g st n (tk tb t) (partsOf st.rs (opd st.rs g st.env []) ps.toList)) : o.wp P a w K' Q := by
  unfold bsGo at hk
  split at hk
  · rename_i e xs ht hps
    cases hi : tb e with
    | none => simp [hi, bsElem] at hk
    | some ti =>
      rw [hi] at hk
      simp only [bsElem] at hk
      obtain ⟨hsz, hk⟩ := hk
      cases hf : fillV (fun i => some (i * ti.size, ti.size)) (zerosV (n * ti.size) ti.zero) xs with
      | none => simp [hf, bsFill] at hk
      | some cs =>
        simp only [hf, bsFill] at hk
        obtain ⟨info, j1, _, _, z, j2, j3⟩ := (htb e ti hi).info
        have hu : P.underlying t = some (.slice e) := by
          unfold tk at ht
          split at ht
          · rename_i i hti
            simp only [Option.some.injEq] at ht
            obtain ⟨d, h1, h2⟩ := (htb t i hti).kind
            rw [ht] at h2
            simp only [TK.fits] at h2
            rw [h1, h2]
          · simp at ht
        have e1 := partsOf_ok (fits_opd h (gA_nil a)) hps
        have e2 : (ps.map fun (i, x) => (i, a.eval x)) = xs.toArray := by
          apply Array.ext'
          simpa using e1
        obtain ⟨g', st', h5, h6⟩ := rowV_wp h (cs := cs.toArray) (t := e) (n := n) (by simp) (fun e he => by
            obtain ⟨u, _, rfl⟩ := List.mem_map.1 he
            trivial) (fun j e x hj hx => by
            rw [List.getElem?_map, Option.map_eq_some_iff] at hj
            obtain ⟨u, hu, rfl⟩ := hj
            simp only [EV.val, Option.some.injEq] at hx
            subst hx
            simpa using hu) hk
        refine wp_of_run ?_ (hK _ _ _ _ h6 h5)
        have hz : zerosV (n * ti.size) ti.zero = ((Array.range (n * ti.size)).map (z.cells[· % z.cells.size]!)).toList := by
          unfold zerosV
          rw [← j3]
          simp
        have e3 : fillV (fun i => some (i * ti.size, ti.size)) ((Array.range (n * ti.size)).map (z.cells[· % z.cells.size]!)).toList xs = some cs := by rw [← hz]; exact hf
        have e4 := fill_ok _ (fun i => some (i * ti.size, ti.size)) (fun i x hx => hx) xs _ cs e3
        simp only [execOp, ho, e2]
        simp only [Instr.buildSlice, run_bind, run_underlying' hu, run_sizeOf htb hi, if_neg (show ¬ n * ti.size > 2 ^ 24 by omega), run_pure]
        have e5 : ∀ w, (zeroValue e).run P w = .ok z w := fun w => by simp [zeroValue, typeInfo, j1, j2]
        by_cases h0 : n * ti.size = 0
        · have e6 : (Array.range (n * ti.size)).map ((#[] : Array Value)[· % (#[] : Array Value).size]!) = (Array.range (n * ti.size)).map (z.cells[· % z.cells.size]!) := by rw [h0]; simp
          simp only [if_pos h0, run_bind, run_pure]
          rw [e6]
          simp only [e4]
          rfl
        · simp only [if_neg h0, run_bind, e5, run_pure]
          simp only [e4]
          rfl
  · exact hk.elim
theorem alloc_wp (htb : TbOK P tb) {c : Ctx} {g : GEnv} {st : St} {a : Act} {w : World} (h : GSat c N g st a w) {o : Oper} {t : TypeId} (ho : o.op = .alloc t) {K : GEnv → St → Prop} {Q : Exit → Act → World → Prop} {K' : Act → World → Prop}
    (hK : ∀ g' st' a' w', GSat c N g' st' a' w' → K g' st' → K' a' w') (hk : allocGo N o.dst K g t st (tb t)) : o.wp P a w K' Q := by
  cases hi : tb t with
  | none => simp [hi, allocGo] at hk
  | some i =>
    rw [hi] at hk
    simp only [allocGo] at hk
    obtain ⟨info, j1, _, _, z, j2, j3⟩ := (htb t i hi).info
    have hl : z.cells.size = (i.zero.map EV.v).length := by rw [List.length_map, ← j3]; simp
    obtain ⟨g', st', h5, h6⟩ := newV_wp h (cs := z.cells) (t := t) hl (fun e he => by
        obtain ⟨u, _, rfl⟩ := List.mem_map.1 he
        trivial) (fun j e x hj hx => by
        rw [List.getElem?_map, Option.map_eq_some_iff] at hj
        obtain ⟨u, hu, rfl⟩ := hj
        simp only [EV.val, Option.some.injEq] at hx
        subst hx
        rw [← j3] at hu
        simpa using hu) hk
    refine wp_of_run ?_ (hK _ _ _ _ h6 h5)
    simp only [execOp, ho, Instr.alloc, zeroValue, typeInfo, run_bind]
    have hp : (program : Sem Program).run P w = .ok P w := rfl
    simp only [hp, j1, run_pure, j2]
    rfl

/-! ### Stores -/
theorem lkR_setR {rs : RL} {id k : Nat} {r' : Blk} : lkR (setR rs id r') k = if k = id then (lkR rs id).map fun _ => r' else lkR rs k := by
  induction rs with
  | nil => simp [setR, lkR]
  | cons p rs ih =>
    obtain ⟨m, r⟩ := p
    simp only [setR]
    by_cases hm : id = m
    · subst hm
      simp only [Nat.beq_refl]
      rw [lkR_cons, lkR_cons, lkR_cons]
      by_cases hk : k = id
      · simp [hk]
      · simp [hk]
    · rw [show Nat.beq id m = false from (by cases hb : Nat.beq id m with | false => rfl | true => exact absurd (Nat.eq_of_beq_eq_true hb) hm)]
      simp only []
      rw [lkR_cons, ih, lkR_cons, lkR_cons]
      by_cases hk : k = m
      · subst hk
        rw [if_pos rfl, if_neg (fun e => hm e.symm), if_pos rfl]
      · rw [if_neg hk, if_neg hm, if_neg hk]
theorem val_setR {rs : RL} {id : Nat} {r r' : Blk} (hr : lkR rs id = some r) (hb : r'.blk = r.blk) (e : EV) : e.val (setR rs id r') = e.val rs := by
  cases e with
  | v x => rfl
  | loc k o =>
    simp only [EV.val, lkR_setR]
    by_cases hk : k = id
    · subst hk; simp [hr, hb]
    · simp [hk]
  | row k n c =>
    simp only [EV.val, lkR_setR]
    by_cases hk : k = id
    · subst hk; simp [hr, hb]
    · simp [hk]

theorem store_sat {c : Ctx} {g : GEnv} {env : Env} {F : Hp} {rs : RL} {nx : Nat} {a : Act} {w : World} (h : GSat c N g ⟨env, F, rs, nx⟩ a w) {id b off : Nat} {r : Blk} (hr : lkR rs id = some r) (hb : r.blk = some b) {es : List EV} {vs : List Value} (hlen : vs.length = es.length) (hfit : off + es.length ≤ r.cells.length)
    (hlt : ∀ e ∈ es, e.lt nx) (hes : ∀ (j : Nat) (e : EV) (x : Value), es[j]? = some e → e.val rs = some x → vs[j]? = some x) {cur : Array Value} (hcur : w.heap[b]? = some (.cells cur r.ty (0, 0))) :
    GSat c N g ⟨env, F, setR rs id ⟨r.blk, r.cells.take off ++ es ++ r.cells.drop (off + es.length), r.ty, r.cap⟩, nx⟩ a (w.setRow b (cur.toList.take off ++ vs ++ cur.toList.drop (off + vs.length)).toArray) := by
  have hval := fun e => val_setR (r' := ⟨r.blk, r.cells.take off ++ es ++ r.cells.drop (off + es.length), r.ty, r.cap⟩) hr rfl e
  have hown := h.wok.own.own id r hr
  rw [hb] at hown
  obtain ⟨o1, o2, cur', o3, o4, o5⟩ := hown
  rw [hcur] at o3
  simp only [Option.some.injEq, Obj.cells.injEq] at o3
  obtain ⟨rfl, _, _⟩ := o3
  have hsz : (w.setRow b (cur.toList.take off ++ vs ++ cur.toList.drop (off + vs.length)).toArray).heap.size = w.heap.size := by simp [World.setRow]
  have hoth : ∀ k, k ≠ b → (w.setRow b (cur.toList.take off ++ vs ++ cur.toList.drop (off + vs.length)).toArray).heap[k]? = w.heap[k]? := fun k hk => setRow_other w b k _ hk
  have hp : Pres [b] w (w.setRow b (cur.toList.take off ++ vs ++ cur.toList.drop (off + vs.length)).toArray) := ⟨rfl, rfl, rfl, by rw [hsz]; exact Nat.le_refl _, fun k _ hk => hoth k (by simpa using hk)⟩
  exact {
    size := h.size
    defers := h.defers
    wok := {
      le := fun k o e => by
        have hkb : k ≠ b := by rintro rfl; rw [o1] at e; cases e
        rw [hoth k hkb]
        exact h.wok.le k o e
      own := {
        own := fun k s hs => by
          rw [lkR_setR] at hs
          split at hs
          · rw [hr] at hs
            simp only [Option.map_some, Option.some.injEq] at hs
            subst hs
            split
            · rename_i hn
              exact absurd (hb.symm.trans hn) (by simp)
            rename_i b0 hb0
            obtain rfl : b = b0 := by
              have := hb.symm.trans hb0
              simpa using this
            refine ⟨o1, by simp only [List.length_append, List.length_take, List.length_drop]; omega, _, setRow_heap w b cur _ _ _ hcur, ?_, fun j ev x hj hx => ?_⟩
            · simp only [List.size_toArray, List.length_append, List.length_take, List.length_drop, Array.length_toList]
              omega
            · have hx' : ev.val rs = some x := by rw [← hval ev]; exact hx
              simp only [List.getElem?_toArray]
              rw [List.append_assoc, List.getElem?_append] at hj ⊢
              simp only [List.length_take, Array.length_toList] at hj ⊢
              have e1 : min off r.cells.length = off := by omega
              have e2 : min off cur.size = off := by omega
              rw [e1] at hj
              rw [e2]
              split
              · rename_i hlo
                rw [if_pos hlo, List.getElem?_take, if_pos hlo] at hj
                rw [List.getElem?_take, if_pos hlo]
                simpa using o5 j ev x hj hx'
              · rename_i hlo
                rw [if_neg hlo] at hj
                rw [List.getElem?_append] at hj ⊢
                rw [hlen]
                split
                · rename_i hmid
                  rw [if_pos hmid] at hj
                  exact hes _ ev x hj hx'
                · rename_i hmid
                  rw [if_neg hmid, List.getElem?_drop] at hj
                  rw [List.getElem?_drop]
                  have e3 : off + es.length + (j - off - es.length) = j := by omega
                  rw [e3] at hj ⊢
                  simpa using o5 j ev x hj hx'
          · rename_i hk
            have h1 := h.wok.own.own k s hs
            cases hsb : s.blk with
            | none => rw [hsb] at h1; exact h1
            | some b' =>
              rw [hsb] at h1
              obtain ⟨g1, g2, cur', g3, g4, g5⟩ := h1
              have hbb : b' ≠ b := by
                rintro rfl
                exact hk (h.wok.own.apart k id s r _ hs hr hsb hb)
              refine ⟨g1, g2, cur', by rw [hoth _ hbb]; exact g3, g4, fun j ev x hj hx => g5 j ev x hj ?_⟩
              rw [← hval ev]; exact hx
        apart := fun i j s t b' hi hj hs ht => by
          rw [lkR_setR] at hi hj
          have conv : ∀ {k : Nat} {s : Blk}, (if k = id then (lkR rs id).map fun _ => (⟨r.blk, r.cells.take off ++ es ++ r.cells.drop (off + es.length), r.ty, r.cap⟩ : Blk) else lkR rs k) = some s → s.blk = some b' → ∃ s', lkR rs k = some s' ∧ s'.blk = some b' := by
            intro k s hk hsb
            split at hk
            · rename_i hkid
              rw [hr] at hk
              simp only [Option.map_some, Option.some.injEq] at hk
              subst hk
              subst hkid
              exact ⟨r, hr, hsb⟩
            · exact ⟨s, hk, hsb⟩
          obtain ⟨s', hs1, hs2⟩ := conv hi hs
          obtain ⟨t', ht1, ht2⟩ := conv hj ht
          exact h.wok.own.apart i j s' t' b' hs1 ht1 hs2 ht2 }
      pres := h.wok.pres.trans' hp (fun y hy => by
        simp only [List.mem_singleton] at hy
        subst hy
        exact .inr (h.wok.new id r _ hr (.inl hb)))
      new := fun k s b' hs hsb => by
        rw [lkR_setR] at hs
        split at hs
        · rw [hr] at hs
          simp only [Option.map_some, Option.some.injEq] at hs
          subst hs
          exact h.wok.new id r b' hr (Blk.at_some hb hsb rfl)
        · exact h.wok.new k s b' hs hsb
      fnew := h.wok.fnew
      sz := Nat.le_trans h.wok.sz hp.size
      tp := h.wok.tp }
    hist := {
      sub := h.hist.sub
      nxle := h.hist.nxle
      succ := fun k s hk hs => by
        rw [lkR_setR] at hs
        split at hs
        · rename_i hkid
          subst hkid
          rw [hr] at hs
          simp only [Option.map_some, Option.some.injEq] at hs
          subst hs
          exact h.hist.succ k r hk hr
        · exact h.hist.succ k s hk hs }
    rids := fun k s hs => by
      simp only [lkR_setR] at hs
      split at hs
      · rename_i hkid
        rw [hr] at hs
        simp only [Option.map_some, Option.some.injEq] at hs
        subst hs
        subst hkid
        obtain ⟨h1, h2⟩ := h.rids k r hr
        refine ⟨h1, fun e he => ?_⟩
        simp only [List.mem_append] at he
        rcases he with (he | he) | he
        · exact h2 e (List.mem_of_mem_take he)
        · exact hlt e he
        · exact h2 e (List.mem_of_mem_drop he)
      · exact h.rids k s hs
    ids := h.ids
    env := fun n e x hg he hx => by
      simp only [hval] at hx
      exact h.env n e x hg he hx
    gv := fun n ch e hg => by
      obtain ⟨h1, h2, h3, h4⟩ := h.gv n ch e hg
      refine ⟨fun hA => ⟨fun x hx => (h1 hA).1 x ?_, (h1 hA).2⟩, h2, h3, h4⟩
      simp only [hval] at hx
      exact hx }

theorem one_spec {rs : RL} {e : EV} {x : Value} (h : one e = true) (hx : e.val rs = some x) : x.oneCell' = true := by
  cases e with
  | v y =>
    simp only [EV.val, Option.some.injEq] at hx
    subst hx
    cases y <;> first | rfl | simp [one] at h
  | loc id o =>
    simp only [EV.val] at hx
    split at hx
    · split at hx
      · simp only [Option.some.injEq] at hx; subst hx; rfl
      · simp at hx
    · simp at hx
  | row id o n c =>
    simp only [EV.val] at hx
    split at hx
    · simp only [Option.some.injEq] at hx; subst hx; rfl
    · simp at hx
theorem store_wp (htb : TbOK P tb) {c : Ctx} {g : GEnv} {st : St} {a : Act} {w : World} (h : GSat c N g st a w) {o : Oper} {t : TypeId} {x y : Operand} (ho : o.op = .store t x y) {K : GEnv → St → Prop} {Q : Exit → Act → World → Prop} {K' : Act → World → Prop} (hd : o.dst = none)
    (hK : ∀ g' st' a' w', GSat c N g' st' a' w' → K g' st' → K' a' w') (hk : storeGo K g st (tb t) (opd st.rs g st.env [] x) (opd st.rs g st.env [] y)) : o.wp P a w K' Q := by
  unfold storeGo at hk
  split at hk
  · rename_i i id off e hi hx hy
    obtain ⟨env, F, rs, nx⟩ := st
    cases hr : lkR rs id with
    | none => simp [hr, storeIn] at hk
    | some r =>
      simp only [hr, storeIn] at hk
      obtain ⟨hl, hone, hfit, hk⟩ := hk
      have e1 := fits_opd h (gA_nil a) _ _ hx
      have e2 := fits_opd h (gA_nil a) _ _ hy
      have hlt := opd_lt h [] _ _ hy
      simp only [EV.val, hr] at e1
      split at e1
      · rename_i b hb
        simp only [Option.some.injEq] at e1
        obtain ⟨c1, c2, c3, c4⟩ := cellsOf_spec e2
        have hown := h.wok.own.own id r hr
        rw [hb] at hown
        obtain ⟨o1, o2, cur, o3, o4, o5⟩ := hown
        have hs := store_sat h hr hb (es := cellsOf e) (vs := (a.eval y).cells.toList) (off := off) (by simpa using c1) (by rw [hl]; exact hfit) (c3 _ hlt) (fun j e' u hj hu => by simpa using c2 j e' u hj hu) o3
        have hone' : ∀ u ∈ (a.eval y).cells.toList, u.oneCell' = true := fun u hu => by
          obtain ⟨j, hj⟩ := List.getElem?_of_mem hu
          obtain ⟨e', he', hv'⟩ := c4 j u (by simpa using hj)
          exact one_spec (List.all_eq_true.1 hone e' (List.mem_of_getElem? he')) hv'
        have hrun := run_storeCells_at (P := P) b off r.ty (a.eval y).cells.toList 0 cur w o3 (by simp only [Nat.add_zero, Array.length_toList, c1, hl]; omega) hone'
        simp only [Nat.add_zero] at hrun
        have hput : a.put o.dst undef = a := by rw [hd]; rfl
        unfold Oper.wp
        have hex : (execOp a.eval o).run P w = .ok .skip (w.setRow b (cur.toList.take off ++ (a.eval y).cells.toList ++ cur.toList.drop (off + (a.eval y).cells.toList.length)).toArray) := by
          simp only [execOp, ho, Instr.storeAt, ← e1, Instr.sureAddr, run_bind, run_pure, storeVar, run_sizeOf htb hi]
          rw [if_neg (by rw [c1, hl]; simp)]
          simp only [hrun]
        rw [hex]
        show K' (a.put o.dst undef) _
        rw [hput]
        refine hK _ _ _ _ hs ?_
        rw [hl]
        exact hk
      · simp at e1
  · exact hk.elim
end Go.TR
