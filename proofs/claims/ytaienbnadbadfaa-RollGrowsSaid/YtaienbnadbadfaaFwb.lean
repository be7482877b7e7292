/-
A small program logic of our own for the model. Part b: what is known of a state, and what a piece of code asks of it ('vc'). Nothing here speaks of one program.
-/
import Derived.Test.YtaienbnadbadfaaFwa
namespace Go.TR

/-! ### Types -/
inductive TK where
  | bool | int (k : IntKind) | string
  | slice (e : TypeId) | array (n : Nat) (e : TypeId)
  | struct (fs : List (TypeId × Nat))
  | pointer (e : TypeId)
  | other
structure TI where
  kind : TK
  size : Nat
  bytes : Nat
  zero : List Value
  flat : Bool
abbrev Tb := TypeId → Option TI

def TK.agg : TK → Bool
  | .struct _ | .array _ _ => true
  | _ => false
def TK.fits : TK → TypeDesc → Prop
  | .bool, d => d = .bool
  | .int k, d => d = .int k
  | .string, d => d = .string
  | .slice e, d => d = .slice e
  | .array n e, d => d = .array n e
  | .pointer e, d => d = .pointer e
  | .struct fs, d => ∃ fields, d = .struct fields ∧ fields.toList.map (fun f => (f.type, f.offset)) = fs ∧ ∀ f ∈ fields.toList, f.name ≠ "_"
  | .other, d => (∀ fs, d ≠ .struct fs) ∧ (∀ n e, d ≠ .array n e)
structure TI.ok (P : Program) (t : TypeId) (i : TI) : Prop where
  info : ∃ info, P.info? t = some info ∧ info.size = i.size ∧ info.bytes = i.bytes ∧ ∃ z, info.zero = some z ∧ z.cells.toList = i.zero
  kind : ∃ d, P.underlying t = some d ∧ i.kind.fits d
  flat : i.flat = true → P.stoodInHeld t = false ∧ P.eqGuardType P.depth t = false
def tk (tb : Tb) (t : TypeId) : Option TK :=
  match tb t with
  | some i => some i.kind
  | none => none
def TbOK (P : Program) (tb : Tb) : Prop := ∀ t i, tb t = some i → i.ok P t

/-! ### Values as the evaluator knows them -/
inductive EV where
  | v (x : Value)
  | loc (id off : Nat)
  | row (id o n c : Nat)

/-- A block that the call owns (none: the nil slice), its first cells, its element type, its number of cells. -/
structure Blk where
  blk : Option Nat
  cells : List EV
  ty : TypeId
  cap : Nat
abbrev RL := List (Nat × Blk)

def lkR : RL → Nat → Option Blk
  | [], _ => none
  | (m, r) :: t, n => match Nat.beq n m with
    | true => some r
    | false => lkR t n
def setR : RL → Nat → Blk → RL
  | [], _, _ => []
  | (m, r) :: t, n, r' => match Nat.beq n m with
    | true => (m, r') :: t
    | false => (m, r) :: setR t n r'
def delR : RL → Nat → RL
  | [], _ => []
  | (m, r) :: t, n => match Nat.beq n m with
    | true => delR t n
    | false => (m, r) :: delR t n

def padd (p : Option Addr) (n : Nat) : Option Addr := p.map (·.add n)
def Pcell (F : Hp) (p : Option Addr) : Option Value := p.bind (Fcell F)

def EV.val (rs : RL) : EV → Option Value
  | .v x => some x
  | .loc id off =>
    match lkR rs id with
    | some r => match r.blk with
      | some b => some (.pointer (some ⟨b, off, none⟩))
      | none => none
    | none => none
  | .row id o n c =>
    match lkR rs id with
    | some r => some (.slice (r.blk.map fun b => ⟨b, o, none⟩) n c)
    | none => none

/-! ### States -/
abbrev Env := List (Nat × EV)
def lk : Env → Nat → Option EV
  | [], _ => none
  | (m, v) :: t, n => match Nat.beq n m with
    | true => some v
    | false => lk t n

structure St where
  env : Env
  F : Hp
  rs : RL
  nx : Nat

/-- Guards: slot, the wanted answer, the answer. -/
abbrev Chain := List (Nat × Bool × Bool)
abbrev GEnv := List (Nat × Chain × EV)
def lkG : GEnv → Nat → Option (Chain × EV)
  | [], _ => none
  | (m, c, v) :: t, n => match Nat.beq n m with
    | true => some (c, v)
    | false => lkG t n
def pre : Chain → Chain → Bool
  | [], _ => true
  | (s, w, _) :: t, (s', w', _) :: t' => Nat.beq s s' && (w == w') && pre t t'
  | _ :: _, [] => false
def gP : Chain → Prop
  | [] => True
  | (_, w, b) :: t => b = w ∧ gP t
def imp : Chain → Prop → Prop
  | [], p => p
  | c, p => gP c → p

def pick1 (g : GEnv) (env : Env) (ch : Chain) (n : Nat) : Option EV :=
  match lkG g n with
  | some (c, v) => match pre c ch with
    | true => some v
    | false => none
  | none => lk env n
/-- A name of a block that is there. -/
def alive (rs : RL) : EV → Option EV
  | .v x => some (.v x)
  | .loc id o => match lkR rs id with
    | some r => match r.blk with
      | some _ => some (.loc id o)
      | none => none
    | none => none
  | .row id o n c => match lkR rs id with
    | some _ => some (.row id o n c)
    | none => none
def opd (rs : RL) (g : GEnv) (env : Env) (ch : Chain) : Operand → Option EV
  | .const v => some (.v v)
  | .global i => some (.v (.pointer (some ⟨i, 0, none⟩)))
  | .func f => some (.v (.func (.func f) #[] #[]))
  | .tmp n => match pick1 g env ch n with
    | some e => alive rs e
    | none => none

/-! ### Pure operations: what must hold, and the value -/
abbrev PV := Option (Prop × EV)
def mkB (l : List UInt8) : ByteArray := ⟨l.toArray⟩
@[reducible] def S (l : List UInt8) : Value := .string (mkB l)
def bl (b : ByteArray) : List UInt8 := b.data.toList
def ret1 (x : Value) : PV := some (True, .v x)

def maxInt : Nat := 9223372036854775807

def binInt : BinOp → IntKind → Int → Int → PV
  | .add, k, a, b => ret1 (.int k (k.wrap (a + b)))
  | .sub, k, a, b => ret1 (.int k (k.wrap (a - b)))
  | .mul, k, a, b => ret1 (.int k (k.wrap (a * b)))
  | .quo, k, a, b => some (b ≠ 0, .v (.int k (k.wrap (a.tdiv b))))
  | .rem, k, a, b => some (b ≠ 0, .v (.int k (a.tmod b)))
  | .and, k, a, b => ret1 (.int k (k.wrap ((BitVec.ofInt k.bits a &&& BitVec.ofInt k.bits b).toNat)))
  | .or, k, a, b => ret1 (.int k (k.wrap ((BitVec.ofInt k.bits a ||| BitVec.ofInt k.bits b).toNat)))
  | .eql, _, a, b => ret1 (.bool (a == b))
  | .neq, _, a, b => ret1 (.bool (a != b))
  | .lss, _, a, b => ret1 (.bool (decide (a < b)))
  | .leq, _, a, b => ret1 (.bool (decide (a ≤ b)))
  | .gtr, _, a, b => ret1 (.bool (decide (b < a)))
  | .geq, _, a, b => ret1 (.bool (decide (b ≤ a)))
  | _, _, _, _ => none
def binStr : BinOp → List UInt8 → List UInt8 → PV
  | .add, a, b => some (a.length + b.length ≤ maxInt, .v (S (a ++ b)))
  | .eql, a, b => ret1 (.bool (decide (a = b)))
  | .neq, a, b => ret1 (.bool (!decide (a = b)))
  | .lss, a, b => ret1 (.bool (Op.bytesLess a b))
  | .leq, a, b => ret1 (.bool (Op.bytesLess a b || decide (a = b)))
  | .gtr, a, b => ret1 (.bool (!(Op.bytesLess a b || decide (a = b))))
  | .geq, a, b => ret1 (.bool (!Op.bytesLess a b))
  | _, _, _ => none
/-- Equality of one cell: numbers, strings and bools alone. -/
def veq : Value → Value → Option Bool
  | .int k a, .int k' b => if k = k' then some (a == b) else none
  | .string a, .string b => some (decide (bl a = bl b))
  | .bool a, .bool b => some (a == b)
  | _, _ => none
def ceq : List Value → List Value → Option Bool
  | [], [] => some true
  | a :: s, b :: t => match veq a b, ceq s t with
    | some x, some y => some (x && y)
    | _, _ => none
  | _, _ => none
/-- A struct whose fields are scalars, one cell each, in order. -/
def flatOk (tb : Tb) : Nat → List (TypeId × Nat) → List Value → Bool
  | _, [], [] => true
  | k, (t, off) :: fs, x :: xs => off == k && (match tb t, x with
    | some ⟨.int k, _, _, _, _⟩, .int k' _ => k == k'
    | some ⟨.string, _, _, _, _⟩, .string _ => true
    | some ⟨.bool, _, _, _, _⟩, .bool _ => true
    | _, _ => false) && flatOk tb (k + 1) fs xs
  | _, _, _ => false
def binV (tb : Tb) (op : BinOp) (t : TypeId) : Value → Value → PV
  | .int k a, .int k' b => match op with
    | .shl => some (0 ≤ b, .v (.int k (k.wrap (a * 2 ^ (min b.toNat k.bits)))))
    | .shr => some (0 ≤ b, .v (.int k (a.fdiv (2 ^ (min b.toNat k.bits)))))
    | op => if k = k' then binInt op k a b else none
  | .string a, .string b => binStr op (bl a) (bl b)
  | .bool a, .bool b => match tk tb t with
    | some .bool => (match op with
      | .eql => ret1 (.bool (a == b))
      | .neq => ret1 (.bool (!(a == b)))
      | _ => none)
    | _ => none
  | .agg xs, .agg ys => match tb t with
    | some ⟨.struct fs, _, _, _, true⟩ =>
      if flatOk tb 0 fs xs.toList && flatOk tb 0 fs ys.toList then
        (match op, ceq xs.toList ys.toList with
        | .eql, some b => ret1 (.bool b)
        | .neq, some b => ret1 (.bool (!b))
        | _, _ => none)
      else none
    | _ => none
  | _, _ => none

def unV : UnOp → Value → PV
  | .not, .bool b => ret1 (.bool (!b))
  | .neg, .int k n => ret1 (.int k (k.wrap (0 - n)))
  | _, _ => none

def convV (tb : Tb) (dst : TypeId) : Value → PV
  | .int _ n => match tk tb dst with
    | some (.int k) => ret1 (.int k (k.wrap n))
    | _ => none
  | .string s => match tk tb dst with
    | some .string => ret1 (.string s)
    | _ => none
  | _ => none

/-- A part of an aggregate. -/
def partV (tb : Tb) (t : TypeId) (cs : List Value) (off : Nat) : Option Value :=
  match tb t with
  | some i => if i.kind.agg then some (.agg ((cs.take (off + i.size)).drop off).toArray) else cs[off]?
  | none => none
def fieldV (tb : Tb) (t : TypeId) (f : Nat) : Value → PV
  | .agg cs => match tk tb t with
    | some (.struct fs) => match fs[f]? with
      | some (ft, off) => match partV tb ft cs.toList off with
        | some x => ret1 x
        | none => none
      | none => none
    | _ => none
  | _ => none
def extractV (i : Nat) : Value → PV
  | .tuple vs => match vs.toList[i]? with
    | some x => ret1 x
    | none => none
  | _ => none
def fieldAddrV (tb : Tb) (t : TypeId) (f : Nat) (x : EV) : PV :=
  match tk tb t with
  | some (.struct fs) => match fs[f]? with
    | some (ft, off) => (match tb ft with
      | some i => if i.size = 0 then none else (match x with
        | .v (.pointer p) => some (p.isSome = true, .v (.pointer (padd p off)))
        | .loc id o => some (True, .loc id (o + off))
        | _ => none)
      | none => none)
    | none => none
  | _ => none
def rowSome (rs : RL) (id : Nat) : Prop := ∃ r b, lkR rs id = some r ∧ r.blk = some b
def indexAddrV (tb : Tb) (rs : RL) (t : TypeId) (x : EV) (i : Int) : PV :=
  match tk tb t with
  | some (.slice e) => (match tb e with
    | some ti => (match x with
      | .v (.slice p n _) => some (0 ≤ i ∧ i < n ∧ p.isSome = true, .v (.pointer (padd p (i.toNat * ti.size))))
      | .row id o n _ => some (0 ≤ i ∧ i < n ∧ rowSome rs id, .loc id (o + i.toNat * ti.size))
      | _ => none)
    | none => none)
  | some (.array n e) => (match tb e with
    | some ti => (match x with
      | .v (.pointer p) => some (0 ≤ i ∧ i < n ∧ p.isSome = true, .v (.pointer (padd p (i.toNat * ti.size))))
      | .loc id o => some (0 ≤ i ∧ i < n, .loc id (o + i.toNat * ti.size))
      | _ => none)
    | none => none)
  | _ => none
def indexV (tb : Tb) (t : TypeId) (x : Value) (i : Int) : PV :=
  match tk tb t, x with
  | some .string, .string s => some (0 ≤ i ∧ i < ((bl s).length : Int), .v (.int .u8 (((bl s).getD i.toNat 0).toNat : Int)))
  | some (.array n e), .agg cs => (match tb e with
    | some ti => (match partV tb e cs.toList (i.toNat * ti.size) with
      | some y => some (0 ≤ i ∧ i < n, .v y)
      | none => none)
    | none => none)
  | _, _ => none
/-- The base address of a reslice: it stays where nothing is left. -/
def slBase (p : Option Addr) (l m size : Nat) : Option Addr := if m = l then p else p.map (·.add (l * size))
def sliceV (tb : Tb) (t : TypeId) (x : Value) (lo hi : Option Int) : PV :=
  match tk tb t, x with
  | some .string, .string s => (match lo, hi with
    | none, none => ret1 (S (bl s))
    | some l, none => some (0 ≤ l ∧ l ≤ ((bl s).length : Int), .v (S ((bl s).drop l.toNat)))
    | none, some h => some (0 ≤ h ∧ h ≤ ((bl s).length : Int), .v (S ((bl s).take h.toNat)))
    | some l, some h => some (0 ≤ l ∧ l ≤ h ∧ h ≤ ((bl s).length : Int), .v (S (((bl s).take h.toNat).drop l.toNat))))
  | some (.slice e), .slice p n c => (match tb e with
    | some ti => (match lo, hi with
      | none, none => ret1 (.slice (slBase p 0 c ti.size) n c)
      | some l, none => some (0 ≤ l ∧ l ≤ n ∧ n ≤ c, .v (.slice (slBase p l.toNat c ti.size) (n - l.toNat) (c - l.toNat)))
      | none, some h => some (0 ≤ h ∧ h ≤ c, .v (.slice (slBase p 0 c ti.size) h.toNat c))
      | some l, some h => some (0 ≤ l ∧ l ≤ h ∧ h ≤ c, .v (.slice (slBase p l.toNat c ti.size) (h.toNat - l.toNat) (c - l.toNat))))
    | none => none)
  | _, _ => none

/-- .. with three indexes. -/
def sliceV3 (tb : Tb) (t : TypeId) (x : Value) (lo hi : Option Int) (m : Int) : PV :=
  match tk tb t, x with
  | some (.slice e), .slice p _ c => (match tb e with
    | some ti => (match lo, hi with
      | none, some h => some (0 ≤ h ∧ h ≤ m ∧ m ≤ c, .v (.slice (slBase p 0 m.toNat ti.size) h.toNat m.toNat))
      | _, _ => none)
    | none => none)
  | _, _ => none
def slOff (o l m size : Nat) : Nat := if m = l then o else o + l * size
/-- A reslice of a row of the call's own. -/
def sliceR (tb : Tb) (t : TypeId) (id o n c : Nat) (lo hi : Option Int) : PV :=
  match tk tb t with
  | some (.slice e) => (match tb e with
    | some ti => (match lo, hi with
      | none, none => some (True, .row id o n c)
      | some l, none => some (0 ≤ l ∧ l ≤ n ∧ n ≤ c, .row id (slOff o l.toNat c ti.size) (n - l.toNat) (c - l.toNat))
      | none, some h => some (0 ≤ h ∧ h ≤ c, .row id o h.toNat c)
      | some l, some h => some (0 ≤ l ∧ l ≤ h ∧ h ≤ c, .row id (slOff o l.toNat c ti.size) (h.toNat - l.toNat) (c - l.toNat)))
    | none => none)
  | _ => none
/-- A slice of an array of the call's own. -/
def sliceA (tb : Tb) (t : TypeId) (id o : Nat) (lo hi : Option Int) : PV :=
  match tk tb t with
  | some (.array n e) => (match tb e with
    | some _ => (match lo, hi with
      | none, none => some (True, .row id o n n)
      | _, _ => none)
    | none => none)
  | _ => none

/-- The cells of an aggregate with parts laid in. -/
def fillV (place : Nat → Option (Nat × Nat)) : List Value → List (Nat × Value) → Option (List Value)
  | cs, [] => some cs
  | cs, (i, v) :: rest => match place i with
    | some (off, size) => if v.cells.toList.length = size ∧ off + size ≤ cs.length then fillV place (cs.take off ++ v.cells.toList ++ cs.drop (off + size)) rest else none
    | none => none
def placeS (tb : Tb) (fs : List (TypeId × Nat)) (i : Nat) : Option (Nat × Nat) :=
  match fs[i]? with
  | some (t, off) => (match tb t with
    | some ti => some (off, ti.size)
    | none => none)
  | none => none
def buildV (tb : Tb) (t : TypeId) (parts : List (Nat × Value)) : PV :=
  match tb t with
  | some ⟨.struct fs, _, _, z, _⟩ => if fs.all (fun f => (tb f.1).isSome) then (match fillV (placeS tb fs) z parts with
    | some cs => ret1 (.agg cs.toArray)
    | none => none) else none
  | some ⟨.array _ e, _, _, z, _⟩ => (match tb e with
    | some ti => (match fillV (fun i => some (i * ti.size, ti.size)) z parts with
      | some cs => ret1 (.agg cs.toArray)
      | none => none)
    | none => none)
  | _ => none

def lenV (tb : Tb) (t : TypeId) : EV → PV
  | .v (.string s) => (match tk tb t with
    | some .string => ret1 (.int .i64 ((bl s).length : Nat))
    | _ => none)
  | .v (.slice _ n _) | .row _ _ n _ => (match tk tb t with
    | some (.slice _) => ret1 (.int .i64 (n : Nat))
    | _ => none)
  | _ => none
def capV (tb : Tb) (t : TypeId) : EV → PV
  | .v (.slice _ _ c) | .row _ _ _ c => (match tk tb t with
    | some (.slice _) => ret1 (.int .i64 (c : Nat))
    | _ => none)
  | _ => none
def minV : Value → Value → PV
  | .int k x, .int _ y => ret1 (.int k (if y < x then y else x))
  | _, _ => none
def maxV : Value → Value → PV
  | .int k x, .int _ y => ret1 (.int k (if y > x then y else x))
  | _, _ => none

def asV : Option EV → Option Value
  | some (.v x) => some x
  | _ => none
/-- The plain values of a list of operands. -/
def vals (rs : RL) (ρ : Operand → Option EV) : List Operand → Option (List Value)
  | [] => some []
  | o :: t => match ρ o with
    | some e => (match e.val rs, vals rs ρ t with
      | some x, some xs => some (x :: xs)
      | _, _ => none)
    | none => none
def partsOf (rs : RL) (ρ : Operand → Option EV) : List (Nat × Operand) → Option (List (Nat × Value))
  | [] => some []
  | (i, o) :: t => match ρ o with
    | some e => (match e.val rs, partsOf rs ρ t with
      | some x, some xs => some ((i, x) :: xs)
      | _, _ => none)
    | none => none
def intOf? : Option EV → Option Int
  | some (.v (.int _ n)) => some n
  | _ => none
/-- An optional bound: none where there is none. -/
def bound (ρ : Operand → Option EV) : Option Operand → Option (Option Int)
  | none => some none
  | some o => match ρ o with
    | some (.v (.int _ n)) => some (some n)
    | _ => none

def evs (ρ : Operand → Option EV) : List Operand → Option (List EV)
  | [] => some []
  | o :: t => match ρ o, evs ρ t with
    | some e, some es => some (e :: es)
    | _, _ => none
def builtV (tb : Tb) (rs : RL) : Builtin → Option (List EV) → List TypeId → PV
  | .unsafeSliceData, some [.v (.slice none _ _)], _ => some (True, .v (.pointer none))
  | .unsafeSliceData, some [.row id o _ c], _ => some (c ≠ 0 ∧ rowSome rs id, .loc id o)
  | .len, some [e], [t] => lenV tb t e
  | .cap, some [e], [t] => capV tb t e
  | .min, some [.v a, .v b], _ => minV a b
  | .max, some [.v a, .v b], _ => maxV a b
  | _, _, _ => none
def sliceGo (tb : Tb) (t : TypeId) : Option EV → Option (Option Int) → Option (Option Int) → PV
  | some (.v a), some l, some h => sliceV tb t a l h
  | some (.row id o n c), some l, some h => sliceR tb t id o n c l h
  | some (.loc id o), some l, some h => sliceA tb t id o l h
  | _, _, _ => none
def sliceGo3 (tb : Tb) (t : TypeId) : Option EV → Option (Option Int) → Option (Option Int) → Option (Option Int) → PV
  | some (.v a), some l, some h, some (some m) => sliceV3 tb t a l h m
  | _, _, _, _ => none

def pv (tb : Tb) (rs : RL) (ρ : Operand → Option EV) : Op → PV
  | .move x | .assign x => match ρ x with
    | some e => some (True, e)
    | none => none
  | .binOp op t x y _ => (match ρ x, ρ y with
    | some (.v a), some (.v b) => binV tb op t a b
    | _, _ => none)
  | .unOp op _ x => (match ρ x with
    | some (.v a) => unV op a
    | _ => none)
  | .convert src dst x => (match tb src, ρ x with
    | some _, some (.v a) => convV tb dst a
    | _, _ => none)
  | .field t x f => (match ρ x with
    | some (.v a) => fieldV tb t f a
    | _ => none)
  | .extract x i => (match ρ x with
    | some (.v a) => extractV i a
    | _ => none)
  | .fieldAddr t x f => (match ρ x with
    | some e => fieldAddrV tb t f e
    | _ => none)
  | .indexAddr t x i => (match ρ x, ρ i with
    | some e, some (.v (.int _ n)) => indexAddrV tb rs t e n
    | _, _ => none)
  | .index t x i => (match ρ x, ρ i with
    | some (.v a), some (.v (.int _ n)) => indexV tb t a n
    | _, _ => none)
  | .slice t x lo hi none => sliceGo tb t (ρ x) (bound ρ lo) (bound ρ hi)
  | .slice t x lo hi (some m) => sliceGo3 tb t (ρ x) (bound ρ lo) (bound ρ hi) (bound ρ (some m))
  | .build t parts => (match partsOf rs ρ parts.toList with
    | some ps => buildV tb t ps
    | none => none)
  | .makeFunc fn first captured => (match vals rs ρ first.toList, vals rs ρ captured.toList with
    | some xs, some ys => ret1 (.func fn xs.toArray ys.toArray)
    | _, _ => none)
  | .nilCheck x => (match ρ x with
    | some (.v (.pointer p)) => some (p.isSome = true, .v (.pointer p))
    | some (.loc id o) => some (True, .loc id o)
    | _ => none)
  | .call ⟨.builtin b, args, ts⟩ => builtV tb rs b (evs ρ args.toList) ts.toList
  | _ => none

/-! ### What an operation asks, and what follows.
Every function that holds a continuation is defined by equations on its arguments' constructors, so that simp runs it from the inside out and never walks into a continuation. -/
def chainFree (d : Nat) : GEnv → Bool
  | [] => true
  | (m, c, _) :: t => !(Nat.beq m d) && c.all (fun e => !(Nat.beq e.1 d)) && chainFree d t
def envFree (d : Nat) (env : Env) : Bool :=
  match lk env d with
  | some _ => false
  | none => true
def putV (N : Nat) : Chain → Option Nat → EV → (GEnv → St → Prop) → GEnv → St → Prop
  | _, none, _, _, _, _ => False
  | [], some d, e, K, [], ⟨env, F, rs, nx⟩ => d < N ∧ K [] ⟨(d, e) :: env, F, rs, nx⟩
  | [], some d, e, K, x :: g, ⟨env, F, rs, nx⟩ => d < N ∧ chainFree d (x :: g) = true ∧ K (x :: g) ⟨(d, e) :: env, F, rs, nx⟩
  | c :: ch, some d, e, K, g, st => d < N ∧ (chainFree d g && envFree d st.env) = true ∧ K ((d, c :: ch, e) :: g) st
/-- The same, as a function of the value. -/
def putK (N : Nat) (ch : Chain) (d : Option Nat) (K : GEnv → St → Prop) (g : GEnv) (st : St) (e : EV) : Prop := putV N ch d e K g st
/-- Something is asked, then a value is laid down. -/
def putO (N : Nat) : PV → Chain → Option Nat → (GEnv → St → Prop) → GEnv → St → Prop
  | some (ob, e), ch, d, K, g, st => imp ch ob ∧ putV N ch d e K g st
  | none, _, _, _, _, _ => False

/-- The merge of the two arms of '&&' and '||'. -/
def bpick (b x y : Bool) : Bool :=
  match b with
  | true => x
  | false => y

/-- A plain call: one value, whatever world; no old block is turned. -/
def Plain (P : Program) (F : Hp) (f : FuncId) (args : List Value) (x : Value) : Prop :=
  ∀ w, F.le w → Calls P f args.toArray w fun e w' => e = .returned x ∧ Pres [] w w'

def FNew (F F' : Hp) (n : Nat) : Prop := ∀ k, (F' k).isSome = true → (F k).isSome = true ∨ n ≤ k
/-- Owned blocks, as a list with numbers. -/
structure Owned (F : Hp) (rs : RL) (w : World) : Prop where
  own : ∀ id r, lkR rs id = some r → (match r.blk with
    | none => r.cells = [] ∧ r.cap = 0
    | some b => F b = none ∧ r.cells.length ≤ r.cap ∧ ∃ cur : Array Value, w.heap[b]? = some (.cells cur r.ty (0, 0)) ∧ cur.size = r.cap ∧
        ∀ (j : Nat) (ev : EV) (x : Value), r.cells[j]? = some ev → ev.val rs = some x → cur[j]? = some x)
  apart : ∀ i j r s b, lkR rs i = some r → lkR rs j = some s → r.blk = some b → s.blk = some b → i = j

/-- A call in general: what it hands back, what it has frozen, what it hands over. -/
def CallOK (P : Program) (F : Hp) (f : FuncId) (args : List Value) (Q : Value → Hp → RL → Prop) : Prop :=
  ∀ w, F.le w → Calls P f args.toArray w fun e w' => ∃ x F' new, e = .returned x ∧ F.sub F' ∧ F'.le w' ∧ Pres [] w w' ∧ FNew F F' w.heap.size ∧
    Owned F' new w' ∧ (∀ id r b, lkR new id = some r → r.blk = some b → w.heap.size ≤ b) ∧ Q x F' new

/-- The numbers of the new blocks begin at nx. -/
def shiftE (n : Nat) : EV → EV
  | .v x => .v x
  | .loc id o => .loc (n + id) o
  | .row id o k c => .row (n + id) o k c
def shiftB (n : Nat) (r : Blk) : Blk := { r with cells := r.cells.map (shiftE n) }
def shiftR (n : Nat) (rs : RL) : RL := rs.map fun x => (n + x.1, shiftB n x.2)

/-- One cell, or the cells of an aggregate, in the frozen part. -/
def loadF (F : Hp) (size : Nat) (p : Option Addr) (ch : Chain) (K : EV → Prop) : Bool → Prop
  | true => ∃ cs : List Value, cs.length = size ∧ imp ch (p.isSome = true ∧ ∀ j, j < size → Pcell F (padd p j) = cs[j]?) ∧ K (.v (.agg cs.toArray))
  | false => ∃ x, imp ch (Pcell F p = some x) ∧ K (.v x)
def allV (rs : RL) : List EV → Option (List Value)
  | [] => some []
  | e :: t => match e.val rs, allV rs t with
    | some x, some xs => some (x :: xs)
    | _, _ => none
def aliveO (rs : RL) : Option EV → Option EV
  | some e => alive rs e
  | none => none
def optV : Option EV → (EV → Prop) → Prop
  | some e, K => K e
  | none, _ => False
def optL : Option (List Value) → (EV → Prop) → Prop
  | some cs, K => K (.v (.agg cs.toArray))
  | none, _ => False
def loadL (rs : RL) (size off : Nat) (K : EV → Prop) : Bool → Option Blk → Prop
  | true, some r => off + size ≤ r.cells.length ∧ optL (allV rs ((r.cells.take (off + size)).drop off)) K
  | false, some r => optV (aliveO rs r.cells[off]?) K
  | _, none => False
def loadGo (F : Hp) (rs : RL) (ch : Chain) (K : EV → Prop) : Option TI → Option EV → Prop
  | some i, some (.v (.pointer p)) => loadF F i.size p ch K i.kind.agg
  | some i, some (.loc id off) => loadL rs i.size off K i.kind.agg (lkR rs id)
  | _, _ => False

/-! ### What it means that a state fits the machine's -/
def EV.lt (n : Nat) : EV → Prop
  | .v _ => True
  | .loc id _ => id < n
  | .row id _ _ _ => id < n

structure Ctx where
  wE : World
  F0 : Hp
  F1 : Hp
  rs0 : RL
  nx0 : Nat

structure WOK (c : Ctx) (F : Hp) (rs : RL) (w : World) : Prop where
  le : F.le w
  own : Owned F rs w
  pres : Pres [] c.wE w
  new : ∀ id r b, lkR rs id = some r → r.blk = some b → c.wE.heap.size ≤ b
  fnew : FNew c.F0 F c.wE.heap.size

/-- What has become of what was there when the code began. -/
structure Hist (c : Ctx) (F : Hp) (rs : RL) (nx : Nat) : Prop where
  sub : c.F1.sub F
  nxle : c.nx0 ≤ nx
  succ : ∀ id r, id < c.nx0 → lkR rs id = some r → ∃ r0, lkR c.rs0 id = some r0 ∧ r0.blk = r.blk

def gA (ch : Chain) (a : Act) : Prop := ∀ s w b, (s, w, b) ∈ ch → a.tmps.getD s undef = .bool w

structure GSat (c : Ctx) (N : Nat) (g : GEnv) (st : St) (a : Act) (w : World) : Prop where
  size : a.tmps.size = N
  defers : a.defers = []
  wok : WOK c st.F st.rs w
  hist : Hist c st.F st.rs st.nx
  rids : ∀ id r, lkR st.rs id = some r → id < st.nx ∧ ∀ e ∈ r.cells, e.lt st.nx
  ids : ∀ n e, lk st.env n = some e → e.lt st.nx
  env : ∀ n e x, lkG g n = none → lk st.env n = some e → e.val st.rs = some x → a.tmps.getD n undef = x
  gv : ∀ n ch e, lkG g n = some (ch, e) → (gA ch a → (∀ x, e.val st.rs = some x → a.tmps.getD n undef = x) ∧ gP ch) ∧ (¬ gA ch a → a.tmps.getD n undef = undef) ∧ e.lt st.nx ∧ lk st.env n = none

abbrev Sat (c : Ctx) (N : Nat) (st : St) (a : Act) (w : World) : Prop := GSat c N [] st a w


/-- Whatever fits the one state fits another one that is told of by G. -/
def VS (N : Nat) (g : GEnv) (st : St) (G : St → Prop) : Prop := ∀ c a w, GSat c N g st a w → ∃ st', GSat c N g st' a w ∧ G st'

/-- The same, where the code began with at most k names. -/
def VSf (k N : Nat) (g : GEnv) (st : St) (G : St → Prop) : Prop := ∀ c a w, c.nx0 ≤ k → GSat c N g st a w → ∃ st', GSat c N g st' a w ∧ G st'

def callEff (P : Program) (N : Nat) (f : FuncId) (args : List Value) (d : Option Nat) (K : GEnv → St → Prop) (g : GEnv) (st : St) : Prop :=
  VS N g st fun st => ∃ Q : Value → Hp → RL → Prop, CallOK P st.F f args Q ∧
    ∀ x F' new, st.F.sub F' → Q x F' new → ∃ (m : Nat) (e : EV), (∀ id r, lkR new id = some r → id < m ∧ ∀ e ∈ r.cells, e.lt m) ∧ e.val new = some x ∧
      putV N [] d (shiftE st.nx e) K g ⟨st.env, F', shiftR st.nx new ++ st.rs, st.nx + m⟩
def callPlain (P : Program) (N : Nat) (ch : Chain) (f : FuncId) (args : List Value) (d : Option Nat) (K : GEnv → St → Prop) (g : GEnv) (st : St) : Prop :=
  ∃ x, imp ch (Plain P st.F f args x) ∧ putV N ch d (.v x) K g st
def callV (P : Program) (N : Nat) (f : FuncId) (args : List Value) (d : Option Nat) (K : GEnv → St → Prop) (g : GEnv) (st : St) : Bool → Chain → Prop
  | true, ch => callPlain P N ch f args d K g st
  | false, [] => callEff P N f args d K g st
  | false, c :: ch => callPlain P N (c :: ch) f args d K g st

/-- A function with a text (no body-less one). -/
def bodied (P : Program) (f : FuncId) : Prop := ∃ fn, P.funcs[f]? = some fn ∧ fn.body.isNone = false ∧ (fn.name == "runtime.NumGoroutine") = false

def callGo (P : Program) (N : Nat) (dr : Bool) (ch : Chain) (d : Option Nat) (K : GEnv → St → Prop) (g : GEnv) (st : St) : Option EV → Option (List Value) → Prop
  | some (.v (.func (.func n) first captured)), some xs => bodied P n ∧ callV P N n (first.toList ++ xs ++ captured.toList) d K g st dr ch
  | _, _ => False
def pickGo (N : Nat) (ch : Chain) (d : Option Nat) (K : GEnv → St → Prop) (g : GEnv) (st : St) (t : Bool) : Option EV → Option EV → Prop
  | some (.v (.bool x)), some (.v (.bool y)) => putV N ch d (.v (.bool (bpick t x y))) K g st
  | _, _ => False
def pickTo (N : Nat) (ch : Chain) (d : Option Nat) (K : GEnv → St → Prop) (g : GEnv) (st : St) (s : Nat) (a b : Operand) : Option EV → Prop
  | some (.v (.bool t)) => pickGo N ch d K g st t (opd st.rs g st.env (ch ++ [(s, true, t)]) a) (opd st.rs g st.env (ch ++ [(s, false, t)]) b)
  | _ => False

/-- The merge where the answer is known. -/
def pickO (N : Nat) (ch : Chain) (d : Option Nat) (K : GEnv → St → Prop) (g : GEnv) (st : St) : Option EV → Prop
  | some e => putV N ch d e K g st
  | none => False
def pickN (N : Nat) (ch : Chain) (d : Option Nat) (K : GEnv → St → Prop) (g : GEnv) (st : St) (a b : Operand) : Option EV → Prop
  | some (.v (.bool true)) => pickO N ch d K g st (opd st.rs g st.env ch a)
  | some (.v (.bool false)) => pickO N ch d K g st (opd st.rs g st.env ch b)
  | _ => False

/-- A new block of the call's own. -/
def newV (N : Nat) (d : Option Nat) (K : GEnv → St → Prop) (g : GEnv) (t : TypeId) (cells : List EV) : St → Prop
  | ⟨env, F, rs, nx⟩ => ∀ b, putV N [] d (.loc nx 0) K g ⟨env, F, (nx, ⟨some b, cells, t, cells.length⟩) :: rs, nx + 1⟩
def cellsOf : EV → List EV
  | .v (.agg cs) => cs.toList.map .v
  | e => [e]
def boxGo (N : Nat) (d : Option Nat) (K : GEnv → St → Prop) (g : GEnv) (t : TypeId) (st : St) : Option EV → Prop
  | some e => newV N d K g t (cellsOf e) st
  | none => False
def allocGo (N : Nat) (d : Option Nat) (K : GEnv → St → Prop) (g : GEnv) (t : TypeId) (st : St) : Option TI → Prop
  | some i => newV N d K g t (i.zero.map .v) st
  | none => False
/-- A new row of the call's own. -/
def rowV (N : Nat) (d : Option Nat) (K : GEnv → St → Prop) (g : GEnv) (t : TypeId) (n : Nat) (cells : List EV) : St → Prop
  | ⟨env, F, rs, nx⟩ => ∀ b, putV N [] d (.row nx 0 n n) K g ⟨env, F, (nx, ⟨some b, cells, t, cells.length⟩) :: rs, nx + 1⟩
def zerosV (n : Nat) (z : List Value) : List Value := (List.range n).map fun i => z.toArray[i % z.length]!
def bsFill (N : Nat) (d : Option Nat) (K : GEnv → St → Prop) (g : GEnv) (st : St) (e : TypeId) (n : Nat) : Option (List Value) → Prop
  | some cs => rowV N d K g e n (cs.map .v) st
  | none => False
def bsElem (N : Nat) (d : Option Nat) (K : GEnv → St → Prop) (g : GEnv) (st : St) (e : TypeId) (n : Nat) (ps : List (Nat × Value)) : Option TI → Prop
  | some ti => n * ti.size ≤ 2 ^ 24 ∧ bsFill N d K g st e n (fillV (fun i => some (i * ti.size, ti.size)) (zerosV (n * ti.size) ti.zero) ps)
  | none => False
def bsGo (tb : Tb) (N : Nat) (d : Option Nat) (K : GEnv → St → Prop) (g : GEnv) (st : St) (n : Nat) : Option TK → Option (List (Nat × Value)) → Prop
  | some (.slice e), some ps => bsElem N d K g st e n ps (tb e)
  | _, _ => False
/-- The value of one cell. -/
def one : EV → Bool
  | .v (.agg _) => false
  | .v (.tuple _) => false
  | _ => true
def storeIn (K : GEnv → St → Prop) (g : GEnv) (id off : Nat) (es : List EV) (size : Nat) : St → Option Blk → Prop
  | ⟨env, F, rs, nx⟩, some r => es.length = size ∧ es.all one = true ∧ off + size ≤ r.cells.length ∧ K g ⟨env, F, setR rs id ⟨r.blk, r.cells.take off ++ es ++ r.cells.drop (off + size), r.ty, r.cap⟩, nx⟩
  | _, none => False
def storeGo (K : GEnv → St → Prop) (g : GEnv) (st : St) : Option TI → Option EV → Option EV → Prop
  | some i, some (.loc id off), some e => storeIn K g id off (cellsOf e) i.size st (lkR st.rs id)
  | _, _, _ => False

def opV (P : Program) (tb : Tb) (N : Nat) (dr : Bool) (ch : Chain) (d : Option Nat) (K : GEnv → St → Prop) (g : GEnv) (st : St) : Op → Prop
  | .pick (.tmp s) a b => pickTo N ch d K g st s a b (opd st.rs g st.env ch (.tmp s)) ∨ pickN N ch d K g st a b (opd st.rs g st.env ch (.tmp s))
  | .load t a => loadGo st.F st.rs ch (putK N ch d K g st) (tb t) (opd st.rs g st.env ch a)
  | .call ⟨.value f, args, _⟩ => callGo P N dr ch d K g st (opd st.rs g st.env ch f) (vals st.rs (opd st.rs g st.env ch) args.toList)
  | .alloc t => dr = false ∧ ch = [] ∧ allocGo N d K g t st (tb t)
  | .box t x => dr = false ∧ ch = [] ∧ boxGo N d K g t st (opd st.rs g st.env ch x)
  | .buildSlice t n ps => dr = false ∧ ch = [] ∧ bsGo tb N d K g st n (tk tb t) (partsOf st.rs (opd st.rs g st.env ch) ps.toList)
  | .store t a x => dr = false ∧ ch = [] ∧ d = none ∧ storeGo K g st (tb t) (opd st.rs g st.env ch a) (opd st.rs g st.env ch x)
  | .move x => putO N (pv tb st.rs (opd st.rs g st.env ch) (.move x)) ch d K g st
  | .assign x => putO N (pv tb st.rs (opd st.rs g st.env ch) (.assign x)) ch d K g st
  | .build t ps => putO N (pv tb st.rs (opd st.rs g st.env ch) (.build t ps)) ch d K g st
  | .nilCheck x => putO N (pv tb st.rs (opd st.rs g st.env ch) (.nilCheck x)) ch d K g st
  | .binOp op t x y u => putO N (pv tb st.rs (opd st.rs g st.env ch) (.binOp op t x y u)) ch d K g st
  | .unOp op t x => putO N (pv tb st.rs (opd st.rs g st.env ch) (.unOp op t x)) ch d K g st
  | .convert s t x => putO N (pv tb st.rs (opd st.rs g st.env ch) (.convert s t x)) ch d K g st
  | .makeFunc fn x y => putO N (pv tb st.rs (opd st.rs g st.env ch) (.makeFunc fn x y)) ch d K g st
  | .slice t x lo hi mx => putO N (pv tb st.rs (opd st.rs g st.env ch) (.slice t x lo hi mx)) ch d K g st
  | .fieldAddr t x f => putO N (pv tb st.rs (opd st.rs g st.env ch) (.fieldAddr t x f)) ch d K g st
  | .field t x f => putO N (pv tb st.rs (opd st.rs g st.env ch) (.field t x f)) ch d K g st
  | .indexAddr t x i => putO N (pv tb st.rs (opd st.rs g st.env ch) (.indexAddr t x i)) ch d K g st
  | .index t x i => putO N (pv tb st.rs (opd st.rs g st.env ch) (.index t x i)) ch d K g st
  | .extract x i => putO N (pv tb st.rs (opd st.rs g st.env ch) (.extract x i)) ch d K g st
  | .call ⟨.builtin b, args, ts⟩ => putO N (pv tb st.rs (opd st.rs g st.env ch) (.call ⟨.builtin b, args, ts⟩)) ch d K g st
  | _ => False

/-! ### Operations that read or write memory of the call's own -/
def Frow (F : Hp) (p : Option Addr) (cs : List Value) : Prop := ∀ j u, cs[j]? = some u → Pcell F (padd p j) = some u
/-- The elements that are appended. -/
def srcR (size o m : Nat) (k : Nat → List EV → Prop) : Option Blk → Prop
  | some ⟨none, _, _, _⟩ => m = 0 ∧ k 0 []
  | some ⟨some _, cells, _, _⟩ => o + m * size ≤ cells.length ∧ k m ((cells.take (o + m * size)).drop o)
  | none => False
def srcV (F : Hp) (rs : RL) (size : Nat) (k : Nat → List EV → Prop) : Option EV → Prop
  | some (.row id o m _) => srcR size o m k (lkR rs id)
  | some (.v (.slice p m _)) => ∃ cs : List Value, cs.length = m * size ∧ Frow F p cs ∧ k m (cs.map .v)
  | some (.v (.string s)) => size = 1 ∧ k (bl s).length ((bl s).map fun b => .v (.int .u8 (b.toNat : Int)))
  | _ => False
def oneAll (rs : RL) (l : List EV) : Prop := ∀ e ∈ l, one e = true ∧ ∃ x, e.val rs = some x
/-- Behind an append: a new name for the row. -/
def appK (N : Nat) (d : Option Nat) (K : GEnv → St → Prop) (g : GEnv) (e : TypeId) (size bytes : Nat) (same : Prop) (n m : Nat) (cells : List EV) : Hp → Env → RL → Nat → Prop
  | F, env, rs, nx => (m = 0 → same) ∧ (0 < m → (n + m) * bytes ≤ 140737488355328 ∧ ∀ b cap, n + m ≤ cap → putV N [] d (.row nx 0 (n + m) cap) K g ⟨env, F, (nx, ⟨some b, cells, e, cap * size⟩) :: rs, nx + 1⟩)
def appR (N : Nat) (d : Option Nat) (K : GEnv → St → Prop) (g : GEnv) (e : TypeId) (ti : TI) (id n c : Nat) (m : Nat) (news : List EV) : St → Option Blk → Prop
  | ⟨env, F, rs, nx⟩, some ⟨none, _, _, _⟩ => n = 0 ∧ c = 0 ∧ appK N d K g e ti.size ti.bytes (putV N [] d (.row id 0 n c) K g ⟨env, F, rs, nx⟩) 0 m news F env (delR rs id) nx
  | ⟨env, F, rs, nx⟩, some ⟨some _, cells, ty, cap⟩ => ty = e ∧ n ≤ c ∧ cap = c * ti.size ∧ n * ti.size ≤ cells.length ∧ appK N d K g e ti.size ti.bytes (putV N [] d (.row id 0 n c) K g ⟨env, F, rs, nx⟩) n m (cells.take (n * ti.size) ++ news) F env (delR rs id) nx
  | _, none => False
def appF (N : Nat) (d : Option Nat) (K : GEnv → St → Prop) (g : GEnv) (e : TypeId) (ti : TI) (p : Option Addr) (n c : Nat) (m : Nat) (news : List EV) : St → Prop
  | ⟨env, F, rs, nx⟩ => n = c ∧ ∃ cs : List Value, cs.length = n * ti.size ∧ Frow F p cs ∧ appK N d K g e ti.size ti.bytes (putV N [] d (.v (.slice p n c)) K g ⟨env, F, rs, nx⟩) n m (cs.map .v ++ news) F env rs nx
def appD (N : Nat) (d : Option Nat) (K : GEnv → St → Prop) (g : GEnv) (st : St) (e : TypeId) (ti : TI) (m : Nat) (news : List EV) : Option EV → Prop
  | some (.row id 0 n c) => appR N d K g e ti id n c m news st (lkR st.rs id)
  | some (.v (.slice p n c)) => appF N d K g e ti p n c m news st
  | _ => False
def appS (N : Nat) (d : Option Nat) (K : GEnv → St → Prop) (g : GEnv) (st : St) (e : TypeId) (x y : Option EV) : Option TI → Prop
  | some ti => 0 < ti.size ∧ 0 < ti.bytes ∧ ti.zero.length = ti.size ∧ srcV st.F st.rs ti.size (fun m news => oneAll st.rs news ∧ appD N d K g st e ti m news x) y
  | none => False
def srcTy : Option TK → Bool
  | some (.slice _) => true
  | some .string => true
  | _ => false
def appV (tb : Tb) (N : Nat) (d : Option Nat) (K : GEnv → St → Prop) (g : GEnv) (st : St) (t2 : TypeId) (x y : Option EV) : Option TK → Prop
  | some (.slice e) => srcTy (tk tb t2) = true ∧ appS N d K g st e x y (tb e)
  | _ => False
/-- Bytes read as a string. -/
def strV (F : Hp) (rs : RL) (k : List UInt8 → Prop) : Option EV → Prop
  | some (.row id o m _) => srcR 1 o m (fun _ cells => ∃ bs : List UInt8, cells = bs.map (fun b => .v (.int .u8 (b.toNat : Int))) ∧ k bs) (lkR rs id)
  | some (.v (.slice p m _)) => ∃ bs : List UInt8, bs.length = m ∧ Frow F p (bs.map fun b => .int .u8 (b.toNat : Int)) ∧ k bs
  | _ => False
def isByteSlice (tb : Tb) : Option TK → Bool
  | some (.slice e) => (match tk tb e with
    | some (.int .u8) => true
    | _ => false)
  | _ => false
def isStr : Option TK → Bool
  | some .string => true
  | _ => false
/-- A call that is walked in its place: what holds behind it is told of the caller's own memory. -/
def CallIn (P : Program) (F : Hp) (rs : RL) (nx : Nat) (f : FuncId) (args : List EV) (Q : EV → Hp → RL → Nat → Prop) : Prop :=
  ∀ c w, WOK c F rs w → Hist c F rs nx → (∀ id r, lkR rs id = some r → id < nx ∧ ∀ e ∈ r.cells, e.lt nx) → c.F1 = F → c.rs0 = rs → c.nx0 = nx → ∀ xs, allV rs args = some xs → Calls P f xs.toArray w fun e w' =>
    ∃ x ev F' rs' nx', e = .returned x ∧ WOK c F' rs' w' ∧ Hist c F' rs' nx' ∧ (∀ id r, lkR rs' id = some r → id < nx' ∧ ∀ e ∈ r.cells, e.lt nx') ∧ ev.lt nx' ∧ ev.val rs' = some x ∧ Q ev F' rs' nx'
/-- A call's result is laid down, or there is none. -/
def putE (N : Nat) : Option Nat → EV → (GEnv → St → Prop) → GEnv → St → Prop
  | none, _, K, g, st => K g st
  | some d, e, K, g, st => putV N [] (some d) e K g st
def inGo (P : Program) (N : Nat) (d : Option Nat) (K : GEnv → St → Prop) (g : GEnv) : St → Option EV → Option (List EV) → Prop
  | ⟨env, F, rs, nx⟩, some (.v (.func (.func n) first captured)), some xs => bodied P n ∧ ∃ Q, CallIn P F rs nx n (first.toList.map .v ++ xs ++ captured.toList.map .v) Q ∧
      ∀ e F' rs' nx', F.sub F' → nx ≤ nx' → Q e F' rs' nx' → putE N d e K g ⟨env, F', rs', nx'⟩
  | _, _, _ => False
def memV (P : Program) (tb : Tb) (N : Nat) (d : Option Nat) (K : GEnv → St → Prop) (g : GEnv) (st : St) : Op → Prop
  | .call ⟨.builtin .append, args, ts⟩ => ∃ x y t1 t2, args.toList = [x, y] ∧ ts.toList = [t1, t2] ∧ appV tb N d K g st t2 (opd st.rs g st.env [] x) (opd st.rs g st.env [] y) (tk tb t1)
  | .convert s t x => isByteSlice tb (tk tb s) = true ∧ isStr (tk tb t) = true ∧ strV st.F st.rs (fun bs => putV N [] d (.v (S bs)) K g st) (opd st.rs g st.env [] x)
  | .call ⟨.value f, args, _⟩ => inGo P N d K g st (opd st.rs g st.env [] f) (evs (opd st.rs g st.env []) args.toList)
  | _ => False
/-- An operation told of by the machine's own words: what it does to whatever fits the state. -/
def semV (P : Program) (N : Nat) (d : Option Nat) (K : GEnv → St → Prop) (g : GEnv) (st : St) (op : Op) : Prop :=
  ∃ (e : EV) (st' : St), (∀ (c : Ctx) (a : Act) (w : World) (o : Oper), GSat c N g st a w → o.op = op → ∃ v w', (execOp a.eval o).run P w = .ok (.value v) w' ∧ GSat c N g st' a w' ∧ e.val st'.rs = some v) ∧ putE N d e K g st'
/-- An operation that no guard holds back. -/
def opX (P : Program) (tb : Tb) (N : Nat) (dr : Bool) (d : Option Nat) (K : GEnv → St → Prop) (g : GEnv) (st : St) (op : Op) : Prop :=
  opV P tb N dr [] d K g st op ∨ (dr = false ∧ memV P tb N d K g st op) ∨ (dr = false ∧ VS N g st fun st => opV P tb N false [] d K g st op ∨ memV P tb N d K g st op ∨ semV P N d K g st op)

def guardE (P : Program) (tb : Tb) (N : Nat) (dr : Bool) (s : Nat) (want : Bool) (op : Op) (d : Option Nat) (K : GEnv → St → Prop) (g : GEnv) (st : St) : Option EV → Prop
  | some (.v (.bool b)) => opV P tb N dr [(s, want, b)] d K g st op
  | _ => False
def guardG (P : Program) (tb : Tb) (N : Nat) (dr : Bool) (s : Nat) (want : Bool) (op : Op) (d : Option Nat) (K : GEnv → St → Prop) (g : GEnv) (st : St) : Option (Chain × EV) → Prop
  | some (c, .v (.bool b)) => opV P tb N dr (c ++ [(s, want, b)]) d K g st op
  | some _ => False
  | none => guardE P tb N dr s want op d K g st (lk st.env s)
def guardS (P : Program) (tb : Tb) (N : Nat) (dr : Bool) (want : Bool) (op : Op) (d : Option Nat) (K : GEnv → St → Prop) (g : GEnv) (st : St) : Option Nat → Prop
  | some s => guardG P tb N dr s want op d K g st (lkG g s)
  | none => False
def dstOf : Option Oper → Option Nat
  | some o => o.dst
  | none => none
/-- An operation that is not wanted: its slot holds no value. -/
def skipV (N : Nat) (d : Option Nat) (K : GEnv → St → Prop) (g : GEnv) (st : St) : Prop :=
  match d with
  | none => K g st
  | some d => putV N [] (some d) (.v (.tuple #[])) K g st
/-- The guard's answer is known. -/
def guardK (P : Program) (tb : Tb) (N : Nat) (dr : Bool) (want : Bool) (op : Op) (d : Option Nat) (K : GEnv → St → Prop) (g : GEnv) (st : St) : Option Nat → Prop
  | some s => ∃ b, lkG g s = none ∧ lk st.env s = some (.v b) ∧ ((b = .bool want ∧ opX P tb N dr d K g st op) ∨ (b ≠ .bool want ∧ skipV N d K g st))
  | none => False
def stepV (P : Program) (tb : Tb) (N : Nat) (dr : Bool) (all : List Oper) (op : Op) (d : Option Nat) (K : GEnv → St → Prop) (g : GEnv) (st : St) : Option (Nat × Bool) → Prop
  | none => opX P tb N dr d K g st op
  | some (j, want) => guardS P tb N dr want op d K g st (dstOf all[j]?) ∨ guardK P tb N dr want op d K g st (dstOf all[j]?)

def vcOps (P : Program) (tb : Tb) (N : Nat) (dr : Bool) (all : List Oper) : List Oper → (GEnv → St → Prop) → GEnv → St → Prop
  | [], K, g, st => K g st
  | ⟨d, op, _, _, _, gd⟩ :: rest, K, g, st => stepV P tb N dr all op d (vcOps P tb N dr all rest K) g st gd
/-- The guards are of no use any more. -/
def dropG (K : St → Prop) : GEnv → St → Prop := fun _ st => K st

/-! ### A region that draws its order, and makes memory: what only reads may be taken first -/
/-- The blocks that are read by what is taken first; of all others nothing is known. -/
def mask (kept : List Nat) : RL → RL
  | [] => []
  | (id, ⟨b, cells, ty, cap⟩) :: t => match kept.contains id with
    | true => (id, ⟨b, cells, ty, cap⟩) :: mask kept t
    | false => (id, ⟨b, [], ty, cap⟩) :: mask kept t
def backK (rs : RL) (K : GEnv → St → Prop) : GEnv → St → Prop
  | g, ⟨env, F, _, nx⟩ => K g ⟨env, F, rs, nx⟩
def firstsB (md : Region.Mode) (ops : Array Oper) : Array Bool → List Nat → Bool
  | _, [] => true
  | done, i :: t => (Region.ready md ops done).contains i && Region.free md ops done i && firstsB md ops (done.setIfInBounds i true) t
def setAll : Array Bool → List Nat → Array Bool
  | done, [] => done
  | done, i :: t => setAll (done.setIfInBounds i true) t
def sel (ops : List Oper) : List Nat → Option (List Oper)
  | [] => some []
  | i :: t => match ops[i]?, sel ops t with
    | some o, some l => some (o :: l)
    | _, _ => none
/-- The values of a block's cells are as they were. -/
def sameV (rs rs' : RL) : List EV → Prop
  | [] => True
  | e :: t => e.val rs' = e.val rs ∧ sameV rs rs' t
def keptR (rs rs' : RL) (id : Nat) : Option Blk → Prop
  | some r => lkR rs' id = some r ∧ sameV rs rs' r.cells
  | none => True
def keptOK (rs rs' : RL) : List Nat → Prop
  | [] => True
  | id :: t => keptR rs rs' id (lkR rs id) ∧ keptOK rs rs' t
def brK (kept : List Nat) (F : Hp) (rs : RL) (K : GEnv → St → Prop) : GEnv → St → Prop := fun g st => (F.sub st.F ∧ keptOK rs st.rs kept) ∧ K g st
def vcAny (P : Program) (tb : Tb) (N : Nat) (ops : Array Oper) (kept : List Nat) (K : St → Prop) : Nat → Nat → Array Bool → GEnv → St → Prop
  | 0, _, _, _, _ => False
  | m + 1, f, done, g, st => (Region.ready .any ops done = [] ∧ VS N [] st K) ∨
      (∃ f' is l, f = f' + is.length ∧ firstsB .any ops done is = true ∧ sel ops.toList is = some l ∧ vcOps P tb N true ops.toList l (backK st.rs (vcAny P tb N ops kept K m f' (setAll done is))) g ⟨st.env, st.F, mask kept st.rs, st.nx⟩) ∨
      (∃ f', f = f' + 1 ∧ Region.ready .any ops done ≠ [] ∧ ∀ i ∈ Region.ready .any ops done, ∃ o, ops[i]? = some o ∧ stepV P tb N false ops.toList o.op o.dst (brK kept st.F st.rs (vcAny P tb N ops kept K m f' (done.setIfInBounds i true))) g st o.guard)

def seqK (G : St → Prop) (K : Exit → St → Prop) : Exit → St → Prop
  | .normal, st => G st
  | .ret, st => K .ret st
  | .exit j, st => K (.exit j) st
  | .goto j, st => K (.goto j) st
  | .panic c, st => K (.panic c) st
  | .outgrown, st => K .outgrown st
def exitK (K : Exit → St → Prop) (st : St) : Nat → Bool → Prop
  | _, true => K .normal st
  | j, false => K (.exit j) st
def blockK (id : Nat) (K : Exit → St → Prop) : Exit → St → Prop
  | .exit j, st => exitK K st j (j == id)
  | .normal, st => K .normal st
  | .ret, st => K .ret st
  | .goto j, st => K (.goto j) st
  | .panic c, st => K (.panic c) st
  | .outgrown, st => K .outgrown st
def condV (x y : (Exit → St → Prop) → St → Prop) (K : Exit → St → Prop) (st : St) : Option EV → Prop
  | some (.v (.bool true)) => x K st
  | some (.v (.bool false)) => y K st
  | _ => False

def loopK {ι : Type} (N k : Nat) (T : ι → St) (μ : ι → Nat) (i : ι) (K : Exit → St → Prop) : Exit → St → Prop
  | .normal, st => VSf (min k (T i).nx) N [] st fun st' => ∃ j, st' = T j ∧ μ j < μ i
  | .ret, st => VS N [] st (K .ret)
  | .exit j, st => VS N [] st (K (.exit j))
  | .goto j, st => K (.goto j) st
  | .panic c, st => K (.panic c) st
  | .outgrown, st => K .outgrown st
def loopV (N : Nat) (body : (Exit → St → Prop) → St → Prop) (K : Exit → St → Prop) (st : St) : Prop :=
  ∃ (ι : Type) (T : ι → St) (μ : ι → Nat), (VS N [] st fun st' => ∃ i, st' = T i) ∧ ∀ i, body (loopK N st.nx T μ i K) (T i)

def vc (P : Program) (tb : Tb) (N : Nat) : Code → (Exit → St → Prop) → St → Prop
  | .skip, K, st => K .normal st
  | .ret, K, st => K .ret st
  | .exit id, K, st => K (.exit id) st
  | .seq x y, K, st => vc P tb N x (seqK (vc P tb N y K) K) st
  | .block id x, K, st => vc P tb N x (blockK id K) st
  | .cond c x y, K, st => condV (vc P tb N x) (vc P tb N y) K st (opd st.rs [] st.env [] c)
  | .loop x, K, st => loopV N (vc P tb N x) K st
  | .region _ ops dr, K, st => VS N [] st fun st => ((dr = true → Region.lexB .any ops = true) ∧ vcOps P tb N dr ops.toList ops.toList (dropG (K .normal)) [] st) ∨
      (∃ n, Region.lexTailB .any ops n = true ∧ vcOps P tb N true ops.toList (ops.toList.take n) (dropG (vcOps P tb N false ops.toList (ops.toList.drop n) (dropG (K .normal)) [])) [] st) ∨
      (dr = true ∧ Region.noSelect ops = true ∧ ∃ kept, vcAny P tb N ops kept (K .normal) (ops.size + 1) ops.size (Array.replicate ops.size false) [] st)
  | _, _, _ => False

/-- The results of a function. -/
def resV (tb : Tb) (st : St) : List ResultVar → Option (List Value)
  | [] => some []
  | .tmp t :: l => (match lk st.env t with
    | some e => (match e.val st.rs, resV tb st l with
      | some x, some xs => some (x :: xs)
      | _, _ => none)
    | none => none)
  | .cell a t :: l => (match aliveO st.rs (lk st.env a), tb t with
    | some (.loc id off), some i => (match lkR st.rs id, resV tb st l with
      | some r, some xs => if i.kind.agg then (match allV st.rs ((r.cells.take (off + i.size)).drop off) with
          | some cs => if off + i.size ≤ r.cells.length then some (.agg cs.toArray :: xs) else none
          | none => none)
        else (match r.cells[off]? with
          | some e => (match e.val st.rs with
            | some x => some (x :: xs)
            | none => none)
          | none => none)
      | _, _ => none)
    | _, _ => none)
def tupV : List Value → Value
  | [x] => x
  | l => .tuple l.toArray
def retGo (Q : Value → Prop) : Option (List Value) → Prop
  | some xs => Q (tupV xs)
  | none => False
/-- At the end: the results' value. -/
def retK (tb : Tb) (rv : List ResultVar) (Q : Value → Prop) : Exit → St → Prop
  | .normal, st => retGo Q (resV tb st rv)
  | .ret, st => retGo Q (resV tb st rv)
  | _, _ => False
/-- At the end: the results' value, what is frozen, what is handed over. -/
def retG (N : Nat) (tb : Tb) (rv : List ResultVar) (Q : Value → Hp → RL → Prop) : Exit → St → Prop
  | .normal, st => VSf 0 N [] st fun st' => ∃ xs, resV tb st' rv = some xs ∧ Q (tupV xs) st'.F st'.rs
  | .ret, st => VSf 0 N [] st fun st' => ∃ xs, resV tb st' rv = some xs ∧ Q (tupV xs) st'.F st'.rs
  | _, _ => False
/-- The results where the caller's own memory goes on. -/
def resE (tb : Tb) (st : St) : List ResultVar → Option EV
  | [.tmp t] => aliveO st.rs (lk st.env t)
  | l => match resV tb st l with
    | some xs => some (.v (tupV xs))
    | none => none
def retI (N : Nat) (tb : Tb) (rv : List ResultVar) (Q : EV → Hp → RL → Nat → Prop) : Exit → St → Prop
  | .normal, st => VS N [] st fun st' => ∃ e, resE tb st' rv = some e ∧ Q e st'.F st'.rs st'.nx
  | .ret, st => VS N [] st fun st' => ∃ e, resE tb st' rv = some e ∧ Q e st'.F st'.rs st'.nx
  | _, _ => False

end Go.TR
