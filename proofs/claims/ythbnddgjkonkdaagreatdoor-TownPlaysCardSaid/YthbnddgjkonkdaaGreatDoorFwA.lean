/- A part of the proof. -/
import Derived.WalkKit
import Derived.Deep.Quiet
import Derived.StillTail
import Derived.Lib.UnsafeStr
set_option linter.unusedVariables false
set_option linter.unusedSimpArgs false
namespace Go.TR
section
theorem aa:type_of% @Option.some.injEq:=@Option.some.injEq
theorem ab:type_of% @List.length_map:=@List.length_map
theorem ae:type_of% @Int.toNat_natCast:=@Int.toNat_natCast
theorem ag:type_of% @List.length_append:=@List.length_append
theorem ah:type_of% @Nat.le_refl:=@Nat.le_refl
theorem ai:type_of% @Bool.eq_iff_iff:=@Bool.eq_iff_iff
theorem aj:type_of% @List.getElem_mem:=@List.getElem_mem
theorem al:type_of% @List.take_succ_eq_append_getElem:=@List.take_succ_eq_append_getElem
theorem an:type_of% @List.take_of_length_le:=@List.take_of_length_le
theorem ao:type_of% @List.getElem?_eq_getElem:=@List.getElem?_eq_getElem
theorem aq:type_of% @List.eq_nil_of_length_eq_zero:=@List.eq_nil_of_length_eq_zero
theorem ar:type_of% @of_decide_eq_true:=@of_decide_eq_true
theorem au:type_of% @of_decide_eq_false:=@of_decide_eq_false
theorem av:type_of% @decide_eq_true_eq:=@decide_eq_true_eq
theorem aw:type_of% @List.length_take:=@List.length_take
theorem az:type_of% @Nat.zero_le:=@Nat.zero_le
theorem aA:type_of% @Nat.mul_one:=@Nat.mul_one
theorem aB:type_of% @List.mem_singleton:=@List.mem_singleton
theorem aC:type_of% @Prod.mk.injEq:=@Prod.mk.injEq
theorem aD:type_of% @List.take_length:=@List.take_length
theorem aE:type_of% @List.getD_eq_getElem?_getD:=@List.getD_eq_getElem?_getD
theorem aF:type_of% @List.map_append:=@List.map_append
theorem aG:type_of% @List.mem_map:=@List.mem_map
theorem aH:type_of% @List.length_cons:=@List.length_cons
theorem aI:type_of% @List.getElem?_map:=@List.getElem?_map
theorem aJ:type_of% @Option.map_some:=@Option.map_some
theorem aK:type_of% @List.mem_append:=@List.mem_append
theorem aL:type_of% @Bool.and_eq_true:=@Bool.and_eq_true
theorem aM:type_of% @Nat.min_le_left:=@Nat.min_le_left
theorem aO:type_of% @List.drop_eq_getElem_cons:=@List.drop_eq_getElem_cons
theorem aP:type_of% @Nat.zero_add:=@Nat.zero_add
theorem aQ:type_of% @Bool.or_eq_false_iff:=@Bool.or_eq_false_iff
theorem aR:type_of% @List.length_drop:=@List.length_drop
theorem aS:type_of% @Option.map_eq_some_iff:=@Option.map_eq_some_iff
theorem aT:type_of% @List.mem_cons:=@List.mem_cons
theorem aU:type_of% @decide_eq_false_iff_not:=@decide_eq_false_iff_not
theorem aV:type_of% @decide_eq_decide:=@decide_eq_decide
theorem aW:type_of% @decide_eq_true:=@decide_eq_true
theorem aX:type_of% @decide_eq_false:=@decide_eq_false
theorem aY:type_of% @if_neg:=@if_neg
theorem aZ:type_of% @if_pos:=@if_pos
theorem a8:type_of% @congrArg:=@congrArg
theorem a9:type_of% @List.map_cons:=@List.map_cons
theorem bg:type_of% @Array.ext':=@Array.ext'
theorem bj:type_of% @Array.length_toList:=@Array.length_toList
theorem bn:type_of% @Bool.and_eq_false_iff:=@Bool.and_eq_false_iff
theorem bq:type_of% @Bool.false_eq_true:=@Bool.false_eq_true
theorem bu:type_of% @Bool.false_or:=@Bool.false_or
theorem bz:type_of% @Bool.not_eq_true':=@Bool.not_eq_true'
theorem bD:type_of% @Bool.or_eq_true:=@Bool.or_eq_true
theorem bE:type_of% @Classical.not_not:=@Classical.not_not
theorem bG:type_of% @Int.ofNat_fdiv:=@Int.ofNat_fdiv
theorem bI:type_of% @List.any_append:=@List.any_append
theorem bJ:type_of% @List.any_eq_false:=@List.any_eq_false
theorem bK:type_of% @List.any_eq_true:=@List.any_eq_true
theorem bM:type_of% @List.append_assoc:=@List.append_assoc
theorem bT:type_of% @List.append_nil:=@List.append_nil
theorem bU:type_of% @List.cons.injEq:=@List.cons.injEq
theorem bV:type_of% @List.cons_append:=@List.cons_append
theorem bW:type_of% @List.drop_eq_nil_of_le:=@List.drop_eq_nil_of_le
theorem bZ:type_of% @List.drop_length:=@List.drop_length
theorem cd:type_of% @List.flatMap_append:=@List.flatMap_append
theorem cg:type_of% @List.flatMap_cons:=@List.flatMap_cons
theorem cj:type_of% @List.getElem?_append:=@List.getElem?_append
theorem cr:type_of% @List.getElem?_cons_zero:=@List.getElem?_cons_zero
theorem cu:type_of% @List.getElem?_drop:=@List.getElem?_drop
theorem cy:type_of% @List.getElem?_eq_none:=@List.getElem?_eq_none
theorem cz:type_of% @List.getElem?_eq_some_iff:=@List.getElem?_eq_some_iff
theorem cA:type_of% @List.getElem?_of_mem:=@List.getElem?_of_mem
theorem cB:type_of% @List.getElem?_take:=@List.getElem?_take
theorem cC:type_of% @List.getElem?_toArray:=@List.getElem?_toArray
theorem cD:type_of% @List.getElem_map:=@List.getElem_map
theorem cE:type_of% @List.getElem_of_mem:=@List.getElem_of_mem
theorem cF:type_of% @List.isPrefixOf_iff_prefix:=@List.isPrefixOf_iff_prefix
theorem cG:type_of% @List.length_filter_le:=@List.length_filter_le
theorem cH:type_of% @List.length_nil:=@List.length_nil
theorem cI:type_of% @List.length_replicate:=@List.length_replicate
theorem cJ:type_of% @List.length_set:=@List.length_set
theorem cK:type_of% @List.map_drop:=@List.map_drop
theorem cL:type_of% @List.map_map:=@List.map_map
theorem cM:type_of% @List.map_nil:=@List.map_nil
theorem cN:type_of% @List.map_take:=@List.map_take
theorem cO:type_of% @List.mem_cons_of_mem:=@List.mem_cons_of_mem
theorem cP:type_of% @List.mem_cons_self:=@List.mem_cons_self
theorem cQ:type_of% @List.mem_filter:=@List.mem_filter
theorem cR:type_of% @List.mem_map_of_mem:=@List.mem_map_of_mem
theorem cT:type_of% @List.mem_of_getElem? :=@List.mem_of_getElem?
theorem cU:type_of% @List.mem_of_mem_drop:=@List.mem_of_mem_drop
theorem cV:type_of% @List.mem_of_mem_take:=@List.mem_of_mem_take
theorem cW:type_of% @List.mem_or_eq_of_mem_set:=@List.mem_or_eq_of_mem_set
theorem cX:type_of% @List.nil_append:=@List.nil_append
theorem cY:type_of% @List.nodup_cons:=@List.nodup_cons
theorem cZ:type_of% @List.not_mem_nil:=@List.not_mem_nil
theorem c7:type_of% @List.pairwise_iff_getElem:=@List.pairwise_iff_getElem
theorem c8:type_of% @List.size_toArray:=@List.size_toArray
theorem da:type_of% @List.take_append_of_le_length:=@List.take_append_of_le_length
theorem db:type_of% @List.take_zero:=@List.take_zero
theorem dc:type_of% @Nat.add_mul:=@Nat.add_mul
theorem de:type_of% @Nat.add_sub_cancel_left:=@Nat.add_sub_cancel_left
theorem df:type_of% @Nat.add_zero:=@Nat.add_zero
theorem dg:type_of% @Nat.eq_of_beq_eq_true:=@Nat.eq_of_beq_eq_true
theorem dh:type_of% @Nat.eq_zero_or_pos:=@Nat.eq_zero_or_pos
theorem di:type_of% @Nat.le_add_right:=@Nat.le_add_right
theorem dj:type_of% @Nat.le_succ:=@Nat.le_succ
theorem dk:type_of% @Nat.le_trans:=@Nat.le_trans
theorem dm:type_of% @Nat.lt_succ_self:=@Nat.lt_succ_self
theorem dp:type_of% @Nat.mod_lt:=@Nat.mod_lt
theorem dq:type_of% @Nat.mul_le_mul_right:=@Nat.mul_le_mul_right
theorem dt:type_of% @Nat.succ_mul:=@Nat.succ_mul
theorem du:type_of% @Nat.succ_pos:=@Nat.succ_pos
theorem dv:type_of% @Nat.zero_mul:=@Nat.zero_mul
theorem dw:type_of% @Option.getD_some:=@Option.getD_some
theorem dx:type_of% @Option.map_none:=@Option.map_none
theorem dy:type_of% @Option.some.inj:=@Option.some.inj
theorem dz:type_of% @UInt8.toNat_ofNat':=@UInt8.toNat_ofNat'
theorem dA:type_of% @beq_eq_false_iff_ne:=@beq_eq_false_iff_ne
theorem dB:type_of% @if_false:=@if_false
theorem dC:type_of% @if_true:=@if_true
theorem dD:type_of% @not_true_eq_false:=@not_true_eq_false
theorem dE:type_of% @or_false:=@or_false
abbrev Hp:=Nat→Option Obj
structure Le where
 gl:Nat
 cells:List Value
 ty:TypeId
 cap:Nat
def Hp.le (F:Hp)(w:World):Prop:=∀k o,F k=some o→w.heap[k]? =some o
def Hp.sub (F F':Hp):Prop:=∀k o,F k=some o→F' k=some o
theorem Hp.sub.refl (F:Hp):F.sub F:=fun _ _ h=>h
theorem Hp.sub.trans {F G H:Hp}(h:F.sub G)(k:G.sub H):F.sub H:=fun b o e=>k b o (h b o e)
def jx (F:Hp)(a:Addr):Option Value:=
 match F a.block with
 | some (.cells c _ _)=>if a.spot.isSome then none else c[a.off]?
 | _=>none
theorem jx.world {F:Hp}{w:World}(h:F.le w){a:Addr}{v:Value}(e:jx F a=some v):w.cell? a=some v:=by
 unfold jx at e;unfold World.cell?;cases hf:F a.block with
 | none=>simp[hf]at e
 | some o=>
  rw[h _ _ hf];cases o<;>simp_all
theorem jx.sub {F G:Hp}(h:F.sub G){a:Addr}{v:Value}(e:jx F a=some v):jx G a=some v:=by
 unfold jx at *;cases hf:F a.block with
 | none=>simp[hf]at e
 | some o=>
  rw[h _ _ hf];simpa [hf] using e
def Le.ok (r:Le)(w:World):Prop:=
 ∃cur,w.heap[r.gl]? =some (.cells cur r.ty (0,0))∧cur.size=r.cap∧cur.toList.take r.cells.length=r.cells
structure Mem (F:Hp) (rs:List Le) (w:World):Prop where
 le:F.le w
 own: ∀r∈rs,r.ok w
 off: ∀r∈rs,F r.gl=none
 nd:(rs.map Le.gl).Nodup
structure g9 (X:List Nat) (w w':World):Prop where
 os:w'.os=w.os
 tape:w'.tape=w.tape
 output:w'.output=w.output
 size:w.heap.size≤w'.heap.size
 block: ∀k,k<w.heap.size→k ∉ X→w'.heap[k]? =w.heap[k]?
theorem g9.refl (X:List Nat)(w:World):g9 X w w:=⟨rfl,rfl,rfl,ah _,fun _ _ _=>rfl⟩
theorem g9.trans {X:List Nat}{a b c:World}(h:g9 X a b)(k:g9 X b c):g9 X a c:=
 ⟨k.os.trans h.os,k.tape.trans h.tape,k.output.trans h.output,dk h.size k.size,fun i hi hx=>(k.block i (Nat.lt_of_lt_of_le hi h.size) hx).trans (h.block i hi hx)⟩
theorem g9.trans' {X Y:List Nat}{a b c:World}(h:g9 X a b)(k:g9 Y b c)(hY: ∀y∈Y,y∈X∨a.heap.size≤y):g9 X a c:=
 ⟨k.os.trans h.os,k.tape.trans h.tape,k.output.trans h.output,dk h.size k.size,fun i hi hx=>
  (k.block i (Nat.lt_of_lt_of_le hi h.size) (fun hy=>by rcases hY i hy with h' | h';exact hx h';omega)).trans (h.block i hi hx)⟩
theorem g9.mono {X Y:List Nat}{a b:World}(h:g9 X a b)(hXY: ∀x∈X,x∈Y):g9 Y a b:=
 ⟨h.os,h.tape,h.output,h.size,fun i hi hx=>h.block i hi (fun hm=>hx (hXY i hm))⟩
theorem g9.below {w w':World}(h:g9 [] w w'):RowKit.Below w.heap.size w w':=
 ⟨h.os,h.tape,h.output,h.size,fun k hk=>h.block k hk (by simp)⟩
theorem g9.FG {w w':World}(h:RowKit.Below w.heap.size w w'):g9 [] w w':=
 ⟨h.os,h.tape,h.output,h.size,fun k hk _=>h.block k hk⟩
theorem g9.drewN (X:List Nat)(w:World)(n:Nat):g9 X w { w with drawn:=w.drawn+n }:=⟨rfl,rfl,rfl,ah _,fun _ _ _=>rfl⟩
theorem gJ {w:World}{k:Nat}{o:Obj}(h:w.heap[k]? =some o):k<w.heap.size:=(Array.getElem?_eq_some_iff.1 h).1
theorem Le.ok.lt {r:Le}{w:World}(h:r.ok w):r.gl<w.heap.size:=by
 obtain⟨cur,h1,_⟩:=h;exact gJ h1
theorem Le.ok.il {r:Le}{w w':World}{X:List Nat}(h:r.ok w)(p:g9 X w w')(hx:r.gl ∉ X):r.ok w':=by
 have hl:=h.lt;obtain⟨cur,h1,h2⟩:=h;exact⟨cur,(p.block _ hl hx).trans h1,h2⟩
theorem Hp.le.il {F:Hp}{w w':World}{X:List Nat}(h:F.le w)(p:g9 X w w')(hx: ∀x∈X,F x=none):F.le w':=fun k o e=>by
 have h1:=h k o e;refine (p.block k (gJ h1) (fun hk=>?_)).trans h1;rw[hx k hk]at e;cases e
theorem Mem.il {F:Hp}{rs:List Le}{w w':World}(h:Mem F rs w)(p:g9 [] w w'):Mem F rs w':=
 ⟨h.le.il p (by simp),fun r hr=>(h.own r hr).il p (by simp),h.off,h.nd⟩
theorem g9.alloc (X:List Nat)(w:World)(o:Obj):g9 X w (w.alloc o):=
 ⟨rfl,rfl,rfl,by simp,fun k hk _=>heap_alloc_old w o hk⟩
theorem Mem.fresh {F:Hp}{rs:List Le}{w:World}(h:Mem F rs w):F w.heap.size=none∧ ∀r∈rs,r.gl≠w.heap.size:=by
 refine⟨?_,fun r hr=>?_⟩
 ·cases hf:F w.heap.size with
  | none=>rfl
  | some o=>have:=gJ (h.le _ _ hf);omega
 have:=(h.own r hr).lt;omega
theorem Mem.alloc {F:Hp}{rs:List Le}{w:World}(h:Mem F rs w)(cs:List Value)(t:TypeId):
  Mem F (⟨w.heap.size,cs,t,cs.length⟩::rs) (w.alloc (.cells cs.toArray t)):=by
 have hp:=g9.alloc [] w (.cells cs.toArray t);have hm:=h.il hp;obtain⟨h1,h2⟩:=h.fresh;refine⟨hm.le,?_,?_,?_⟩
 ·intro r hr;rcases aT.1 hr with rfl | hr
  ·exact⟨cs.toArray,heap_alloc_new w _,by simp,by simp⟩
  exact hm.own r hr
 ·intro r hr;rcases aT.1 hr with rfl | hr
  ·exact h1
  exact h.off r hr
 simp only[a9,cY];refine⟨fun hk=>?_,h.nd⟩;obtain⟨r,hr,e⟩:=aG.1 hk;exact h2 r hr e
end
section
inductive TK where
 | bool | int (k:IntKind) | string
 | slice (e:TypeId) | array (n:Nat) (e:TypeId)
 | struct (fs:List (TypeId×Nat))
 | pointer (e:TypeId)
 | other
structure TI where
 kind:TK
 size:Nat
 bytes:Nat
 zero:List Value
 flat:Bool
abbrev Tb:=TypeId→Option TI
def TK.agg:TK→Bool
 | .struct _ | .array _ _=>true
 | _=>false
def TK.fits:TK→TypeDesc→Prop
 | .bool,d=>d= .bool
 | .int k,d=>d= .int k
 | .string,d=>d= .string
 | .slice e,d=>d= .slice e
 | .array n e,d=>d= .array n e
 | .pointer e,d=>d= .pointer e
 | .struct fs,d=>∃fields,d= .struct fields∧fields.toList.map (fun f=>(f.type,f.offset))=fs∧ ∀f∈fields.toList,f.name≠ "_"
 | .other,d=>(∀fs,d≠ .struct fs)∧(∀n e,d≠ .array n e)
structure TI.ok (P:Program) (t:TypeId) (i:TI):Prop where
 info: ∃info,P.info? t=some info∧info.size=i.size∧info.bytes=i.bytes∧ ∃z,info.zero=some z∧z.cells.toList=i.zero
 kind: ∃d,P.underlying t=some d∧i.kind.fits d
 flat:i.flat=true→P.stoodInHeld t=false∧P.eqGuardType P.depth t=false
def tk (tb:Tb)(t:TypeId):Option TK:=
 match tb t with
 | some i=>some i.kind
 | none=>none
def gZ (P:Program)(tb:Tb):Prop:=∀t i,tb t=some i→i.ok P t
inductive EV where
 | v (x:Value)
 | loc (id off:Nat)
 | row (id o n c:Nat)
structure kj where
 gl:Option Nat
 cells:List EV
 ty:TypeId
 cap:Nat
abbrev RL:=List (Nat×kj)
def fR:RL→Nat→Option kj
 | [],_=>none
 | (m,r)::t,n=>match Nat.beq n m with
  | true=>some r
  | false=>fR t n
def qM:RL→Nat→kj→RL
 | [],_,_=>[]
 | (m,r)::t,n,r'=>match Nat.beq n m with
  | true=>(m,r')::t
  | false=>(m,r)::qM t n r'
def tJ:RL→Nat→RL
 | [],_=>[]
 | (m,r)::t,n=>match Nat.beq n m with
  | true=>tJ t n
  | false=>(m,r)::tJ t n
def im (p:Option Addr)(n:Nat):Option Addr:=p.map (·.add n)
def gb (F:Hp)(p:Option Addr):Option Value:=p.bind (jx F)
def EV.val (rs:RL):EV→Option Value
 | .v x=>some x
 | .loc id off=>
  match fR rs id with
  | some r=>match r.gl with
   | some b=>some (.pointer (some ⟨b,off,none⟩))
   | none=>none
  | none=>none
 | .row id o n c=>
  match fR rs id with
  | some r=>some (.slice (r.gl.map fun b=>⟨b,o,none⟩) n c)
  | none=>none
abbrev Env:=List (Nat×EV)
def lk:Env→Nat→Option EV
 | [],_=>none
 | (m,v)::t,n=>match Nat.beq n m with
  | true=>some v
  | false=>lk t n
structure St where
 env:Env
 F:Hp
 rs:RL
 nx:Nat
abbrev gq:=List (Nat×Bool×Bool)
abbrev fa:=List (Nat×gq×EV)
def rp:fa→Nat→Option (gq×EV)
 | [],_=>none
 | (m,c,v)::t,n=>match Nat.beq n m with
  | true=>some (c,v)
  | false=>rp t n
def pre:gq→gq→Bool
 | [],_=>true
 | (s,w,_)::t,(s',w',_)::t'=>Nat.beq s s'&&(w==w')&&pre t t'
 | _::_,[]=>false
def gP:gq→Prop
 | []=>True
 | (_,w,b)::t=>b=w∧gP t
def imp:gq→Prop→Prop
 | [],p=>p
 | c,p=>gP c→p
def QB (g:fa)(env:Env)(ch:gq)(n:Nat):Option EV:=
 match rp g n with
 | some (c,v)=>match pre c ch with
  | true=>some v
  | false=>none
 | none=>lk env n
def alive (rs:RL):EV→Option EV
 | .v x=>some (.v x)
 | .loc id o=>match fR rs id with
  | some r=>match r.gl with
   | some _=>some (.loc id o)
   | none=>none
  | none=>none
 | .row id o n c=>match fR rs id with
  | some _=>some (.row id o n c)
  | none=>none
def gL (rs:RL)(g:fa)(env:Env)(ch:gq):Operand→Option EV
 | .const v=>some (.v v)
 | .global i=>some (.v (.pointer (some ⟨i,0,none⟩)))
 | .func f=>some (.v (.func (.func f) #[] #[]))
 | .tmp n=>match QB g env ch n with
  | some e=>alive rs e
  | none=>none
abbrev PV:=Option (Prop×EV)
def jB (l:List UInt8):ByteArray:=⟨l.toArray⟩
@[reducible] def S (l:List UInt8):Value:=.string (jB l)
def bl (b:ByteArray):List UInt8:=b.data.toList
def gY (x:Value):PV:=some (True,.v x)
def jg:Nat:=9223372036854775807
def yU:BinOp→IntKind→Int→Int→PV
 | .add,k,a,b=>gY (.int k (k.wrap (a+b)))
 | .sub,k,a,b=>gY (.int k (k.wrap (a - b)))
 | .mul,k,a,b=>gY (.int k (k.wrap (a * b)))
 | .quo,k,a,b=>some (b≠0,.v (.int k (k.wrap (a.tdiv b))))
 | .rem,k,a,b=>some (b≠0,.v (.int k (a.tmod b)))
 | .and,k,a,b=>gY (.int k (k.wrap ((BitVec.ofInt k.bits a &&& BitVec.ofInt k.bits b).toNat)))
 | .or,k,a,b=>gY (.int k (k.wrap ((BitVec.ofInt k.bits a ||| BitVec.ofInt k.bits b).toNat)))
 | .eql,_,a,b=>gY (.bool (a==b))
 | .neq,_,a,b=>gY (.bool (a != b))
 | .lss,_,a,b=>gY (.bool (decide (a<b)))
 | .leq,_,a,b=>gY (.bool (decide (a≤b)))
 | .gtr,_,a,b=>gY (.bool (decide (b<a)))
 | .geq,_,a,b=>gY (.bool (decide (b≤a)))
 | _,_,_,_=>none
def xP:BinOp→List UInt8→List UInt8→PV
 | .add,a,b=>some (a.length+b.length≤jg,.v (S (a++b)))
 | .eql,a,b=>gY (.bool (decide (a=b)))
 | .neq,a,b=>gY (.bool (!decide (a=b)))
 | .lss,a,b=>gY (.bool (Op.bytesLess a b))
 | .leq,a,b=>gY (.bool (Op.bytesLess a b||decide (a=b)))
 | .gtr,a,b=>gY (.bool (!(Op.bytesLess a b||decide (a=b))))
 | .geq,a,b=>gY (.bool (!Op.bytesLess a b))
 | _,_,_=>none
def K4:Value→Value→Option Bool
 | .int k a,.int k' b=>if k=k' then some (a==b) else none
 | .string a,.string b=>some (decide (bl a=bl b))
 | .bool a,.bool b=>some (a==b)
 | _,_=>none
def RX:List Value→List Value→Option Bool
 | [],[]=>some true
 | a::s,b::t=>match K4 a b,RX s t with
  | some x,some y=>some (x&&y)
  | _,_=>none
 | _,_=>none
def ni (tb:Tb):Nat→List (TypeId×Nat)→List Value→Bool
 | _,[],[]=>true
 | k,(t,off)::fs,x::xs=>off==k&&(match tb t,x with
  | some ⟨.int k,_,_,_,_⟩,.int k' _=>k==k'
  | some ⟨.string,_,_,_,_⟩,.string _=>true
  | some ⟨.bool,_,_,_,_⟩,.bool _=>true
  | _,_=>false)&&ni tb (k+1) fs xs
 | _,_,_=>false
def PK (tb:Tb)(op:BinOp)(t:TypeId):Value→Value→PV
 | .int k a,.int k' b=>match op with
  | .shl=>some (0≤b,.v (.int k (k.wrap (a * 2 ^ (min b.toNat k.bits)))))
  | .shr=>some (0≤b,.v (.int k (a.fdiv (2 ^ (min b.toNat k.bits)))))
  | op=>if k=k' then yU op k a b else none
 | .string a,.string b=>xP op (bl a) (bl b)
 | .bool a,.bool b=>match tk tb t with
  | some .bool=>(match op with
   | .eql=>gY (.bool (a==b))
   | .neq=>gY (.bool (!(a==b)))
   | _=>none)
  | _=>none
 | .agg xs,.agg ys=>match tb t with
  | some ⟨.struct fs,_,_,_,true⟩=>
   if ni tb 0 fs xs.toList&&ni tb 0 fs ys.toList then
    (match op,RX xs.toList ys.toList with
    | .eql,some b=>gY (.bool b)
    | .neq,some b=>gY (.bool (!b))
    | _,_=>none)
   else none
  | _=>none
 | _,_=>none
def W0:UnOp→Value→PV
 | .not,.bool b=>gY (.bool (!b))
 | .neg,.int k n=>gY (.int k (k.wrap (0 - n)))
 | _,_=>none
def Iw (tb:Tb)(dst:TypeId):Value→PV
 | .int _ n=>match tk tb dst with
  | some (.int k)=>gY (.int k (k.wrap n))
  | _=>none
 | .string s=>match tk tb dst with
  | some .string=>gY (.string s)
  | _=>none
 | _=>none
def I0 (tb:Tb)(t:TypeId)(cs:List Value)(off:Nat):Option Value:=
 match tb t with
 | some i=>if i.kind.agg then some (.agg ((cs.take (off+i.size)).drop off).toArray) else cs[off]?
 | none=>none
def Cu (tb:Tb)(t:TypeId)(f:Nat):Value→PV
 | .agg cs=>match tk tb t with
  | some (.struct fs)=>match fs[f]? with
   | some (ft,off)=>match I0 tb ft cs.toList off with
    | some x=>gY x
    | none=>none
   | none=>none
  | _=>none
 | _=>none
def tU (i:Nat):Value→PV
 | .tuple vs=>match vs.toList[i]? with
  | some x=>gY x
  | none=>none
 | _=>none
def qn (tb:Tb)(t:TypeId)(f:Nat)(x:EV):PV:=
 match tk tb t with
 | some (.struct fs)=>match fs[f]? with
  | some (ft,off)=>(match tb ft with
   | some i=>if i.size=0 then none else (match x with
    | .v (.pointer p)=>some (p.isSome=true,.v (.pointer (im p off)))
    | .loc id o=>some (True,.loc id (o+off))
    | _=>none)
   | none=>none)
  | none=>none
 | _=>none
def H2 (rs:RL)(id:Nat):Prop:=∃r b,fR rs id=some r∧r.gl=some b
def qa (tb:Tb)(rs:RL)(t:TypeId)(x:EV)(i:Int):PV:=
 match tk tb t with
 | some (.slice e)=>(match tb e with
  | some ti=>(match x with
   | .v (.slice p n _)=>some (0≤i∧i<n∧p.isSome=true,.v (.pointer (im p (i.toNat * ti.size))))
   | .row id o n _=>some (0≤i∧i<n∧H2 rs id,.loc id (o+i.toNat * ti.size))
   | _=>none)
  | none=>none)
 | some (.array n e)=>(match tb e with
  | some ti=>(match x with
   | .v (.pointer p)=>some (0≤i∧i<n∧p.isSome=true,.v (.pointer (im p (i.toNat * ti.size))))
   | .loc id o=>some (0≤i∧i<n,.loc id (o+i.toNat * ti.size))
   | _=>none)
  | none=>none)
 | _=>none
def Ct (tb:Tb)(t:TypeId)(x:Value)(i:Int):PV:=
 match tk tb t,x with
 | some .string,.string s=>some (0≤i∧i<((bl s).length:Int),.v (.int .u8 (((bl s).getD i.toNat 0).toNat:Int)))
 | some (.array n e),.agg cs=>(match tb e with
  | some ti=>(match I0 tb e cs.toList (i.toNat * ti.size) with
   | some y=>some (0≤i∧i<n,.v y)
   | none=>none)
  | none=>none)
 | _,_=>none
def jI (p:Option Addr)(l m size:Nat):Option Addr:=if m=l then p else p.map (·.add (l * size))
def vJ (tb:Tb)(t:TypeId)(x:Value)(lo hi:Option Int):PV:=
 match tk tb t,x with
 | some .string,.string s=>(match lo,hi with
  | none,none=>gY (S (bl s))
  | some l,none=>some (0≤l∧l≤((bl s).length:Int),.v (S ((bl s).drop l.toNat)))
  | none,some h=>some (0≤h∧h≤((bl s).length:Int),.v (S ((bl s).take h.toNat)))
  | some l,some h=>some (0≤l∧l≤h∧h≤((bl s).length:Int),.v (S (((bl s).take h.toNat).drop l.toNat))))
 | some (.slice e),.slice p n c=>(match tb e with
  | some ti=>(match lo,hi with
   | none,none=>gY (.slice (jI p 0 c ti.size) n c)
   | some l,none=>some (0≤l∧l≤n∧n≤c,.v (.slice (jI p l.toNat c ti.size) (n - l.toNat) (c - l.toNat)))
   | none,some h=>some (0≤h∧h≤c,.v (.slice (jI p 0 c ti.size) h.toNat c))
   | some l,some h=>some (0≤l∧l≤h∧h≤c,.v (.slice (jI p l.toNat c ti.size) (h.toNat - l.toNat) (c - l.toNat))))
  | none=>none)
 | _,_=>none
def xm (tb:Tb)(t:TypeId)(x:Value)(lo hi:Option Int)(m:Int):PV:=
 match tk tb t,x with
 | some (.slice e),.slice p _ c=>(match tb e with
  | some ti=>(match lo,hi with
   | none,some h=>some (0≤h∧h≤m∧m≤c,.v (.slice (jI p 0 m.toNat ti.size) h.toNat m.toNat))
   | _,_=>none)
  | none=>none)
 | _,_=>none
def gR (o l m size:Nat):Nat:=if m=l then o else o+l * size
def CI (tb:Tb)(t:TypeId)(id o n c:Nat)(lo hi:Option Int):PV:=
 match tk tb t with
 | some (.slice e)=>(match tb e with
  | some ti=>(match lo,hi with
   | none,none=>some (True,.row id o n c)
   | some l,none=>some (0≤l∧l≤n∧n≤c,.row id (gR o l.toNat c ti.size) (n - l.toNat) (c - l.toNat))
   | none,some h=>some (0≤h∧h≤c,.row id o h.toNat c)
   | some l,some h=>some (0≤l∧l≤h∧h≤c,.row id (gR o l.toNat c ti.size) (h.toNat - l.toNat) (c - l.toNat)))
  | none=>none)
 | _=>none
def Cy (tb:Tb)(t:TypeId)(id o:Nat)(lo hi:Option Int):PV:=
 match tk tb t with
 | some (.array n e)=>(match tb e with
  | some _=>(match lo,hi with
   | none,none=>some (True,.row id o n n)
   | _,_=>none)
  | none=>none)
 | _=>none
def sN (place:Nat→Option (Nat×Nat)):List Value→List (Nat×Value)→Option (List Value)
 | cs,[]=>some cs
 | cs,(i,v)::rest=>match place i with
  | some (off,size)=>if v.cells.toList.length=size∧off+size≤cs.length then sN place (cs.take off++v.cells.toList++cs.drop (off+size)) rest else none
  | none=>none
def vw (tb:Tb)(fs:List (TypeId×Nat))(i:Nat):Option (Nat×Nat):=
 match fs[i]? with
 | some (t,off)=>(match tb t with
  | some ti=>some (off,ti.size)
  | none=>none)
 | none=>none
def BN (tb:Tb)(t:TypeId)(parts:List (Nat×Value)):PV:=
 match tb t with
 | some ⟨.struct fs,_,_,z,_⟩=>if fs.all (fun f=>(tb f.1).isSome) then (match sN (vw tb fs) z parts with
  | some cs=>gY (.agg cs.toArray)
  | none=>none) else none
 | some ⟨.array _ e,_,_,z,_⟩=>(match tb e with
  | some ti=>(match sN (fun i=>some (i * ti.size,ti.size)) z parts with
   | some cs=>gY (.agg cs.toArray)
   | none=>none)
  | none=>none)
 | _=>none
def OO (tb:Tb)(t:TypeId):EV→PV
 | .v (.string s)=>(match tk tb t with
  | some .string=>gY (.int .i64 ((bl s).length:Nat))
  | _=>none)
 | .v (.slice _ n _) | .row _ _ n _=>(match tk tb t with
  | some (.slice _)=>gY (.int .i64 (n:Nat))
  | _=>none)
 | _=>none
def Pk (tb:Tb)(t:TypeId):EV→PV
 | .v (.slice _ _ c) | .row _ _ _ c=>(match tk tb t with
  | some (.slice _)=>gY (.int .i64 (c:Nat))
  | _=>none)
 | _=>none
def Sf:Value→Value→PV
 | .int k x,.int _ y=>gY (.int k (if y<x then y else x))
 | _,_=>none
def RP:Value→Value→PV
 | .int k x,.int _ y=>gY (.int k (if y>x then y else x))
 | _,_=>none
def asV:Option EV→Option Value
 | some (.v x)=>some x
 | _=>none
def su (rs:RL)(ρ:Operand→Option EV):List Operand→Option (List Value)
 | []=>some []
 | o::t=>match ρ o with
  | some e=>(match e.val rs,su rs ρ t with
   | some x,some xs=>some (x::xs)
   | _,_=>none)
  | none=>none
def partsOf (rs:RL)(ρ:Operand→Option EV):List (Nat×Operand)→Option (List (Nat×Value))
 | []=>some []
 | (i,o)::t=>match ρ o with
  | some e=>(match e.val rs,partsOf rs ρ t with
   | some x,some xs=>some ((i,x)::xs)
   | _,_=>none)
  | none=>none
def intOf? :Option EV→Option Int
 | some (.v (.int _ n))=>some n
 | _=>none
def bound (ρ:Operand→Option EV):Option Operand→Option (Option Int)
 | none=>some none
 | some o=>match ρ o with
  | some (.v (.int _ n))=>some (some n)
  | _=>none
def F8 (ρ:Operand→Option EV):List Operand→Option (List EV)
 | []=>some []
 | o::t=>match ρ o,F8 ρ t with
  | some e,some es=>some (e::es)
  | _,_=>none
def BT (tb:Tb)(rs:RL):Builtin→Option (List EV)→List TypeId→PV
 | .unsafeSliceData,some [.v (.slice none _ _)],_=>some (True,.v (.pointer none))
 | .unsafeSliceData,some [.row id o _ c],_=>some (c≠0∧H2 rs id,.loc id o)
 | .len,some [e],[t]=>OO tb t e
 | .cap,some [e],[t]=>Pk tb t e
 | .min,some [.v a,.v b],_=>Sf a b
 | .max,some [.v a,.v b],_=>RP a b
 | _,_,_=>none
def Cg (tb:Tb)(t:TypeId):Option EV→Option (Option Int)→Option (Option Int)→PV
 | some (.v a),some l,some h=>vJ tb t a l h
 | some (.row id o n c),some l,some h=>CI tb t id o n c l h
 | some (.loc id o),some l,some h=>Cy tb t id o l h
 | _,_,_=>none
def x4 (tb:Tb)(t:TypeId):Option EV→Option (Option Int)→Option (Option Int)→Option (Option Int)→PV
 | some (.v a),some l,some h,some (some m)=>xm tb t a l h m
 | _,_,_,_=>none
def pv (tb:Tb)(rs:RL)(ρ:Operand→Option EV):Op→PV
 | .move x | .assign x=>match ρ x with
  | some e=>some (True,e)
  | none=>none
 | .binOp op t x y _=>(match ρ x,ρ y with
  | some (.v a),some (.v b)=>PK tb op t a b
  | _,_=>none)
 | .unOp op _ x=>(match ρ x with
  | some (.v a)=>W0 op a
  | _=>none)
 | .convert src dst x=>(match tb src,ρ x with
  | some _,some (.v a)=>Iw tb dst a
  | _,_=>none)
 | .field t x f=>(match ρ x with
  | some (.v a)=>Cu tb t f a
  | _=>none)
 | .extract x i=>(match ρ x with
  | some (.v a)=>tU i a
  | _=>none)
 | .fieldAddr t x f=>(match ρ x with
  | some e=>qn tb t f e
  | _=>none)
 | .indexAddr t x i=>(match ρ x,ρ i with
  | some e,some (.v (.int _ n))=>qa tb rs t e n
  | _,_=>none)
 | .index t x i=>(match ρ x,ρ i with
  | some (.v a),some (.v (.int _ n))=>Ct tb t a n
  | _,_=>none)
 | .slice t x lo hi none=>Cg tb t (ρ x) (bound ρ lo) (bound ρ hi)
 | .slice t x lo hi (some m)=>x4 tb t (ρ x) (bound ρ lo) (bound ρ hi) (bound ρ (some m))
 | .build t parts=>(match partsOf rs ρ parts.toList with
  | some ps=>BN tb t ps
  | none=>none)
 | .makeFunc fn first captured=>(match su rs ρ first.toList,su rs ρ captured.toList with
  | some xs,some ys=>gY (.func fn xs.toArray ys.toArray)
  | _,_=>none)
 | .nilCheck x=>(match ρ x with
  | some (.v (.pointer p))=>some (p.isSome=true,.v (.pointer p))
  | some (.loc id o)=>some (True,.loc id o)
  | _=>none)
 | .call ⟨.builtin b,args,ts⟩=>BT tb rs b (F8 ρ args.toList) ts.toList
 | _=>none
def ik (d:Nat):fa→Bool
 | []=>true
 | (m,c,_)::t=> !(Nat.beq m d)&&c.all (fun e=> !(Nat.beq e.1 d))&&ik d t
def nw (d:Nat)(env:Env):Bool:=
 match lk env d with
 | some _=>false
 | none=>true
def ig (N:Nat):gq→Option Nat→EV→(fa→St→Prop)→fa→St→Prop
 | _,none,_,_,_,_=>False
 | [],some d,e,K,[],⟨env,F,rs,nx⟩=>d<N∧K [] ⟨(d,e)::env,F,rs,nx⟩
 | [],some d,e,K,x::g,⟨env,F,rs,nx⟩=>d<N∧ik d (x::g)=true∧K (x::g) ⟨(d,e)::env,F,rs,nx⟩
 | c::ch,some d,e,K,g,st=>d<N∧(ik d g&&nw d st.env)=true∧K ((d,c::ch,e)::g) st
def Aj (N:Nat)(ch:gq)(d:Option Nat)(K:fa→St→Prop)(g:fa)(st:St)(e:EV):Prop:=ig N ch d e K g st
def lF (N:Nat):PV→gq→Option Nat→(fa→St→Prop)→fa→St→Prop
 | some (ob,e),ch,d,K,g,st=>imp ch ob∧ig N ch d e K g st
 | none,_,_,_,_,_=>False
def lL (b x y:Bool):Bool:=
 match b with
 | true=>x
 | false=>y
def Plain (P:Program)(F:Hp)(f:FuncId)(args:List Value)(x:Value):Prop:=
 ∀w,F.le w→Calls P f args.toArray w fun e w'=>e= .returned x∧g9 [] w w'
def PR (F F':Hp)(n:Nat):Prop:=∀k,(F' k).isSome=true→(F k).isSome=true∨n≤k
def kj.at (r:kj)(b:Nat):Prop:=r.gl=some b∨(r.gl=none∧r.ty=0∧r.cells=[.v (.int .i64 (b:Int))])
theorem kj.Dk {r r':kj}{b b':Nat}(hb:r.gl=some b)(h:r'.at b')(he:r'.gl=r.gl):r.at b':=by
 rcases h with h | ⟨h,_⟩
 ·exact .inl (he ▸ h)
 rw[he,hb]at h;cases h
structure nu (F:Hp) (rs:RL) (w:World):Prop where
 own: ∀id r,fR rs id=some r→(match r.gl with
  | none=>(r.cells=[]∨r.ty=0∧ ∃b:Nat,r.cells=[.v (.int .i64 (b:Int))])∧r.cap=0
  | some b=>F b=none∧r.cells.length≤r.cap∧ ∃cur:Array Value,w.heap[b]? =some (.cells cur r.ty (0,0))∧cur.size=r.cap∧
    ∀(j:Nat) (ev:EV) (x:Value),r.cells[j]? =some ev→ev.val rs=some x→cur[j]? =some x)
 apart: ∀i j r s b,fR rs i=some r→fR rs j=some s→r.gl=some b→s.gl=some b→i=j
def eu (P:Program)(F:Hp)(f:FuncId)(args:List Value)(Q:Value→Hp→RL→Prop):Prop:=
 ∀w,F.le w→Calls P f args.toArray w fun e w'=>∃x F' new,e= .returned x∧F.sub F'∧F'.le w'∧g9 [] w w'∧PR F F' w.heap.size∧
  nu F' new w'∧(∀id r b,fR new id=some r→r.at b→w.heap.size≤b)∧Q x F' new
def gX (n:Nat):EV→EV
 | .v x=>.v x
 | .loc id o=>.loc (n+id) o
 | .row id o k c=>.row (n+id) o k c
def gV (n:Nat)(r:kj):kj:={ r with cells:=r.cells.map (gX n) }
def gB (n:Nat)(rs:RL):RL:=rs.map fun x=>(n+x.1,gV n x.2)
def yE (F:Hp)(size:Nat)(p:Option Addr)(ch:gq)(K:EV→Prop):Bool→Prop
 | true=>∃cs:List Value,cs.length=size∧imp ch (p.isSome=true∧ ∀j,j<size→gb F (im p j)=cs[j]?)∧K (.v (.agg cs.toArray))
 | false=>∃x,imp ch (gb F p=some x)∧K (.v x)
def iU (rs:RL):List EV→Option (List Value)
 | []=>some []
 | e::t=>match e.val rs,iU rs t with
  | some x,some xs=>some (x::xs)
  | _,_=>none
def oP (rs:RL):Option EV→Option EV
 | some e=>alive rs e
 | none=>none
def Jq:Option EV→(EV→Prop)→Prop
 | some e,K=>K e
 | none,_=>False
def MC:Option (List Value)→(EV→Prop)→Prop
 | some cs,K=>K (.v (.agg cs.toArray))
 | none,_=>False
def wz (rs:RL)(size off:Nat)(K:EV→Prop):Bool→Option kj→Prop
 | true,some r=>off+size≤r.cells.length∧MC (iU rs ((r.cells.take (off+size)).drop off)) K
 | false,some r=>Jq (oP rs r.cells[off]?) K
 | _,none=>False
def oo (F:Hp)(rs:RL)(ch:gq)(K:EV→Prop):Option TI→Option EV→Prop
 | some i,some (.v (.pointer p))=>yE F i.size p ch K i.kind.agg
 | some i,some (.loc id off)=>wz rs i.size off K i.kind.agg (fR rs id)
 | _,_=>False
def EV.lt (n:Nat):EV→Prop
 | .v _=>True
 | .loc id _=>id<n
 | .row id _ _ _=>id<n
structure Ctx where
 wE:World
 F0:Hp
 F1:Hp
 vf:RL
 QI:Nat
 sz:Nat
structure xd (c:Ctx) (F:Hp) (rs:RL) (w:World):Prop where
 le:F.le w
 own:nu F rs w
 il:g9 [] c.wE w
 new: ∀id r b,fR rs id=some r→r.at b→c.wE.heap.size≤b
 jT:PR c.F0 F c.wE.heap.size
 sz:c.sz≤w.heap.size
 tp: ∀k,c.wE.heap.size≤k→c.F0 k=none∧c.F1 k=none
structure BR (c:Ctx) (F:Hp) (rs:RL) (nx:Nat):Prop where
 sub:c.F1.sub F
 kT:c.QI≤nx
 succ: ∀id r,id<c.QI→fR rs id=some r→∃r0,fR c.vf id=some r0∧r0.gl=r.gl
def gA (ch:gq)(a:Act):Prop:=∀s w b,(s,w,b)∈ch→a.tmps.getD s undef= .bool w
structure fF (c:Ctx) (N:Nat) (g:fa) (st:St) (a:Act) (w:World):Prop where
 size:a.tmps.size=N
 defers:a.defers=[]
 fO:xd c st.F st.rs w
 gI:BR c st.F st.rs st.nx
 gS: ∀id r,fR st.rs id=some r→id<st.nx∧ ∀e∈r.cells,e.lt st.nx
 ids: ∀n e,lk st.env n=some e→e.lt st.nx
 env: ∀n e x,rp g n=none→lk st.env n=some e→e.val st.rs=some x→a.tmps.getD n undef=x
 gv: ∀n ch e,rp g n=some (ch,e)→(gA ch a→(∀x,e.val st.rs=some x→a.tmps.getD n undef=x)∧gP ch)∧(¬gA ch a→a.tmps.getD n undef=undef)∧e.lt st.nx∧lk st.env n=none
abbrev Sat (c:Ctx)(N:Nat)(st:St)(a:Act)(w:World):Prop:=fF c N [] st a w
def VS (N:Nat)(g:fa)(st:St)(G:St→Prop):Prop:=∀c a w,fF c N g st a w→∃st',fF c N g st' a w∧G st'
def qN (k N:Nat)(g:fa)(st:St)(G:St→Prop):Prop:=∀c a w,c.QI≤k→fF c N g st a w→∃st',fF c N g st' a w∧G st'
def CD (P:Program)(N:Nat)(f:FuncId)(args:List Value)(d:Option Nat)(K:fa→St→Prop)(g:fa)(st:St):Prop:=
 VS N g st fun st=>∃Q:Value→Hp→RL→Prop,eu P st.F f args Q∧
  ∀x F' new,st.F.sub F'→Q x F' new→∃(m:Nat) (e:EV),(∀id r,fR new id=some r→id<m∧ ∀e∈r.cells,e.lt m)∧e.val new=some x∧
   ig N [] d (gX st.nx e) K g ⟨st.env,F',gB st.nx new++st.rs,st.nx+m⟩
def vr (P:Program)(N:Nat)(ch:gq)(f:FuncId)(args:List Value)(d:Option Nat)(K:fa→St→Prop)(g:fa)(st:St):Prop:=
 ∃x,imp ch (Plain P st.F f args x)∧ig N ch d (.v x) K g st
def E4 (P:Program)(N:Nat)(f:FuncId)(args:List Value)(d:Option Nat)(K:fa→St→Prop)(g:fa)(st:St):Bool→gq→Prop
 | true,ch=>vr P N ch f args d K g st
 | false,[]=>CD P N f args d K g st
 | false,c::ch=>vr P N (c::ch) f args d K g st
def dH (P:Program)(f:FuncId):Prop:=∃fn,P.funcs[f]? =some fn∧fn.body.isNone=false∧(fn.name== "runtime.NumGoroutine")=false
def lW (P:Program)(N:Nat)(dr:Bool)(ch:gq)(d:Option Nat)(K:fa→St→Prop)(g:fa)(st:St):Option EV→Option (List Value)→Prop
 | some (.v (.func (.func n) first captured)),some xs=>dH P n∧E4 P N n (first.toList++xs++captured.toList) d K g st dr ch
 | _,_=>False
def HF (N:Nat)(ch:gq)(d:Option Nat)(K:fa→St→Prop)(g:fa)(st:St)(t:Bool):Option EV→Option EV→Prop
 | some (.v (.bool x)),some (.v (.bool y))=>ig N ch d (.v (.bool (lL t x y))) K g st
 | _,_=>False
def De (N:Nat)(ch:gq)(d:Option Nat)(K:fa→St→Prop)(g:fa)(st:St)(s:Nat)(a b:Operand):Option EV→Prop
 | some (.v (.bool t))=>HF N ch d K g st t (gL st.rs g st.env (ch++[(s,true,t)]) a) (gL st.rs g st.env (ch++[(s,false,t)]) b)
 | _=>False
def A0 (N:Nat)(ch:gq)(d:Option Nat)(K:fa→St→Prop)(g:fa)(st:St):Option EV→Prop
 | some e=>ig N ch d e K g st
 | none=>False
def Dx (N:Nat)(ch:gq)(d:Option Nat)(K:fa→St→Prop)(g:fa)(st:St)(a b:Operand):Option EV→Prop
 | some (.v (.bool true))=>A0 N ch d K g st (gL st.rs g st.env ch a)
 | some (.v (.bool false))=>A0 N ch d K g st (gL st.rs g st.env ch b)
 | _=>False
def Mm (N:Nat)(d:Option Nat)(K:fa→St→Prop)(g:fa)(t:TypeId)(cells:List EV):St→Prop
 | ⟨env,F,rs,nx⟩=>∀b,ig N [] d (.loc nx 0) K g ⟨env,F,(nx,⟨some b,cells,t,cells.length⟩)::rs,nx+1⟩
def cellsOf:EV→List EV
 | .v (.agg cs)=>cs.toList.map .v
 | e=>[e]
def Ec (N:Nat)(d:Option Nat)(K:fa→St→Prop)(g:fa)(t:TypeId)(st:St):Option EV→Prop
 | some e=>Mm N d K g t (cellsOf e) st
 | none=>False
def tI (N:Nat)(d:Option Nat)(K:fa→St→Prop)(g:fa)(t:TypeId)(st:St):Option TI→Prop
 | some i=>Mm N d K g t (i.zero.map .v) st
 | none=>False
def RT (N:Nat)(d:Option Nat)(K:fa→St→Prop)(g:fa)(t:TypeId)(n:Nat)(cells:List EV):St→Prop
 | ⟨env,F,rs,nx⟩=>∀b,ig N [] d (.row nx 0 n n) K g ⟨env,F,(nx,⟨some b,cells,t,cells.length⟩)::rs,nx+1⟩
def zv (n:Nat)(z:List Value):List Value:=(List.range n).map fun i=>z.toArray[i % z.length]!
def Cp (N:Nat)(d:Option Nat)(K:fa→St→Prop)(g:fa)(st:St)(e:TypeId)(n:Nat):Option (List Value)→Prop
 | some cs=>RT N d K g e n (cs.map .v) st
 | none=>False
def BL (N:Nat)(d:Option Nat)(K:fa→St→Prop)(g:fa)(st:St)(e:TypeId)(n:Nat)(ps:List (Nat×Value)):Option TI→Prop
 | some ti=>n * ti.size≤2 ^ 24∧Cp N d K g st e n (sN (fun i=>some (i * ti.size,ti.size)) (zv (n * ti.size) ti.zero) ps)
 | none=>False
def OQ (tb:Tb)(N:Nat)(d:Option Nat)(K:fa→St→Prop)(g:fa)(st:St)(n:Nat):Option TK→Option (List (Nat×Value))→Prop
 | some (.slice e),some ps=>BL N d K g st e n ps (tb e)
 | _,_=>False
def one:EV→Bool
 | .v (.agg _)=>false
 | .v (.tuple _)=>false
 | _=>true
def uC (K:fa→St→Prop)(g:fa)(id off:Nat)(es:List EV)(size:Nat):St→Option kj→Prop
 | ⟨env,F,rs,nx⟩,some r=>es.length=size∧es.all one=true∧off+size≤r.cells.length∧K g ⟨env,F,qM rs id ⟨r.gl,r.cells.take off++es++r.cells.drop (off+size),r.ty,r.cap⟩,nx⟩
 | _,none=>False
def uU (K:fa→St→Prop)(g:fa)(st:St):Option TI→Option EV→Option EV→Prop
 | some i,some (.loc id off),some e=>uC K g id off (cellsOf e) i.size st (fR st.rs id)
 | _,_,_=>False
def nI (P:Program)(tb:Tb)(N:Nat)(dr:Bool)(ch:gq)(d:Option Nat)(K:fa→St→Prop)(g:fa)(st:St):Op→Prop
 | .pick (.tmp s) a b=>De N ch d K g st s a b (gL st.rs g st.env ch (.tmp s))∨Dx N ch d K g st a b (gL st.rs g st.env ch (.tmp s))
 | .load t a=>oo st.F st.rs ch (Aj N ch d K g st) (tb t) (gL st.rs g st.env ch a)
 | .call ⟨.value f,args,_⟩=>lW P N dr ch d K g st (gL st.rs g st.env ch f) (su st.rs (gL st.rs g st.env ch) args.toList)
 | .alloc t=>dr=false∧ch=[]∧tI N d K g t st (tb t)
 | .box t x=>dr=false∧ch=[]∧Ec N d K g t st (gL st.rs g st.env ch x)
 | .buildSlice t n ps=>dr=false∧ch=[]∧OQ tb N d K g st n (tk tb t) (partsOf st.rs (gL st.rs g st.env ch) ps.toList)
 | .store t a x=>dr=false∧ch=[]∧d=none∧uU K g st (tb t) (gL st.rs g st.env ch a) (gL st.rs g st.env ch x)
 | .move x=>lF N (pv tb st.rs (gL st.rs g st.env ch) (.move x)) ch d K g st
 | .assign x=>lF N (pv tb st.rs (gL st.rs g st.env ch) (.assign x)) ch d K g st
 | .build t ps=>lF N (pv tb st.rs (gL st.rs g st.env ch) (.build t ps)) ch d K g st
 | .nilCheck x=>lF N (pv tb st.rs (gL st.rs g st.env ch) (.nilCheck x)) ch d K g st
 | .binOp op t x y u=>lF N (pv tb st.rs (gL st.rs g st.env ch) (.binOp op t x y u)) ch d K g st
 | .unOp op t x=>lF N (pv tb st.rs (gL st.rs g st.env ch) (.unOp op t x)) ch d K g st
 | .convert s t x=>lF N (pv tb st.rs (gL st.rs g st.env ch) (.convert s t x)) ch d K g st
 | .makeFunc fn x y=>lF N (pv tb st.rs (gL st.rs g st.env ch) (.makeFunc fn x y)) ch d K g st
 | .slice t x lo hi mx=>lF N (pv tb st.rs (gL st.rs g st.env ch) (.slice t x lo hi mx)) ch d K g st
 | .fieldAddr t x f=>lF N (pv tb st.rs (gL st.rs g st.env ch) (.fieldAddr t x f)) ch d K g st
 | .field t x f=>lF N (pv tb st.rs (gL st.rs g st.env ch) (.field t x f)) ch d K g st
 | .indexAddr t x i=>lF N (pv tb st.rs (gL st.rs g st.env ch) (.indexAddr t x i)) ch d K g st
 | .index t x i=>lF N (pv tb st.rs (gL st.rs g st.env ch) (.index t x i)) ch d K g st
 | .extract x i=>lF N (pv tb st.rs (gL st.rs g st.env ch) (.extract x i)) ch d K g st
 | .call ⟨.builtin b,args,ts⟩=>lF N (pv tb st.rs (gL st.rs g st.env ch) (.call ⟨.builtin b,args,ts⟩)) ch d K g st
 | _=>False
def eY (F:Hp)(p:Option Addr)(cs:List Value):Prop:=∀j u,cs[j]? =some u→gb F (im p j)=some u
def Ah (size o m:Nat)(k:Nat→List EV→Prop):Option kj→Prop
 | some ⟨none,_,_,_⟩=>m=0∧k 0 []
 | some ⟨some _,cells,_,_⟩=>o+m * size≤cells.length∧k m ((cells.take (o+m * size)).drop o)
 | none=>False
def HJ (F:Hp)(rs:RL)(size:Nat)(k:Nat→List EV→Prop):Option EV→Prop
 | some (.row id o m _)=>Ah size o m k (fR rs id)
 | some (.v (.slice p m _))=>∃cs:List Value,cs.length=m * size∧eY F p cs∧k m (cs.map .v)
 | some (.v (.string s))=>size=1∧k (bl s).length ((bl s).map fun b=>.v (.int .u8 (b.toNat:Int)))
 | _=>False
def lj (rs:RL)(l:List EV):Prop:=∀e∈l,one e=true∧ ∃x,e.val rs=some x
def Ch (N:Nat)(d:Option Nat)(K:fa→St→Prop)(g:fa)(e:TypeId)(size bytes:Nat)(same:Prop)(c n m:Nat)(cells:List EV):Hp→Env→RL→Nat→Prop
 | F,env,rs,nx=>(m=0→same)∧(0<m→(c<n+m→(n+m) * bytes≤140737488355328)∧ ∀b cap,n+m≤cap→(n+m≤c→cap=c)→ig N [] d (.row nx 0 (n+m) cap) K g ⟨env,F,(nx,⟨some b,cells,e,cap * size⟩)::rs,nx+1⟩)
def Ko (N:Nat)(d:Option Nat)(K:fa→St→Prop)(g:fa)(e:TypeId)(ti:TI)(id n c:Nat)(m:Nat)(news:List EV):St→Option kj→Prop
 | ⟨env,F,rs,nx⟩,some ⟨none,_,_,_⟩=>n=0∧c=0∧Ch N d K g e ti.size ti.bytes (ig N [] d (.row id 0 n c) K g ⟨env,F,rs,nx⟩) 0 0 m news F env (tJ rs id) nx
 | ⟨env,F,rs,nx⟩,some ⟨some _,cells,ty,cap⟩=>ty=e∧n≤c∧cap=c * ti.size∧n * ti.size≤cells.length∧Ch N d K g e ti.size ti.bytes (ig N [] d (.row id 0 n c) K g ⟨env,F,rs,nx⟩) c n m (cells.take (n * ti.size)++news) F env (tJ rs id) nx
 | _,none=>False
def Sh (N:Nat)(d:Option Nat)(K:fa→St→Prop)(g:fa)(e:TypeId)(ti:TI)(p:Option Addr)(n c:Nat)(m:Nat)(news:List EV):St→Prop
 | ⟨env,F,rs,nx⟩=>n=c∧ ∃cs:List Value,cs.length=n * ti.size∧eY F p cs∧Ch N d K g e ti.size ti.bytes (ig N [] d (.v (.slice p n c)) K g ⟨env,F,rs,nx⟩) c n m (cs.map .v++news) F env rs nx
def Pa (N:Nat)(d:Option Nat)(K:fa→St→Prop)(g:fa)(st:St)(e:TypeId)(ti:TI)(m:Nat)(news:List EV):Option EV→Prop
 | some (.row id 0 n c)=>Ko N d K g e ti id n c m news st (fR st.rs id)
 | some (.v (.slice p n c))=>Sh N d K g e ti p n c m news st
 | _=>False
def MJ (N:Nat)(d:Option Nat)(K:fa→St→Prop)(g:fa)(st:St)(e:TypeId)(x y:Option EV):Option TI→Prop
 | some ti=>0<ti.size∧0<ti.bytes∧ti.zero.length=ti.size∧HJ st.F st.rs ti.size (fun m news=>lj st.rs news∧Pa N d K g st e ti m news x) y
 | none=>False
def wh:Option TK→Bool
 | some (.slice _)=>true
 | some .string=>true
 | _=>false
def MQ (tb:Tb)(N:Nat)(d:Option Nat)(K:fa→St→Prop)(g:fa)(st:St)(t2:TypeId)(x y:Option EV):Option TK→Prop
 | some (.slice e)=>wh (tk tb t2)=true∧MJ N d K g st e x y (tb e)
 | _=>False
def OS (F:Hp)(rs:RL)(k:List UInt8→Prop):Option EV→Prop
 | some (.row id o m _)=>Ah 1 o m (fun _ cells=>∃bs:List UInt8,cells=bs.map (fun b=>.v (.int .u8 (b.toNat:Int)))∧k bs) (fR rs id)
 | some (.v (.slice p m _))=>∃bs:List UInt8,bs.length=m∧eY F p (bs.map fun b=>.int .u8 (b.toNat:Int))∧k bs
 | _=>False
def oH (tb:Tb):Option TK→Bool
 | some (.slice e)=>(match tk tb e with
  | some (.int .u8)=>true
  | _=>false)
 | _=>false
def isStr:Option TK→Bool
 | some .string=>true
 | _=>false
def eR (P:Program)(F:Hp)(rs:RL)(nx:Nat)(f:FuncId)(args:List EV)(Q:EV→Hp→RL→Nat→Prop):Prop:=
 ∀c w,xd c F rs w→BR c F rs nx→(∀id r,fR rs id=some r→id<nx∧ ∀e∈r.cells,e.lt nx)→c.vf=rs→c.QI=nx→∀xs,iU rs args=some xs→Calls P f xs.toArray w fun e w'=>
  ∃x ev F' rs' nx',e= .returned x∧xd c F' rs' w'∧BR c F' rs' nx'∧(∀id r,fR rs' id=some r→id<nx'∧ ∀e∈r.cells,e.lt nx')∧ev.lt nx'∧ev.val rs'=some x∧Q ev F' rs' nx'
def vq (N:Nat):Option Nat→EV→(fa→St→Prop)→fa→St→Prop
 | none,_,K,g,st=>K g st
 | some d,e,K,g,st=>ig N [] (some d) e K g st
def Me (P:Program)(N:Nat)(d:Option Nat)(K:fa→St→Prop)(g:fa):St→Option EV→Option (List EV)→Prop
 | ⟨env,F,rs,nx⟩,some (.v (.func (.func n) first captured)),some xs=>dH P n∧ ∃Q,eR P F rs nx n (first.toList.map .v++xs++captured.toList.map .v) Q∧
   ∀e F' rs' nx',True→nx≤nx'→Q e F' rs' nx'→vq N d e K g ⟨env,F',rs',nx'⟩
 | _,_,_=>False
def Nn (P:Program)(tb:Tb)(N:Nat)(d:Option Nat)(K:fa→St→Prop)(g:fa)(st:St):Op→Prop
 | .call ⟨.builtin .append,args,ts⟩=>∃x y t1 t2,args.toList=[x,y]∧ts.toList=[t1,t2]∧MQ tb N d K g st t2 (gL st.rs g st.env [] x) (gL st.rs g st.env [] y) (tk tb t1)
 | .convert s t x=>oH tb (tk tb s)=true∧isStr (tk tb t)=true∧OS st.F st.rs (fun bs=>ig N [] d (.v (S bs)) K g st) (gL st.rs g st.env [] x)
 | .call ⟨.value f,args,_⟩=>Me P N d K g st (gL st.rs g st.env [] f) (F8 (gL st.rs g st.env []) args.toList)
 | _=>False
def VJ (P:Program)(N:Nat)(d:Option Nat)(K:fa→St→Prop)(g:fa)(st:St)(op:Op):Prop:=
 ∃(ι:Type) (e:ι→EV) (st':ι→St),(∀(c:Ctx) (a:Act) (w:World) (o:Oper),fF c N g st a w→o.op=op→∃i v w',((execOp a.eval o).run P w= .ok (.value v) w'∨(d=none∧(execOp a.eval o).run P w= .ok .skip w'))∧fF c N g (st' i) a w'∧(e i).val (st' i).rs=some v)∧ ∀i,vq N d (e i) K g (st' i)
def WX (P:Program)(tb:Tb)(N:Nat)(dr:Bool)(d:Option Nat)(K:fa→St→Prop)(g:fa)(st:St)(op:Op):Prop:=
 nI P tb N dr [] d K g st op∨(dr=false∧Nn P tb N d K g st op)∨(dr=false∧VS N g st fun st=>nI P tb N false [] d K g st op∨Nn P tb N d K g st op∨VJ P N d K g st op)
def zQ (P:Program)(tb:Tb)(N:Nat)(dr:Bool)(s:Nat)(want:Bool)(op:Op)(d:Option Nat)(K:fa→St→Prop)(g:fa)(st:St):Option EV→Prop
 | some (.v (.bool b))=>nI P tb N dr [(s,want,b)] d K g st op
 | _=>False
def vC (P:Program)(tb:Tb)(N:Nat)(dr:Bool)(s:Nat)(want:Bool)(op:Op)(d:Option Nat)(K:fa→St→Prop)(g:fa)(st:St):Option (gq×EV)→Prop
 | some (c,.v (.bool b))=>nI P tb N dr (c++[(s,want,b)]) d K g st op
 | some _=>False
 | none=>zQ P tb N dr s want op d K g st (lk st.env s)
def tr (P:Program)(tb:Tb)(N:Nat)(dr:Bool)(want:Bool)(op:Op)(d:Option Nat)(K:fa→St→Prop)(g:fa)(st:St):Option Nat→Prop
 | some s=>vC P tb N dr s want op d K g st (rp g s)
 | none=>False
def mi:Option Oper→Option Nat
 | some o=>o.dst
 | none=>none
def Ed (N:Nat)(d:Option Nat)(K:fa→St→Prop)(g:fa)(st:St):Prop:=
 match d with
 | none=>K g st
 | some d=>ig N [] (some d) (.v (.tuple #[])) K g st
def yh (P:Program)(tb:Tb)(N:Nat)(dr:Bool)(want:Bool)(op:Op)(d:Option Nat)(K:fa→St→Prop)(g:fa)(st:St):Option Nat→Prop
 | some s=>∃b,rp g s=none∧lk st.env s=some (.v b)∧((b= .bool want∧WX P tb N dr d K g st op)∨(b≠ .bool want∧Ed N d K g st))
 | none=>False
def wm (P:Program)(tb:Tb)(N:Nat)(dr:Bool)(all:List Oper)(op:Op)(d:Option Nat)(K:fa→St→Prop)(g:fa)(st:St):Option (Nat×Bool)→Prop
 | none=>WX P tb N dr d K g st op
 | some (j,want)=>tr P tb N dr want op d K g st (mi all[j]?)∨yh P tb N dr want op d K g st (mi all[j]?)
def dT (P:Program)(tb:Tb)(N:Nat)(dr:Bool)(all:List Oper):List Oper→(fa→St→Prop)→fa→St→Prop
 | [],K,g,st=>K g st
 | ⟨d,op,_,_,_,gd⟩::rest,K,g,st=>wm P tb N dr all op d (dT P tb N dr all rest K) g st gd
def fx (K:St→Prop):fa→St→Prop:=fun _ st=>K st
def mask (kept:List Nat):RL→RL
 | []=>[]
 | (id,⟨b,cells,ty,cap⟩)::t=>match kept.contains id with
  | true=>(id,⟨b,cells,ty,cap⟩)::mask kept t
  | false=>(id,⟨b,[],ty,cap⟩)::mask kept t
def fD (rs:RL)(K:fa→St→Prop):fa→St→Prop
 | g,⟨env,F,_,nx⟩=>K g ⟨env,F,rs,nx⟩
def uT (md:Region.Mode)(ops:Array Oper):Array Bool→List Nat→Bool
 | _,[]=>true
 | done,i::t=>(Region.ready md ops done).contains i&&Region.free md ops done i&&uT md ops (done.setIfInBounds i true) t
def CJ:Array Bool→List Nat→Array Bool
 | done,[]=>done
 | done,i::t=>CJ (done.setIfInBounds i true) t
def SW (ops:List Oper):List Nat→Option (List Oper)
 | []=>some []
 | i::t=>match ops[i]?,SW ops t with
  | some o,some l=>some (o::l)
  | _,_=>none
def ED (rs rs':RL):List EV→Prop
 | []=>True
 | e::t=>e.val rs'=e.val rs∧ED rs rs' t
def UY (rs rs':RL)(id:Nat):Option kj→Prop
 | some r=>fR rs' id=some r∧ED rs rs' r.cells
 | none=>True
def vA (rs rs':RL):List Nat→Prop
 | []=>True
 | id::t=>UY rs rs' id (fR rs id)∧vA rs rs' t
def ju (kept:List Nat)(F:Hp)(rs:RL)(K:fa→St→Prop):fa→St→Prop:=fun g st=>(F.sub st.F∧vA rs st.rs kept)∧K g st
def fq (P:Program)(tb:Tb)(N:Nat)(ops:Array Oper)(kept:List Nat)(K:St→Prop):Nat→Nat→Array Bool→fa→St→Prop
 | 0,_,_,_,_=>False
 | m+1,f,done,g,st=>(Region.ready .any ops done=[]∧VS N [] st K)∨
   (∃f' is l,f=f'+is.length∧uT .any ops done is=true∧SW ops.toList is=some l∧dT P tb N true ops.toList l (fD st.rs (fq P tb N ops kept K m f' (CJ done is))) g ⟨st.env,st.F,mask kept st.rs,st.nx⟩)∨
   (∃f',f=f'+1∧Region.ready .any ops done≠[]∧ ∀i∈Region.ready .any ops done,∃o,ops[i]? =some o∧wm P tb N false ops.toList o.op o.dst (ju kept st.F st.rs (fq P tb N ops kept K m f' (done.setIfInBounds i true))) g st o.guard)
def gx (G:St→Prop)(K:Exit→St→Prop):Exit→St→Prop
 | .normal,st=>G st
 | .ret,st=>K .ret st
 | .exit j,st=>K (.exit j) st
 | .goto j,st=>K (.goto j) st
 | .panic c,st=>K (.panic c) st
 | .outgrown,st=>K .outgrown st
def DE (K:Exit→St→Prop)(st:St):Nat→Bool→Prop
 | _,true=>K .normal st
 | j,false=>K (.exit j) st
def fc (id:Nat)(K:Exit→St→Prop):Exit→St→Prop
 | .exit j,st=>DE K st j (j==id)
 | .normal,st=>K .normal st
 | .ret,st=>K .ret st
 | .goto j,st=>K (.goto j) st
 | .panic c,st=>K (.panic c) st
 | .outgrown,st=>K .outgrown st
def I4 (x y:(Exit→St→Prop)→St→Prop)(K:Exit→St→Prop)(st:St):Option EV→Prop
 | some (.v (.bool true))=>x K st
 | some (.v (.bool false))=>y K st
 | _=>False
def fA {ι:Type}(N k:Nat)(T:ι→St)(μ:ι→Nat)(i:ι)(K:Exit→St→Prop):Exit→St→Prop
 | .normal,st=>qN (min k (T i).nx) N [] st fun st'=>∃j,st'=T j∧μ j<μ i
 | .ret,st=>VS N [] st (K .ret)
 | .exit j,st=>VS N [] st (K (.exit j))
 | .goto j,st=>K (.goto j) st
 | .panic c,st=>K (.panic c) st
 | .outgrown,st=>K .outgrown st
def fG (N:Nat)(body:(Exit→St→Prop)→St→Prop)(K:Exit→St→Prop)(st:St):Prop:=
 ∃(ι:Type) (T:ι→St) (μ:ι→Nat),(VS N [] st fun st'=>∃i,st'=T i)∧ ∀i,body (fA N st.nx T μ i K) (T i)
def lift (c:Ctx)(N:Nat)(K:Exit→St→Prop)(e:Exit)(a:Act)(w:World):Prop:=∃st,Sat c N st a w∧K e st
def X0 (P:Program)(ops:Array Oper)(Q:Exit→Act→World→Prop)(a:Act)(w:World):Bool→Prop
 | false=>wpList P ops Q ops.toList a w
 | true=>wpAny P .any ops Q ops.size (Array.replicate ops.size false) a { w with drawn:=w.drawn+1 }
def vc (P:Program)(tb:Tb)(N:Nat):Code→(Exit→St→Prop)→St→Prop
 | .skip,K,st=>K .normal st
 | .ret,K,st=>K .ret st
 | .exit id,K,st=>K (.exit id) st
 | .seq x y,K,st=>vc P tb N x (gx (vc P tb N y K) K) st
 | .block id x,K,st=>vc P tb N x (fc id K) st
 | .cond c x y,K,st=>I4 (vc P tb N x) (vc P tb N y) K st (gL st.rs [] st.env [] c)
 | .loop x,K,st=>fG N (vc P tb N x) K st
 | .region _ ops dr,K,st=>VS N [] st fun st=>((dr=true→Region.lexB .any ops=true)∧dT P tb N dr ops.toList ops.toList (fx (K .normal)) [] st)∨
   (∃n,Region.lexTailB .any ops n=true∧dT P tb N true ops.toList (ops.toList.take n) (fx (dT P tb N false ops.toList (ops.toList.drop n) (fx (K .normal)) [])) [] st)∨
   (dr=true∧Region.noSelect ops=true∧ ∃kept,fq P tb N ops kept (K .normal) (ops.size+1) ops.size (Array.replicate ops.size false) [] st)∨
   (∀c a w,Sat c N st a w→X0 P ops (lift c N K) a w dr)
 | _,_,_=>False
def nC (tb:Tb)(st:St):List ResultVar→Option (List Value)
 | []=>some []
 | .tmp t::l=>(match lk st.env t with
  | some e=>(match e.val st.rs,nC tb st l with
   | some x,some xs=>some (x::xs)
   | _,_=>none)
  | none=>none)
 | .cell a t::l=>(match oP st.rs (lk st.env a),tb t with
  | some (.loc id off),some i=>(match fR st.rs id,nC tb st l with
   | some r,some xs=>if i.kind.agg then (match iU st.rs ((r.cells.take (off+i.size)).drop off) with
     | some cs=>if off+i.size≤r.cells.length then some (.agg cs.toArray::xs) else none
     | none=>none)
    else (match r.cells[off]? with
     | some e=>(match e.val st.rs with
      | some x=>some (x::xs)
      | none=>none)
     | none=>none)
   | _,_=>none)
  | _,_=>none)
def gE:List Value→Value
 | [x]=>x
 | l=>.tuple l.toArray
def Dv (Q:Value→Prop):Option (List Value)→Prop
 | some xs=>Q (gE xs)
 | none=>False
def gC (tb:Tb)(rv:List ResultVar)(Q:Value→Prop):Exit→St→Prop
 | .normal,st=>Dv Q (nC tb st rv)
 | .ret,st=>Dv Q (nC tb st rv)
 | _,_=>False
def gG (N:Nat)(tb:Tb)(rv:List ResultVar)(Q:Value→Hp→RL→Prop):Exit→St→Prop
 | .normal,st=>qN 0 N [] st fun st'=>∃xs,nC tb st' rv=some xs∧Q (gE xs) st'.F st'.rs
 | .ret,st=>qN 0 N [] st fun st'=>∃xs,nC tb st' rv=some xs∧Q (gE xs) st'.F st'.rs
 | _,_=>False
def yR (tb:Tb)(st:St):List ResultVar→Option EV
 | [.tmp t]=>oP st.rs (lk st.env t)
 | l=>match nC tb st l with
  | some xs=>some (.v (gE xs))
  | none=>none
def gw (N:Nat)(tb:Tb)(rv:List ResultVar)(Q:EV→Hp→RL→Nat→Prop):Exit→St→Prop
 | .normal,st=>VS N [] st fun st'=>∃e,yR tb st' rv=some e∧Q e st'.F st'.rs st'.nx
 | .ret,st=>VS N [] st fun st'=>∃e,yR tb st' rv=some e∧Q e st'.F st'.rs st'.nx
 | _,_=>False
end
section
theorem run_bind {P:Program}{α β:Type}(s:Sem α)(f:α→Sem β)(w:World):(s>>=f).run P w=(match s.run P w with | .ok a w'=>(f a).run P w' | .halt h w'=>.halt h w'):=by
 rw[Sem.run_bind];cases s.run P w<;>rfl
theorem run_pure {P:Program}{α:Type}(a:α)(w:World):(Pure.pure a:Sem α).run P w= .ok a w:=rfl
variable {P:Program} {tb:Tb}
theorem Pc {t:TypeId}{k:TK}(h:tk tb t=some k): ∃i,tb t=some i∧i.kind=k:=by
 unfold tk at h;split at h
 ·rename_i i hi;exact⟨i,hi,by simpa using h⟩
 simp at h
theorem gN (htb:gZ P tb){t:TypeId}{k:TK}(h:tk tb t=some k): ∃d,P.underlying t=some d∧k.fits d:=by
 obtain⟨i,hi,rfl⟩:=Pc h;exact (htb t i hi).kind
theorem fh {t:TypeId}{d:TypeDesc}(h:P.underlying t=some d)(w:World):(underlying t).run P w= .ok d w:=by
 simp[underlying,h]
theorem run_sizeOf (htb:gZ P tb){t:TypeId}{i:TI}(h:tb t=some i)(w:World):(sizeOf t).run P w= .ok i.size w:=by
 obtain⟨info,h1,h2,_⟩:=(htb t i h).info;simp[sizeOf,typeInfo,h1,h2]
theorem sk (htb:gZ P tb){t:TypeId}{i:TI}(h:tb t=some i)(w:World):(isAgg t).run P w= .ok i.kind.agg w:=by
 obtain⟨d,h1,h2⟩:=(htb t i h).kind;cases hk:i.kind with
 | other=>
  rw[hk]at h2;obtain⟨h3,h4⟩:=h2;simp only[isAgg,run_bind,fh h1,TK.agg];cases d<;>first | rfl | exact absurd rfl (h3 _) | exact absurd rfl (h4 _ _)
 | struct fs=>
  rw[hk]at h2;obtain⟨fields,rfl,_⟩:=h2;simp only[isAgg,run_bind,fh h1,TK.agg,run_pure]
 | _=>
  rw[hk]at h2;simp only[TK.fits]at h2;subst h2;simp only[isAgg,run_bind,fh h1,TK.agg,run_pure]
def QF (P:Program)(s:Sem Value)(v:Value):Prop:=∀w,s.run P w= .ok v w
theorem QF.of {s:Sem Value}{v:Value}(h:s=Pure.pure v):QF P s v:=fun w=>by rw[h];rfl
theorem Mr (b:ByteArray):b.toList=bl b:=ByteArray.toList_eq b
theorem NH (l:List UInt8):bl (jB l)=l:=by simp[bl,jB]
theorem L2 (b:ByteArray):jB (bl b)=b:=by cases b;simp[bl,jB]
theorem mH (b:ByteArray):b.size=(bl b).length:=by cases b;rfl
theorem Ri (a b:ByteArray):bl (a++b)=bl a++bl b:=by
 obtain⟨a⟩:=a;obtain⟨b⟩:=b;simp only[bl];rw[ByteArray.mk_append_mk]
theorem Sk {a b:ByteArray}(h:bl a=bl b):a=b:=by rw[←L2 a,h,L2]
theorem Rh (a b:ByteArray):a++b=jB (bl a++bl b):=Sk (by rw[NH,Ri])
theorem HL (s:ByteArray)(a b:Nat):bl (s.extract a b)=((bl s).take b).drop a:=by
 unfold bl;obtain⟨⟨l⟩⟩:=s;have e:=ByteArray.extract_mk l a b;rw[show (ByteArray.mk { toList:=l })=ByteArray.mk l.toArray from rfl,e];simp only[List.drop_take]
theorem rC (op:BinOp)(t:TypeId)(x y:Operand)(k k':IntKind)(a b:Int):eqGuard op t x y (.int k a) (.int k' b)=Pure.pure ():=by cases op<;>rfl
theorem Fg (op:BinOp)(t:TypeId)(x y:Operand)(a b:ByteArray):eqGuard op t x y (.string a) (.string b)=Pure.pure ():=by cases op<;>rfl
theorem ub (op:BinOp)(t:TypeId)(x y:Operand)(a b:Bool):eqGuard op t x y (.bool a) (.bool b)=Pure.pure ():=by cases op<;>rfl
theorem J5 {op:BinOp}{t:TypeId}{k:IntKind}{a b:Int}{ob:Prop}{e:EV}(hop:op≠ .shl∧op≠ .shr)(h:yU op k a b=some (ob,e))(ho:ob): ∃v,e= .v v∧binOp op t (.int k a) (.int k b)=Pure.pure v:=by
 cases op<;>simp only[yU,gY,aa,aC,reduceCtorEq]at h<;>obtain⟨rfl,rfl⟩:=h<;>refine⟨_,rfl,?_⟩<;>
  simp[binOp,Op.intArith,Op.intDiv,Op.intBits,Op.intCmp,ho]
theorem JJ {op:BinOp}{t:TypeId}{a b:ByteArray}{ob:Prop}{e:EV}(h:xP op (bl a) (bl b)=some (ob,e))(ho:ob): ∃v,e= .v v∧binOp op t (.string a) (.string b)=Pure.pure v:=by
 have hb:(bl a==bl b)=decide (bl a=bl b):=by rw[ai];simp
 cases op<;>simp only[xP,gY,aa,aC,reduceCtorEq]at h<;>obtain⟨rfl,rfl⟩:=h<;>refine⟨_,rfl,?_⟩<;>
  simp only[binOp,Op.stringOp,Mr,hb]
 rw[aY]
 ·rw[Rh]
 simp only[jg]at ho;rw[mH,mH];have:IntKind.i64.max=9223372036854775807:=by decide
 rw[this];omega
theorem OY {k k':IntKind}{a b:Int}{r:Bool}(h:K4 (.int k a) (.int k' b)=some r):k=k'∧r=(a==b):=by
 simp only[K4]at h;split at h
 ·rename_i hk;exact⟨hk,by simpa using h.symm⟩
 simp at h
theorem sJ (htb:gZ P tb)(w:World)(d:Nat): ∀(fields:List Field) (k:Nat) (xs ys:List Value) (XS YS:Array Value) (b:Bool),(∀j,XS[k+j]? =xs[j]?)→(∀j,YS[k+j]? =ys[j]?)→(∀f∈fields,f.name≠ "_")→
  ni tb k (fields.map fun f=>(f.type,f.offset)) xs=true→ni tb k (fields.map fun f=>(f.type,f.offset)) ys=true→RX xs ys=some b→(Op.eqFields (d+1) XS YS fields).run P w= .ok b w
 | [],k,xs,ys,XS,YS,b,_,_,_,hx,hy,hc=>by
  cases xs with
  | cons x xs=>simp[ni]at hx
  | nil=>
   cases ys with
   | cons y ys=>simp[ni]at hy
   | nil=>simp only[RX,aa]at hc;subst hc;rfl
 | f::fields,k,xs,ys,XS,YS,b,hX,hY,hn,hx,hy,hc=>by
  cases xs with
  | nil=>simp[ni]at hx
  | cons x xs=>
   cases ys with
   | nil=>simp[ni]at hy
   | cons y ys=>
    simp only[a9,ni,aL,beq_iff_eq]at hx hy;obtain⟨⟨ho,hx1⟩,hx2⟩:=hx;obtain⟨⟨_,hy1⟩,hy2⟩:=hy;simp only[RX]at hc;cases hv:K4 x y with
    | none=>simp[hv]at hc
    | some r=>
     cases hcc:RX xs ys with
     | none=>simp[hv,hcc]at hc
     | some r'=>
      simp only[hv,hcc,aa]at hc;subst hc;have hX0:=hX 0;have hY0:=hY 0;simp only[df,cr]at hX0 hY0;have ih:=sJ htb w d fields (k+1) xs ys XS YS r' (fun j=>by have:=hX (j+1);simpa [Nat.add_assoc,Nat.add_comm 1 j] using this) (fun j=>by have:=hY (j+1);simpa [Nat.add_assoc,Nat.add_comm 1 j] using this) (fun f hf=>hn f (cO _ hf)) hx2 hy2 hcc;have hname:f.name≠ "_" :=hn f (by simp);have key: ∀i,tb f.type=some i→i.kind.agg=false→(Op.equalIn (d+1) f.type x y).run P w= .ok r w→(Op.eqFields (d+1) XS YS (f::fields)).run P w= .ok (r&&r') w:=by
       intro i hi hag he;have hA:=sk htb hi w;have p1:(part f.type XS f.offset).run P w= .ok x w:=by
        simp only[part,run_bind,hA,hag,ho,hX0];rfl
       have p2:(part f.type YS f.offset).run P w= .ok y w:=by
        simp only[part,run_bind,hA,hag,ho,hY0];rfl
       simp only[Op.eqFields,hname,ne_eq,not_false_eq_true,dC,run_bind,p1,p2,he];cases r with
       | false=>rfl
       | true=>simpa using ih
      split at hx1
      ·rename_i k1 _ _ _ _ k2 a hk1;split at hy1
       ·rename_i k3 _ _ _ _ k4 a' hk3;obtain⟨rfl,rfl⟩:=OY hv;obtain⟨dd,hd1,hd2⟩:=(htb _ _ hk1).kind;simp only[TK.fits]at hd2;exact key _ hk1 rfl (run_equalIn_int w d f.type _ _ _ _ (hd2 ▸ hd1))
       ·exfalso;simp[K4]at hv
       ·exfalso;simp[K4]at hv
       exfalso;simp at hy1
      ·rename_i hk1;split at hy1
       ·exfalso;simp[K4]at hv
       ·rename_i s' hk3;simp only[K4,aa]at hv;subst hv;obtain⟨dd,hd1,hd2⟩:=(htb _ _ hk1).kind;simp only[TK.fits]at hd2;refine key _ hk1 rfl ?_;rw[run_equalIn_string w d f.type _ _ (hd2 ▸ hd1),Mr,Mr];congr 1;rw[ai];simp
       ·exfalso;simp[K4]at hv
       exfalso;simp at hy1
      ·rename_i hk1;split at hy1
       ·exfalso;simp[K4]at hv
       ·exfalso;simp[K4]at hv
       ·simp only[K4,aa]at hv;subst hv;obtain⟨dd,hd1,hd2⟩:=(htb _ _ hk1).kind;simp only[TK.fits]at hd2;exact key _ hk1 rfl (run_equalIn_bool' w d f.type _ _ (hd2 ▸ hd1))
       exfalso;simp at hy1
      simp at hx1
theorem yo (htb:gZ P tb)(w:World){t:TypeId}{fs:List (TypeId×Nat)}{sz by':Nat}{z:List Value}{xs ys:Array Value}{b:Bool}(ht:tb t=some ⟨.struct fs,sz,by',z,true⟩)
  (hx:ni tb 0 fs xs.toList=true) (hy:ni tb 0 fs ys.toList=true) (hc:RX xs.toList ys.toList=some b):(Op.equalIn 10000 t (.agg xs) (.agg ys)).run P w= .ok b w:=by
 obtain⟨d,h1,h2⟩:=(htb t _ ht).kind;simp only[TK.fits]at h2;obtain⟨fields,rfl,hf,hn⟩:=h2;have hfo:P.fieldsOf t=fields:=by simp[Program.fieldsOf,h1]
 rw[run_equalIn_struct w 9999 t xs ys (by rw[hfo];exact h1) ((htb t _ ht).flat rfl).1,hfo];exact sJ htb w 9998 fields.toList 0 xs.toList ys.toList xs ys b (fun j=>by simp) (fun j=>by simp) hn (by rw[hf];exact hx) (by rw[hf];exact hy) hc
theorem OZ (htb:gZ P tb){op:BinOp}{t:TypeId}{x y:Operand}{a b:Value}{ob:Prop}{e:EV}(h:PK tb op t a b=some (ob,e))(ho:ob):
  ∃v,e= .v v∧ ∀w,(do eqGuard op t x y a b;binOp op t a b:Sem Value).run P w= .ok v w:=by
 unfold PK at h;split at h
 ·rename_i k a k' b;split at h
  ·simp only[aa,aC]at h;obtain⟨rfl,rfl⟩:=h;refine⟨_,rfl,fun w=>?_⟩;simp only[rC];simp[binOp,Op.shift,show¬b<0 by omega]
  ·simp only[aa,aC]at h;obtain⟨rfl,rfl⟩:=h;refine⟨_,rfl,fun w=>?_⟩;simp only[rC];simp[binOp,Op.shift,show¬b<0 by omega]
  rename_i h1 h2;split at h
  ·rename_i hk;subst hk;obtain⟨v,rfl,hv⟩:=J5 (t:=t) ⟨h1,h2⟩ h ho;refine⟨v,rfl,fun w=>?_⟩;rw[rC,hv];rfl
  simp at h
 ·obtain⟨v,rfl,hv⟩:=JJ (t:=t) h ho;refine⟨v,rfl,fun w=>?_⟩;rw[Fg,hv];rfl
 ·rename_i a b;split at h
  ·rename_i hk;obtain⟨d,h1,h2⟩:=gN htb hk;simp only[TK.fits]at h2;subst h2;have he: ∀w:World,(Op.equal t (.bool a) (.bool b)).run P w= .ok (a==b) w:=fun w=>run_equalIn_bool' w 9999 t a b h1;split at h
   ·simp only[gY,aa,aC]at h;obtain⟨rfl,rfl⟩:=h;refine⟨_,rfl,fun w=>?_⟩;simp only[ub,binOp];show (do let r←Op.equal t (.bool a) (.bool b);Pure.pure (Value.bool r):Sem Value).run P w=_;rw[run_bind,he];rfl
   ·simp only[gY,aa,aC]at h;obtain⟨rfl,rfl⟩:=h;refine⟨_,rfl,fun w=>?_⟩;simp only[ub,binOp];show (do let r←Op.equal t (.bool a) (.bool b);Pure.pure (Value.bool (!r)):Sem Value).run P w=_;rw[run_bind,he];rfl
   simp at h
  simp at h
 ·rename_i xs ys;split at h
  ·rename_i fs sz by' z ht;split at h
   ·rename_i hfl;rw[aL]at hfl;have hg: ∀w:World,(eqGuard op t x y (.agg xs) (.agg ys)).run P w= .ok () w:=fun w=>run_eqGuard_agg w op t x y xs ys ((htb t _ ht).flat rfl).2;split at h
    ·rename_i b hc;simp only[gY,aa,aC]at h;obtain⟨rfl,rfl⟩:=h;refine⟨_,rfl,fun w=>?_⟩;rw[run_bind,hg];simp only[];rw[run_eql_struct,yo htb w ht hfl.1 hfl.2 hc];rfl
    ·rename_i b hc;simp only[gY,aa,aC]at h;obtain⟨rfl,rfl⟩:=h;refine⟨_,rfl,fun w=>?_⟩;rw[run_bind,hg];simp only[];rw[run_neq_struct,yo htb w ht hfl.1 hfl.2 hc];rfl
    simp at h
   simp at h
  simp at h
 simp at h
end
section
variable {P:Program} {tb:Tb}
theorem extract_eq (cs:Array Value)(a b:Nat):cs.extract a b=((cs.toList.take b).drop a).toArray:=by
 apply bg;simp[List.drop_take]
theorem Iq (htb:gZ P tb){t:TypeId}{cs:Array Value}{off:Nat}{x:Value}(h:I0 tb t cs.toList off=some x)(w:World):(part t cs off).run P w= .ok x w:=by
 unfold I0 at h;split at h
 ·rename_i i hi;have h1:=sk htb hi w;have h2:=run_sizeOf htb hi w;split at h
  ·rename_i ha;rw[ha]at h1;simp only[aa]at h;subst h;simp only[part,run_bind,h1,dC,h2];rw[extract_eq];rfl
  rename_i ha;have ha':i.kind.agg=false:=by simpa using ha
  rw[ha']at h1;have h3:cs[off]? =some x:=by simpa using h
  simp only[part,run_bind,h1,bq,dB,h3];rfl
 simp at h
theorem Ru {op:UnOp}{a:Value}{ob:Prop}{e:EV}(h:W0 op a=some (ob,e)): ∃v,e= .v v∧ ∀w,(Op.unary op a).run P w= .ok v w:=by
 unfold W0 at h;split at h
 ·simp only[gY,aa,aC]at h;obtain⟨rfl,rfl⟩:=h;exact⟨_,rfl,fun w=>rfl⟩
 ·simp only[gY,aa,aC]at h;obtain⟨rfl,rfl⟩:=h;exact⟨_,rfl,fun w=>rfl⟩
 simp at h
theorem Nz (htb:gZ P tb){src dst:TypeId}{a:Value}{ob:Prop}{e:EV}(hs: ∃d,P.underlying src=some d)(h:Iw tb dst a=some (ob,e)): ∃v,e= .v v∧ ∀w,(convert src dst a).run P w= .ok v w:=by
 obtain⟨ds,hs⟩:=hs;unfold Iw at h;split at h
 ·rename_i k n;split at h
  ·rename_i k' hk;obtain⟨d,h1,h2⟩:=gN htb hk;simp only[TK.fits]at h2;subst h2;simp only[gY,aa,aC]at h;obtain⟨rfl,rfl⟩:=h;refine⟨_,rfl,fun w=>?_⟩;simp only[convert,run_bind,fh hs,fh h1];rfl
  simp at h
 ·rename_i s;split at h
  ·rename_i hk;obtain⟨d,h1,h2⟩:=gN htb hk;simp only[TK.fits]at h2;subst h2;simp only[gY,aa,aC]at h;obtain⟨rfl,rfl⟩:=h;refine⟨_,rfl,fun w=>?_⟩;simp only[convert,run_bind,fh hs,fh h1];rfl
  simp at h
 simp at h
theorem JI (htb:gZ P tb){t:TypeId}{f:Nat}{a:Value}{ob:Prop}{e:EV}(h:Cu tb t f a=some (ob,e)): ∃v,e= .v v∧ ∀w,(Instr.field t a f).run P w= .ok v w:=by
 unfold Cu at h;split at h
 ·rename_i cs;split at h
  ·rename_i fs hk;obtain⟨d,h1,fields,rfl,hf,_⟩:=gN htb hk;split at h
   ·rename_i ft off hfo;split at h
    ·rename_i x hx;simp only[gY,aa,aC]at h;obtain⟨rfl,rfl⟩:=h;refine⟨_,rfl,fun w=>?_⟩;rw[←hf,aI,aS]at hfo;obtain⟨fd,YO,he⟩:=hfo;simp only[aC]at he;obtain⟨rfl,rfl⟩:=he;have SM:fields[f]? =some fd:=by simpa using YO
     simp only[Instr.field,run_bind,fh h1,SM,asAgg];exact Iq htb hx w
    simp at h
   simp at h
  simp at h
 simp at h
theorem FH {i:Nat}{a:Value}{ob:Prop}{e:EV}(h:tU i a=some (ob,e)): ∃v,e= .v v∧ ∀w,(Instr.extract a i).run P w= .ok v w:=by
 unfold tU at h;split at h
 ·rename_i vs;split at h
  ·rename_i x hx;simp only[gY,aa,aC]at h;obtain⟨rfl,rfl⟩:=h;refine⟨_,rfl,fun w=>?_⟩;have hx':vs[i]? =some x:=by simpa using hx
   simp only[Instr.extract,hx'];rfl
  simp at h
 simp at h
theorem mB (b o n:Nat):(⟨b,o,none⟩:Addr).add n=⟨b,o+n,none⟩:=by
 unfold Addr.add;split<;>simp_all
theorem Af (htb:gZ P tb){f:Field}{i:TI}(h:tb f.type=some i)(hz:i.size≠0)(a:Addr)(w:World):(fieldPlace a f).run P w= .ok (a.add f.offset) w:=by
 simp only[fieldPlace,run_bind,run_sizeOf htb h,hz,dB];rfl
theorem z8 (htb:gZ P tb){rs:RL}{t:TypeId}{f:Nat}{x e:EV}{xv:Value}{ob:Prop}(h:qn tb t f x=some (ob,e))(hx:x.val rs=some xv)(ho:ob): ∃v,e.val rs=some v∧ ∀w,(Instr.fieldAt t xv f).run P w= .ok v w:=by
 unfold qn at h;split at h
 ·rename_i fs hk;obtain⟨d,h1,fields,rfl,hf,_⟩:=gN htb hk;split at h
  ·rename_i ft off hfo;rw[←hf,aI,aS]at hfo;obtain⟨fd,YO,he⟩:=hfo;simp only[aC]at he;obtain⟨rfl,rfl⟩:=he;have SM:fields[f]? =some fd:=by simpa using YO
   split at h
   ·rename_i i hi;split at h
    ·simp at h
    rename_i hz;have key: ∀a:Addr,∀w,(Instr.fieldAt t (.pointer (some a)) f).run P w= .ok (.pointer (some (a.add fd.offset))) w:=fun a w=>by
     simp only[Instr.fieldAt,run_bind,fh h1,SM,Instr.sureAddr];simp only[run_pure,Af htb hi hz]
    split at h
    ·rename_i p;simp only[aa,aC]at h;obtain⟨rfl,rfl⟩:=h;simp only[EV.val,aa]at hx;subst hx;cases p with
     | none=>simp at ho
     | some a=>exact⟨_,rfl,key a⟩
    ·rename_i id o;simp only[aa,aC]at h;obtain⟨rfl,rfl⟩:=h;simp only[EV.val]at hx ⊢;cases hr:fR rs id with
     | none=>simp[hr]at hx
     | some r=>
      cases hb:r.gl with
      | none=>simp[hr,hb]at hx
      | some b=>
       simp only[hr,hb,aa]at hx;subst hx;refine⟨_,by simp only[hb];rfl,fun w=>?_⟩;rw[key,mB]
    simp at h
   simp at h
  simp at h
 simp at h
theorem nf (k:IntKind)(i:Int)(w:World):(asIntOf (.int k i)).run P w= .ok (k,i) w:=rfl
theorem An (htb:gZ P tb){rs:RL}{t:TypeId}{k:IntKind}{i:Int}{x e:EV}{xv:Value}{ob:Prop}(h:qa tb rs t x i=some (ob,e))(hx:x.val rs=some xv)(ho:ob): ∃v,e.val rs=some v∧ ∀w,(Instr.indexAt t xv (.int k i)).run P w= .ok v w:=by
 unfold qa at h;split at h
 ·rename_i el hk;obtain⟨d,h1,h2⟩:=gN htb hk;simp only[TK.fits]at h2;subst h2;split at h
  ·rename_i ti hti;have key: ∀(a:Addr) (n c:Nat),0≤i→i<n→∀w,(Instr.indexAt t (.slice (some a) n c) (.int k i)).run P w= .ok (.pointer (some (a.add (i.toNat * ti.size)))) w:=fun a n c g1 g2 w=>by
    simp only[Instr.indexAt,run_bind,nf,fh h1,run_pure];simp only[g1,g2,dC,run_bind,run_sizeOf htb hti,and_self,run_pure]
   split at h
   ·rename_i p n c;simp only[aa,aC]at h;obtain⟨rfl,rfl⟩:=h;simp only[EV.val,aa]at hx;subst hx;obtain⟨g1,g2,g3⟩:=ho;cases p with
    | none=>simp at g3
    | some a=>exact⟨_,rfl,key a n c g1 g2⟩
   ·rename_i id o n c;simp only[aa,aC]at h;obtain⟨rfl,rfl⟩:=h;obtain⟨g1,g2,r,b,hr,hb⟩:=ho;simp only[EV.val,hr,hb,aJ,aa]at hx ⊢;subst hx;refine⟨_,rfl,fun w=>?_⟩;rw[key _ n c g1 g2,mB]
   simp at h
  simp at h
 ·rename_i n el hk;obtain⟨d,h1,h2⟩:=gN htb hk;simp only[TK.fits]at h2;subst h2;split at h
  ·rename_i ti hti;have key: ∀(a:Addr),0≤i→i<n→∀w,(Instr.indexAt t (.pointer (some a)) (.int k i)).run P w= .ok (.pointer (some (a.add (i.toNat * ti.size)))) w:=fun a g1 g2 w=>by
    simp only[Instr.indexAt,run_bind,nf,fh h1,run_pure,Instr.sureAddr];simp only[g1,g2,dC,run_bind,run_sizeOf htb hti,and_self,run_pure]
   split at h
   ·rename_i p;simp only[aa,aC]at h;obtain⟨rfl,rfl⟩:=h;simp only[EV.val,aa]at hx;subst hx;obtain⟨g1,g2,g3⟩:=ho;cases p with
    | none=>simp at g3
    | some a=>exact⟨_,rfl,key a g1 g2⟩
   ·rename_i id o;simp only[aa,aC]at h;obtain⟨rfl,rfl⟩:=h;obtain⟨g1,g2⟩:=ho;simp only[EV.val]at hx ⊢;cases hr:fR rs id with
    | none=>simp[hr]at hx
    | some r=>
     cases hb:r.gl with
     | none=>simp[hr,hb]at hx
     | some b=>
      simp only[hr,hb,aa]at hx;subst hx;refine⟨_,by simp only[hb];rfl,fun w=>?_⟩;rw[key _ g1 g2,mB]
   simp at h
  simp at h
 simp at h
theorem OV (s:ByteArray)(i:Nat):s[i]? =(bl s)[i]? :=by
 obtain⟨⟨l⟩⟩:=s;simp only[bl];rw[getElem?_def, getElem?_def];rfl
theorem J3 (htb:gZ P tb){t:TypeId}{k:IntKind}{i:Int}{a:Value}{ob:Prop}{e:EV}(h:Ct tb t a i=some (ob,e))(ho:ob): ∃v,e= .v v∧ ∀w,(Instr.index t a (.int k i)).run P w= .ok v w:=by
 unfold Ct at h;split at h
 ·rename_i s hk;obtain⟨d,h1,h2⟩:=gN htb hk;simp only[TK.fits]at h2;subst h2;simp only[aa,aC]at h;obtain⟨rfl,rfl⟩:=h;obtain⟨g1,g2⟩:=ho;refine⟨_,rfl,fun w=>?_⟩;have hl:i.toNat<(bl s).length:=by omega
  have hb:s[i.toNat]? =some ((bl s).getD i.toNat 0):=by rw[OV,aE,ao hl];rfl
  simp only[Instr.index,run_bind,nf,fh h1,g1,dC,hb,run_pure]
 ·rename_i n el cs hk;obtain⟨d,h1,h2⟩:=gN htb hk;simp only[TK.fits]at h2;subst h2;split at h
  ·rename_i ti hti;split at h
   ·rename_i y hy;simp only[aa,aC]at h;obtain⟨rfl,rfl⟩:=h;obtain⟨g1,g2⟩:=ho;refine⟨_,rfl,fun w=>?_⟩;simp only[Instr.index,run_bind,nf,fh h1,g1,g2,and_self,dC,run_sizeOf htb hti];exact Iq htb hy w
   simp at h
  simp at h
 simp at h
end
section
variable {P:Program} {tb:Tb}
theorem run_sliceBound (k:IntKind)(i:Int)(y:Nat)(code:BoundsCode)(h0:0≤i)(h1:i≤y)(w:World):(Instr.sliceBound (.int k i) y code).run P w= .ok i.toNat w:=by
 simp only[Instr.sliceBound,run_bind,nf,h0,h1,and_self,dC,run_pure]
theorem nj (isSlice:Bool)(len cap:Nat)(kl kh:IntKind)(lo hi:Option Int)(h: ∀l,lo=some l→0≤l∧l≤((hi.getD len:Int)))(h': ∀h,hi=some h→0≤h∧h≤cap)(w:World):
  (Instr.sliceBounds isSlice len cap (lo.map (Value.int kl)) (hi.map (Value.int kh)) none).run P w= .ok ((lo.getD 0).toNat,(hi.getD len:Int).toNat,cap) w:=by
 cases hi with
 | none=>
  cases lo with
  | none=>simp[Instr.sliceBounds]
  | some l=>
   obtain⟨h1,h2⟩:=h l rfl;simp only[Instr.sliceBounds,aJ,dx,Option.isSome_none,run_bind,run_pure,Option.getD_none,dw,bq,dB]at h2 ⊢;rw[run_sliceBound kl l len _ h1 h2];rfl
 | some u=>
  obtain⟨h3,h4⟩:=h' u rfl;cases lo with
  | none=>
   simp only[Instr.sliceBounds,aJ,dx,run_bind,run_pure,Option.getD_none,dw];rw[run_sliceBound kh u cap _ h3 h4];rfl
  | some l=>
   obtain⟨h1,h2⟩:=h l rfl;simp only[dw]at h2;simp only[Instr.sliceBounds,aJ,run_bind,run_pure,dw];rw[run_sliceBound kh u cap _ h3 h4];simp only[];rw[run_sliceBound kl l u.toNat _ h1 (by omega)]
theorem oQ {t:TypeId}(x:Value)(lo hi mx:Option Value){d:TypeDesc}(h:P.underlying t=some d)(hd: ∀n e,d≠ .array n e)(w:World):(Instr.sliceAt t x lo hi mx).run P w=(Instr.slice t x lo hi mx).run P w:=by
 simp only[Instr.sliceAt,run_bind,fh h]
 try cases d<;>first | rfl | exact absurd rfl (hd _ _)
theorem Bb (htb:gZ P tb){t:TypeId}{kl kh:IntKind}{lo hi:Option Int}{a:Value}{ob:Prop}{e:EV}(h:vJ tb t a lo hi=some (ob,e))(ho:ob):
  ∃v,e= .v v∧ ∀w,(Instr.sliceAt t a (lo.map (Value.int kl)) (hi.map (Value.int kh)) none).run P w= .ok v w:=by
 unfold vJ at h;split at h
 ·rename_i s hk;obtain⟨d,h1,h2⟩:=gN htb hk;simp only[TK.fits]at h2;subst h2;have key:(∀l,lo=some l→0≤l∧l≤((hi.getD s.size:Int)))→(∀h,hi=some h→0≤h∧h≤s.size)→∀w,(Instr.sliceAt t (.string s) (lo.map (Value.int kl)) (hi.map (Value.int kh)) none).run P w= .ok (S (((bl s).take (hi.getD s.size:Int).toNat).drop (lo.getD 0).toNat)) w:=fun g1 g2 w=>by
   rw[oQ _ _ _ _ h1 (by simp)];simp only[Instr.slice,run_bind,fh h1,Option.isSome_none,bq,dB,run_pure,nj false s.size s.size kl kh lo hi g1 g2];rw[←HL];simp only[S,L2]
  split at h
  ·simp only[gY,aa,aC]at h;obtain⟨rfl,rfl⟩:=h;refine⟨_,rfl,fun w=>?_⟩;have:=key (by simp) (by simp) w;simpa [mH] using this
  ·rename_i l;simp only[aa,aC]at h;obtain⟨rfl,rfl⟩:=h;refine⟨_,rfl,fun w=>?_⟩;have:=key (by intro l' h';cases h';simpa [mH] using ho) (by simp) w;simpa [mH] using this
  ·rename_i u;simp only[aa,aC]at h;obtain⟨rfl,rfl⟩:=h;refine⟨_,rfl,fun w=>?_⟩;have:=key (by simp) (by intro l' h';cases h';simpa [mH] using ho) w;simpa [mH] using this
  rename_i l u;simp only[aa,aC]at h;obtain⟨rfl,rfl⟩:=h;obtain⟨g1,g2,g3⟩:=ho;refine⟨_,rfl,fun w=>?_⟩;have:=key (by intro l' h';cases h';simp only[dw];omega) (by intro l' h';cases h';rw[mH];omega) w;simpa [mH] using this
 ·rename_i el p n c hk;obtain⟨d,h1,h2⟩:=gN htb hk;simp only[TK.fits]at h2;subst h2;split at h
  ·rename_i ti hti;have key:(∀l,lo=some l→0≤l∧l≤((hi.getD n:Int)))→(∀h,hi=some h→0≤h∧h≤c)→∀w,(Instr.sliceAt t (.slice p n c) (lo.map (Value.int kl)) (hi.map (Value.int kh)) none).run P w=
     .ok (.slice (jI p (lo.getD 0).toNat c ti.size) ((hi.getD n:Int).toNat - (lo.getD 0).toNat) (c - (lo.getD 0).toNat)) w:=fun g1 g2 w=>by
    rw[oQ _ _ _ _ h1 (by simp)];simp only[Instr.slice,run_bind,fh h1,nj true n c kl kh lo hi g1 g2,run_sizeOf htb hti,run_pure];rfl
   split at h
   ·simp only[gY,aa,aC]at h;obtain⟨rfl,rfl⟩:=h;refine⟨_,rfl,fun w=>?_⟩;have:=key (by simp) (by simp) w;simpa using this
   ·rename_i l;simp only[aa,aC]at h;obtain⟨rfl,rfl⟩:=h;obtain⟨g1,g2,g3⟩:=ho;refine⟨_,rfl,fun w=>?_⟩;have:=key (by intro l' h';cases h';simp only[Option.getD_none];omega) (by simp) w;simpa using this
   ·rename_i u;simp only[aa,aC]at h;obtain⟨rfl,rfl⟩:=h;refine⟨_,rfl,fun w=>?_⟩;have:=key (by simp) (by intro l' h';cases h';exact ho) w;simpa using this
   rename_i l u;simp only[aa,aC]at h;obtain⟨rfl,rfl⟩:=h;obtain⟨g1,g2,g3⟩:=ho;refine⟨_,rfl,fun w=>?_⟩;have:=key (by intro l' h';cases h';simp only[dw];omega) (by intro l' h';cases h';omega) w;simpa using this
  simp at h
 simp at h
theorem KR (htb:gZ P tb){rs:RL}{t:TypeId}{kl kh:IntKind}{lo hi:Option Int}{id o n c:Nat}{a:Value}{ob:Prop}{e:EV}(hx:(EV.row id o n c).val rs=some a)(h:CI tb t id o n c lo hi=some (ob,e))(ho:ob):
  ∃v,e.val rs=some v∧ ∀w,(Instr.sliceAt t a (lo.map (Value.int kl)) (hi.map (Value.int kh)) none).run P w= .ok v w:=by
 simp only[EV.val]at hx;split at hx
 ·rename_i r hr;simp only[aa]at hx;subst hx;have base: ∀l m size,jI (r.gl.map fun b=>(⟨b,o,none⟩:Addr)) l m size=r.gl.map fun b=>(⟨b,gR o l m size,none⟩:Addr):=fun l m size=>by
   unfold jI gR;split<;>cases r.gl<;>simp[mB]
  have val: ∀o' n' c',(EV.row id o' n' c').val rs=some (.slice (r.gl.map fun b=>(⟨b,o',none⟩:Addr)) n' c'):=fun o' n' c'=>by simp only[EV.val,hr]
  unfold CI at h;split at h
  ·rename_i el hk;split at h
   ·rename_i ti hti;have go: ∀x,vJ tb t (.slice (r.gl.map fun b=>(⟨b,o,none⟩:Addr)) n c) lo hi=some (ob,.v x)→∀w,(Instr.sliceAt t (.slice (r.gl.map fun b=>(⟨b,o,none⟩:Addr)) n c) (lo.map (Value.int kl)) (hi.map (Value.int kh)) none).run P w= .ok x w:=fun x hs=>by
     obtain⟨v,hv,hr⟩:=Bb htb (kl:=kl) (kh:=kh) hs ho;cases hv;exact hr
    split at h<;>simp only[aa,aC]at h<;>obtain⟨rfl,rfl⟩:=h<;>refine⟨_,val _ _ _,go _ ?_⟩<;>simp only[vJ,hk,hti,gY,base]
    ·have:gR o 0 c ti.size=o:=by unfold gR;split<;>simp
     rw[this]
    have:gR o 0 c ti.size=o:=by unfold gR;split<;>simp
    rw[this]
   simp at h
  simp at h
 simp at hx
theorem KV (htb:gZ P tb){rs:RL}{t:TypeId}{kl kh:IntKind}{lo hi:Option Int}{id o:Nat}{a:Value}{ob:Prop}{e:EV}(hx:(EV.loc id o).val rs=some a)(h:Cy tb t id o lo hi=some (ob,e)):
  ∃v,e.val rs=some v∧ ∀w,(Instr.sliceAt t a (lo.map (Value.int kl)) (hi.map (Value.int kh)) none).run P w= .ok v w:=by
 simp only[EV.val]at hx;split at hx
 ·rename_i r hr;split at hx
  ·rename_i b hb;simp only[aa]at hx;subst hx;unfold Cy at h;split at h
   ·rename_i n el hk;obtain⟨d,h1,h2⟩:=gN htb hk;simp only[TK.fits]at h2;subst h2;split at h
    ·rename_i ti hti;split at h
     ·simp only[aa,aC]at h;obtain⟨_,rfl⟩:=h;refine⟨.slice (some ⟨b,o,none⟩) n n,by simp only[EV.val,hr,hb,aJ],fun w=>?_⟩;have hb2:=nj false n n kl kh none none (by simp) (by simp) w (P:=P);simp only[dx,Option.getD_none]at hb2;simp only[dx,Instr.sliceAt,run_bind,fh h1,Instr.sureAddr,run_pure,hb2,run_sizeOf htb hti];simp[mB]
     simp at h
    simp at h
   simp at h
  simp at hx
 simp at hx
theorem vG (len cap:Nat)(kh km:IntKind)(h m:Int)(h1:0≤h∧h≤m)(h2:m≤cap)(w:World):
  (Instr.sliceBounds true len cap none (some (.int kh h)) (some (.int km m))).run P w= .ok (0,h.toNat,m.toNat) w:=by
 simp only[Instr.sliceBounds,run_bind,run_pure];rw[run_sliceBound km m cap _ (by omega) h2];simp only[];rw[run_sliceBound kh h m.toNat _ h1.1 (by omega)]
theorem Gy (htb:gZ P tb){t:TypeId}{kl kh km:IntKind}{lo hi:Option Int}{m:Int}{a:Value}{ob:Prop}{e:EV}(h:xm tb t a lo hi m=some (ob,e))(ho:ob):
  ∃v,e= .v v∧ ∀w,(Instr.sliceAt t a (lo.map (Value.int kl)) (hi.map (Value.int kh)) (some (.int km m))).run P w= .ok v w:=by
 unfold xm at h;split at h
 ·rename_i el p n c hk;obtain⟨d,h1,h2⟩:=gN htb hk;simp only[TK.fits]at h2;subst h2;split at h
  ·rename_i ti hti;split at h
   ·rename_i u;simp only[aa,aC]at h;obtain⟨rfl,rfl⟩:=h;obtain⟨g1,g2,g3⟩:=ho;refine⟨_,rfl,fun w=>?_⟩;rw[oQ _ _ _ _ h1 (by simp)];simp only[Instr.slice,run_bind,fh h1,dx,aJ,vG n c kh km u m ⟨g1,g2⟩ g3,run_sizeOf htb hti,run_pure,Nat.sub_zero];rfl
   simp at h
  simp at h
 simp at h
theorem DR (off:Nat): ∀(l:List Value) (k:Nat) (cs:Array Value),off+k+l.length≤cs.size→
  ((l.zipIdx k).foldl (fun cs (x:Value×Nat)=>cs.setIfInBounds (off+x.2) x.1) cs).toList=cs.toList.take (off+k)++l++cs.toList.drop (off+k+l.length)
 | [],k,cs,_=>by simp
 | v::l,k,cs,h=>by
  simp only[aH]at h;simp only[List.zipIdx_cons,List.foldl_cons];rw[DR off l (k+1) _ (by simp;omega)];apply List.ext_getElem?;intro i;simp only[Array.toList_setIfInBounds,aH,bM,bV];rw[cj,cj,cj];simp only[aw,cJ,bj];have e1:min (off+(k+1)) cs.size=off+k+1:=by omega
  have e2:min (off+k) cs.size=off+k:=by omega
  rw[e1,e2];by_cases c1:i<off+k
  ·rw[aZ (by omega),aZ c1];simp only[cB];rw[aZ (by omega),aZ c1,List.getElem?_set_ne (by omega)]
  rw[aY c1];by_cases c2:i=off+k
  ·subst c2;rw[aZ (by omega)];simp only[cB];rw[aZ (by omega),List.getElem?_set_self (by simp;omega)];simp
  rw[aY (by omega)];obtain⟨j,rfl⟩: ∃j,i=off+k+1+j:=⟨i - (off+k+1),by omega⟩;have e3:off+k+1+j - (off+k+1)=j:=by omega
  have e4:off+k+1+j - (off+k)=j+1:=by omega
  rw[e3,e4,List.getElem?_cons_succ];rw[cj];split
  ·rfl
  rename_i c3;simp only[cu];rw[List.getElem?_set_ne (by omega)];congr 1;omega
theorem xB (place HU:Nat→Option (Nat×Nat))(hp: ∀i x,place i=some x→HU i=some x): ∀(parts:List (Nat×Value)) (cs:Array Value) (out:List Value),sN place cs.toList parts=some out→Instr.fill HU cs parts=some out.toArray
 | [],cs,out,h=>by
  simp only[sN,aa]at h;subst h;simp[Instr.fill]
 | (i,v)::parts,cs,out,h=>by
  simp only[sN]at h;split at h
  ·rename_i off size hpl;split at h
   ·rename_i hc;obtain⟨hc1,hc2⟩:=hc;simp only[Instr.fill,hp _ _ hpl];have hs:v.cells.size=size:=by simpa using hc1
    have hcs:off+size≤cs.size:=by simpa using hc2
    rw[aY (by simp only[hs,ne_eq,dD,decide_false,bu,av];omega)];have hf:=DR off v.cells.toList 0 cs (by simp only[df,bj];omega);have e:(v.cells.zipIdx.foldl (fun cs (x:Value×Nat)=>cs.setIfInBounds (off+x.2) x.1) cs).toList=cs.toList.take off++v.cells.toList++cs.toList.drop (off+size):=by
     rw[←Array.foldl_toList,Array.toList_zipIdx,hf];simp[hs]
    refine xB place HU hp parts _ out ?_;rw[←h,←e]
   simp at h
  simp at h
theorem Ka (htb:gZ P tb){fields:Array Field}(hall:(fields.toList.map fun f=>(f.type,f.offset)).all (fun f=>(tb f.1).isSome)=true)(w:World):
  ∃places:Array (Nat×Nat),(fields.mapM (m:=Sem) fun f=>do Pure.pure (f.offset,←sizeOf f.type)).run P w= .ok places w∧
   ∀i x,vw tb (fields.toList.map fun f=>(f.type,f.offset)) i=some x→places[i]? =some x:=by
 have key: ∀(l:List Field),(l.map fun f=>(f.type,f.offset)).all (fun f=>(tb f.1).isSome)=true→
   ∃ps:List (Nat×Nat),(l.mapM (m:=Sem) fun f=>do Pure.pure (f.offset,←sizeOf f.type)).run P w= .ok ps w∧
    ∀i x,vw tb (l.map fun f=>(f.type,f.offset)) i=some x→ps[i]? =some x:=by
  intro l
  induction l with
  | nil=>intro _;exact⟨[],rfl,fun i x h=>by simp[vw]at h⟩
  | cons f l ih=>
   intro hl;simp only[a9,List.all_cons,aL]at hl;obtain⟨h1,h2⟩:=hl;obtain⟨ps,hr,hps⟩:=ih h2;obtain⟨ti,hti⟩:=Option.isSome_iff_exists.1 h1;refine⟨(f.offset,ti.size)::ps,?_,?_⟩
   ·rw[List.mapM_cons];simp only[run_bind,run_sizeOf htb hti,run_pure,hr]
   intro i x hx;cases i with
   | zero=>simpa [vw,hti] using hx
   | succ i=>
    rw[List.getElem?_cons_succ];exact hps i x (by simpa [vw] using hx)
 obtain⟨ps,h1,h2⟩:=key fields.toList hall;refine⟨ps.toArray,?_,fun i x hx=>by simpa using h2 i x hx⟩;rw[Array.mapM_eq_mapM_toList,←bind_pure_comp,run_bind,h1];rfl
theorem Ji (htb:gZ P tb){t:TypeId}{parts:List (Nat×Value)}{ob:Prop}{e:EV}(h:BN tb t parts=some (ob,e)): ∃v,e= .v v∧ ∀w,(Instr.build t parts.toArray).run P w= .ok v w:=by
 have zero: ∀{i:TI},tb t=some i→∃z:Value,z.cells.toList=i.zero∧ ∀w,(zeroValue t).run P w= .ok z w:=fun {i} hi=>by
  obtain⟨info,h1,_,_,z,h2,h3⟩:=(htb t i hi).info;exact⟨z,h3,fun w=>by simp[zeroValue,typeInfo,h1,h2]⟩
 unfold BN at h;split at h
 ·rename_i fs sz by' z fl ht;split at h
  ·rename_i hall;split at h
   ·rename_i cs hcs;simp only[gY,aa,aC]at h;obtain⟨rfl,rfl⟩:=h;refine⟨_,rfl,fun w=>?_⟩;obtain⟨z',hz1,hz2⟩:=zero ht;obtain⟨d,h1,fields,rfl,hf,_⟩:=(htb t _ ht).kind;subst hf;obtain⟨places,hp1,hp2⟩:=Ka htb hall w;simp only at hz1;rw[←hz1]at hcs;have:=xB _ (places[·]?) hp2 parts z'.cells cs hcs;simp only[Instr.build,run_bind,hz2,fh h1];simp only[hp1];simp only[this];rfl
   simp at h
  simp at h
 ·rename_i n el sz by' z fl ht;split at h
  ·rename_i ti hti;split at h
   ·rename_i cs hcs;simp only[gY,aa,aC]at h;obtain⟨rfl,rfl⟩:=h;refine⟨_,rfl,fun w=>?_⟩;obtain⟨z',hz1,hz2⟩:=zero ht;obtain⟨d,h1,h2⟩:=(htb t _ ht).kind;simp only[TK.fits]at h2;subst h2;simp only at hz1;rw[←hz1]at hcs;have:=xB _ (fun i=>some (i * ti.size,ti.size)) (fun i x hx=>hx) parts z'.cells cs hcs;simp only[Instr.build,run_bind,hz2,fh h1,run_sizeOf htb hti];simp only[this];rfl
   simp at h
  simp at h
 simp at h
def Fits (rs:RL)(ρ:Operand→Option EV)(ρ':Operand→Value):Prop:=∀o e,ρ o=some e→e.val rs=some (ρ' o)
theorem tK {rs:RL}{ρ:Operand→Option EV}{ρ':Operand→Value}(hρ:Fits rs ρ ρ'): ∀{l:List Operand} {xs:List Value},su rs ρ l=some xs→l.map ρ'=xs
 | [],xs,h=>by simpa [su] using h
 | o::l,xs,h=>by
  simp only[su]at h;split at h
  ·rename_i e he;split at h
   ·rename_i x ys hx hy;simp only[aa]at h;subst h;have:=hρ o e he;rw[this]at hx;simp only[aa]at hx;subst hx;rw[a9,tK hρ hy]
   simp at h
  simp at h
theorem ta {rs:RL}{ρ:Operand→Option EV}{ρ':Operand→Value}(hρ:Fits rs ρ ρ'): ∀{l:List (Nat×Operand)} {xs:List (Nat×Value)},partsOf rs ρ l=some xs→(l.map fun (i,x)=>(i,ρ' x))=xs
 | [],xs,h=>by simpa [partsOf] using h
 | (i,o)::l,xs,h=>by
  simp only[partsOf]at h;split at h
  ·rename_i e he;split at h
   ·rename_i x ys hx hy;simp only[aa]at h;subst h;have:=hρ o e he;rw[this]at hx;simp only[aa]at hx;subst hx;rw[a9,ta hρ hy]
   simp at h
  simp at h
theorem td {rs:RL}{ρ:Operand→Option EV}{ρ':Operand→Value}(hρ:Fits rs ρ ρ'): ∀{l:List Operand} {es:List EV},F8 ρ l=some es→es.map (·.val rs)=l.map fun o=>some (ρ' o)
 | [],es,h=>by
  simp only[F8,aa]at h;subst h;rfl
 | o::l,es,h=>by
  simp only[F8]at h;split at h
  ·rename_i e es' he hes;simp only[aa]at h;subst h;simp only[a9,td hρ hes,hρ o e he]
  simp at h
theorem Pl (htb:gZ P tb){rs:RL}{t:TypeId}{x e:EV}{xv:Value}{ob:Prop}(h:OO tb t x=some (ob,e))(hx:x.val rs=some xv)(ty:TypeId): ∃v,e= .v v∧ ∀w,(Builtin.len_ #[t] ty #[xv]).run P w= .ok v w:=by
 have sl: ∀(p:Option Addr) (n c:Nat) (el:TypeId),tk tb t=some (.slice el)→∀w,(Builtin.len_ #[t] ty #[.slice p n c]).run P w= .ok (.int .i64 n) w:=fun p n c el hk w=>by
  obtain⟨d,h1,h2⟩:=gN htb hk;simp only[TK.fits]at h2;subst h2;simp only[Builtin.len_,cC,cr,run_bind,fh h1];rfl
 unfold OO at h;split at h
 ·rename_i s;simp only[EV.val,aa]at hx;subst hx;split at h
  ·rename_i hk;obtain⟨d,h1,h2⟩:=gN htb hk;simp only[TK.fits]at h2;subst h2;simp only[gY,aa,aC]at h;obtain⟨rfl,rfl⟩:=h;refine⟨_,rfl,fun w=>?_⟩;simp only[Builtin.len_,cC,cr,run_bind,fh h1,mH];rfl
  simp at h
 ·rename_i p n c;simp only[EV.val,aa]at hx;subst hx;split at h
  ·rename_i el hk;simp only[gY,aa,aC]at h;obtain⟨rfl,rfl⟩:=h;exact⟨_,rfl,sl p n c el hk⟩
  simp at h
 ·rename_i id n c;split at h
  ·rename_i el hk;simp only[gY,aa,aC]at h;obtain⟨rfl,rfl⟩:=h;simp only[EV.val]at hx;split at hx
   ·simp only[aa]at hx;subst hx;exact⟨_,rfl,sl _ n c el hk⟩
   simp at hx
  simp at h
 simp at h
theorem OT (htb:gZ P tb){rs:RL}{t:TypeId}{x e:EV}{xv:Value}{ob:Prop}(h:Pk tb t x=some (ob,e))(hx:x.val rs=some xv)(ty:TypeId): ∃v,e= .v v∧ ∀w,(Builtin.cap_ #[t] ty #[xv]).run P w= .ok v w:=by
 have sl: ∀(p:Option Addr) (n c:Nat) (el:TypeId),tk tb t=some (.slice el)→∀w,(Builtin.cap_ #[t] ty #[.slice p n c]).run P w= .ok (.int .i64 c) w:=fun p n c el hk w=>by
  obtain⟨d,h1,h2⟩:=gN htb hk;simp only[TK.fits]at h2;subst h2;simp only[Builtin.cap_,cC,cr,run_bind,fh h1];rfl
 unfold Pk at h;split at h
 ·rename_i p n c;simp only[EV.val,aa]at hx;subst hx;split at h
  ·rename_i el hk;simp only[gY,aa,aC]at h;obtain⟨rfl,rfl⟩:=h;exact⟨_,rfl,sl p n c el hk⟩
  simp at h
 ·rename_i id n c;split at h
  ·rename_i el hk;simp only[gY,aa,aC]at h;obtain⟨rfl,rfl⟩:=h;simp only[EV.val]at hx;split at hx
   ·simp only[aa]at hx;subst hx;exact⟨_,rfl,sl _ n c el hk⟩
   simp at hx
  simp at h
 simp at h
theorem gM {s:Sem Value}{v:Value}{w:World}(h:s.run P w= .ok v w):(do Pure.pure (Next.value (←s)):Sem Next).run P w= .ok (.value v) w:=by
 rw[run_bind,h];rfl
theorem J1 (htb:gZ P tb){rs:RL}{ρ:Operand→Option EV}{ρ':Operand→Value}(hρ:Fits rs ρ ρ'){b:Builtin}{args:List Operand}{ts:List TypeId}{ob:Prop}{e:EV}(h:BT tb rs b (F8 ρ args) ts=some (ob,e))(ho:ob)(ty:TypeId)(cs:Array Bool):
  ∃v,e.val rs=some v∧ ∀w,(builtin b ts.toArray ty cs (args.map ρ').toArray).run P w= .ok (.value v) w:=by
 unfold BT at h;split at h
 ·rename_i n c he;have h1:=td hρ he;rcases args with _ | ⟨o,_ | ⟨o',l⟩⟩<;>simp only[a9,cM,bU,and_true,reduceCtorEq,and_false,EV.val,aa]at h1
  simp only[aa,aC]at h;obtain⟨rfl,rfl⟩:=h;refine⟨_,rfl,fun w=>gM ?_⟩;simp only[a9,cM,←h1];exact Lib.run_unsafeSliceData_nil w _ _ _ _
 ·rename_i id off n c he;have h1:=td hρ he;rcases args with _ | ⟨o,_ | ⟨o',l⟩⟩<;>simp only[a9,cM,bU,and_true,reduceCtorEq,and_false]at h1
  simp only[aa,aC]at h;obtain⟨rfl,rfl⟩:=h;obtain⟨hc,r,b,hr,hb⟩:=ho;simp only[EV.val,hr,hb,aJ,aa]at h1;refine⟨.pointer (some ⟨b,off,none⟩),by simp only[EV.val,hr,hb],fun w=>gM ?_⟩;simp only[a9,cM,←h1];exact Lib.run_unsafeSliceData_row w _ _ _ _ _ hc
 ·rename_i x t he;have h1:=td hρ he;rcases args with _ | ⟨o,_ | ⟨o',l⟩⟩<;>simp only[a9,cM,bU,and_true,reduceCtorEq,and_false]at h1
  skip
  obtain⟨v,rfl,hv⟩:=Pl htb h h1 ty;exact⟨v,rfl,fun w=>gM (hv w)⟩
 ·rename_i x t he;have h1:=td hρ he;rcases args with _ | ⟨o,_ | ⟨o',l⟩⟩<;>simp only[a9,cM,bU,and_true,reduceCtorEq,and_false]at h1
  skip
  obtain⟨v,rfl,hv⟩:=OT htb h h1 ty;exact⟨v,rfl,fun w=>gM (hv w)⟩
 ·rename_i x y he;have h1:=td hρ he;rcases args with _ | ⟨o,_ | ⟨o',_ | ⟨o'',l⟩⟩⟩<;>simp only[a9,cM,bU,and_true,EV.val,aa,reduceCtorEq,and_false,List.nil_eq,List.cons_ne_self]at h1
  obtain⟨rfl,rfl⟩:=h1;unfold Sf at h;split at h
  ·simp only[gY,aa,aC]at h;obtain⟨rfl,rfl⟩:=h;rename_i k a k' b' ha hb;refine⟨_,rfl,fun w=>gM ?_⟩;simp only[a9,cM,ha,hb];rfl
  simp at h
 ·rename_i x y he;have h1:=td hρ he;rcases args with _ | ⟨o,_ | ⟨o',_ | ⟨o'',l⟩⟩⟩<;>simp only[a9,cM,bU,and_true,EV.val,aa,reduceCtorEq,and_false,List.nil_eq,List.cons_ne_self]at h1
  obtain⟨rfl,rfl⟩:=h1;unfold RP at h;split at h
  ·simp only[gY,aa,aC]at h;obtain⟨rfl,rfl⟩:=h;rename_i k a k' b' ha hb;refine⟨_,rfl,fun w=>gM ?_⟩;simp only[a9,cM,ha,hb];rfl
  simp at h
 simp at h
theorem mA {rs:RL}{ρ:Operand→Option EV}{ρ':Operand→Value}(hρ:Fits rs ρ ρ'){o:Option Operand}{r:Option Int}(h:bound ρ o=some r): ∃k,o.map ρ'=r.map (Value.int k):=by
 unfold bound at h;split at h
 ·simp only[aa]at h;subst h;exact⟨.i64,rfl⟩
 rename_i o';split at h
 ·rename_i k n he;simp only[aa]at h;subst h;have:=hρ _ _ he;simp only[EV.val,aa]at this;exact⟨k,by simp[this]⟩
 simp at h
theorem Vt (htb:gZ P tb){rs:RL}{ρ:Operand→Option EV}{ρ':Operand→Value}(hρ:Fits rs ρ ρ'){o:Oper}{ob:Prop}{e:EV}(h:pv tb rs ρ o.op=some (ob,e))(ho:ob):
  ∃v,e.val rs=some v∧ ∀w,(execOp ρ' o).run P w= .ok (.value v) w:=by
 obtain⟨dst,op,type,pos,after,guard⟩:=o;simp only at h;unfold pv at h;split at h
 ·rename_i x;split at h
  ·rename_i ev hx;simp only[aa,aC]at h;obtain⟨rfl,rfl⟩:=h;exact⟨_,hρ _ _ hx,fun w=>rfl⟩
  simp at h
 ·rename_i x;split at h
  ·rename_i ev hx;simp only[aa,aC]at h;obtain⟨rfl,rfl⟩:=h;exact⟨_,hρ _ _ hx,fun w=>rfl⟩
  simp at h
 ·rename_i op t x y yt;split at h
  ·rename_i a b hx hy;have e1:=hρ _ _ hx;have e2:=hρ _ _ hy;simp only[EV.val,aa]at e1 e2;obtain⟨v,rfl,hv⟩:=OZ htb (x:=x) (y:=y) h ho;refine⟨v,rfl,fun w=>?_⟩;simp only[execOp,←e1,←e2];exact gM (hv w)
  simp at h
 ·rename_i op t x;split at h
  ·rename_i a hx;have e1:=hρ _ _ hx;simp only[EV.val,aa]at e1;obtain⟨v,rfl,hv⟩:=Ru (P:=P) h;refine⟨v,rfl,fun w=>?_⟩;simp only[execOp,←e1];exact gM (hv w)
  simp at h
 ·rename_i src dst' x;split at h
  ·rename_i i a hsrc hx;have e1:=hρ _ _ hx;simp only[EV.val,aa]at e1;obtain⟨d,hd,_⟩:=(htb _ _ hsrc).kind;obtain⟨v,rfl,hv⟩:=Nz htb ⟨d,hd⟩ h;refine⟨v,rfl,fun w=>?_⟩;simp only[execOp,←e1];exact gM (hv w)
  simp at h
 ·rename_i t x f;split at h
  ·rename_i a hx;have e1:=hρ _ _ hx;simp only[EV.val,aa]at e1;obtain⟨v,rfl,hv⟩:=JI htb h;refine⟨v,rfl,fun w=>?_⟩;simp only[execOp,←e1];exact gM (hv w)
  simp at h
 ·rename_i x i;split at h
  ·rename_i a hx;have e1:=hρ _ _ hx;simp only[EV.val,aa]at e1;obtain⟨v,rfl,hv⟩:=FH (P:=P) h;refine⟨v,rfl,fun w=>?_⟩;simp only[execOp,←e1];exact gM (hv w)
  simp at h
 ·rename_i t x f;split at h
  ·rename_i ev hx;obtain⟨v,he,hv⟩:=z8 htb h (hρ _ _ hx) ho;exact⟨v,he,fun w=>gM (hv w)⟩
  simp at h
 ·rename_i t x i;split at h
  ·rename_i ev k n hx hi;have e2:=hρ _ _ hi;simp only[EV.val,aa]at e2;obtain⟨v,he,hv⟩:=An htb (k:=k) h (hρ _ _ hx) ho;refine⟨v,he,fun w=>?_⟩;simp only[execOp,←e2];exact gM (hv w)
  simp at h
 ·rename_i t x i;split at h
  ·rename_i a k n hx hi;have e1:=hρ _ _ hx;have e2:=hρ _ _ hi;simp only[EV.val,aa]at e1 e2;obtain⟨v,rfl,hv⟩:=J3 htb (k:=k) h ho;refine⟨v,rfl,fun w=>?_⟩;simp only[execOp,←e1,←e2];exact gM (hv w)
  simp at h
 ·rename_i t x lo hi;unfold Cg at h;split at h
  ·rename_i a l u hx hl hu;have e1:=hρ _ _ hx;simp only[EV.val,aa]at e1;obtain⟨kl,e2⟩:=mA hρ hl;obtain⟨kh,e3⟩:=mA hρ hu;obtain⟨v,rfl,hv⟩:=Bb htb (kl:=kl) (kh:=kh) h ho;refine⟨v,rfl,fun w=>?_⟩;simp only[execOp,←e1,e2,e3];exact gM (hv w)
  ·rename_i id o n c l u hx hl hu;have e1:=hρ _ _ hx;obtain⟨kl,e2⟩:=mA hρ hl;obtain⟨kh,e3⟩:=mA hρ hu;obtain⟨v,hv1,hv⟩:=KR htb (kl:=kl) (kh:=kh) e1 h ho;refine⟨v,hv1,fun w=>?_⟩;simp only[execOp,e2,e3];exact gM (hv w)
  ·rename_i id o l u hx hl hu;have e1:=hρ _ _ hx;obtain⟨kl,e2⟩:=mA hρ hl;obtain⟨kh,e3⟩:=mA hρ hu;obtain⟨v,hv1,hv⟩:=KV htb (kl:=kl) (kh:=kh) e1 h;refine⟨v,hv1,fun w=>?_⟩;simp only[execOp,e2,e3];exact gM (hv w)
  simp at h
 ·rename_i t x lo hi m;unfold x4 at h;split at h
  ·rename_i a l u mm hx hl hu hm;have e1:=hρ _ _ hx;simp only[EV.val,aa]at e1;obtain⟨kl,e2⟩:=mA hρ hl;obtain⟨kh,e3⟩:=mA hρ hu;obtain⟨km,e4⟩:=mA hρ hm;obtain⟨v,rfl,hv⟩:=Gy htb (kl:=kl) (kh:=kh) (km:=km) h ho;refine⟨v,rfl,fun w=>?_⟩;simp only[aJ]at e4;simp only[execOp,←e1,e2,e3,aJ,e4];exact gM (hv w)
  simp at h
 ·rename_i t parts;split at h
  ·rename_i ps hps;obtain⟨v,rfl,hv⟩:=Ji htb h;refine⟨v,rfl,fun w=>?_⟩;have e1:=ta hρ hps;have e2:(parts.map fun (i,x)=>(i,ρ' x))=ps.toArray:=by
    apply bg;simpa using e1
   simp only[execOp,e2];exact gM (hv w)
  simp at h
 ·rename_i fn first captured;split at h
  ·rename_i xs ys hx hy;simp only[gY,aa,aC]at h;obtain⟨rfl,rfl⟩:=h;refine⟨_,rfl,fun w=>?_⟩;have e1:=tK hρ hx;have e2:=tK hρ hy;have e3:first.map ρ'=xs.toArray:=by apply bg;simpa using e1
   have e4:captured.map ρ'=ys.toArray:=by apply bg;simpa using e2
   simp only[execOp,e3,e4,Instr.makeFunc];rfl
  simp at h
 ·rename_i x;split at h
  ·rename_i p hx;have e1:=hρ _ _ hx;simp only[EV.val,aa]at e1;simp only[aa,aC]at h;obtain⟨rfl,rfl⟩:=h;refine⟨_,rfl,fun w=>?_⟩;cases p with
   | none=>simp at ho
   | some a=>simp only[execOp,←e1];rfl
  ·rename_i id o' hx;have e1:=hρ _ _ hx;simp only[aa,aC]at h;obtain⟨rfl,rfl⟩:=h;refine⟨_,e1,fun w=>?_⟩;have e2:=e1;simp only[EV.val]at e2;split at e2
   ·split at e2
    ·simp only[aa]at e2;simp only[execOp,←e2];rfl
    simp at e2
   simp at e2
  simp at h
 ·rename_i b args ts;obtain⟨v,he,hv⟩:=J1 htb hρ h ho type (args.map fun | .const _=>true | _=>false);refine⟨v,he,fun w=>?_⟩;have:=hv w;simp only[execOp,resolve,run_bind,run_pure,invoke];have e1:(args.toList.map ρ').toArray=args.map ρ':=by apply bg;simp
  rw[e1]at this;exact this
 simp at h
end
section
variable {P:Program} {tb:Tb} {N:Nat}
theorem fF.drop {c:Ctx}{g:fa}{st:St}{a:Act}{w:World}(h:fF c N g st a w):Sat c N st a w where
 size:=h.size
 defers:=h.defers
 fO:=h.fO
 gI:=h.gI
 gS:=h.gS
 ids:=h.ids
 env:=fun n e x _ h1 h2=>by
  cases hg:rp g n with
  | none=>exact h.env n e x hg h1 h2
  | some p=>
   obtain⟨ch,e'⟩:=p;have:=(h.gv n ch e' hg).2.2.2;rw[this]at h1;cases h1
 gv:=fun n ch e h=>by simp[rp]at h
theorem uA (n m:Nat)(c:gq)(v:EV)(t:fa):rp ((m,c,v)::t) n=if n=m then some (c,v) else rp t n:=by
 simp only[rp];by_cases h:n=m
 ·subst h;simp
 rw[aY h,show Nat.beq n m=false from (by cases hb:Nat.beq n m with | false=>rfl | true=>exact absurd (dg hb) h)]
theorem kS (n m:Nat)(v:EV)(t:Env):lk ((m,v)::t) n=if n=m then some v else lk t n:=by
 simp only[lk];by_cases h:n=m
 ·subst h;simp
 rw[aY h,show Nat.beq n m=false from (by cases hb:Nat.beq n m with | false=>rfl | true=>exact absurd (dg hb) h)]
theorem e8 (n m:Nat)(r:kj)(t:RL):fR ((m,r)::t) n=if n=m then some r else fR t n:=by
 simp only[fR];by_cases h:n=m
 ·subst h;simp
 rw[aY h,show Nat.beq n m=false from (by cases hb:Nat.beq n m with | false=>rfl | true=>exact absurd (dg hb) h)]
theorem oa {a:Act}{d n:Nat}{v:Value}(hd:d<a.tmps.size):(a.put (some d) v).tmps.getD n undef=if n=d then v else a.tmps.getD n undef:=by
 simp only[Act.put,Array.getD_eq_getD_getElem?,Array.getElem?_setIfInBounds];by_cases h:d=n
 ·subst h;simp[hd]
 rw[aY h,aY (fun e=>h e.symm)]
theorem size_put {a:Act}{d:Nat}{v:Value}:(a.put (some d) v).tmps.size=a.tmps.size:=by simp[Act.put]
theorem n9 {d:Nat}: ∀{g:fa},ik d g=true→rp g d=none∧ ∀n ch e,rp g n=some (ch,e)→∀s w b,(s,w,b)∈ch→s≠d
 | [],_=>⟨rfl,fun n ch e h=>by simp[rp]at h⟩
 | (m,c,v)::t,h=>by
  simp only[ik,aL,bz,List.all_eq_true]at h;obtain⟨⟨h1,h2⟩,h3⟩:=h;obtain⟨i1,i2⟩:=n9 h3;have hm:d≠m:=by rintro rfl;simp at h1
  refine⟨by rw[uA,aY hm];exact i1,fun n ch e hn s w b hs=>?_⟩;rw[uA]at hn;split at hn
  ·simp only[aa,aC]at hn;obtain⟨rfl,rfl⟩:=hn;have:=h2 _ hs;rintro rfl;simp at this
  exact i2 n ch e hn s w b hs
theorem Gu {ch:gq}{a:Act}{d:Nat}{v:Value}(hd:d<a.tmps.size)(h: ∀s w b,(s,w,b)∈ch→s≠d):gA ch (a.put (some d) v) ↔ gA ch a:=by
 unfold gA;constructor
 ·intro h1 s w b hs;have:=h1 s w b hs
  rwa [oa hd,aY (h s w b hs)]at this
 intro h1 s w b hs;rw[oa hd,aY (h s w b hs)];exact h1 s w b hs
theorem ma {rs:RL}{e e':EV}(h:alive rs e=some e'):e'=e∧ ∃x,e.val rs=some x:=by
 unfold alive at h;split at h
 ·simp only[aa]at h;exact⟨h.symm,_,rfl⟩
 ·rename_i id o;split at h
  ·rename_i r hr;split at h
   ·rename_i b hb;simp only[aa]at h;exact⟨h.symm,_,by simp only[EV.val,hr,hb];rfl⟩
   simp at h
  simp at h
 rename_i id n c;split at h
 ·rename_i r hr;simp only[aa]at h;exact⟨h.symm,_,by simp only[EV.val,hr];rfl⟩
 simp at h
theorem mU {rs:RL}{nx:Nat}(hr: ∀id r,fR rs id=some r→id<nx){e:EV}{x:Value}(h:e.val rs=some x):e.lt nx:=by
 cases e with
 | v _=>trivial
 | loc id o=>
  simp only[EV.val]at h;split at h
  ·rename_i r hl;exact hr _ _ hl
  simp at h
 | row id o n c=>
  simp only[EV.val]at h;split at h
  ·rename_i r hl;exact hr _ _ hl
  simp at h
theorem DW {a:Act}: ∀{c ch:gq},pre c ch=true→gA ch a→gA c a
 | [],_,_,_=>fun s w b h=>by simp at h
 | (s,w,b)::t,[],h,_=>by simp[pre]at h
 | (s,w,b)::t,(s',w',b')::t',h,hg=>by
  simp only[pre,aL,beq_iff_eq,Nat.beq_eq]at h;obtain⟨⟨rfl,rfl⟩,h3⟩:=h;have ht:gA t' a:=fun x y z hx=>hg x y z (cO _ hx);intro x y z hx;rcases aT.1 hx with e | hx
  ·simp only[aC]at e;obtain⟨rfl,rfl,rfl⟩:=e;exact hg x y b' (by simp)
  exact DW h3 ht x y z hx
theorem gO {c:Ctx}{g:fa}{st:St}{a:Act}{w:World}(h:fF c N g st a w){ch:gq}(hg:gA ch a):Fits st.rs (gL st.rs g st.env ch) a.eval:=by
 intro o e he;cases o with
 | const v=>simp only[gL,aa]at he;subst he;rfl
 | global i=>simp only[gL,aa]at he;subst he;rfl
 | func f=>simp only[gL,aa]at he;subst he;rfl
 | tmp n=>
  simp only[gL]at he;split at he
  ·rename_i e' hp;obtain⟨rfl,x,hx⟩:=ma he;simp only[Act.eval];unfold QB at hp;split at hp
   ·rename_i cc v hv;split at hp
    ·rename_i hpre;simp only[aa]at hp;subst hp;rw[((h.gv n cc v hv).1 (DW hpre hg)).1 x hx,hx]
    simp at hp
   rename_i hn;rw[h.env n e x hn hp hx,hx]
  simp at he
def Dj (g:fa)(env:Env)(ch:gq):Prop:=∀d,rp g d=none→lk env d=none→(∀n ch' e',rp g n=some (ch',e')→∀s w b,(s,w,b)∈ch'→s≠d)→∀s w b,(s,w,b)∈ch→s≠d
theorem ki {c:Ctx}{g:fa}{st:St}{a:Act}{w:World}(h:fF c N g st a w){ch:gq}{d:Option Nat}{e:EV}{v:Value}{K:fa→St→Prop}(hlt:e.lt st.nx)(hv:gA ch a→e.val st.rs=some v)(u6:gA ch a→gP ch)(hf:Dj g st.env ch)(hk:ig N ch d e K g st):
  ∃g' st',K g' st'∧st'.F=st.F∧st'.rs=st.rs∧st'.nx=st.nx∧(gA ch a→fF c N g' st' (a.put d v) w)∧(¬gA ch a→fF c N g' st' (a.put d undef) w):=by
 obtain⟨env,F,rs,nx⟩:=st;cases d with
 | none=>simp[ig]at hk
 | some d=>
  cases ch with
  | nil=>
   have hk':d<N∧ik d g=true∧K g ⟨(d,e)::env,F,rs,nx⟩:=by
    cases g with
    | nil=>simp only[ig]at hk;exact⟨hk.1,rfl,hk.2⟩
    | cons x g=>simpa only[ig] using hk
   obtain⟨hd,hc,hK⟩:=hk';have hds:d<a.tmps.size:=by rw[h.size];exact hd
   obtain⟨hc1,hc2⟩:=n9 hc;have hv:=hv (fun s w b hs=>by simp at hs);refine⟨g,_,hK,rfl,rfl,rfl,fun _=>?_,fun hn=>absurd (fun s w b hs=>by simp at hs) hn⟩;exact {
    size:=by rw[size_put];exact h.size
    defers:=h.defers
    fO:=h.fO
    gI:=h.gI
    gS:=h.gS
    ids:=fun n e' he'=>by
     simp only[kS]at he';split at he'
     ·simp only[aa]at he';subst he';exact hlt
     exact h.ids n e' he'
    env:=fun n e' x hg he' hx=>by
     rw[oa hds];simp only[kS]at he';split at he'
     ·simp only[aa]at he';subst he';rw[aZ (by assumption)];exact dy (hv.symm.trans hx)
     rename_i hne;rw[aY hne];exact h.env n e' x hg he' hx
    gv:=fun n ch' e' hg=>by
     have hnd:n≠d:=by rintro rfl;rw[hc1]at hg;cases hg
     have hf:=hc2 n ch' e' hg;obtain⟨g1,g2,g3,g4⟩:=h.gv n ch' e' hg;rw[Gu hds hf,oa hds,aY hnd];refine⟨g1,g2,g3,?_⟩;rw[kS,aY hnd];exact g4 }
  | cons c0 ch=>
   simp only[ig,aL]at hk;obtain⟨hd,⟨hc,he⟩,hK⟩:=hk;have hds:d<a.tmps.size:=by rw[h.size];exact hd
   obtain⟨hc1,hc2⟩:=n9 hc;have hed:lk env d=none:=by
    unfold nw at he;split at he
    ·simp at he
    assumption
   have key: ∀u,(gA (c0::ch) a→u=v)→(¬gA (c0::ch) a→u=undef)→(∀s w b,(s,w,b)∈(c0::ch)→s≠d)→fF c N ((d,c0::ch,e)::g) ⟨env,F,rs,nx⟩ (a.put (some d) u) w:=by
    intro u hu1 hu2 hfr;exact {
     size:=by rw[size_put];exact h.size
     defers:=h.defers
     fO:=h.fO
     gI:=h.gI
     gS:=h.gS
     ids:=h.ids
     env:=fun n e' x hg he' hx=>by
      rw[uA]at hg;split at hg
      ·simp at hg
      rename_i hne;rw[oa hds,aY hne];exact h.env n e' x hg he' hx
     gv:=fun n ch' e' hg=>by
      rw[uA]at hg;split at hg
      ·rename_i hnd;simp only[aa,aC]at hg;obtain⟨rfl,rfl⟩:=hg;subst hnd;rw[Gu hds hfr,oa hds,aZ rfl];refine⟨fun hA=>⟨fun x hx=>?_,u6 hA⟩,hu2,hlt,hed⟩;rw[hu1 hA];exact dy ((hv hA).symm.trans hx)
      rename_i hnd;have hf:=hc2 n ch' e' hg;obtain⟨g1,g2,g3,g4⟩:=h.gv n ch' e' hg;rw[Gu hds hf,oa hds,aY hnd];exact⟨g1,g2,g3,g4⟩ }
   have hfr:=hf d hc1 hed hc2;exact⟨_,_,hK,rfl,rfl,rfl,fun hA=>key v (fun _=>rfl) (fun hn=>absurd hA hn) hfr,fun hn=>key undef (fun hA=>absurd hA hn) (fun _=>rfl) hfr⟩
theorem D7 {F:Hp}{w:World}(h:F.le w){p:Option Addr}{v:Value}(e:gb F p=some v): ∃a,p=some a∧w.cell? a=some v:=by
 cases p with
 | none=>simp[gb]at e
 | some a=>exact⟨a,rfl,jx.world h (by simpa [gb] using e)⟩
theorem run_load {w:World}{a:Addr}{v:Value}(h:w.cell? a=some v):(load a).run P w= .ok v w:=by simp[load,Sem.run,h]
theorem nn (htb:gZ P tb){t:TypeId}{i:TI}(hi:tb t=some i)(ha:i.kind.agg=false){a:Addr}{v:Value}{w:World}(h:w.cell? a=some v):(Instr.loadAt t (.pointer (some a))).run P w= .ok v w:=by
 simp only[Instr.loadAt,Instr.sureAddr,run_bind,run_pure,loadVar,sk htb hi,ha,bq,dB];exact run_load h
theorem nL (htb:gZ P tb){t:TypeId}{i:TI}(hi:tb t=some i)(ha:i.kind.agg=true){a:Addr}{cs:List Value}(hl:cs.length=i.size){w:World}(h: ∀j v,cs[j]? =some v→w.cell? (a.add j)=some v):
  (Instr.loadAt t (.pointer (some a))).run P w= .ok (.agg cs.toArray) w:=by
 simp only[Instr.loadAt,Instr.sureAddr,run_bind,run_pure,loadVar,sk htb hi,ha,dC,run_sizeOf htb hi];rw[←hl,run_loadCells_list w a cs h]
theorem oZ {rs:RL}: ∀{l:List EV} {xs:List Value},iU rs l=some xs→xs.length=l.length∧ ∀(j:Nat) (x:Value),xs[j]? =some x→∃e:EV,l[j]? =some e∧e.val rs=some x
 | [],xs,h=>by simp only[iU,aa]at h;subst h;exact⟨rfl,fun j x hx=>by simp at hx⟩
 | e::l,xs,h=>by
  simp only[iU]at h;split at h
  ·rename_i x ys hx hy;simp only[aa]at h;subst h;obtain⟨h1,h2⟩:=oZ hy;refine⟨by simp[h1],fun j y hj=>?_⟩;cases j with
   | zero=>simp only[cr,aa]at hj;subst hj;exact⟨e,rfl,hx⟩
   | succ j=>simpa using h2 j y (by simpa using hj)
  simp at h
theorem nu.cell {F:Hp}{rs:RL}{w:World}(h:nu F rs w){id:Nat}{r:kj}{b:Nat}(hr:fR rs id=some r)(hb:r.gl=some b){j:Nat}{e:EV}{x:Value}(he:r.cells[j]? =some e)(hx:e.val rs=some x):w.cell? ⟨b,j,none⟩=some x:=by
 have:=h.own id r hr;rw[hb]at this;obtain⟨_,_,cur,h1,_,h2⟩:=this;simp only[World.cell?,h1];exact h2 j e x he hx
theorem kE {C:World→Prop}{a:Act}{o:Oper}{v:Value}{w:World}(h:(execOp a.eval o).run P w= .ok (.value v) w):o.quietAt P a C w v:=by
 unfold Oper.quietAt;rw[h];exact⟨rfl,rfl⟩
def C (c:Ctx)(st:St):World→Prop:=fun w=>xd c st.F st.rs w
theorem xd.zB {c:Ctx}{F:Hp}{rs:RL}{w w':World}(h:xd c F rs w)(p:g9 [] w w'):xd c F rs w' where
 le:=h.le.il p (by simp)
 own:={
  own:=fun id r hr=>by
   have:=h.own.own id r hr;cases hb:r.gl with
   | none=>rw[hb]at this;exact this
   | some b=>
    rw[hb]at this;obtain⟨h1,h2,cur,h3,h4⟩:=this;exact⟨h1,h2,cur,(p.block b (gJ h3) (by simp)).trans h3,h4⟩
  apart:=h.own.apart }
 il:=h.il.trans' p (by simp)
 new:=h.new
 jT:=h.jT
 sz:=dk h.sz p.size
 tp:=h.tp
def Sw (st:St)(w:World):Prop:=st.F.le w∧ ∀id r b,fR st.rs id=some r→r.gl=some b→r.cells≠[]→∃cur:Array Value,w.heap[b]? =some (.cells cur r.ty (0,0))∧
 ∀(j:Nat) (ev:EV) (x:Value),r.cells[j]? =some ev→ev.val st.rs=some x→cur[j]? =some x
structure Rd (st:St) (CC:World→Prop):Prop where
 rd: ∀w,CC w→Sw st w
 il: ∀w w',CC w→g9 [] w w'→CC w'
theorem M3 (c:Ctx)(st:St):Rd st (C c st) where
 rd:=fun w h=>⟨h.le,fun id r b hr hb _=>by
  have:=h.own.own id r hr;rw[hb]at this;obtain⟨_,_,cur,h1,_,h2⟩:=this;exact⟨cur,h1,h2⟩⟩
 il:=fun w w' h p=>xd.zB h p
theorem TQ (st:St):Rd st (Sw st) where
 rd:=fun w h=>h
 il:=fun w w' h p=>⟨h.1.il p (by simp),fun id r b hr hb hc=>by
  obtain⟨cur,h1,h2⟩:=h.2 id r b hr hb hc;exact⟨cur,(p.block b (gJ h1) (by simp)).trans h1,h2⟩⟩
theorem Sw.cell {st:St}{w:World}(h:Sw st w){id:Nat}{r:kj}{b:Nat}(hr:fR st.rs id=some r)(hb:r.gl=some b){j:Nat}{e:EV}{x:Value}(he:r.cells[j]? =some e)(hx:e.val st.rs=some x):w.cell? ⟨b,j,none⟩=some x:=by
 obtain⟨cur,h1,h2⟩:=h.2 id r b hr hb (by intro h0;rw[h0]at he;simp at he);simp only[World.cell?,h1];exact h2 j e x he hx
structure Quiet (P:Program) (st:St) (ch:gq) (a:Act) (o:Oper) (e:EV) (v:Value):Prop where
 lt:e.lt st.nx
 val:gA ch a→e.val st.rs=some v
 run:gA ch a→∀CC:World→Prop,Rd st CC→∀w,CC w→o.quietAt P a CC w v
theorem Df {ch:gq}{p:Prop}(h:imp ch p)(hg:gP ch):p:=by
 cases ch with
 | nil=>exact h
 | cons c ch=>exact h hg
theorem Hw (htb:gZ P tb){c:Ctx}{g:fa}{st:St}{a:Act}{w:World}(h:fF c N g st a w){ch:gq}(u6:gA ch a→gP ch){K:EV→Prop}{o:Oper}{t:TypeId}{x:Operand}(ho:o.op= .load t x)
  (hk:oo st.F st.rs ch K (tb t) (gL st.rs g st.env ch x)): ∃e v,Quiet P st ch a o e v∧K e:=by
 unfold oo at hk;split at hk
 ·rename_i i p hi hx;cases ha:i.kind.agg with
  | false=>
   rw[ha]at hk;simp only[yE]at hk;obtain⟨v,h1,h2⟩:=hk;refine⟨.v v,v,⟨trivial,fun _=>rfl,fun hA CC hC w' hw'=>kE ?_⟩,h2⟩;obtain⟨ad,rfl,hc⟩:=D7 (hC.rd _ hw').1 (Df h1 (u6 hA));have e1:=gO h hA _ _ hx;simp only[EV.val,aa]at e1;simp only[execOp,ho,←e1];exact gM (nn htb hi ha hc)
  | true=>
   rw[ha]at hk;simp only[yE]at hk;obtain⟨cs,hl,h1,h2⟩:=hk;refine⟨.v (.agg cs.toArray),.agg cs.toArray,⟨trivial,fun _=>rfl,fun hA CC hC w' hw'=>kE ?_⟩,h2⟩;obtain⟨hp,h3⟩:=Df h1 (u6 hA);obtain⟨ad,rfl⟩:=Option.isSome_iff_exists.1 hp;have e1:=gO h hA _ _ hx;simp only[EV.val,aa]at e1;simp only[execOp,ho,←e1];refine gM (nL htb hi ha hl fun j v hj=>?_);have hjl:j<i.size:=by rw[←hl];exact (cz.1 hj).1
   have h4:=h3 j hjl;rw[hj]at h4;obtain⟨ad',e2,hc⟩:=D7 (hC.rd _ hw').1 h4;simp only[im,aJ,aa]at e2;rw[e2];exact hc
 ·rename_i i id off hi hx;cases hr:fR st.rs id with
  | none=>rw[hr]at hk;cases i.kind.agg<;>simp[wz]at hk
  | some r=>
   rw[hr]at hk;have hblk: ∀ad,gA ch a→a.eval x=ad→∃b,r.gl=some b∧ad= .pointer (some ⟨b,off,none⟩):=fun ad hA jA=>by
    have e1:=gO h hA _ _ hx;simp only[EV.val,hr]at e1;split at e1
    ·rename_i b hb;simp only[aa]at e1;exact⟨b,hb,by rw[←jA,←e1]⟩
    simp at e1
   cases ha:i.kind.agg with
   | false=>
    rw[ha]at hk;simp only[wz]at hk;cases he:r.cells[off]? with
    | none=>simp[he,oP,Jq]at hk
    | some e=>
     simp only[he,oP]at hk;cases hal:alive st.rs e with
     | none=>simp[hal,Jq]at hk
     | some e'=>
      simp only[hal,Jq]at hk;obtain⟨rfl,v,hv⟩:=ma hal;refine⟨e',v,⟨mU (fun id r hr=>(h.gS id r hr).1) hv,fun _=>hv,fun hA CC hC w' hw'=>kE ?_⟩,hk⟩;obtain⟨b,hb,hp⟩:=hblk _ hA rfl;simp only[execOp,ho,hp];exact gM (nn htb hi ha ((hC.rd _ hw').cell hr hb he hv))
   | true=>
    rw[ha]at hk;simp only[wz]at hk;obtain⟨hle,hk⟩:=hk;cases hal:iU st.rs ((r.cells.take (off+i.size)).drop off) with
    | none=>simp[hal,MC]at hk
    | some cs=>
     simp only[hal,MC]at hk;obtain⟨hl,hcs⟩:=oZ hal;refine⟨.v (.agg cs.toArray),.agg cs.toArray,⟨trivial,fun _=>rfl,fun hA CC hC w' hw'=>kE ?_⟩,hk⟩;obtain⟨b,hb,hp⟩:=hblk _ hA rfl;simp only[execOp,ho,hp];refine gM (nL htb hi ha (by rw[hl];simp;omega) fun j v hj=>?_);obtain⟨e,he,hv⟩:=hcs j v hj;rw[mB];refine (hC.rd _ hw').cell hr hb ?_ hv;rw[cu,cB]at he;split at he
     ·exact he
     simp at he
 exact hk.elim
end
section
variable {P:Program} {tb:Tb} {N:Nat}
theorem GG {c:Ctx}{g:fa}{st:St}{a:Act}{w:World}(h:fF c N g st a w){ch:gq}{d:Option Nat}{K:fa→St→Prop}{o:Oper}{s:Nat}{x y:Operand}(ho:o.op= .pick (.tmp s) x y)
  (hk:De N ch d K g st s x y (gL st.rs g st.env ch (.tmp s))∨Dx N ch d K g st x y (gL st.rs g st.env ch (.tmp s))): ∃e v,Quiet P st ch a o e v∧ig N ch d e K g st:=by
 rcases hk with hk | hk
 case inr=>
  have go: ∀(t:Bool) (z:Operand) (e:EV),gL st.rs g st.env ch (.tmp s)=some (.v (.bool t))→(z=if t then x else y)→gL st.rs g st.env ch z=some e→ig N ch d e K g st→∃e v,Quiet P st ch a o e v∧ig N ch d e K g st:=fun t z e ht hz he hput=>by
   by_cases hA:gA ch a
   ·have e1:=gO h hA _ _ ht;have e2:=gO h hA _ _ he;simp only[EV.val,aa]at e1;refine⟨e,a.eval z,⟨?_,fun _=>e2,fun _ CC _ w' _=>kE ?_⟩,hput⟩
    ·cases z with
     | tmp n=>
      simp only[gL]at he;split at he
      ·obtain⟨rfl,u,hu⟩:=ma he;exact mU (fun id r hr=>(h.gS id r hr).1) hu
      simp at he
     | const v=>simp only[gL,aa]at he;subst he;trivial
     | global v=>simp only[gL,aa]at he;subst he;trivial
     | func v=>simp only[gL,aa]at he;subst he;trivial
    simp only[execOp,ho,run_bind,←e1,asBool,run_pure];subst hz;cases t<;>rfl
   refine⟨e,undef,⟨?_,fun hA'=>absurd hA' hA,fun hA'=>absurd hA' hA⟩,hput⟩;cases z with
   | tmp n=>
    simp only[gL]at he;split at he
    ·obtain⟨rfl,u,hu⟩:=ma he;exact mU (fun id r hr=>(h.gS id r hr).1) hu
    simp at he
   | const v=>simp only[gL,aa]at he;subst he;trivial
   | global v=>simp only[gL,aa]at he;subst he;trivial
   | func v=>simp only[gL,aa]at he;subst he;trivial
  unfold Dx at hk;split at hk
  ·rename_i ht;cases he:gL st.rs g st.env ch x with
   | none=>simp[he,A0]at hk
   | some e=>rw[he]at hk;exact go true x e ht rfl he hk
  ·rename_i ht;cases he:gL st.rs g st.env ch y with
   | none=>simp[he,A0]at hk
   | some e=>rw[he]at hk;exact go false y e ht rfl he hk
  exact hk.elim
 unfold De at hk;split at hk
 ·rename_i t ht;unfold HF at hk;split at hk
  ·rename_i u z hu hz;refine⟨.v (.bool (lL t u z)),.bool (lL t u z),⟨trivial,fun _=>rfl,fun hA CC _ w' _=>kE ?_⟩,hk⟩;have e1:=gO h hA _ _ ht;simp only[EV.val,aa]at e1;simp only[execOp,ho,run_bind,←e1,asBool,run_pure];have hsl:a.tmps.getD s undef= .bool t:=by simpa [Act.eval] using e1.symm
   cases t with
   | true=>
    have hA':gA (ch++[(s,true,true)]) a:=fun s' w' b' hm=>by
     rcases aK.1 hm with hm | hm
     ·exact hA s' w' b' hm
     simp only[aB,aC]at hm;obtain⟨rfl,rfl,rfl⟩:=hm;exact hsl
    have e2:=gO h hA' _ _ hu;simp only[EV.val,aa]at e2;simp only[lL,dC,←e2]
   | false=>
    have hA':gA (ch++[(s,false,false)]) a:=fun s' w' b' hm=>by
     rcases aK.1 hm with hm | hm
     ·exact hA s' w' b' hm
     simp only[aB,aC]at hm;obtain⟨rfl,rfl,rfl⟩:=hm;exact hsl
    have e2:=gO h hA' _ _ hz;simp only[EV.val,aa]at e2;simp only[lL,bq,dB,←e2]
  exact hk.elim
 exact hk.elim
theorem PG {ρ:Operand→Option EV}{args:List Operand}{e:EV}(h:F8 ρ args=some [e]): ∃o,ρ o=some e:=by
 cases args with
 | nil=>simp[F8]at h
 | cons o t=>
  simp only[F8]at h;split at h
  ·rename_i e1 es h1 h2;simp only[aa,bU]at h;exact⟨o,by rw[h1,h.1]⟩
  cases h
theorem Uz {rs:RL}{ρ:Operand→Option EV}{nx:Nat}(hρ: ∀o e,ρ o=some e→e.lt nx){op:Op}{ob:Prop}{e:EV}(h:pv tb rs ρ op=some (ob,e)):e.lt nx:=by
 have bi: ∀{op k a b ob e},yU op k a b=some (ob,e)→e.lt nx:=by
  intro op k a b ob e h;cases op<;>simp only[yU,gY,aa,aC,reduceCtorEq]at h<;>(obtain⟨_,rfl⟩:=h;trivial)
 have bs: ∀{op a b ob e},xP op a b=some (ob,e)→e.lt nx:=by
  intro op a b ob e h;cases op<;>simp only[xP,gY,aa,aC,reduceCtorEq]at h<;>(obtain⟨_,rfl⟩:=h;trivial)
 unfold pv at h;split at h
 ·split at h
  ·rename_i x ev hx;simp only[aa,aC]at h;obtain⟨_,rfl⟩:=h;exact hρ _ _ hx
  simp at h
 ·split at h
  ·rename_i x ev hx;simp only[aa,aC]at h;obtain⟨_,rfl⟩:=h;exact hρ _ _ hx
  simp at h
 ·split at h
  ·unfold PK at h
   repeat' (first | (simp only[gY,aa,aC]at h;obtain⟨_,rfl⟩:=h;trivial) | exact bi h | exact bs h | (simp at h;done) | split at h)
  simp at h
 ·split at h
  ·unfold W0 at h
   repeat' (first | (simp only[gY,aa,aC]at h;obtain⟨_,rfl⟩:=h;trivial) | (simp at h;done) | split at h)
  simp at h
 ·split at h
  ·unfold Iw at h
   repeat' (first | (simp only[gY,aa,aC]at h;obtain⟨_,rfl⟩:=h;trivial) | (simp at h;done) | split at h)
  simp at h
 ·split at h
  ·unfold Cu at h
   repeat' (first | (simp only[gY,aa,aC]at h;obtain⟨_,rfl⟩:=h;trivial) | (simp at h;done) | split at h)
  simp at h
 ·split at h
  ·unfold tU at h
   repeat' (first | (simp only[gY,aa,aC]at h;obtain⟨_,rfl⟩:=h;trivial) | (simp at h;done) | split at h)
  simp at h
 ·split at h
  ·rename_i x ev hx;have hl:=hρ _ _ hx;unfold qn at h
   repeat' (first | (simp only[aa,aC]at h;obtain⟨_,rfl⟩:=h;first | trivial | exact hl) | (simp at h;done) | split at h)
  simp at h
 ·split at h
  ·rename_i x ev k n hx hi;have hl:=hρ _ _ hx;unfold qa at h
   repeat' (first | (simp only[aa,aC]at h;obtain⟨_,rfl⟩:=h;first | trivial | exact hl) | (simp at h;done) | split at h)
  simp at h
 ·split at h
  ·unfold Ct at h
   repeat' (first | (simp only[aa,aC]at h;obtain⟨_,rfl⟩:=h;trivial) | (simp at h;done) | split at h)
  simp at h
 ·unfold Cg at h;split at h
  ·unfold vJ at h
   repeat' (first | (simp only[gY,aa,aC]at h;obtain⟨_,rfl⟩:=h;trivial) | (simp at h;done) | split at h)
  ·rename_i hx _ _;have hl:=hρ _ _ hx;unfold CI at h
   repeat' (first | (simp only[aa,aC]at h;obtain⟨_,rfl⟩:=h;exact hl) | (simp at h;done) | split at h)
  ·rename_i hx _ _;have hl:=hρ _ _ hx;unfold Cy at h
   repeat' (first | (simp only[aa,aC]at h;obtain⟨_,rfl⟩:=h;exact hl) | (simp at h;done) | split at h)
  simp at h
 ·unfold x4 at h;split at h
  ·unfold xm at h
   repeat' (first | (simp only[aa,aC]at h;obtain⟨_,rfl⟩:=h;trivial) | (simp at h;done) | split at h)
  simp at h
 ·split at h
  ·unfold BN at h
   repeat' (first | (simp only[gY,aa,aC]at h;obtain⟨_,rfl⟩:=h;trivial) | (simp at h;done) | split at h)
  simp at h
 ·repeat' (first | (simp only[gY,aa,aC]at h;obtain⟨_,rfl⟩:=h;trivial) | (simp at h;done) | split at h)
 ·split at h
  ·simp only[aa,aC]at h;obtain⟨_,rfl⟩:=h;trivial
  ·rename_i id o hx;have hl:=hρ _ _ hx;simp only[aa,aC]at h;obtain⟨_,rfl⟩:=h;exact hl
  simp at h
 ·unfold BT at h;split at h
  ·simp only[aa,aC]at h;obtain⟨_,rfl⟩:=h;trivial
  ·rename_i id off n c he;simp only[aa,aC]at h;obtain⟨_,rfl⟩:=h;obtain⟨o,ho⟩:=PG he;have hl:=hρ _ _ ho;exact hl
  all_goals
   (try unfold OO at h)
   (try unfold Pk at h)
   (try unfold Sf at h)
   (try unfold RP at h)
   repeat' (first | (simp only[gY,aa,aC]at h;obtain⟨_,rfl⟩:=h;trivial) | (simp at h;done) | split at h)
 simp at h
theorem CH {c:Ctx}{g:fa}{st:St}{a:Act}{w:World}(h:fF c N g st a w)(ch:gq): ∀o e,gL st.rs g st.env ch o=some e→e.lt st.nx:=by
 intro o e he;cases o with
 | tmp n=>
  simp only[gL]at he;split at he
  ·obtain⟨rfl,x,hx⟩:=ma he;exact mU (fun id r hr=>(h.gS id r hr).1) hx
  simp at he
 | const v=>simp only[gL,aa]at he;subst he;trivial
 | global v=>simp only[gL,aa]at he;subst he;trivial
 | func v=>simp only[gL,aa]at he;subst he;trivial
theorem iB (htb:gZ P tb){c:Ctx}{g:fa}{st:St}{a:Act}{w:World}(h:fF c N g st a w){ch:gq}(u6:gA ch a→gP ch){d:Option Nat}{K:fa→St→Prop}{o:Oper}
  (hk:lF N (pv tb st.rs (gL st.rs g st.env ch) o.op) ch d K g st): ∃e v,Quiet P st ch a o e v∧ig N ch d e K g st:=by
 cases hpv:pv tb st.rs (gL st.rs g st.env ch) o.op with
 | none=>simp[hpv,lF]at hk
 | some p=>
  obtain⟨ob,e⟩:=p;simp only[hpv,lF]at hk;obtain⟨h1,h2⟩:=hk;have hlt:=Uz (CH h ch) hpv;by_cases hA:gA ch a
  ·obtain⟨v,hv,hr⟩:=Vt htb (gO h hA) hpv (Df h1 (u6 hA));exact⟨e,v,⟨hlt,fun _=>hv,fun _ CC _ w' _=>kE (hr w')⟩,h2⟩
  exact⟨e,undef,⟨hlt,fun hA'=>absurd hA' hA,fun hA'=>absurd hA' hA⟩,h2⟩
theorem yX {a:Act}{o:Oper}{f:Operand}{args:Array Operand}{ts:Array TypeId}{n:FuncId}{first captured:Array Value}(ho:o.op= .call ⟨.value f,args,ts⟩)(hf:a.eval f= .func (.func n) first captured)(hb:dH P n)(w:World):
  (execOp a.eval o).run P w= .ok (.enter n (first++args.map a.eval++captured)) w:=by
 obtain⟨fn,h1,h2,h3⟩:=hb;simp only[execOp,ho,resolve,run_bind,hf,Deferred.ofValue,run_pure,invoke,callFunc];have hp:(program:Sem Program).run P w= .ok P w:=rfl;simp only[hp,h1,h3,h2,bq,dB,run_pure]
theorem Gk {c:Ctx}{g:fa}{st:St}{a:Act}{w:World}(h:fF c N g st a w){ch:gq}(u6:gA ch a→gP ch){d:Option Nat}{K:fa→St→Prop}{o:Oper}{f:Operand}{args:Array Operand}{ts:Array TypeId}(ho:o.op= .call ⟨.value f,args,ts⟩)
  {n:FuncId} {first captured:Array Value} {xs:List Value} (hf:gL st.rs g st.env ch f=some (.v (.func (.func n) first captured))) (hx:su st.rs (gL st.rs g st.env ch) args.toList=some xs) (hb:dH P n)
  (hk:vr P N ch n (first.toList++xs++captured.toList) d K g st): ∃e v,Quiet P st ch a o e v∧ig N ch d e K g st:=by
 obtain⟨x,h1,h2⟩:=hk;refine⟨.v x,x,⟨trivial,fun _=>rfl,fun hA CC hC w' hw'=>?_⟩,h2⟩;have hF:=gO h hA;have e1:=hF _ _ hf;simp only[EV.val,aa]at e1;have e2:=tK hF hx;unfold Oper.quietAt;rw[yX ho e1.symm hb];refine⟨rfl,?_⟩;have e3:first++args.map a.eval++captured=(first.toList++xs++captured.toList).toArray:=by
  apply bg;simp[←e2]
 rw[e3];exact (Df h1 (u6 hA) w' (hC.rd _ hw').1).mono fun e w'' ⟨he,hp⟩=>⟨he,hC.il _ _ hw' hp⟩
theorem Ck {ch:gq}{s:Nat}{w b:Bool}{a:Act}:gA (ch++[(s,w,b)]) a ↔ gA ch a∧a.tmps.getD s undef= .bool w:=by
 constructor
 ·intro h;exact⟨fun s' w' b' hm=>h s' w' b' (List.mem_append_left _ hm),h s w b (by simp)⟩
 rintro⟨h1,h2⟩ s' w' b' hm;rcases aK.1 hm with hm | hm
 ·exact h1 s' w' b' hm
 simp only[aB,aC]at hm;obtain⟨rfl,rfl,rfl⟩:=hm;exact h2
theorem IG: ∀{ch:gq}{s:Nat}{w b:Bool},gP ch→b=w→gP (ch++[(s,w,b)])
 | [],_,_,_,_,h=>⟨h,trivial⟩
 | (_,_,_)::_,_,_,_,h,e=>⟨h.1,IG h.2 e⟩
theorem s9 {ops:Array Oper}{o:Oper}{j s:Nat}{want:Bool}{oj:Oper}{tmps:Array Value}(hg:o.guard=some (j,want))(hj:ops[j]? =some oj)(hs:oj.dst=some s):Region.wanted o (yielded ops tmps)=true ↔ tmps.getD s undef= .bool want:=by
 simp only[Region.wanted,hg,yielded,hj,Option.bind_some,hs];rw[Array.getD_eq_getD_getElem?];cases h:tmps[s]? with
 | none=>simp[undef]
 | some v=>
  cases v<;>simp
structure tW (g:fa) (st:St) (ops:Array Oper) (a:Act) (o:Oper) (ch:gq):Prop where
 wanted:Region.wanted o (yielded ops a.tmps)=true ↔ gA ch a
 gp:gA ch a→gP ch
 free:Dj g st.env ch
theorem CO {g:fa}{st:St}{ops:Array Oper}{a:Act}{o:Oper}(h:o.guard=none):tW g st ops a o [] where
 wanted:=by
  simp only[Region.wanted,h];exact⟨fun _ s w b hs=>by simp at hs,fun _=>trivial⟩
 gp:=fun _=>trivial
 free:=fun d _ _ _ s w b hs=>by simp at hs
theorem uV {c:Ctx}{g:fa}{st:St}{a:Act}{w:World}(h:fF c N g st a w){ops:Array Oper}{o:Oper}{j:Nat}{want:Bool}(hg:o.guard=some (j,want)){dr:Bool}{op:Op}{d:Option Nat}{K:fa→St→Prop}
  (hk:tr P tb N dr want op d K g st (mi ops.toList[j]?)): ∃ch,tW g st ops a o ch∧nI P tb N dr ch d K g st op∧ch≠[]:=by
 cases hj:ops[j]? with
 | none=>simp[hj,mi,tr]at hk
 | some oj=>
  have hj':ops.toList[j]? =some oj:=by simpa using hj
  cases hs:oj.dst with
  | none=>simp[hj',mi,hs,tr]at hk
  | some s=>
   simp only[hj',mi,hs,tr]at hk;cases hl:rp g s with
   | some cv=>
    obtain⟨cc,ev⟩:=cv;rw[hl]at hk;obtain⟨g1,g2,g3,g4⟩:=h.gv s cc ev hl;have key: ∀b,ev= .v (.bool b)→tW g st ops a o (cc++[(s,want,b)]):=fun b hev=>by
     subst hev;refine⟨?_,?_,?_⟩
     ·rw[s9 hg hj hs,Ck];refine⟨fun e=>⟨?_,e⟩,fun e=>e.2⟩;by_cases hA:gA cc a
      ·exact hA
      rw[g2 hA]at e;simp[undef]at e
     ·intro hA;obtain⟨h1,h2⟩:=Ck.1 hA;obtain⟨h3,h4⟩:=g1 h1;have h5:=h3 _ rfl;rw[h2]at h5;simp only[Value.bool.injEq]at h5;exact IG h4 h5.symm
     intro d hd1 hd2 hd3 s' w' b' hm;rcases aK.1 hm with hm | hm
     ·exact hd3 s cc _ hl s' w' b' hm
     simp only[aB,aC]at hm;obtain⟨rfl,rfl,rfl⟩:=hm;rintro rfl;rw[hd1]at hl;cases hl
    cases ev with
    | v x=>
     cases x with
     | bool b=>exact⟨_,key b rfl,by simpa only[vC] using hk,by simp⟩
     | _=>simp[vC]at hk
    | _=>simp[vC]at hk
   | none=>
    rw[hl]at hk;simp only[vC]at hk;cases he:lk st.env s with
    | none=>simp[he,zQ]at hk
    | some ev=>
     rw[he]at hk;have key: ∀b,ev= .v (.bool b)→tW g st ops a o [(s,want,b)]:=fun b hev=>by
      subst hev;have h5:=h.env s _ _ hl he rfl;have hsn:gA [(s,want,b)] a ↔ a.tmps.getD s undef= .bool want:=by
       have:=Ck (ch:=[]) (s:=s) (w:=want) (b:=b) (a:=a);simp only[cX]at this;rw[this];exact⟨fun e=>e.2,fun e=>⟨fun s w b hs=>by simp at hs,e⟩⟩
      refine⟨?_,?_,?_⟩
      ·rw[s9 hg hj hs,hsn]
      ·intro hA;have h2:=hsn.1 hA;rw[h5]at h2;simp only[Value.bool.injEq]at h2;exact⟨h2,trivial⟩
      intro d hd1 hd2 hd3 s' w' b' hm;simp only[aB,aC]at hm;obtain⟨rfl,rfl,rfl⟩:=hm;rintro rfl;rw[hd2]at he;cases he
     cases ev with
     | v x=>
      cases x with
      | bool b=>exact⟨_,key b rfl,by simpa only[zQ] using hk,by simp⟩
      | _=>simp[zQ]at hk
     | _=>simp[zQ]at hk
theorem sE {c:Ctx}{g:fa}{st:St}{a:Act}{w:World}(h:fF c N g st a w){ops:Array Oper}{o:Oper}{j:Nat}{want:Bool}(hg:o.guard=some (j,want)){dr:Bool}{op:Op}{d:Option Nat}{K:fa→St→Prop}
  (hk:yh P tb N dr want op d K g st (mi ops.toList[j]?)):(Region.wanted o (yielded ops a.tmps)=true∧WX P tb N dr d K g st op)∨(¬Region.wanted o (yielded ops a.tmps)=true∧Ed N d K g st):=by
 cases hj:ops[j]? with
 | none=>simp[hj,mi,yh]at hk
 | some oj=>
  have hj':ops.toList[j]? =some oj:=by simpa using hj
  cases hs:oj.dst with
  | none=>simp[hj',mi,hs,yh]at hk
  | some s=>
   simp only[hj',mi,hs,yh]at hk;obtain⟨b,h1,h2,h3⟩:=hk;have h5:=h.env s _ _ h1 h2 rfl;have hw:=s9 (tmps:=a.tmps) hg hj hs;rw[h5]at hw;rcases h3 with⟨rfl,h3⟩ | ⟨hne,h3⟩
   ·exact .inl ⟨hw.2 rfl,h3⟩
   exact .inr ⟨fun e=>hne (hw.1 e),h3⟩
theorem E2 {c:Ctx}{g:fa}{st:St}{a:Act}{w:World}(h:fF c N g st a w){d:Option Nat}{K:fa→St→Prop}(hk:Ed N d K g st): ∃g' st',K g' st'∧st'.F=st.F∧st'.rs=st.rs∧st'.nx=st.nx∧fF c N g' st' (a.put d undef) w:=by
 cases d with
 | none=>exact⟨g,st,hk,rfl,rfl,rfl,h⟩
 | some d=>
  have hA:gA [] a:=fun s w b hs=>by simp at hs
  obtain⟨g',st',hK,hF,hrs,hnx,h1,_⟩:=ki h (ch:=[]) (d:=some d) (e:=.v undef) (v:=undef) trivial (fun _=>rfl) (fun _=>trivial) (fun d _ _ _ s w b hs=>by simp at hs) hk;exact⟨g',st',hK,hF,hrs,hnx,h1 hA⟩
theorem tH (htb:gZ P tb){c:Ctx}{g:fa}{st:St}{a:Act}{w:World}(h:fF c N g st a w){ch:gq}(u6:gA ch a→gP ch){d:Option Nat}{K:fa→St→Prop}{o:Oper}(hk:nI P tb N true ch d K g st o.op):
  ∃e v,Quiet P st ch a o e v∧ig N ch d e K g st:=by
 cases ho:o.op with
 | pick x y z=>
  rw[ho]at hk;cases x with
  | tmp s=>exact GG h ho hk
  | _=>exact hk.elim
 | load t x=>
  rw[ho]at hk;obtain⟨e,v,h1,h2⟩:=Hw htb h u6 ho hk;exact⟨e,v,h1,h2⟩
 | call cc=>
  rw[ho]at hk;obtain⟨callee,args,ts⟩:=cc;cases callee with
  | value f=>
   simp only[nI]at hk;cases hf:gL st.rs g st.env ch f with
   | none=>simp[hf,lW]at hk
   | some ef=>
    cases hx:su st.rs (gL st.rs g st.env ch) args.toList with
    | none=>rw[hf,hx]at hk;cases ef with
     | v x=>cases x with
      | func fn p q=>cases fn<;>simp[lW]at hk
      | _=>simp[lW]at hk
     | _=>simp[lW]at hk
    | some xs=>
     rw[hf,hx]at hk;cases ef with
     | v x=>
      cases x with
      | func fn p q=>
       cases fn with
       | func n=>
        simp only[lW,E4]at hk;exact Gk h u6 ho hf hx hk.1 hk.2
       | _=>simp[lW]at hk
      | _=>simp[lW]at hk
     | _=>simp[lW]at hk
  | builtin b=>exact iB htb h u6 (by rw[ho];exact hk)
  | invoke r m=>exact hk.elim
 | alloc t=>rw[ho]at hk;simp[nI]at hk
 | box t x=>rw[ho]at hk;simp[nI]at hk
 | store t x y=>rw[ho]at hk;simp[nI]at hk
 | buildSlice t n ps=>rw[ho]at hk;simp[nI]at hk
 | move x=>exact iB htb h u6 (by rw[ho]at hk ⊢;exact hk)
 | assign x=>exact iB htb h u6 (by rw[ho]at hk ⊢;exact hk)
 | build _ _=>exact iB htb h u6 (by rw[ho]at hk ⊢;exact hk)
 | nilCheck _=>exact iB htb h u6 (by rw[ho]at hk ⊢;exact hk)
 | binOp _ _ _ _ _=>exact iB htb h u6 (by rw[ho]at hk ⊢;exact hk)
 | unOp _ _ _=>exact iB htb h u6 (by rw[ho]at hk ⊢;exact hk)
 | convert _ _ _=>exact iB htb h u6 (by rw[ho]at hk ⊢;exact hk)
 | makeFunc _ _ _=>exact iB htb h u6 (by rw[ho]at hk ⊢;exact hk)
 | slice _ _ _ _ _=>exact iB htb h u6 (by rw[ho]at hk ⊢;exact hk)
 | fieldAddr _ _ _=>exact iB htb h u6 (by rw[ho]at hk ⊢;exact hk)
 | field _ _ _=>exact iB htb h u6 (by rw[ho]at hk ⊢;exact hk)
 | indexAddr _ _ _=>exact iB htb h u6 (by rw[ho]at hk ⊢;exact hk)
 | index _ _ _=>exact iB htb h u6 (by rw[ho]at hk ⊢;exact hk)
 | extract _ _=>exact iB htb h u6 (by rw[ho]at hk ⊢;exact hk)
 | _=>rw[ho]at hk;exact hk.elim
theorem xU (htb:gZ P tb){c:Ctx}{g:fa}{st:St}{a:Act}{w:World}(h:fF c N g st a w){ops:Array Oper}{o:Oper}{K:fa→St→Prop}(hk:wm P tb N true ops.toList o.op o.dst K g st o.guard):
  ∃v g2 st2,K g2 st2∧st2.F=st.F∧st2.rs=st.rs∧st2.nx=st.nx∧(Region.wanted o (yielded ops a.tmps)=true→(∀CC:World→Prop,Rd st CC→∀w',CC w'→o.quietAt P a CC w' v)∧fF c N g2 st2 (a.put o.dst v) w)∧(¬Region.wanted o (yielded ops a.tmps)=true→fF c N g2 st2 (a.put o.dst undef) w):=by
 have go: ∀ch,tW g st ops a o ch→nI P tb N true ch o.dst K g st o.op→∃v g2 st2,K g2 st2∧st2.F=st.F∧st2.rs=st.rs∧st2.nx=st.nx∧(Region.wanted o (yielded ops a.tmps)=true→(∀CC:World→Prop,Rd st CC→∀w',CC w'→o.quietAt P a CC w' v)∧fF c N g2 st2 (a.put o.dst v) w)∧(¬Region.wanted o (yielded ops a.tmps)=true→fF c N g2 st2 (a.put o.dst undef) w):=fun ch hG hop=>by
  obtain⟨e,v,hq,hp⟩:=tH htb h hG.gp hop;obtain⟨g',st',hK,hF,hrs,hnx,h1,h2⟩:=ki h hq.lt hq.val hG.gp hG.free hp;exact⟨v,g',st',hK,hF,hrs,hnx,fun hw=>⟨hq.run (hG.wanted.1 hw),h1 (hG.wanted.1 hw)⟩,fun hw=>h2 (fun hA=>hw (hG.wanted.2 hA))⟩
 cases hg:o.guard with
 | none=>
  rw[hg]at hk;rcases hk with hk | ⟨hk,_⟩ | ⟨hk,_⟩
  ·exact go [] (CO hg) hk
  ·cases hk
  cases hk
 | some jw=>
  obtain⟨j,want⟩:=jw;rw[hg]at hk;rcases hk with hk | hk
  ·obtain⟨ch,h1,h2,_⟩:=uV h hg hk;exact go ch h1 h2
  rcases sE h hg hk with⟨hw,hk | ⟨hk,_⟩ | ⟨hk,_⟩⟩ | ⟨hw,hk⟩
  ·obtain⟨e,v,hq,hp⟩:=tH htb h (ch:=[]) (fun _=>trivial) hk;have hA:gA [] a:=fun s w b hs=>by simp at hs
   obtain⟨g',st',hK,hF,hrs,hnx,h1,_⟩:=ki h (ch:=[]) hq.lt hq.val (fun _=>trivial) (fun d _ _ _ s w b hs=>by simp at hs) hp;exact⟨v,g',st',hK,hF,hrs,hnx,fun _=>⟨hq.run hA,h1 hA⟩,fun hn=>absurd hw hn⟩
  ·cases hk
  ·cases hk
  obtain⟨g',st',h1,hF,hrs,hnx,h2⟩:=E2 h hk;exact⟨undef,g',st',h1,hF,hrs,hnx,fun hn=>absurd hn hw,fun _=>h2⟩
end
section
section
variable {P:Program} {tb:Tb} {N:Nat} {dr:Bool} {all rest:List Oper} {K:fa→St→Prop} {KK:Exit→St→Prop} {g:fa} {st:St}
def iq {α:Type}:List α→Option (List α)
 | []=>some []
 | x::t=>match iq t with
  | some l=>some (x::l)
  | none=>none
theorem fB {α:Type}: ∀l:List α,iq l=some l
 | []=>rfl
 | x::t=>by simp only[iq,fB t]
def Tc (ob:Prop)(cs:Array Value):PV:=
 match iq cs.toList with
 | some l=>some (ob,.v (.agg l.toArray))
 | none=>none
def sU:PV→PV
 | some (ob,.v (.agg cs))=>Tc ob cs
 | some (ob,.v (.bool x))=>some (ob,.v (.bool x))
 | some (ob,.v (.int k x))=>some (ob,.v (.int k x))
 | some (ob,.v x)=>some (ob,.v x)
 | some (ob,.loc i o)=>some (ob,.loc i o)
 | some (ob,.row i o n c)=>some (ob,.row i o n c)
 | none=>none
theorem nF (p:PV):sU p=p:=by
 unfold sU;split<;>try rfl
 rename_i ob cs;simp only[Tc,fB]
def vE:Op→Bool
 | .move _ | .assign _ | .build _ _ | .nilCheck _ | .binOp _ _ _ _ _ | .unOp _ _ _ | .convert _ _ _ | .makeFunc _ _ _ | .slice _ _ _ _ _ | .fieldAddr _ _ _ | .field _ _ _
 | .indexAddr _ _ _ | .index _ _ _ | .extract _ _=>true
 | .call ⟨.builtin _,_,_⟩=>true
 | _=>false
theorem q8 {op:Op}(h:vE op=true){ch:gq}{d:Option Nat}{K:fa→St→Prop}:nI P tb N dr ch d K g st op=lF N (pv tb st.rs (gL st.rs g st.env ch) op) ch d K g st:=by
 cases op<;>first | rfl | cases h | skip
 rename_i c;obtain⟨c,a,t⟩:=c;cases c<;>first | rfl | cases h
theorem Dd {d:Nat}{op:Op}{ty:TypeId}{pos:String}{af:Array Edge}{env:Env}{F:Hp}{rs:RL}{nx:Nat}{e:EV}(hp:vE op=true)(h:sU (pv tb rs (gL rs [] env []) op)=some (True,e))(hd:Nat.blt d N=true)
  (k:dT P tb N dr all rest K [] ⟨(d,e)::env,F,rs,nx⟩):dT P tb N dr all (⟨some d,op,ty,pos,af,none⟩::rest) K [] ⟨env,F,rs,nx⟩:=by
 have hd':d<N:=by simpa using hd
 rw[nF]at h;refine .inl ?_;simp only[q8 hp,h,lF,ig,imp];exact⟨trivial,hd',k⟩
theorem B5 {d:Nat}{op:Op}{ty:TypeId}{pos:String}{af:Array Edge}{env:Env}{F:Hp}{rs:RL}{nx:Nat}{x:Nat×gq×EV}{e:EV}(hp:vE op=true)(h:sU (pv tb rs (gL rs (x::g) env []) op)=some (True,e))(hd:Nat.blt d N=true)(hc:ik d (x::g)=true)
  (k:dT P tb N dr all rest K (x::g) ⟨(d,e)::env,F,rs,nx⟩):dT P tb N dr all (⟨some d,op,ty,pos,af,none⟩::rest) K (x::g) ⟨env,F,rs,nx⟩:=by
 have hd':d<N:=by simpa using hd
 rw[nF]at h;refine .inl ?_;simp only[q8 hp,h,lF,ig,imp];exact⟨trivial,hd',hc,k⟩
theorem dI {d:Nat}{op:Op}{ty:TypeId}{pos:String}{af:Array Edge}{env:Env}{F:Hp}{rs:RL}{nx:Nat}{e:EV}{ob:Prop}(hp:vE op=true)(h:sU (pv tb rs (gL rs [] env []) op)=some (ob,e))(hd:Nat.blt d N=true)(ho:ob)
  (k:dT P tb N dr all rest K [] ⟨(d,e)::env,F,rs,nx⟩):dT P tb N dr all (⟨some d,op,ty,pos,af,none⟩::rest) K [] ⟨env,F,rs,nx⟩:=by
 have hd':d<N:=by simpa using hd
 rw[nF]at h;refine .inl ?_;simp only[q8 hp,h,lF,ig,imp];exact⟨ho,hd',k⟩
def ny (all:List Oper)(g:fa)(env:Env)(j:Nat)(want:Bool):Option gq:=
 match mi all[j]? with
 | some s=>(match rp g s with
  | some (c,.v (.bool b))=>some (c++[(s,want,b)])
  | some _=>none
  | none=>(match lk env s with
   | some (.v (.bool b))=>some [(s,want,b)]
   | _=>none))
 | none=>none
theorem ld {op:Op}{d:Option Nat}{K:fa→St→Prop}{j:Nat}{want:Bool}{ch:gq}(h:ny all g st.env j want=some ch)(k:nI P tb N dr ch d K g st op):wm P tb N dr all op d K g st (some (j,want)):=by
 suffices e:tr P tb N dr want op d K g st (mi all[j]?)=nI P tb N dr ch d K g st op from .inl (by rw[e];exact k)
 unfold ny at h;cases hd:mi all[j]? with
 | none=>simp[hd]at h
 | some s=>
  simp only[hd]at h;simp only[tr];cases hg:rp g s with
  | some cv=>
   obtain⟨c,ev⟩:=cv;simp only[hg]at h;cases ev with
   | v x=>cases x<;>simp at h<;>subst h<;>rfl
   | loc _ _=>simp at h
   | row _ _ _ _=>simp at h
  | none=>
   simp only[hg]at h;simp only[vC];cases he:lk st.env s with
   | none=>simp[he]at h
   | some ev=>
    simp only[he]at h;cases ev with
    | v x=>cases x<;>simp at h<;>subst h<;>rfl
    | loc _ _=>simp at h
    | row _ _ _ _=>simp at h
theorem C7 {d j:Nat}{want:Bool}{op:Op}{ty:TypeId}{pos:String}{af:Array Edge}{env:Env}{F:Hp}{rs:RL}{nx:Nat}{e:EV}{c:Nat×Bool×Bool}{ch:gq}(hp:vE op=true)(hg:ny all g env j want=some (c::ch))
  (h:sU (pv tb rs (gL rs g env (c::ch)) op)=some (True,e)) (hd:Nat.blt d N=true) (hc:(ik d g&&nw d env)=true)
  (k:dT P tb N dr all rest K ((d,c::ch,e)::g) ⟨env,F,rs,nx⟩):dT P tb N dr all (⟨some d,op,ty,pos,af,some (j,want)⟩::rest) K g ⟨env,F,rs,nx⟩:=by
 have hd':d<N:=by simpa using hd
 rw[nF]at h;refine ld (st:=⟨env,F,rs,nx⟩) hg ?_;simp only[q8 hp,h,lF,ig,imp];exact⟨fun _=>trivial,hd',hc,k⟩
theorem iw {d j:Nat}{want:Bool}{op:Op}{ty:TypeId}{pos:String}{af:Array Edge}{env:Env}{F:Hp}{rs:RL}{nx:Nat}{e:EV}{c:Nat×Bool×Bool}{ch:gq}{ob:Prop}(hp:vE op=true)(hg:ny all g env j want=some (c::ch))
  (h:sU (pv tb rs (gL rs g env (c::ch)) op)=some (ob,e)) (hd:Nat.blt d N=true) (hc:(ik d g&&nw d env)=true) (ho:gP (c::ch)→ob)
  (k:dT P tb N dr all rest K ((d,c::ch,e)::g) ⟨env,F,rs,nx⟩):dT P tb N dr all (⟨some d,op,ty,pos,af,some (j,want)⟩::rest) K g ⟨env,F,rs,nx⟩:=by
 have hd':d<N:=by simpa using hd
 rw[nF]at h;refine ld (st:=⟨env,F,rs,nx⟩) hg ?_;simp only[q8 hp,h,lF,ig,imp];exact⟨ho,hd',hc,k⟩
def E0 (rs:RL)(g:fa)(env:Env)(ch:gq)(c:Nat)(a b:Operand):Option Bool:=
 match gL rs g env ch (.tmp c) with
 | some (.v (.bool t))=>(match gL rs g env (ch++[(c,true,t)]) a,gL rs g env (ch++[(c,false,t)]) b with
  | some (.v (.bool x)),some (.v (.bool y))=>some (lL t x y)
  | _,_=>none)
 | _=>none
theorem zj {ch:gq}{d:Option Nat}{K:fa→St→Prop}{c:Nat}{a b:Operand}{r:Bool}(h:E0 st.rs g st.env ch c a b=some r)(k:ig N ch d (.v (.bool r)) K g st):nI P tb N dr ch d K g st (.pick (.tmp c) a b):=by
 left;unfold E0 at h;split at h
 ·rename_i t ht;simp only[ht,De];split at h
  ·rename_i x y hx hy;simp only[hx,hy,HF];simp only[aa]at h;subst h;exact k
  simp at h
 simp at h
def Hn (rs:RL)(g:fa)(env:Env)(ch:gq)(c:Nat)(a b:Operand):Option EV:=
 match gL rs g env ch (.tmp c) with
 | some (.v (.bool true))=>gL rs g env ch a
 | some (.v (.bool false))=>gL rs g env ch b
 | _=>none
theorem Jo {ch:gq}{d:Option Nat}{K:fa→St→Prop}{c:Nat}{a b:Operand}{e:EV}(h:Hn st.rs g st.env ch c a b=some e)(k:ig N ch d e K g st):nI P tb N dr ch d K g st (.pick (.tmp c) a b):=by
 right;unfold Hn at h;split at h
 ·rename_i ht;simp only[ht,Dx,h,A0];exact k
 ·rename_i ht;simp only[ht,Dx,h,A0];exact k
 simp at h
theorem xy {d c:Nat}{a b:Operand}{ty:TypeId}{pos:String}{af:Array Edge}{env:Env}{F:Hp}{rs:RL}{nx:Nat}{e:EV}(h:Hn rs [] env [] c a b=some e)(hd:Nat.blt d N=true)
  (k:dT P tb N dr all rest K [] ⟨(d,e)::env,F,rs,nx⟩):dT P tb N dr all (⟨some d,.pick (.tmp c) a b,ty,pos,af,none⟩::rest) K [] ⟨env,F,rs,nx⟩:=by
 have hd':d<N:=by simpa using hd
 refine .inl (Jo (st:=⟨env,F,rs,nx⟩) h ?_);simp only[ig];exact⟨hd',k⟩
theorem Gf {d c:Nat}{a b:Operand}{ty:TypeId}{pos:String}{af:Array Edge}{env:Env}{F:Hp}{rs:RL}{nx:Nat}{x:Nat×gq×EV}{r:Bool}(h:E0 rs (x::g) env [] c a b=some r)(hd:Nat.blt d N=true)(hc:ik d (x::g)=true)
  (k:dT P tb N dr all rest K (x::g) ⟨(d,.v (.bool r))::env,F,rs,nx⟩):dT P tb N dr all (⟨some d,.pick (.tmp c) a b,ty,pos,af,none⟩::rest) K (x::g) ⟨env,F,rs,nx⟩:=by
 have hd':d<N:=by simpa using hd
 refine .inl (zj (st:=⟨env,F,rs,nx⟩) h ?_);simp only[ig];exact⟨hd',hc,k⟩
theorem Dg {d c:Nat}{a b:Operand}{ty:TypeId}{pos:String}{af:Array Edge}{env:Env}{F:Hp}{rs:RL}{nx:Nat}{r:Bool}(h:E0 rs [] env [] c a b=some r)(hd:Nat.blt d N=true)
  (k:dT P tb N dr all rest K [] ⟨(d,.v (.bool r))::env,F,rs,nx⟩):dT P tb N dr all (⟨some d,.pick (.tmp c) a b,ty,pos,af,none⟩::rest) K [] ⟨env,F,rs,nx⟩:=by
 have hd':d<N:=by simpa using hd
 refine .inl (zj (st:=⟨env,F,rs,nx⟩) h ?_);simp only[ig];exact⟨hd',k⟩
theorem BV {d j c:Nat}{want:Bool}{a b:Operand}{ty:TypeId}{pos:String}{af:Array Edge}{env:Env}{F:Hp}{rs:RL}{nx:Nat}{cc:Nat×Bool×Bool}{ch:gq}{r:Bool}(hg:ny all g env j want=some (cc::ch))(h:E0 rs g env (cc::ch) c a b=some r)(hd:Nat.blt d N=true)(hc:(ik d g&&nw d env)=true)
  (k:dT P tb N dr all rest K ((d,cc::ch,.v (.bool r))::g) ⟨env,F,rs,nx⟩):dT P tb N dr all (⟨some d,.pick (.tmp c) a b,ty,pos,af,some (j,want)⟩::rest) K g ⟨env,F,rs,nx⟩:=by
 have hd':d<N:=by simpa using hd
 refine ld (st:=⟨env,F,rs,nx⟩) hg (zj (st:=⟨env,F,rs,nx⟩) h ?_);simp only[ig];exact⟨hd',hc,k⟩
theorem xx {d:Option Nat}{j s:Nat}{want:Bool}{op:Op}{ty:TypeId}{pos:String}{af:Array Edge}(hs:mi all[j]? =some s)(h1:rp g s=none)(h2:lk st.env s=some (.v (.bool want)))
  (k:dT P tb N dr all (⟨d,op,ty,pos,af,none⟩::rest) K g st):dT P tb N dr all (⟨d,op,ty,pos,af,some (j,want)⟩::rest) K g st:=by
 simp only[dT,wm]at k ⊢;right;rw[hs];exact⟨.bool want,h1,h2,.inl ⟨rfl,k⟩⟩
theorem wg {d j s:Nat}{want:Bool}{op:Op}{ty:TypeId}{pos:String}{af:Array Edge}{env:Env}{F:Hp}{rs:RL}{nx:Nat}{b:Value}(hs:mi all[j]? =some s)(h2:lk env s=some (.v b))(hb:b≠ .bool want)(hd:Nat.blt d N=true)
  (k:dT P tb N dr all rest K [] ⟨(d,.v (.tuple #[]))::env,F,rs,nx⟩):dT P tb N dr all (⟨some d,op,ty,pos,af,some (j,want)⟩::rest) K [] ⟨env,F,rs,nx⟩:=by
 have hd':d<N:=by simpa using hd
 simp only[dT,wm];right;rw[hs];refine⟨b,rfl,h2,.inr ⟨hb,?_⟩⟩;simp only[Ed,ig];exact⟨hd',k⟩
theorem uK {d j s:Nat}{want:Bool}{op:Op}{ty:TypeId}{pos:String}{af:Array Edge}{env:Env}{F:Hp}{rs:RL}{nx:Nat}{b:Value}{x:Nat×gq×EV}(hs:mi all[j]? =some s)(h1:rp (x::g) s=none)(h2:lk env s=some (.v b))(hb:b≠ .bool want)(hd:Nat.blt d N=true)(hc:ik d (x::g)=true)
  (k:dT P tb N dr all rest K (x::g) ⟨(d,.v (.tuple #[]))::env,F,rs,nx⟩):dT P tb N dr all (⟨some d,op,ty,pos,af,some (j,want)⟩::rest) K (x::g) ⟨env,F,rs,nx⟩:=by
 have hd':d<N:=by simpa using hd
 simp only[dT,wm];right;rw[hs];refine⟨b,h1,h2,.inr ⟨hb,?_⟩⟩;simp only[Ed,ig];exact⟨hd',hc,k⟩
theorem IY {want:Bool}:(Value.bool (!want))≠ .bool want:=by cases want<;>simp
theorem tv {d j s:Nat}{want:Bool}{op:Op}{ty:TypeId}{pos:String}{af:Array Edge}{env:Env}{F:Hp}{rs:RL}{nx:Nat}(hs:mi all[j]? =some s)(h2:lk env s=some (.v (.bool (!want))))(hd:Nat.blt d N=true)
  (k:dT P tb N dr all rest K [] ⟨(d,.v (.tuple #[]))::env,F,rs,nx⟩):dT P tb N dr all (⟨some d,op,ty,pos,af,some (j,want)⟩::rest) K [] ⟨env,F,rs,nx⟩:=wg hs h2 IY hd k
theorem ri {d j s:Nat}{want:Bool}{op:Op}{ty:TypeId}{pos:String}{af:Array Edge}{env:Env}{F:Hp}{rs:RL}{nx:Nat}{x:Nat×gq×EV}(hs:mi all[j]? =some s)(h1:rp (x::g) s=none)(h2:lk env s=some (.v (.bool (!want))))(hd:Nat.blt d N=true)(hc:ik d (x::g)=true)
  (k:dT P tb N dr all rest K (x::g) ⟨(d,.v (.tuple #[]))::env,F,rs,nx⟩):dT P tb N dr all (⟨some d,op,ty,pos,af,some (j,want)⟩::rest) K (x::g) ⟨env,F,rs,nx⟩:=uK hs h1 h2 IY hd hc k
theorem ry {d j s:Nat}{want:Bool}{op:Op}{ty:TypeId}{pos:String}{af:Array Edge}{env:Env}{F:Hp}{rs:RL}{nx:Nat}(hs:mi all[j]? =some s)(h2:lk env s=some (.v (.tuple #[])))(hd:Nat.blt d N=true)
  (k:dT P tb N dr all rest K [] ⟨(d,.v (.tuple #[]))::env,F,rs,nx⟩):dT P tb N dr all (⟨some d,op,ty,pos,af,some (j,want)⟩::rest) K [] ⟨env,F,rs,nx⟩:=wg hs h2 (by simp) hd k
theorem qh {d j s:Nat}{want:Bool}{op:Op}{ty:TypeId}{pos:String}{af:Array Edge}{env:Env}{F:Hp}{rs:RL}{nx:Nat}{x:Nat×gq×EV}(hs:mi all[j]? =some s)(h1:rp (x::g) s=none)(h2:lk env s=some (.v (.tuple #[])))(hd:Nat.blt d N=true)(hc:ik d (x::g)=true)
  (k:dT P tb N dr all rest K (x::g) ⟨(d,.v (.tuple #[]))::env,F,rs,nx⟩):dT P tb N dr all (⟨some d,op,ty,pos,af,some (j,want)⟩::rest) K (x::g) ⟨env,F,rs,nx⟩:=uK hs h1 h2 (by simp) hd hc k
def Ln (tb:Tb)(rs:RL)(t:TypeId)(a:Option EV):Option EV:=
 match tb t,a with
 | some i,some (.loc id off)=>(match fR rs id with
  | some r=>(match i.kind.agg with
   | true=>(match Nat.ble (off+i.size) r.cells.length with
    | true=>(match iU rs ((r.cells.take (off+i.size)).drop off) with
     | some cs=>some (.v (.agg cs.toArray))
     | none=>none)
    | false=>none)
   | false=>oP rs r.cells[off]?)
  | none=>none)
 | _,_=>none
theorem sV {F:Hp}{rs:RL}{ch:gq}{K:EV→Prop}{t:TypeId}{a:Option EV}{e:EV}(h:Ln tb rs t a=some e):oo F rs ch K (tb t) a=K e:=by
 unfold Ln at h;split at h
 ·rename_i i id off ht;simp only[ht,oo];split at h
  ·rename_i r hr;simp only[hr];split at h
   ·rename_i ha;simp only[ha,wz];split at h
    ·rename_i hb;have hb':off+i.size≤r.cells.length:=by simpa using hb
     split at h
     ·rename_i cs hcs;simp only[hcs,MC];simp only[aa]at h;subst h;simp[hb']
     simp at h
    simp at h
   rename_i ha;simp only[ha,wz,h,Jq]
  simp at h
 simp at h
theorem IH {d:Nat}{t:TypeId}{a:Operand}{ty:TypeId}{pos:String}{af:Array Edge}{env:Env}{F:Hp}{rs:RL}{nx:Nat}{e:EV}(h:Ln tb rs t (gL rs [] env [] a)=some e)(hd:Nat.blt d N=true)
  (k:dT P tb N dr all rest K [] ⟨(d,e)::env,F,rs,nx⟩):dT P tb N dr all (⟨some d,.load t a,ty,pos,af,none⟩::rest) K [] ⟨env,F,rs,nx⟩:=by
 have hd':d<N:=by simpa using hd
 refine .inl ?_;simp only[nI,sV h,Aj,ig];exact⟨hd',k⟩
theorem Hg {d:Nat}{t:TypeId}{a:Operand}{ty:TypeId}{pos:String}{af:Array Edge}{env:Env}{F:Hp}{rs:RL}{nx:Nat}{x:Nat×gq×EV}{e:EV}(h:Ln tb rs t (gL rs (x::g) env [] a)=some e)(hd:Nat.blt d N=true)(hc:ik d (x::g)=true)
  (k:dT P tb N dr all rest K (x::g) ⟨(d,e)::env,F,rs,nx⟩):dT P tb N dr all (⟨some d,.load t a,ty,pos,af,none⟩::rest) K (x::g) ⟨env,F,rs,nx⟩:=by
 have hd':d<N:=by simpa using hd
 refine .inl ?_;simp only[nI,sV h,Aj,ig];exact⟨hd',hc,k⟩
theorem GM {d j:Nat}{want:Bool}{t:TypeId}{a:Operand}{ty:TypeId}{pos:String}{af:Array Edge}{env:Env}{F:Hp}{rs:RL}{nx:Nat}{e:EV}{c:Nat×Bool×Bool}{ch:gq}(hg:ny all g env j want=some (c::ch))
  (h:Ln tb rs t (gL rs g env (c::ch) a)=some e) (hd:Nat.blt d N=true) (hc:(ik d g&&nw d env)=true)
  (k:dT P tb N dr all rest K ((d,c::ch,e)::g) ⟨env,F,rs,nx⟩):dT P tb N dr all (⟨some d,.load t a,ty,pos,af,some (j,want)⟩::rest) K g ⟨env,F,rs,nx⟩:=by
 have hd':d<N:=by simpa using hd
 refine ld (st:=⟨env,F,rs,nx⟩) hg ?_;simp only[nI,sV h,Aj,ig];exact⟨hd',hc,k⟩
theorem Lo {d:Nat}{t:TypeId}{x:Operand}{ty:TypeId}{pos:String}{af:Array Edge}{env:Env}{F:Hp}{rs:RL}{nx:Nat}{e:EV}{cells:List EV}{n:Nat}(h:gL rs [] env [] x=some e)(hc':iq (cellsOf e)=some cells)(hn:cells.length=n)(hd:Nat.blt d N=true)
  (k: ∀b,dT P tb N false all rest K [] ⟨(d,.loc nx 0)::env,F,(nx,⟨some b,cells,t,n⟩)::rs,nx+1⟩):dT P tb N false all (⟨some d,.box t x,ty,pos,af,none⟩::rest) K [] ⟨env,F,rs,nx⟩:=by
 have hd':d<N:=by simpa using hd
 rw[fB,aa]at hc';subst hc' hn;refine .inl ?_;simp only[nI,h,Ec,Mm,ig];exact⟨trivial,trivial,fun b=>⟨hd',k b⟩⟩
theorem ux {d:Nat}{t:TypeId}{ty:TypeId}{pos:String}{af:Array Edge}{env:Env}{F:Hp}{rs:RL}{nx:Nat}{i:TI}{cells:List EV}{n:Nat}(h:tb t=some i)(hc':iq (i.zero.map EV.v)=some cells)(hn:cells.length=n)(hd:Nat.blt d N=true)
  (k: ∀b,dT P tb N false all rest K [] ⟨(d,.loc nx 0)::env,F,(nx,⟨some b,cells,t,n⟩)::rs,nx+1⟩):dT P tb N false all (⟨some d,.alloc t,ty,pos,af,none⟩::rest) K [] ⟨env,F,rs,nx⟩:=by
 have hd':d<N:=by simpa using hd
 rw[fB,aa]at hc';subst hc' hn;refine .inl ?_;simp only[nI,h,tI,Mm,ig];exact⟨trivial,trivial,fun b=>⟨hd',k b⟩⟩
def Lz (tb:Tb)(rs:RL)(t:TypeId)(a x:Option EV):Option RL:=
 match tb t,a,x with
 | some i,some (.loc id off),some e=>(match fR rs id with
  | some r=>(match Nat.beq (cellsOf e).length i.size&&((cellsOf e).all one&&Nat.ble (off+i.size) r.cells.length) with
   | true=>(match iq (r.cells.take off++cellsOf e++r.cells.drop (off+i.size)) with
    | some cs=>iq (qM rs id ⟨r.gl,cs,r.ty,r.cap⟩)
    | none=>none)
   | false=>none)
  | none=>none)
 | _,_,_=>none
theorem BJ {t:TypeId}{a x:Operand}{ty:TypeId}{pos:String}{af:Array Edge}{env:Env}{F:Hp}{rs rs':RL}{nx:Nat}(h:Lz tb rs t (gL rs g env [] a) (gL rs g env [] x)=some rs')
  (k:dT P tb N false all rest K g ⟨env,F,rs',nx⟩):dT P tb N false all (⟨none,.store t a x,ty,pos,af,none⟩::rest) K g ⟨env,F,rs,nx⟩:=by
 refine .inl ?_;simp only[nI];unfold Lz at h;split at h
 ·rename_i i id off e h1 h2 h3;split at h
  ·rename_i r hr;split at h
   ·rename_i hb;simp only[aL,Nat.beq_eq,Nat.ble_eq]at hb;simp only[fB,aa]at h;subst h;simp only[h1,h2,h3,uU,hr,uC];exact⟨trivial,trivial,trivial,hb.1,hb.2.1,hb.2.2,k⟩
   simp at h
  simp at h
 simp at h
theorem NT (k:K g st):dT P tb N dr all [] K g st:=k
theorem Gb {K:St→Prop}(k:K st):fx K g st:=k
theorem VS.id {G:St→Prop}(h:G st):VS N g st G:=fun _ _ _ hs=>⟨st,hs,h⟩
theorem lJ {id:Nat}{l:List Oper}(k:dT P tb N false l l (fx (KK .normal)) [] st):vc P tb N (.region id l.toArray false) KK st:=VS.id (.inl ⟨fun h=>(by cases h),k⟩)
theorem fM {id:Nat}{l:List Oper}(h:Region.lexB .any l.toArray=true)(k:dT P tb N true l l (fx (KK .normal)) [] st):vc P tb N (.region id l.toArray true) KK st:=VS.id (.inl ⟨fun _=>h,k⟩)
theorem jK {id:Nat}{l:List Oper}(n:Nat){l1 l2:List Oper}(h:Region.lexTailB .any l.toArray n=true)(h1:l.take n=l1)(h2:l.drop n=l2)(k:dT P tb N true l l1 (fx (dT P tb N false l l2 (fx (KK .normal)) [])) [] st):vc P tb N (.region id l.toArray true) KK st:=VS.id (.inr (.inl ⟨n,h,by subst h1 h2;exact k⟩))
theorem mq {id:Nat}{ops:Array Oper}{b:Bool}(h:VS N [] st fun st=>vc P tb N (.region id ops b) KK st):vc P tb N (.region id ops b) KK st:=fun c a w hs=>by
 obtain⟨st1,h1,h2⟩:=h c a w hs;exact h2 c a w h1
theorem fz {id:Nat}{l:List Oper}(kept:List Nat)(h:Region.noSelect l.toArray=true)(k:fq P tb N l.toArray kept (KK .normal) (l.toArray.size+1) l.toArray.size (Array.replicate l.toArray.size false) [] st):vc P tb N (.region id l.toArray true) KK st:=VS.id (.inr (.inr (.inl ⟨rfl,h,kept,k⟩)))
theorem LH {x y:Code}(k:vc P tb N x (gx (vc P tb N y KK) KK) st):vc P tb N (.seq x y) KK st:=k
theorem BP {id:Nat}{x:Code}(k:vc P tb N x (fc id KK) st):vc P tb N (.block id x) KK st:=k
theorem Gh (k:KK .normal st):vc P tb N .skip KK st:=k
theorem My (k:KK .ret st):vc P tb N .ret KK st:=k
theorem G8 {id:Nat}(k:KK (.exit id) st):vc P tb N (.exit id) KK st:=k
theorem Gn {G:St→Prop}(k:G st):gx G KK .normal st:=k
theorem He {G:St→Prop}(k:KK .ret st):gx G KK .ret st:=k
theorem Hv {G:St→Prop}{id:Nat}(k:KK (.exit id) st):gx G KK (.exit id) st:=k
theorem zc {id:Nat}(k:KK .normal st):fc id KK .normal st:=k
theorem yH {id:Nat}(k:KK .ret st):fc id KK .ret st:=k
theorem ym {id:Nat}(k:KK .normal st):fc id KK (.exit id) st:=by simp only[fc,beq_self_eq_true,DE];exact k
theorem za {id j:Nat}(h:(j==id)=false)(k:KK (.exit j) st):fc id KK (.exit j) st:=by simp only[fc,h,DE];exact k
theorem RI {c:Operand}{x y:Code}{b:Bool}(h:gL st.rs [] st.env [] c=some (.v (.bool b)))(k1:b=true→vc P tb N x KK st)(k2:b=false→vc P tb N y KK st):vc P tb N (.cond c x y) KK st:=by
 simp only[vc,h];cases b with
 | true=>exact k1 rfl
 | false=>exact k2 rfl
theorem CB {c:Operand}{x y:Code}(h:gL st.rs [] st.env [] c=some (.v (.bool true)))(k:vc P tb N x KK st):vc P tb N (.cond c x y) KK st:=by
 simp only[vc,h];exact k
theorem Cj {c:Operand}{x y:Code}(h:gL st.rs [] st.env [] c=some (.v (.bool false)))(k:vc P tb N y KK st):vc P tb N (.cond c x y) KK st:=by
 simp only[vc,h];exact k
theorem IF {rv:List ResultVar}{Q:Value→Prop}{xs:List Value}(h:nC tb st rv=some xs)(k:Q (gE xs)):gC tb rv Q .ret st:=by
 simp only[gC,h];exact k
theorem M4 {rv:List ResultVar}{Q:Value→Prop}{xs:List Value}(h:nC tb st rv=some xs)(k:Q (gE xs)):gC tb rv Q .normal st:=by
 simp only[gC,h];exact k
end
end
section
variable {P:Program} {tb:Tb} {N:Nat}
theorem fF.world {c:Ctx}{g:fa}{st:St}{a:Act}{w w':World}(h:fF c N g st a w)(hw:C c st w'):fF c N g st a w':={ h with fO:=hw }
theorem so (htb:gZ P tb){c:Ctx}{ops:Array Oper}{K:fa→St→Prop}: ∀(l:List Oper) (g:fa) (st:St) (a:Act) (w:World),fF c N g st a w→dT P tb N true ops.toList l K g st→
  wpQuiet P ops (C c st) (fun a'=>∃g' st',K g' st'∧ ∀w',C c st w'→fF c N g' st' a' w') l a
 | [],g,st,a,w,h,hk=>⟨g,st,hk,fun w' hw'=>h.world hw'⟩
 | o::l,g,st,a,w,h,hk=>by
  obtain⟨v,g',st',hK,hF,hrs,_,h1,h2⟩:=xU htb h (o:=o) hk;have hC:C c st'=C c st:=by unfold C;rw[hF,hrs]
  unfold wpQuiet;split
  ·rename_i hw;obtain⟨hq,hs⟩:=h1 hw;refine⟨v,hq _ (M3 c st),?_⟩;have:=so htb l g' st' _ w hs hK;rw[hC]at this;exact this
  rename_i hw;have:=so htb l g' st' _ w (h2 hw) hK;rw[hC]at this;exact this
section
variable {ops:Array Oper} {md:Region.Mode} {C:World→Prop}
def rH (P:Program)(md:Region.Mode)(ops:Array Oper)(C:World→Prop)(n:Nat)(L:Array Bool→Act→Prop):Nat→Array Bool→Act→Prop
 | 0,done,a=>L done a
 | f+1,done,a=>Region.ready md ops done≠[]∧ ∀i∈Region.ready md ops done,i<n∧qOp P ops C i (rH P md ops C n L f (done.setIfInBounds i true)) a
theorem rH.any {n k:Nat}{L:Array Bool→Act→Prop}{Q:Exit→Act→World→Prop}(hL: ∀done a,L done a→∀w,C w→wpAny P md ops Q k done a w):
  ∀(f:Nat) (done:Array Bool) (a:Act) (w:World),C w→rH P md ops C n L f done a→wpAny P md ops Q (f+k) done a w:=by
 intro f
 induction f with
 | zero=>intro done a w hw h;rw[aP];exact hL _ _ h w hw
 | succ f ih=>
  intro done a w hw h;have e:f+1+k=(f+k)+1:=by omega
  rw[e];exact⟨fun h0=>absurd h0 h.1,fun i hi=>wpOp_of_qOp hw (fun a' w' hw' h'=>ih _ a' w' hw' h') (h.2 i hi).2⟩
theorem rH.first {n i:Nat}{oi:Oper}{v:Value}{L:Array Bool→Act→Prop}(hi:ops[i]? =some oi)(hsel: ∀(j:Nat) (o:Oper) cs b,ops[j]? =some o→o.op≠ .select cs b)
  (hs:Region.sinkB md ops n=true) (hc:Region.chainB md ops n=true) (hn:n<ops.size) (hin:i<n) (hdone: ∀done a,L done a→∀j∈Region.ready md ops done,n≤j):
  ∀(f:Nat) (done:Array Bool) (a:Act),HeadInv md ops n done→
   (∀j oj,ops[j]? =some oj→j≠i→done.getD j true=false→(∀e∈oj.after,Region.binds md e=true→e.on≠i)→oi.apart ops oj=true)→
   i∈Region.ready md ops done→YieldsIn P ops C oi v a→rH P md ops C n L f (done.setIfInBounds i true) (a.put oi.dst v)→rH P md ops C n L (f+1) done a:=by
 intro f
 induction f with
 | zero=>
  intro done a inv _ hr hy H;refine⟨fun h=>(by rw[h]at hr;cases hr),fun j hj=>?_⟩;have hjn:j<n:=Nat.lt_of_not_le fun h=>tail_waits hs hc hn inv _ i rfl hin (mem_ready.1 hr).1 j h hj;refine⟨hjn,?_⟩;by_cases hji:j=i
  ·subst hji;exact hy.qOp hi H
  have:=hdone _ _ H j (ready_mono hj hji);omega
 | succ f ih=>
  intro done a inv hfree hr hy H;have hun:=(mem_ready.1 hr).1;refine⟨fun h=>(by rw[h]at hr;cases hr),fun j hj=>?_⟩;have hjn:j<n:=Nat.lt_of_not_le fun h=>tail_waits hs hc hn inv _ i rfl hin hun j h hj;refine⟨hjn,?_⟩;by_cases hji:j=i
  ·subst hji;exact hy.qOp hi H
  obtain⟨hjun,oj,hoj,hall⟩:=mem_ready.1 hj;have hnot: ∀e∈oj.after,Region.binds md e=true→e.on≠i:=fun e he hb heq=>by
   have h1:=hall e he hb;rw[heq,getD_both hun]at h1;cases h1
  have h2:=qOp_put hoj (hfree j oj hoj hji hjun hnot) (fun cs b=>hsel i oi cs b hi) (fun cs b=>hsel j oj cs b hoj) hy (H.2 j (ready_mono hj hji)).2;refine qOp_mono (fun a' h3=>ih (done.setIfInBounds j true) a' (inv.set hj hjn) (fun k ok hk hki hu hno=>hfree k ok hk hki ?_ hno) (ready_mono hr (Ne.symm hji)) h3.1 ?_) h2
  ·by_cases hjk:j=k
   ·subst hjk;exact hjun
   rw[getD_set_ne true hjk]at hu;exact hu
  rw[Array.setIfInBounds_comm _ _ hji];exact h3.2
theorem rH.lex {n k:Nat}{R:Act→Prop}(hsel:Region.noSelect ops=true)(hs:Region.sinkB md ops n=true)(hc:Region.chainB md ops n=true)(hn:n<ops.size):
  ∀(l:List Oper) (m:Nat) (done:Array Bool) (a:Act),(∀j,j<l.length→l[j]? =ops[m+j]?)→m+l.length=n→HeadInv md ops n done→Region.lexHead md ops k l.length m done=true→wpQuiet P ops C R l a→
  rH P md ops C n (fun done' a'=>Region.seqB md ops k n done'=true∧R a') l.length done a:=by
 intro l
 induction l with
 | nil=>
  intro m done a _ hk _ hB h;have:m=n:=by simpa using hk
  subst this;exact⟨by simpa [Region.lexHead] using hB,h⟩
 | cons o l ih=>
  intro m done a hl hk inv hB h;have h0:ops[m]? =some o:=by simpa using (hl 0 (by simp)).symm
  simp only[aH,Region.lexHead,aL]at hB;obtain⟨⟨hr,hf⟩,hB'⟩:=hB;have W6:m<n:=by simp only[aH]at hk;omega
  have hr':m∈Region.ready md ops done:=by simpa using hr
  have hst:qOp P ops C m (wpQuiet P ops C R l) a:=by unfold qOp;simp only[h0];exact h
  obtain⟨v,hy,hK⟩:=yieldsIn_of_qOp h0 hst;exact rH.first h0 (Region.noSelect_spec hsel) hs hc hn W6 (fun done' a' hL=>seqB_ready hL.1) l.length done a inv (Region.free_spec h0 hf) hr' hy
   (ih (m+1) _ _ (fun j hj=>by have:=hl (j+1) (by simp;omega);simpa [Nat.add_assoc,Nat.add_comm 1 j] using this) (by simp only[aH]at hk;omega) (inv.set hr' W6) hB' hK)
theorem yQ {id:Nat}{Q:Exit→Act→World→Prop}{a:Act}{w:World}{l:List Oper}(n:Nat)(hm:P.follows .mixedOrders=true)(hB:Region.lexTailB .any l.toArray n=true)(hC:C { w with drawn:=w.drawn+1 })
  (h:wpQuiet P l.toArray C (fun a'=>∀w',C w'→wpList P l.toArray Q (l.drop n) a' w') (l.take n) a):(Code.region id l.toArray true).wp P Q a w:=by
 simp only[Region.lexTailB,aL,av]at hB;obtain⟨⟨⟨⟨hsel,hn⟩,hs⟩,hc⟩,hlex⟩:=hB;have hn':n<l.length:=by simpa using hn
 have htl:(l.take n).length=n:=by simp;omega
 have hdl:(l.drop n).length=l.toArray.size - n:=by simp
 have inv0:HeadInv .any l.toArray n (Array.replicate l.toArray.size false):=
  ⟨by simp,fun j oj _ hl=>(by rw[getD_replicate_false]at hl;cases hl),fun t _ ht=>getD_in (by simpa using ht) (getD_replicate_false _ _)⟩
 have H:=rH.lex (md:=.any) (k:=l.toArray.size - n) hsel hs hc hn (l.take n) 0 _ a (fun j hj=>by
  have hj':j<n:=by rw[htl]at hj;exact hj
  simp[hj']) (by simpa using htl) inv0 (by rw[htl];exact hlex) h
 refine wp_region_any hm ?_;have:=rH.any (Q:=Q) (k:=l.toArray.size - n) (fun done a' hL w' hw'=>by
  have:=wpAny_of_seq (md:=.any) (Q':=Q) (l.drop n) n done a' w' (fun j=>by simp[cu]) (by rw[hdl];exact hL.1) (hL.2 w' hw')
  rwa [hdl]at this) _ _ _ { w with drawn:=w.drawn+1 } hC H
 rw[htl,show n+(l.toArray.size - n)=l.toArray.size by omega]at this;exact this
end
theorem BR.cons {c:Ctx}{F:Hp}{rs:RL}{nx:Nat}(h:BR c F rs nx)(r:kj):BR c F ((nx,r)::rs) (nx+1) where
 sub:=h.sub
 kT:=Nat.le_succ_of_le h.kT
 succ:=fun id r' hid hr=>by
  have:=h.kT;rw[e8,aY (by omega)]at hr;exact h.succ id r' hid hr
theorem kF {rs:RL}{nx:Nat}{r:kj}{e:EV}(h:e.lt nx):e.val ((nx,r)::rs)=e.val rs:=by
 cases e with
 | v x=>rfl
 | loc id o=>
  have:id≠nx:=by simp only[EV.lt]at h;omega
  simp only[EV.val,e8,aY this]
 | row id o n c=>
  have:id≠nx:=by simp only[EV.lt]at h;omega
  simp only[EV.val,e8,aY this]
theorem EV.lt.mono {e:EV}{m n:Nat}(h:e.lt m)(hm:m≤n):e.lt n:=by
 cases e<;>simp only[EV.lt]at * <;>omega
theorem nu.lt {F:Hp}{rs:RL}{w:World}(h:nu F rs w){id:Nat}{r:kj}{b:Nat}(hr:fR rs id=some r)(hb:r.gl=some b):b<w.heap.size:=by
 have:=h.own id r hr;rw[hb]at this;obtain⟨_,_,cur,h1,_⟩:=this;exact gJ h1
theorem vi {c:Ctx}{g:fa}{env:Env}{F:Hp}{rs:RL}{nx:Nat}{a:Act}{w:World}(h:fF c N g ⟨env,F,rs,nx⟩ a w){cells:List EV}{cs:Array Value}{t:TypeId}(hl:cs.size=cells.length)(hlt: ∀e∈cells,e.lt nx)
  (hcs: ∀(j:Nat) (e:EV) (x:Value),cells[j]? =some e→e.val rs=some x→cs[j]? =some x):
  fF c N g ⟨env,F,(nx,⟨some w.heap.size,cells,t,cells.length⟩)::rs,nx+1⟩ a (w.alloc (.cells cs t)):=by
 have hfr:F w.heap.size=none:=by
  cases hf:F w.heap.size with
  | none=>rfl
  | some o=>have:=gJ (h.fO.le _ _ hf);omega
 have hp:g9 [] w (w.alloc (.cells cs t)):=g9.alloc [] w _;have hw:=h.fO.zB hp;have aar: ∀id r,fR rs id=some r→id≠nx:=fun id r hr=>by have:=(h.gS id r hr).1;simp only at this;omega
 exact {
  size:=h.size
  defers:=h.defers
  fO:={
   le:=hw.le
   own:={
    own:=fun id r hr=>by
     rw[e8]at hr;split at hr
     ·simp only[aa]at hr;subst hr;refine⟨hfr,ah _,cs,heap_alloc_new w _,hl,fun j ev x hj hx=>?_⟩;have hm:=hlt ev (cT hj);rw[kF hm]at hx;exact hcs j ev x hj hx
     have h1:=hw.own.own id r hr;cases hb:r.gl with
     | none=>rw[hb]at h1;exact h1
     | some b=>
      rw[hb]at h1;obtain⟨g1,g2,cur,g3,g4,g5⟩:=h1;refine⟨g1,g2,cur,g3,g4,fun j ev x hj hx=>?_⟩;have hm:=(h.gS id r hr).2 ev (cT hj);rw[kF hm]at hx;exact g5 j ev x hj hx
    apart:=fun i j r s b hi hj hb hs=>by
     rw[e8]at hi hj;split at hi
     ·split at hj
      ·omega
      simp only[aa]at hi;subst hi;simp only[aa]at hb;have:=h.fO.own.lt hj hs;omega
     split at hj
     ·simp only[aa]at hj;subst hj;simp only[aa]at hs;have:=h.fO.own.lt hi hb;omega
     exact h.fO.own.apart i j r s b hi hj hb hs }
   il:=hw.il
   new:=fun id r b hr hb=>by
    rw[e8]at hr;split at hr
    ·simp only[aa]at hr;subst hr;rcases hb with hb | ⟨hb,_⟩
     ·simp only[aa]at hb;have:=h.fO.il.size;omega
     cases hb
    exact h.fO.new id r b hr hb
   jT:=h.fO.jT
   sz:=hw.sz
   tp:=hw.tp }
  gI:=h.gI.cons _
  gS:=fun id r hr=>by
   simp only[e8]at hr;split at hr
   ·simp only[aa]at hr;subst hr;exact⟨by simp only;omega,fun e he=>(hlt e he).mono (dj _)⟩
   obtain⟨h1,h2⟩:=h.gS id r hr;exact⟨by simp only at h1 ⊢;omega,fun e he=>(h2 e he).mono (dj _)⟩
  ids:=fun n e he=>(h.ids n e he).mono (dj _)
  env:=fun n e x hg he hx=>by
   rw[kF (h.ids n e he)]at hx;exact h.env n e x hg he hx
  gv:=fun n ch e hg=>by
   obtain⟨h1,h2,h3,h4⟩:=h.gv n ch e hg;refine⟨fun hA=>⟨fun x hx=>(h1 hA).1 x ?_,(h1 hA).2⟩,h2,h3.mono (dj _),h4⟩;rw[kF h3]at hx;exact hx }
theorem iR (a:Act):gA [] a:=fun s w b hs=>by simp at hs
theorem jV (g:fa)(env:Env):Dj g env []:=fun d _ _ _ s w b hs=>by simp at hs
theorem Ig {c:Ctx}{g:fa}{st:St}{a:Act}{w:World}(h:fF c N g st a w){cells:List EV}{cs:Array Value}{t:TypeId}{d:Option Nat}{K:fa→St→Prop}(hl:cs.size=cells.length)(hlt: ∀e∈cells,e.lt st.nx)
  (hcs: ∀(j:Nat) (e:EV) (x:Value),cells[j]? =some e→e.val st.rs=some x→cs[j]? =some x) (hk:Mm N d K g t cells st):
  ∃g' st',K g' st'∧fF c N g' st' (a.put d (.pointer (some ⟨w.heap.size,0,none⟩))) (w.alloc (.cells cs t)):=by
 obtain⟨env,F,rs,nx⟩:=st;have hs:=vi h (t:=t) hl hlt hcs;have hv:(EV.loc nx 0).val ((nx,⟨some w.heap.size,cells,t,cells.length⟩)::rs)=some (.pointer (some ⟨w.heap.size,0,none⟩)):=by
  simp only[EV.val,e8,dC]
 obtain⟨g',st',h1,_,_,_,h2,_⟩:=ki hs (ch:=[]) (e:=.loc nx 0) (v:=.pointer (some ⟨w.heap.size,0,none⟩)) (by simp only[EV.lt];omega) (fun _=>hv) (fun _=>trivial) (jV _ _) (hk w.heap.size);exact⟨g',st',h1,h2 (iR a)⟩
theorem tN {rs:RL}{e:EV}{v:Value}(hv:e.val rs=some v):v.cells.size=(cellsOf e).length∧(∀(j:Nat) (e':EV) (x:Value),(cellsOf e)[j]? =some e'→e'.val rs=some x→v.cells[j]? =some x)∧
  (∀nx,e.lt nx→∀e'∈cellsOf e,e'.lt nx)∧ ∀(j:Nat) (x:Value),v.cells[j]? =some x→∃e',(cellsOf e)[j]? =some e'∧e'.val rs=some x:=by
 have single: ∀(e:EV) (v:Value),e.val rs=some v→cellsOf e=[e]→v.cells= #[v]→v.cells.size=(cellsOf e).length∧(∀(j:Nat) (e':EV) (x:Value),(cellsOf e)[j]? =some e'→e'.val rs=some x→v.cells[j]? =some x)∧
   (∀nx,e.lt nx→∀e'∈cellsOf e,e'.lt nx)∧ ∀(j:Nat) (x:Value),v.cells[j]? =some x→∃e',(cellsOf e)[j]? =some e'∧e'.val rs=some x:=by
  intro e v hv h1 h2;rw[h1,h2];refine⟨rfl,fun j e' x hj hx=>?_,fun nx hl e' he=>by rw[aB.1 he];exact hl,fun j x hj=>?_⟩
  ·cases j with
   | zero=>
    simp only[cr,aa]at hj;subst hj;rw[hv]at hx;simpa using hx
   | succ j=>simp at hj
  cases j with
  | zero=>
   simp only[cC,cr,aa]at hj;subst hj;exact⟨e,rfl,hv⟩
  | succ j=>simp at hj
 cases e with
 | v x=>
  simp only[EV.val,aa]at hv;subst hv;cases x with
  | agg cs=>
   refine⟨by simp[Value.cells,cellsOf],fun j e' y hj hy=>?_,fun nx _ e' he=>?_,fun j y hj=>?_⟩
   ·simp only[cellsOf,aI,aS]at hj;obtain⟨u,hu,rfl⟩:=hj;simp only[EV.val,aa]at hy;subst hy;simpa [Value.cells] using hu
   ·simp only[cellsOf,aG]at he;obtain⟨u,_,rfl⟩:=he;trivial
   refine⟨.v y,?_,rfl⟩;simp only[cellsOf,aI];simp only[Value.cells]at hj;rw[show cs.toList[j]? =some y by simpa using hj];rfl
  | _=>exact single _ _ rfl rfl rfl
 | loc id o=>
  have:v.cells= #[v]:=by
   simp only[EV.val]at hv;split at hv
   ·split at hv
    ·simp only[aa]at hv;subst hv;rfl
    simp at hv
   simp at hv
  exact single _ _ hv rfl this
 | row id o n c=>
  have:v.cells= #[v]:=by
   simp only[EV.val]at hv;split at hv
   ·simp only[aa]at hv;subst hv;rfl
   simp at hv
  exact single _ _ hv rfl this
theorem kK {a:Act}{w w':World}{o:Oper}{v:Value}{K':Act→World→Prop}{Q:Exit→Act→World→Prop}(h:(execOp a.eval o).run P w= .ok (.value v) w')(hk:K' (a.put o.dst v) w'):o.wp P a w K' Q:=by
 unfold Oper.wp;rw[h];exact hk
theorem RD {c:Ctx}{g:fa}{st:St}{a:Act}{w:World}(h:fF c N g st a w){o:Oper}{t:TypeId}{x:Operand}(ho:o.op= .box t x){K:fa→St→Prop}{Q:Exit→Act→World→Prop}{K':Act→World→Prop}
  (hK: ∀g' st' a' w',fF c N g' st' a' w'→K g' st'→K' a' w') (hk:Ec N o.dst K g t st (gL st.rs g st.env [] x)):o.wp P a w K' Q:=by
 cases hx:gL st.rs g st.env [] x with
 | none=>simp[hx,Ec]at hk
 | some e=>
  rw[hx]at hk;simp only[Ec]at hk;have hv:=gO h (iR a) _ _ hx;have hlt:=CH h [] _ _ hx;obtain⟨h1,h2,h3,_⟩:=tN hv;obtain⟨g',st',h5,h6⟩:=Ig h (t:=t) h1 (h3 _ hlt) h2 hk;refine kK ?_ (hK _ _ _ _ h6 h5);simp only[execOp,ho,Instr.box,newVar,newRow,newObj];rfl
theorem PA {c:Ctx}{g:fa}{st:St}{a:Act}{w:World}(h:fF c N g st a w){cells:List EV}{cs:Array Value}{t:TypeId}{n:Nat}{d:Option Nat}{K:fa→St→Prop}(hl:cs.size=cells.length)(hlt: ∀e∈cells,e.lt st.nx)
  (hcs: ∀(j:Nat) (e:EV) (x:Value),cells[j]? =some e→e.val st.rs=some x→cs[j]? =some x) (hk:RT N d K g t n cells st):
  ∃g' st',K g' st'∧fF c N g' st' (a.put d (.slice (some ⟨w.heap.size,0,none⟩) n n)) (w.alloc (.cells cs t)):=by
 obtain⟨env,F,rs,nx⟩:=st;have hs:=vi h (t:=t) hl hlt hcs;have hv:(EV.row nx 0 n n).val ((nx,⟨some w.heap.size,cells,t,cells.length⟩)::rs)=some (.slice (some ⟨w.heap.size,0,none⟩) n n):=by
  simp only[EV.val,e8,dC];rfl
 obtain⟨g',st',h1,_,_,_,h2,_⟩:=ki hs (ch:=[]) (e:=.row nx 0 n n) (v:=.slice (some ⟨w.heap.size,0,none⟩) n n) (by simp only[EV.lt];omega) (fun _=>hv) (fun _=>trivial) (jV _ _) (hk w.heap.size);exact⟨g',st',h1,h2 (iR a)⟩
theorem J8 (htb:gZ P tb){c:Ctx}{g:fa}{st:St}{a:Act}{w:World}(h:fF c N g st a w){o:Oper}{t:TypeId}{n:Nat}{ps:Array (Nat×Operand)}(ho:o.op= .buildSlice t n ps){K:fa→St→Prop}{Q:Exit→Act→World→Prop}{K':Act→World→Prop}
  (hK: ∀g' st' a' w',fF c N g' st' a' w'→K g' st'→K' a' w') (hk:OQ tb N o.dst K g st n (tk tb t) (partsOf st.rs (gL st.rs g st.env []) ps.toList)):o.wp P a w K' Q:=by
 unfold OQ at hk;split at hk
 ·rename_i e xs ht hps;cases hi:tb e with
  | none=>simp[hi,BL]at hk
  | some ti=>
   rw[hi]at hk;simp only[BL]at hk;obtain⟨hsz,hk⟩:=hk;cases hf:sN (fun i=>some (i * ti.size,ti.size)) (zv (n * ti.size) ti.zero) xs with
   | none=>simp[hf,Cp]at hk
   | some cs=>
    simp only[hf,Cp]at hk;obtain⟨info,j1,_,_,z,j2,j3⟩:=(htb e ti hi).info;have hu:P.underlying t=some (.slice e):=by
     unfold tk at ht;split at ht
     ·rename_i i hti;simp only[aa]at ht;obtain⟨d,h1,h2⟩:=(htb t i hti).kind;rw[ht]at h2;simp only[TK.fits]at h2;rw[h1,h2]
     simp at ht
    have e1:=ta (gO h (iR a)) hps;have e2:(ps.map fun (i,x)=>(i,a.eval x))=xs.toArray:=by
     apply bg;simpa using e1
    obtain⟨g',st',h5,h6⟩:=PA h (cs:=cs.toArray) (t:=e) (n:=n) (by simp) (fun e he=>by
      obtain⟨u,_,rfl⟩:=aG.1 he;trivial) (fun j e x hj hx=>by
      rw[aI,aS]at hj;obtain⟨u,hu,rfl⟩:=hj;simp only[EV.val,aa]at hx;subst hx;simpa using hu) hk
    refine kK ?_ (hK _ _ _ _ h6 h5);have hz:zv (n * ti.size) ti.zero=((Array.range (n * ti.size)).map (z.cells[· % z.cells.size]!)).toList:=by
     unfold zv;rw[←j3];simp
    have e3:sN (fun i=>some (i * ti.size,ti.size)) ((Array.range (n * ti.size)).map (z.cells[· % z.cells.size]!)).toList xs=some cs:=by rw[←hz];exact hf
    have e4:=xB _ (fun i=>some (i * ti.size,ti.size)) (fun i x hx=>hx) xs _ cs e3;simp only[execOp,ho,e2];simp only[Instr.buildSlice,run_bind,fh hu,run_sizeOf htb hi,aY (show¬n * ti.size>2 ^ 24 by omega),run_pure];have e5: ∀w,(zeroValue e).run P w= .ok z w:=fun w=>by simp[zeroValue,typeInfo,j1,j2]
    by_cases h0:n * ti.size=0
    ·have e6:(Array.range (n * ti.size)).map ((#[]:Array Value)[· % (#[]:Array Value).size]!)=(Array.range (n * ti.size)).map (z.cells[· % z.cells.size]!):=by rw[h0];simp
     simp only[aZ h0,run_bind,run_pure];rw[e6];simp only[e4];rfl
    simp only[aY h0,run_bind,e5,run_pure];simp only[e4];rfl
 exact hk.elim
theorem L1 (htb:gZ P tb){c:Ctx}{g:fa}{st:St}{a:Act}{w:World}(h:fF c N g st a w){o:Oper}{t:TypeId}(ho:o.op= .alloc t){K:fa→St→Prop}{Q:Exit→Act→World→Prop}{K':Act→World→Prop}
  (hK: ∀g' st' a' w',fF c N g' st' a' w'→K g' st'→K' a' w') (hk:tI N o.dst K g t st (tb t)):o.wp P a w K' Q:=by
 cases hi:tb t with
 | none=>simp[hi,tI]at hk
 | some i=>
  rw[hi]at hk;simp only[tI]at hk;obtain⟨info,j1,_,_,z,j2,j3⟩:=(htb t i hi).info;have hl:z.cells.size=(i.zero.map EV.v).length:=by rw[ab,←j3];simp
  obtain⟨g',st',h5,h6⟩:=Ig h (cs:=z.cells) (t:=t) hl (fun e he=>by
    obtain⟨u,_,rfl⟩:=aG.1 he;trivial) (fun j e x hj hx=>by
    rw[aI,aS]at hj;obtain⟨u,hu,rfl⟩:=hj;simp only[EV.val,aa]at hx;subst hx;rw[←j3]at hu;simpa using hu) hk
  refine kK ?_ (hK _ _ _ _ h6 h5);simp only[execOp,ho,Instr.alloc,zeroValue,typeInfo,run_bind];have hp:(program:Sem Program).run P w= .ok P w:=rfl;simp only[hp,j1,run_pure,j2];rfl
theorem jd {rs:RL}{id k:Nat}{r':kj}:fR (qM rs id r') k=if k=id then (fR rs id).map fun _=>r' else fR rs k:=by
 induction rs with
 | nil=>simp[qM,fR]
 | cons p rs ih=>
  obtain⟨m,r⟩:=p;simp only[qM];by_cases hm:id=m
  ·subst hm;simp only[Nat.beq_refl];rw[e8,e8,e8];by_cases hk:k=id
   ·simp[hk]
   simp[hk]
  rw[show Nat.beq id m=false from (by cases hb:Nat.beq id m with | false=>rfl | true=>exact absurd (dg hb) hm)];simp only[];rw[e8,ih,e8,e8];by_cases hk:k=m
  ·subst hk;rw[aZ rfl,aY (fun e=>hm e.symm),aZ rfl]
  rw[aY hk,aY hm,aY hk]
theorem yO {rs:RL}{id:Nat}{r r':kj}(hr:fR rs id=some r)(hb:r'.gl=r.gl)(e:EV):e.val (qM rs id r')=e.val rs:=by
 cases e with
 | v x=>rfl
 | loc k o=>
  simp only[EV.val,jd];by_cases hk:k=id
  ·subst hk;simp[hr,hb]
  simp[hk]
 | row k n c=>
  simp only[EV.val,jd];by_cases hk:k=id
  ·subst hk;simp[hr,hb]
  simp[hk]
theorem r7 {c:Ctx}{g:fa}{env:Env}{F:Hp}{rs:RL}{nx:Nat}{a:Act}{w:World}(h:fF c N g ⟨env,F,rs,nx⟩ a w){id b off:Nat}{r:kj}(hr:fR rs id=some r)(hb:r.gl=some b){es:List EV}{vs:List Value}(hlen:vs.length=es.length)(hfit:off+es.length≤r.cells.length)
  (hlt: ∀e∈es,e.lt nx) (hes: ∀(j:Nat) (e:EV) (x:Value),es[j]? =some e→e.val rs=some x→vs[j]? =some x) {cur:Array Value} (qB:w.heap[b]? =some (.cells cur r.ty (0,0))):
  fF c N g ⟨env,F,qM rs id ⟨r.gl,r.cells.take off++es++r.cells.drop (off+es.length),r.ty,r.cap⟩,nx⟩ a (w.setRow b (cur.toList.take off++vs++cur.toList.drop (off+vs.length)).toArray):=by
 have hval:=fun e=>yO (r':=⟨r.gl,r.cells.take off++es++r.cells.drop (off+es.length),r.ty,r.cap⟩) hr rfl e;have hown:=h.fO.own.own id r hr;rw[hb]at hown;obtain⟨o1,o2,cur',o3,o4,o5⟩:=hown;rw[qB]at o3;simp only[aa,Obj.cells.injEq]at o3;obtain⟨rfl,_,_⟩:=o3;have hsz:(w.setRow b (cur.toList.take off++vs++cur.toList.drop (off+vs.length)).toArray).heap.size=w.heap.size:=by simp[World.setRow]
 have hoth: ∀k,k≠b→(w.setRow b (cur.toList.take off++vs++cur.toList.drop (off+vs.length)).toArray).heap[k]? =w.heap[k]? :=fun k hk=>setRow_other w b k _ hk;have hp:g9 [b] w (w.setRow b (cur.toList.take off++vs++cur.toList.drop (off+vs.length)).toArray):=⟨rfl,rfl,rfl,by rw[hsz];exact ah _,fun k _ hk=>hoth k (by simpa using hk)⟩;exact {
  size:=h.size
  defers:=h.defers
  fO:={
   le:=fun k o e=>by
    have hkb:k≠b:=by rintro rfl;rw[o1]at e;cases e
    rw[hoth k hkb];exact h.fO.le k o e
   own:={
    own:=fun k s hs=>by
     rw[jd]at hs;split at hs
     ·rw[hr]at hs;simp only[aJ,aa]at hs;subst hs;split
      ·rename_i hn;exact absurd (hb.symm.trans hn) (by simp)
      rename_i b0 hb0;obtain rfl:b=b0:=by
       have:=hb.symm.trans hb0;simpa using this
      refine⟨o1,by simp only[ag,aw,aR];omega,_,setRow_heap w b cur _ _ _ qB,?_,fun j ev x hj hx=>?_⟩
      ·simp only[c8,ag,aw,aR,bj];omega
      have hx':ev.val rs=some x:=by rw[←hval ev];exact hx
      simp only[cC];rw[bM,cj]at hj ⊢;simp only[aw,bj]at hj ⊢;have e1:min off r.cells.length=off:=by omega
      have e2:min off cur.size=off:=by omega
      rw[e1]at hj;rw[e2];split
      ·rename_i hlo;rw[aZ hlo,cB,aZ hlo]at hj;rw[cB,aZ hlo];simpa using o5 j ev x hj hx'
      rename_i hlo;rw[aY hlo]at hj;rw[cj]at hj ⊢;rw[hlen];split
      ·rename_i hmid;rw[aZ hmid]at hj;exact hes _ ev x hj hx'
      rename_i hmid;rw[aY hmid,cu]at hj;rw[cu];have e3:off+es.length+(j - off - es.length)=j:=by omega
      rw[e3]at hj ⊢;simpa using o5 j ev x hj hx'
     rename_i hk;have h1:=h.fO.own.own k s hs;cases hsb:s.gl with
     | none=>rw[hsb]at h1;exact h1
     | some b'=>
      rw[hsb]at h1;obtain⟨g1,g2,cur',g3,g4,g5⟩:=h1;have hbb:b'≠b:=by
       rintro rfl;exact hk (h.fO.own.apart k id s r _ hs hr hsb hb)
      refine⟨g1,g2,cur',by rw[hoth _ hbb];exact g3,g4,fun j ev x hj hx=>g5 j ev x hj ?_⟩;rw[←hval ev];exact hx
    apart:=fun i j s t b' hi hj hs ht=>by
     rw[jd]at hi hj;have conv: ∀{k:Nat} {s:kj},(if k=id then (fR rs id).map fun _=>(⟨r.gl,r.cells.take off++es++r.cells.drop (off+es.length),r.ty,r.cap⟩:kj) else fR rs k)=some s→s.gl=some b'→∃s',fR rs k=some s'∧s'.gl=some b':=by
      intro k s hk hsb;split at hk
      ·rename_i rS;rw[hr]at hk;simp only[aJ,aa]at hk;subst hk;subst rS;exact⟨r,hr,hsb⟩
      exact⟨s,hk,hsb⟩
     obtain⟨s',hs1,hs2⟩:=conv hi hs;obtain⟨t',ht1,ht2⟩:=conv hj ht;exact h.fO.own.apart i j s' t' b' hs1 ht1 hs2 ht2 }
   il:=h.fO.il.trans' hp (fun y hy=>by
    simp only[aB]at hy;subst hy;exact .inr (h.fO.new id r _ hr (.inl hb)))
   new:=fun k s b' hs hsb=>by
    rw[jd]at hs;split at hs
    ·rw[hr]at hs;simp only[aJ,aa]at hs;subst hs;exact h.fO.new id r b' hr (kj.Dk hb hsb rfl)
    exact h.fO.new k s b' hs hsb
   jT:=h.fO.jT
   sz:=dk h.fO.sz hp.size
   tp:=h.fO.tp }
  gI:={
   sub:=h.gI.sub
   kT:=h.gI.kT
   succ:=fun k s hk hs=>by
    rw[jd]at hs;split at hs
    ·rename_i rS;subst rS;rw[hr]at hs;simp only[aJ,aa]at hs;subst hs;exact h.gI.succ k r hk hr
    exact h.gI.succ k s hk hs }
  gS:=fun k s hs=>by
   simp only[jd]at hs;split at hs
   ·rename_i rS;rw[hr]at hs;simp only[aJ,aa]at hs;subst hs;subst rS;obtain⟨h1,h2⟩:=h.gS k r hr;refine⟨h1,fun e he=>?_⟩;simp only[aK]at he;rcases he with (he | he) | he
    ·exact h2 e (cV he)
    ·exact hlt e he
    exact h2 e (cU he)
   exact h.gS k s hs
  ids:=h.ids
  env:=fun n e x hg he hx=>by
   simp only[hval]at hx;exact h.env n e x hg he hx
  gv:=fun n ch e hg=>by
   obtain⟨h1,h2,h3,h4⟩:=h.gv n ch e hg;refine⟨fun hA=>⟨fun x hx=>(h1 hA).1 x ?_,(h1 hA).2⟩,h2,h3,h4⟩;simp only[hval]at hx;exact hx }
theorem tR {rs:RL}{e:EV}{x:Value}(h:one e=true)(hx:e.val rs=some x):x.oneCell'=true:=by
 cases e with
 | v y=>
  simp only[EV.val,aa]at hx;subst hx;cases y<;>first | rfl | simp[one]at h
 | loc id o=>
  simp only[EV.val]at hx;split at hx
  ·split at hx
   ·simp only[aa]at hx;subst hx;rfl
   simp at hx
  simp at hx
 | row id o n c=>
  simp only[EV.val]at hx;split at hx
  ·simp only[aa]at hx;subst hx;rfl
  simp at hx
theorem LI (htb:gZ P tb){c:Ctx}{g:fa}{st:St}{a:Act}{w:World}(h:fF c N g st a w){o:Oper}{t:TypeId}{x y:Operand}(ho:o.op= .store t x y){K:fa→St→Prop}{Q:Exit→Act→World→Prop}{K':Act→World→Prop}(hd:o.dst=none)
  (hK: ∀g' st' a' w',fF c N g' st' a' w'→K g' st'→K' a' w') (hk:uU K g st (tb t) (gL st.rs g st.env [] x) (gL st.rs g st.env [] y)):o.wp P a w K' Q:=by
 unfold uU at hk;split at hk
 ·rename_i i id off e hi hx hy;obtain⟨env,F,rs,nx⟩:=st;cases hr:fR rs id with
  | none=>simp[hr,uC]at hk
  | some r=>
   simp only[hr,uC]at hk;obtain⟨hl,hone,hfit,hk⟩:=hk;have e1:=gO h (iR a) _ _ hx;have e2:=gO h (iR a) _ _ hy;have hlt:=CH h [] _ _ hy;simp only[EV.val,hr]at e1;split at e1
   ·rename_i b hb;simp only[aa]at e1;obtain⟨c1,c2,c3,c4⟩:=tN e2;have hown:=h.fO.own.own id r hr;rw[hb]at hown;obtain⟨o1,o2,cur,o3,o4,o5⟩:=hown;have hs:=r7 h hr hb (es:=cellsOf e) (vs:=(a.eval y).cells.toList) (off:=off) (by simpa using c1) (by rw[hl];exact hfit) (c3 _ hlt) (fun j e' u hj hu=>by simpa using c2 j e' u hj hu) o3;have hone': ∀u∈(a.eval y).cells.toList,u.oneCell'=true:=fun u hu=>by
     obtain⟨j,hj⟩:=cA hu;obtain⟨e',he',hv'⟩:=c4 j u (by simpa using hj);exact tR (List.all_eq_true.1 hone e' (cT he')) hv'
    have hrun:=run_storeCells_at (P:=P) b off r.ty (a.eval y).cells.toList 0 cur w o3 (by simp only[df,bj,c1,hl];omega) hone';simp only[df]at hrun;have hput:a.put o.dst undef=a:=by rw[hd];rfl
    unfold Oper.wp;have hex:(execOp a.eval o).run P w= .ok .skip (w.setRow b (cur.toList.take off++(a.eval y).cells.toList++cur.toList.drop (off+(a.eval y).cells.toList.length)).toArray):=by
     simp only[execOp,ho,Instr.storeAt,←e1,Instr.sureAddr,run_bind,run_pure,storeVar,run_sizeOf htb hi];rw[aY (by rw[c1,hl];simp)];simp only[hrun]
    rw[hex];show K' (a.put o.dst undef) _;rw[hput];refine hK _ _ _ _ hs ?_;rw[hl];exact hk
   simp at e1
 exact hk.elim
end
end Go.TR
