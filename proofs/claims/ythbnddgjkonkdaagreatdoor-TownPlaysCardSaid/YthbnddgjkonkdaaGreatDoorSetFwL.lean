/- A part of the proof. -/
import Derived.Test.YthbnddgjkonkdaaGreatDoorSetQueue
import Derived.Test.YthbnddgjkonkdaaGreatDoorSetHead
import Derived.Test.YthbnddgjkonkdaaGreatDoorSetDiv
import Derived.Lib.AppendZerosOnto
import Derived.Lib.Overlaps
set_option linter.unusedVariables false
set_option linter.unusedSimpArgs false
namespace Go.Proofs.YthbnddgjkonkdaaGreatDoor
section
open Go.TR
open Go.Op (bytesLess)
theorem CK: ∀a:List UInt8,bytesLess a a=false
 | []=>rfl
 | a::x=>by
  unfold bytesLess;rw[CK x];simp
theorem GD: ∀a b:List UInt8,bytesLess a b=false→a≠b→bytesLess b a=true
 | [],[],_,h=>absurd rfl h
 | [],_::_,h,_=>by cases h
 | _::_,[],_,_=>rfl
 | a::x,b::y,h,hn=>by
  unfold bytesLess at h ⊢;simp only[aQ,aU,bn,dA]at h;obtain⟨h1,h2⟩:=h;by_cases hab:a=b
  ·subst hab;have h3:bytesLess x y=false:=by
    rcases h2 with h2 | h2
    ·exact absurd rfl h2
    exact h2
   have:x≠y:=fun e=>hn (by rw[e]);simp[GD x y h3 this]
  have:b<a:=by
   rcases UInt8.lt_or_lt_of_ne hab with h | h
   ·exact absurd h h1
   exact h
  simp[this]
theorem yy: ∀a b c:List UInt8,bytesLess a b=true→bytesLess b c=true→bytesLess a c=true
 | [],[],_,h,_=>by cases h
 | _::_,[],_,h,_=>by cases h
 | _,_::_,[],_,h=>by cases h
 | [],_::_,_::_,_,_=>rfl
 | a::x,b::y,c::z,h,k=>by
  unfold bytesLess at h k ⊢;simp only[bD,av,aL,beq_iff_eq]at h k ⊢;rcases h with h | ⟨rfl,h⟩
  ·rcases k with k | ⟨rfl,k⟩
   ·exact .inl (UInt8.lt_trans h k)
   exact .inl h
  rcases k with k | ⟨rfl,k⟩
  ·exact .inl k
  exact .inr ⟨rfl,yy x y z h k⟩
def zI (n:Nat):UInt8:=UInt8.ofNat (48+n % 2)
def oq:Nat→Nat→List UInt8
 | 0,_=>[]
 | k+1,n=>oq k (n / 2)++[zI n]
theorem mQ: ∀k n,(oq k n).length=k
 | 0,_=>rfl
 | k+1,n=>by unfold oq;rw[ag,mQ k];rfl
theorem vo: ∀(k n i:Nat)(h:i<k),(oq k n)[i]'(by rw[mQ];exact h)=zI (n / 2 ^ (k - 1 - i))
 | 0,_,_,h=>by omega
 | k+1,n,i,h=>by
  have hl:=mQ k (n / 2);simp only[oq];by_cases hi:i<k
  ·rw[List.getElem_append_left (by rw[hl];exact hi),vo k (n / 2) i hi,Nat.div_div_eq_div_mul];congr 2;rw[←Nat.pow_succ'];congr 1;omega
  have:i=k:=by omega
  subst this;rw[List.getElem_append_right (by rw[hl];exact ah _)];have h0:i+1 - 1 - i=0:=by omega
  simp[hl,h0]
def ej (s:List UInt8):List UInt8:=oq 16 (gg s)
theorem jJ (s:List UInt8):(ej s).length=16:=mQ _ _
def jS (s:List UInt8):List UInt8:=if eL s=true then ej s else []
def ahead (a b:List UInt8):Bool:=bytesLess (ej a) (ej b)||(decide (ej a=ej b)&&bytesLess a b)
theorem jl (a:List UInt8):ahead a a=false:=by unfold ahead;rw[CK,CK];simp
theorem ll {a b c:List UInt8}(h:ahead a b=true)(k:ahead b c=true):ahead a c=true:=by
 unfold ahead at *;simp only[bD,aL,av]at *;rcases h with h | ⟨e,h⟩
 ·rcases k with k | ⟨e',k⟩
  ·exact .inl (yy _ _ _ h k)
  exact .inl (by rw[←e'];exact h)
 rcases k with k | ⟨e',k⟩
 ·exact .inl (by rw[e];exact k)
 exact .inr ⟨e.trans e',yy _ _ _ h k⟩
theorem xL {a b:List UInt8}(h:ahead a b=true):ahead b a=false:=by
 by_cases k:ahead b a=true
 ·have:=ll h k;rw[jl]at this;cases this
 simpa using k
theorem va {a b:List UInt8}(h:ahead a b=false)(hn:a≠b):ahead b a=true:=by
 unfold ahead at *;simp only[aQ,bn,aU,bD,aL,av]at *;obtain⟨h1,h2⟩:=h;by_cases e:ej a=ej b
 ·refine .inr ⟨e.symm,?_⟩;rcases h2 with h2 | h2
  ·exact absurd e h2
  exact GD _ _ h2 hn
 exact .inl (GD _ _ h1 e)
def zg (a b:List UInt8):Int:=if bytesLess a b=true then -1 else if a=b then 0 else 1
def kN (a b:List UInt8):Int:=if zg (jS a) (jS b)≠0 then zg (jS a) (jS b) else zg a b
theorem oD {a b:List UInt8}(ha:eL a=true)(hb:eL b=true):kN a b=if ahead a b=true then -1 else if a=b then 0 else 1:=by
 unfold kN jS ahead zg;rw[aZ ha,aZ hb];by_cases h1:bytesLess (ej a) (ej b)=true
 ·simp[h1]
 by_cases h2:ej a=ej b
 ·simp[h2,CK]
 have:a≠b:=fun e=>h2 (by rw[e]);simp[h1,h2,this]
structure Entry where
 name:List UInt8
 value:List UInt8
deriving DecidableEq
@[reducible] def Entry.row (x:Entry):List Value:=[S x.name,S x.value]
@[reducible] def Entry.v (x:Entry):Value:=.agg #[S x.name,S x.value]
theorem eI (x:Entry):x.row.length=2:=rfl
structure Entry.wf (x:Entry):Prop where
 name:x.name.length≤4611686018427387904
 value:x.value.length≤4611686018427387904
theorem iK (l:List Entry): ∀x∈l.flatMap Entry.row,one (.v x)=true:=fun x hx=>by
 obtain⟨a,_,ha⟩:=List.mem_flatMap.1 hx;simp only[Entry.row,aT,cZ,dE]at ha;rcases ha with rfl | rfl<;>rfl
def lK:Option (List UInt8)→List Entry→Int
 | _,[]=>0
 | p,x::t=>if eJ x.name x.value≠0 then eJ x.name x.value else if p.any (fun p=> !ahead p x.name)=true then 3 else lK (some x.name) t
def dV (l:List Entry):Int:=if 24<l.length then 2 else lK none l
def nO (l:List Entry):Nat→Option (List UInt8)
 | 0=>none
 | k+1=>l[k]?.map Entry.name
theorem yp {l:List Entry}{k:Nat}(h:k<l.length):lK (nO l k) (l.drop k)=if eJ l[k].name l[k].value≠0 then eJ l[k].name l[k].value else if (nO l k).any (fun p=> !ahead p l[k].name)=true then 3 else lK (nO l (k+1)) (l.drop (k+1)):=by
 have e:nO l (k+1)=some l[k].name:=by
  show l[k]?.map Entry.name=_;rw[ao h];rfl
 rw[aO h,e];rfl
theorem xF: ∀{l:List Entry}{p:Option (List UInt8)},lK p l=0→∀x∈l,eL x.name=true∧x.value.length≤20
 | [],_,_=>by simp
 | a::l,p,h=>fun x hx=>by
  unfold lK at h;split at h
  ·rename_i h1;exact absurd h h1
  rename_i h1;split at h
  ·cases h
  rcases aT.1 hx with rfl | hx
  ·exact sC (by simpa using h1)
  exact xF h x hx
theorem fL {l:List Entry}(h:dV l=0):l.length≤24∧(∀x∈l,eL x.name=true∧x.value.length≤20)∧lK none l=0:=by
 unfold dV at h;split at h
 ·cases h
 exact⟨by omega,xF h,h⟩
theorem yg: ∀{l:List Entry}{p:Option (List UInt8)},lK p l=0→(∀q,p=some q→∀x∈l,ahead q x.name=true)∧List.Pairwise (fun a b=>ahead a.name b.name=true) l
 | [],_,_=>⟨fun _ _ x hx=>(by cases hx),List.Pairwise.nil⟩
 | a::l,p,h=>by
  unfold lK at h;split at h
  ·rename_i h1;exact absurd h h1
  split at h
  ·cases h
  rename_i _ h2;obtain⟨i1,i2⟩:=yg h;have ha: ∀q,p=some q→ahead q a.name=true:=fun q e=>by subst e;simpa using h2
  refine⟨fun q e x hx=>?_,List.Pairwise.cons (fun x hx=>i1 _ rfl x hx) i2⟩;rcases aT.1 hx with rfl | hx
  ·exact ha q e
  exact ll (ha q e) (i1 _ rfl x hx)
end
section
open Go.TR
def BM (l:List (List UInt8)):Prop:=List.Pairwise (fun a b=>ahead a b=true) l
def Aa (x:List UInt8):List (List UInt8)→List (List UInt8)
 | []=>[x]
 | y::t=>if ahead x y=true then x::y::t else if x=y then y::t else y::Aa x t
def kU:List (List UInt8)→List (List UInt8)
 | []=>[]
 | x::t=>Aa x (kU t)
theorem zN (x:List UInt8): ∀(l:List (List UInt8)) (s:List UInt8),s∈Aa x l ↔ s=x∨s∈l
 | [],s=>by simp[Aa]
 | y::t,s=>by
  unfold Aa;split
  ·simp
  split
  ·rename_i h;subst h;simp
  rw[aT,zN x t,aT];constructor
  ·rintro (h | h | h)
   ·exact .inr (.inl h)
   ·exact .inl h
   exact .inr (.inr h)
  rintro (h | h | h)
  ·exact .inr (.inl h)
  ·exact .inl h
  exact .inr (.inr h)
theorem AF (x:List UInt8): ∀(l:List (List UInt8)),BM l→BM (Aa x l)
 | [],_=>List.pairwise_singleton _ _
 | y::t,h=>by
  obtain⟨h1,h2⟩:=List.pairwise_cons.1 h;unfold Aa;split
  ·rename_i h3;exact List.Pairwise.cons (fun s hs=>by
    rcases aT.1 hs with rfl | hs
    ·exact h3
    exact ll h3 (h1 s hs)) h
  split
  ·exact h
  rename_i h3 h4;refine List.Pairwise.cons (fun s hs=>?_) (AF x t h2);rcases (zN x t s).1 hs with rfl | hs
  ·exact va (by simpa using h3) h4
  exact h1 s hs
theorem mD: ∀(l:List (List UInt8))(s:List UInt8),s∈kU l ↔ s∈l
 | [],s=>by simp[kU]
 | x::t,s=>by
  unfold kU;rw[zN,mD t,aT]
theorem pQ: ∀l:List (List UInt8),BM (kU l)
 | []=>List.Pairwise.nil
 | x::t=>AF x _ (pQ t)
theorem Ii: ∀{a b:List (List UInt8)},BM a→BM b→(∀s,s∈a ↔ s∈b)→a=b
 | [],[],_,_,_=>rfl
 | [],y::t,_,_,h=>by simpa using h y
 | x::t,[],_,_,h=>by simpa using h x
 | x::t,y::u,ha,hb,h=>by
  obtain⟨a1,a2⟩:=List.pairwise_cons.1 ha;obtain⟨b1,b2⟩:=List.pairwise_cons.1 hb;have hxy:x=y:=by
   rcases aT.1 ((h x).1 (by simp)) with e | e
   ·exact e
   rcases aT.1 ((h y).2 (by simp)) with e' | e'
   ·exact e'.symm
   have:=xL (a1 y e');rw[b1 x e]at this;cases this
  subst hxy;refine a8 (x:: ·) (Ii a2 b2 fun s=>?_);constructor
  ·intro hs;rcases aT.1 ((h s).1 (cO _ hs)) with e | e
   ·subst e;have:=a1 s hs;rw[jl]at this;cases this
   exact e
  intro hs;rcases aT.1 ((h s).2 (cO _ hs)) with e | e
  ·subst e;have:=b1 s hs;rw[jl]at this;cases this
  exact e
theorem Ev (x:List UInt8): ∀l:List (List UInt8),(Aa x l).length≤l.length+1
 | []=>by simp[Aa]
 | y::t=>by
  have:=Ev x t;unfold Aa;split
  ·simp
  split<;>simp only[aH]<;>omega
theorem tT: ∀l:List (List UInt8),(kU l).length≤l.length
 | []=>ah _
 | x::t=>by
  have h1:=Ev x (kU t);have h2:=tT t;unfold kU;rw[aH];omega
def behind (p:Option (List UInt8))(s:List UInt8):Bool:=p.all fun q=>ahead q s
def mo (p:Option (List UInt8))(b:Option (List UInt8))(s:List UInt8):Option (List UInt8):=if behind p s=true∧(b.all fun q=>ahead s q)=true then some s else b
def mv (p:Option (List UInt8))(l:List (List UInt8)):Option (List UInt8):=l.foldl (mo p) none
theorem yk (p:Option (List UInt8)){l:List (List UInt8)}{k:Nat}(h:k<l.length):mv p (l.take (k+1))=mo p (mv p (l.take k)) l[k]:=by
 unfold mv;rw[al h,List.foldl_append];rfl
theorem qx (p:Option (List UInt8)): ∀(l:List (List UInt8)) (b:Option (List UInt8)),
  (∀q,b=some q→behind p q=true)→(match l.foldl (mo p) b with
   | none=>b=none∧ ∀s∈l,behind p s=false
   | some q=>(b=some q∨q∈l)∧behind p q=true∧(∀r,b=some r→ahead r q=false)∧ ∀s∈l,behind p s=true→ahead s q=false)
 | [],b,hb=>by
  cases b with
  | none=>exact⟨rfl,fun s hs=>by cases hs⟩
  | some q=>exact⟨.inl rfl,hb q rfl,fun r e=>by cases e;exact jl _,fun s hs=>by cases hs⟩
 | s::t,b,hb=>by
  rw[List.foldl_cons];by_cases h:behind p s=true∧(b.all fun q=>ahead s q)=true
  ·have e:mo p b s=some s:=by unfold mo;rw[aZ h]
   have ih:=qx p t (some s) (fun q e=>by cases e;exact h.1);rw[e];cases hr:t.foldl (mo p) (some s) with
   | none=>rw[hr]at ih;exact absurd ih.1 (by simp)
   | some q=>
    rw[hr]at ih;obtain⟨i1,i2,i3,i4⟩:=ih;have YP:=i3 s rfl;refine⟨?_,i2,fun r er=>?_,fun u hu hbu=>?_⟩
    ·rcases i1 with i1 | i1
     ·cases i1;exact .inr (by simp)
     exact .inr (cO _ i1)
    ·subst er;have h2:ahead s r=true:=by simpa using h.2
     by_cases h3:ahead r q=true
     ·rw[ll h2 h3]at YP;cases YP
     simpa using h3
    rcases aT.1 hu with rfl | hu
    ·exact YP
    exact i4 u hu hbu
  have e:mo p b s=b:=by unfold mo;rw[aY h]
  have ih:=qx p t b hb;rw[e];cases hr:t.foldl (mo p) b with
  | none=>
   rw[hr]at ih;obtain⟨rfl,i2⟩:=ih;refine⟨rfl,fun u hu=>?_⟩;rcases aT.1 hu with rfl | hu
   ·simpa using h
   exact i2 u hu
  | some q=>
   rw[hr]at ih;obtain⟨i1,i2,i3,i4⟩:=ih;refine⟨?_,i2,i3,fun u hu hbu=>?_⟩
   ·rcases i1 with i1 | i1
    ·exact .inl i1
    exact .inr (cO _ i1)
   rcases aT.1 hu with rfl | hu
   ·cases b with
    | none=>exact absurd ⟨hbu,rfl⟩ h
    | some r=>
     have h2:ahead u r=false:=by
      by_cases h3:ahead u r=true
      ·exact absurd ⟨hbu,by simpa using h3⟩ h
      simpa using h3
     have h4:=i3 r rfl;by_cases h5:ahead u q=true
     ·by_cases h6:u=r
      ·subst h6;rw[h5]at h4;cases h4
      have:=ll (va h2 h6) h5;rw[this]at h4;cases h4
     simpa using h5
   exact i4 u hu hbu
theorem Hs (l:List (List UInt8))(k:Nat):mv (if k=0 then none else (kU l)[k - 1]?) l=(kU l)[k]? ∨(kU l).length<k:=by
 by_cases hk:(kU l).length<k
 ·exact .inr hk
 left;have hr:=pQ l;have hm:=mD l;generalize kU l=L at *;have SO: ∀(i:Nat) (h:i<L.length),behind (if k=0 then none else L[k - 1]?) L[i]=decide (k≤i):=fun i h=>by
  by_cases h0:k=0
  ·rw[aZ h0,h0];simp[behind]
  rw[aY h0,ao (by omega)];simp only[behind,Option.all_some];by_cases hi:k≤i
  ·rw[aW hi];exact c7.1 hr (k - 1) i (by omega) h (by omega)
  rw[aX hi];by_cases he:i=k - 1
  ·subst he;exact jl _
  exact xL (c7.1 hr i (k - 1) h (by omega) (by omega))
 have key:=qx (if k=0 then none else L[k - 1]?) l none (fun q h=>by cases h);unfold mv;cases hb:l.foldl (mo (if k=0 then none else L[k - 1]?)) none with
 | none=>
  rw[hb]at key;by_cases hlt:k<L.length
  ·have h1:=key.2 L[k] ((hm _).1 (aj hlt));rw[SO k hlt]at h1;simp at h1
  rw[cy (by omega)]
 | some q=>
  rw[hb]at key;obtain⟨k1,k2,_,k4⟩:=key;have hq:q∈L:=by
   rcases k1 with k1 | k1
   ·cases k1
   exact (hm _).2 k1
  obtain⟨i,hi,rfl⟩:=cE hq;rw[SO i hi]at k2;have hki:k≤i:=ar k2;have h3:=k4 L[k] ((hm _).1 (aj (by omega))) (by rw[SO k (by omega)];exact aW (ah _));have:i=k:=by
   by_cases he:i=k
   ·exact he
   have:=c7.1 hr k i (by omega) hi (by omega);rw[this]at h3;cases h3
  subst this;rw[ao hi]
end
end Go.Proofs.YthbnddgjkonkdaaGreatDoor
namespace Go.TR
section
open Go
theorem iQ {P:Program}{tb:Tb}(htb:gZ P tb)(hm:P.follows .mixedOrders=true){f:FuncId}{fn:Func}(hf:P.funcs[f]? =some fn){code:Code}(hb:fn.body=some code){N:Nat}(hn:fn.ntmps=N){rv:List ResultVar}(hr:fn.results.toList=rv){args:List EV}{env:Env}(he:q7 0 args=env)
  (hN:Nat.ble args.length N=true) {F:Hp} {rs:RL} {nx:Nat} {Q:EV→Hp→RL→Nat→Prop} (h:vc P tb N code (gw N tb rv Q) ⟨env,F,rs,nx⟩):eR P F rs nx f args Q:=by
 subst hn hr he;exact tQ htb hm hf hb hN h
section
variable {P:Program} {tb:Tb} {N:Nat} {all rest:List Oper} {K:fa→St→Prop}
theorem om {d:Nat}{f:Operand}{args:Array Operand}{ts:Array TypeId}{n:FuncId}{first captured:Array Value}{es qs:List EV}{ty:TypeId}{pos:String}{af:Array Edge}{env:Env}{F:Hp}{rs:RL}{nx:Nat}{Q:EV→Hp→RL→Nat→Prop}
  (hf:gL rs [] env [] f=some (.v (.func (.func n) first captured))) (he:F8 (gL rs [] env []) args.toList=some es) (ha:first.toList.map EV.v++es++captured.toList.map EV.v=qs) (hb:dH P n) (hd:Nat.blt d N=true) (hc:eR P F rs nx n qs Q)
  (k: ∀e F' rs' nx',True→nx≤nx'→Q e F' rs' nx'→dT P tb N false all rest K [] ⟨(d,e)::env,F',rs',nx'⟩):
  dT P tb N false all (⟨some d,.call ⟨.value f,args,ts⟩,ty,pos,af,none⟩::rest) K [] ⟨env,F,rs,nx⟩:=by
 have hd':d<N:=by simpa using hd
 subst ha;refine .inr (.inl ⟨rfl,?_⟩);simp only[Nn,hf,he,Me];refine⟨hb,Q,hc,fun e F' rs' nx' h1 h2 h=>?_⟩;simp only[vq,ig];exact⟨hd',k e F' rs' nx' h1 h2 h⟩
theorem NS {z:Array Value}{n:Nat}(h0:0<z.size)(hz:z.toList.all (·.oneCell')=true): ∀v∈(Builtin.zeroCells z n).toList,v.oneCell'=true:=fun v hv=>by
 simp only[Builtin.zeroCells,Array.toList_map,aG]at hv;obtain⟨i,_,rfl⟩:=hv;have hlt:i % z.size<z.size:=dp _ h0;have hm:z[i % z.size]! ∈z.toList:=by
  rw[getElem!_pos z (i % z.size) hlt];simp
 exact List.all_eq_true.1 hz _ hm
theorem Al {t e ty:TypeId}{i:TypeInfo}{z:Value}(ht:P.underlying t=some (.slice e))(hi:P.info? e=some i)(hz:i.zero=some z)(h0:0<z.cells.size)(h1:z.cells.toList.all (·.oneCell')=true)(w:World)(b o n c:Nat){cur:Array Value}{tc:TypeId}(qB:w.heap[b]? =some (.cells cur tc (0,0)))(hfit:o+n * z.cells.size≤cur.size):
  (Builtin.clear_ #[t] ty #[.slice (some ⟨b,o,none⟩) n c]).run P w= .ok (.tuple #[]) (w.setRow b (cur.toList.take o++(Builtin.zeroCells z.cells n).toList++cur.toList.drop (o+(Builtin.zeroCells z.cells n).toList.length)).toArray):=by
 have hl:(Builtin.zeroCells z.cells n).toList.length=n * z.cells.size:=by rw[bj,size_zeroCells]
 cases n with
 | zero=>
  have hnil:(Builtin.zeroCells z.cells 0).toList=[]:=aq (by rw[hl,dv]);rw[hnil];simp only[bT,cH,df,List.take_append_drop,Array.toArray_toList];rw[setRow_self w b cur tc (0,0) qB];simp[Builtin.clear_,run_underlying ht]
 | succ m=>
  have hst:=run_storeCells_at (P:=P) b o tc (Builtin.zeroCells z.cells (m+1)).toList 0 cur w qB (by rw[hl];omega) (NS h0 h1);simp only[df]at hst;simp[Builtin.clear_,run_underlying ht,zeroValue,typeInfo,hi,hz,hst]
theorem O9 {x:Operand}{t e:TypeId}{ty:TypeId}{pos:String}{af:Array Edge}{env:Env}{F:Hp}{rs:RL}{nx id o n c b cap:Nat}{cells:List EV}{xD:TypeId}{ti:TI}(htb:gZ P tb)(ht:tk tb t=some (.slice e))(hi:tb e=some ti)(h0:(Nat.blt 0 ti.zero.length&&ti.zero.all (·.oneCell'))=true)
  (hx:gL rs [] env [] x=some (.row id o n c)) (hr:fR rs id=some ⟨some b,cells,xD,cap⟩) (rs':List Value→RL) (hrs: ∀vs,iq (qM rs id ⟨some b,cells.take o++vs.map EV.v++cells.drop (o+n * ti.zero.length),xD,cap⟩)=some (rs' vs)) (hfit:o+n * ti.zero.length≤cells.length)
  (k: ∀vs:List Value,vs.length=n * ti.zero.length→dT P tb N false all rest K [] ⟨env,F,rs' vs,nx⟩):
  dT P tb N false all (⟨none,.call ⟨.builtin .clear,#[x],#[t]⟩,ty,pos,af,none⟩::rest) K [] ⟨env,F,rs,nx⟩:=by
 simp only[aL,Nat.blt_eq]at h0;obtain⟨hs0,h1⟩:=h0;obtain⟨i,hinfo,_,_,z,hz,hzl⟩:=(htb e ti hi).info;have hut:=jm htb ht;have hzs:z.cells.size=ti.zero.length:=by rw[←hzl];simp
 refine .inr (.inr ⟨rfl,VS.id (.inr (.inr ⟨{ vs:List Value // vs.length=n * ti.zero.length },fun _=>.v (.tuple #[]),fun q=>⟨env,F,rs' q.1,nx⟩,fun c' a w op hs ho=>?_,fun q=>?_⟩))⟩)
 ·have ex:=fI hs hx;simp only[EV.val,hr]at ex;simp only[aJ,aa]at ex;have hown:=hs.fO.own.own id _ hr;simp only at hown;obtain⟨g1,g2,cur,g3,g4,g5⟩:=hown;have hrun:=Al (P:=P) (ty:=op.type) hut hinfo hz (by rw[hzs];exact hs0) (by rw[hzl];exact h1) w b o n c g3 (by rw[hzs,g4];exact dk hfit g2);have hvl:(Builtin.zeroCells z.cells n).toList.length=n * ti.zero.length:=by rw[bj,size_zeroCells,hzs]
  rw[ex]at hrun;refine⟨⟨(Builtin.zeroCells z.cells n).toList,hvl⟩,.tuple #[],w.setRow b (cur.toList.take o++(Builtin.zeroCells z.cells n).toList++cur.toList.drop (o+(Builtin.zeroCells z.cells n).toList.length)).toArray,?_,?_,rfl⟩
  ·simp only[execOp,ho,resolve,invoke,builtin];simp[hrun]
  have:=r7 hs hr rfl (es:=(Builtin.zeroCells z.cells n).toList.map EV.v) (vs:=(Builtin.zeroCells z.cells n).toList) (off:=o) (by simp) (by rw[ab,hvl];exact hfit) (fun e he=>by
   obtain⟨v,_,rfl⟩:=aG.1 he;trivial) (fun j e x hj hx=>by
   rw[aI,aS]at hj;obtain⟨v,h2,rfl⟩:=hj;simp only[EV.val,aa]at hx;rw[h2,hx]) g3
  have hq:=hrs (Builtin.zeroCells z.cells n).toList;rw[fB,aa]at hq;rw[ab,hvl]at this;show fF c' N [] ⟨env,F,rs' (Builtin.zeroCells z.cells n).toList,nx⟩ a _;rw[←hq];have e1:(cur.toList.drop (o+(Builtin.zeroCells z.cells n).toList.length))=cur.toList.drop (o+n * ti.zero.length):=by rw[hvl]
  rw[e1];simpa using this
 exact k q.1 q.2
end
end
section
open Go.Lib
section
variable {P:Program} {tb:Tb} {N:Nat} {all rest:List Oper} {K:fa→St→Prop}
theorem R1 {c:Ctx}{g:fa}{st:St}{news:List EV}{vs:List Value}(h1:lj st.rs news)(hl:vs.length=news.length)(hv: ∀(j:Nat) (e:EV) (x:Value),news[j]? =some e→e.val st.rs=some x→vs[j]? =some x): ∀v∈vs,v.oneCell'=true:=fun v hv2=>by
 obtain⟨j,hj⟩:=cA hv2;have hjl:j<news.length:=by rw[←hl];exact (cz.1 hj).1
 have he:=ao hjl;obtain⟨g1,x,g2⟩:=h1 _ (aj hjl);have:=hv j _ x he g2;rw[hj]at this;simp only[aa]at this;subst this;exact tR g1 g2
theorem yq {d:Nat}{x y:Operand}{t1 t2 e:TypeId}{ty:TypeId}{pos:String}{af:Array Edge}{env:Env}{F:Hp}{rs rs':RL}{nx id o n c b cap P2 o2 m c2 b2 cap2:Nat}{cells zW:List EV}{xD S7:TypeId}{ti:TI}(k:Nat)(news:List EV)(htb:gZ P tb)(ht:tk tb t1=some (.slice e))(hi:tb e=some ti)
  (hx:gL rs [] env [] x=some (.row id o n c)) (hy:gL rs [] env [] y=some (.row P2 o2 m c2)) (hr:fR rs id=some ⟨some b,cells,xD,cap⟩) (hr2:fR rs P2=some ⟨some b2,zW,S7,cap2⟩) (hd:Nat.blt d N=true) (hk:k=Nat.min m n) (hn:(zW.take (o2+k * ti.size)).drop o2=news) (h1:lj rs news)
  (WG:o2+k * ti.size≤zW.length) (hfit:o+k * ti.size≤cells.length) (hrs:iq (qM rs id ⟨some b,cells.take o++news++cells.drop (o+k * ti.size),xD,cap⟩)=some rs')
  (kk:dT P tb N false all rest K [] ⟨(d,.v (.int .i64 (k:Nat)))::env,F,rs',nx⟩):
  dT P tb N false all (⟨some d,.call ⟨.builtin .copy,#[x,y],#[t1,t2]⟩,ty,pos,af,none⟩::rest) K [] ⟨env,F,rs,nx⟩:=by
 obtain⟨i,z,hinfo,hsz,hby,hz,hzs⟩:=oI htb hi;have hut:=jm htb ht;rw[fB,aa]at hrs;subst hrs;have hnl:news.length=k * ti.size:=by rw[←hn,aR,aw];omega
 refine nY (ι:=Unit) (fun _=>.v (.int .i64 (k:Nat))) (env:=fun _=>env) (F:=fun _=>F) (rs:=fun _=>qM rs id ⟨some b,cells.take o++news++cells.drop (o+k * ti.size),xD,cap⟩) (nx:=fun _=>nx) hd (fun c' a w op hs ho=>?_) (fun _=>kk);have ex:=fI hs hx;simp only[EV.val,hr]at ex;simp only[aJ,aa]at ex;have ey:=fI hs hy;simp only[EV.val,hr2]at ey;simp only[aJ,aa]at ey;obtain⟨g1,g2,cur,g3,g4,g5⟩:=hs.fO.own.own id _ hr;simp only at g2 g4;obtain⟨vs,v1,v2,v3⟩:=r9 hs hr2 rfl WG;simp only at v3;rw[hn]at v3;have hone:=R1 (c:=c') (g:=[]) (st:=⟨env,F,rs,nx⟩) h1 (by rw[v1,hnl]) v3;have hfc:=run_firstCells_some (P:=P) w ti.size k ⟨b2,o2,none⟩ m c2 vs v1 (fun j u hj=>by rw[kI];exact v2 j u hj);have hst:=run_storeCells_at (P:=P) b o xD vs 0 cur w g3 (by rw[v1,g4];omega) hone;simp only[df]at hst;refine⟨(),.int .i64 (k:Nat),w.setRow b (cur.toList.take o++vs++cur.toList.drop (o+vs.length)).toArray,?_,?_,rfl⟩
 ·simp only[execOp,ho,resolve,invoke,builtin];simp only[←ex,←ey,List.map_toArray,a9,cM];rw[←hsz]at hfc;rw[hk]at hfc;simp[Builtin.copy_,run_underlying hut,Builtin.lenOf,sizeOf,typeInfo,hinfo,hfc,hst,goInt,hk]
 have:=r7 hs hr rfl (es:=news) (vs:=vs) (off:=o) (by rw[v1,hnl]) (by rw[hnl];exact hfit) (fun e he=>?_) v3 g3
 ·rw[hnl]at this;exact this
 rw[←hn]at he;exact (hs.gS P2 _ hr2).2 e (cV (cU he))
theorem Pm {d:Nat}{x y:Operand}{t1 t2 e:TypeId}{ty:TypeId}{pos:String}{af:Array Edge}{env:Env}{F:Hp}{rs:RL}{nx id n c b cap m:Nat}{cells:List EV}{xD:TypeId}{ti:TI}{kk:IntKind}(htb:gZ P tb)(ht:tk tb t1=some (.slice e))(ht2:tk tb t2=some (.int kk))(hi:tb e=some ti)(h0:(Nat.blt 0 ti.size&&Nat.beq ti.zero.length ti.size)=true)
  (hx:gL rs [] env [] x=some (.row id 0 n c)) (hr:fR rs id=some ⟨some b,cells,xD,cap⟩) (hy:gL rs [] env [] y=some (.v (.int .i64 (m:Nat)))) (hd:Nat.blt d N=true) (hm:0<m) (hg:c<n+m) (hb:(n+m) * ti.bytes≤140737488355328) (K0:(Nat.blt 0 ti.bytes)=true) (hfit:n * ti.size≤cells.length)
  (k: ∀b' cap' (vs:List Value),n+m≤cap'→vs.length=m * ti.size→dT P tb N false all rest K [] ⟨(d,.row nx 0 (n+m) cap')::env,F,(nx,⟨some b',cells.take (n * ti.size)++vs.map .v,e,cap' * ti.size⟩)::rs,nx+1⟩):
  dT P tb N false all (⟨some d,.call ⟨.builtin .append,#[x,y],#[t1,t2]⟩,ty,pos,af,none⟩::rest) K [] ⟨env,F,rs,nx⟩:=by
 simp only[aL,Nat.blt_eq,Nat.beq_eq]at h0 K0;obtain⟨hs0,hz0⟩:=h0;obtain⟨i,z,hinfo,hsz,hby,hz,hzs⟩:=oI htb hi;have hut:=jm htb ht;have hun:P.underlying t2=some (.int kk):=by
  obtain⟨YN,hu,hf⟩:=gN htb ht2;simp only[TK.fits]at hf;rw[hu,hf]
 have hnm:n+m≤(n+m) * ti.bytes:=Nat.le_mul_of_pos_right _ K0;refine nY (ι:={ q:Nat×Nat×List Value // n+m≤q.2.1∧q.2.2.length=m * ti.size }) (fun q=>.row nx 0 (n+m) q.1.2.1) (env:=fun _=>env) (F:=fun _=>F) (rs:=fun q=>(nx,⟨some q.1.1,cells.take (n * ti.size)++q.1.2.2.map .v,e,q.1.2.1 * ti.size⟩)::rs) (nx:=fun _=>nx+1) hd (fun c' a w o hs ho=>?_) (fun q=>k q.1.1 q.1.2.1 q.1.2.2 q.2.1 q.2.2);have ex:=fI hs hx;have ey:=fI hs hy;simp only[EV.val,hr]at ex;simp only[EV.val,aa]at ey;simp only[aJ,aa]at ex;obtain⟨BA,v1,v2,v3⟩:=r9 hs hr rfl (o:=0) (k:=n * ti.size) (by simpa using hfit);have hold:=run_firstCells_some (P:=P) w.drew ti.size n ⟨b,0,none⟩ n c BA v1 (fun j u hj=>by rw[kI];simpa using v2 j u hj);rw[←hsz]at hold;have hrun:=Lib.run_append_grow_zeros (P:=P) w t1 t2 o.type e i z .i64 kk hut hun hinfo hz (some ⟨b,0,none⟩) n c BA hold m hm (by omega) hg (by omega) (by rw[hby];exact dk (dq _ (Nat.le_add_left m n)) (by omega)) (growslice_fits hg (by rw[hby];exact hb));have hge:=grownCap_ge w (n+m) c e;rw[ex,ey]at hrun;have hzl:(Builtin.zeroCells z.cells m).toList.length=m * ti.size:=by rw[bj,size_zeroCells,hzs,hz0]
 refine⟨⟨(w.heap.size,grownCap w (n+m) c e,(Builtin.zeroCells z.cells m).toList),hge,hzl⟩,_,_,ie ho rfl rfl hrun,?_,?_⟩
 ·have:=xV hs (rs':=rs) (fun _ _ h=>h) (cells:=cells.take (n * ti.size)++(Builtin.zeroCells z.cells m).toList.map EV.v) (xs:=BA++(Builtin.zeroCells z.cells m).toList) (rest:=Builtin.zeroCells z.cells (grownCap w (n+m) c e - (n+m))) (e:=e) (cap:=grownCap w (n+m) c e * ti.size) (by rw[ag,ag,ab,v1,aw];omega) (by
   rw[ag,v1,hzl,size_zeroCells,hzs,hz0,←dc,←dc];congr 1;omega) (fun e he=>by
    rcases aK.1 he with he | he
    ·exact (hs.gS id _ hr).2 e (cV he)
    ·obtain⟨v,_,rfl⟩:=aG.1 he;trivial) (fun j e x hj hx=>by
    rw[cj]at hj ⊢;have e2:(cells.take (n * ti.size)).length=BA.length:=by rw[aw,v1];omega
    rw[e2]at hj;split
    ·rename_i hlo;rw[aZ hlo]at hj;exact v3 j e x (by simpa using hj) hx
    rename_i hlo;rw[aY hlo,aI,aS]at hj;obtain⟨v,h2,rfl⟩:=hj;simp only[EV.val,aa]at hx;rw[h2,hx])
  rw[show (BA++(Builtin.zeroCells z.cells m).toList).toArray=BA.toArray++Builtin.zeroCells z.cells m from by apply bg;simp]at this;exact this
 simp only[EV.val,e8,dC,aJ]
theorem Se {d:Nat}{f:Nat}{x y:Operand}{ts:Array TypeId}{fn:Func}{t t4 e:TypeId}{ty:TypeId}{pos:String}{af:Array Edge}{env:Env}{F:Hp}{rs:RL}{nx id o n c b cap P2 o2 m c2 b2 cap2:Nat}{cells zW:List EV}{xD S7:TypeId}{ti:TI}(htb:gZ P tb)(ht:tk tb t=some (.slice e))(hi:tb e=some ti)(hf:P.funcs[f]? =some fn)(hname:(fn.name== "runtime.NumGoroutine")=false)
  (hb:fn.body.isNone=true) (hn:Extern.findNext fn=none) (he:Extern.find fn=some (Extern.SlicesOverlaps.overlaps #[t,t] #[t4])) (hx:gL rs [] env [] x=some (.row id o n c)) (hy:gL rs [] env [] y=some (.row P2 o2 m c2)) (hr:fR rs id=some ⟨some b,cells,xD,cap⟩) (hr2:fR rs P2=some ⟨some b2,zW,S7,cap2⟩) (hne:Nat.beq id P2=false) (hc:0<cap2) (hd:Nat.blt d N=true)
  (k:dT P tb N false all rest K [] ⟨(d,.v (.bool false))::env,F,rs,nx⟩):dT P tb N false all (⟨some d,.call ⟨.value (.func f),#[x,y],ts⟩,ty,pos,af,none⟩::rest) K [] ⟨env,F,rs,nx⟩:=by
 obtain⟨i,z,hinfo,hsz,hby,hz,hzs⟩:=oI htb hi;have hut:=jm htb ht;refine q9 (.v (.bool false)) hd (fun c' a w op hs ho=>⟨.bool false,w,?_,hs,rfl⟩) k;have ex:=fI hs hx;simp only[EV.val,hr]at ex;simp only[aJ,aa]at ex;have ey:=fI hs hy;simp only[EV.val,hr2]at ey;simp only[aJ,aa]at ey;obtain⟨_,_,cur,g3,g4,_⟩:=hs.fO.own.own id _ hr;obtain⟨_,_,YU,k3,k4,_⟩:=hs.fO.own.own P2 _ hr2;simp only at g3 k3 g4 k4;have hbb:b≠b2:=fun e=>by
  have:=hs.fO.own.apart id P2 _ _ b hr hr2 rfl (by rw[e]);rw[this]at hne;simp at hne
 have h1:a.eval (.func f)= .func (.func f) #[] #[]:=rfl;have h2:=run_callFunc_extern hf hname hb hn he #[a.eval x,a.eval y] w;have hso: ∀w,(Go.sizeOf e).run P w= .ok i.size w:=fun w=>by simp[sizeOf,typeInfo,hinfo]
 rw[←ex,←ey,Lib.run_overlaps_apart (P:=P) w t t4 e hut i.size hso ⟨b,o,none⟩ ⟨b2,o2,none⟩ n c m c2 hbb xD S7 cur.size YU.size (by simp[World.shape?,g3]) (by simp[World.shape?,k3]) (by omega) (by simp[World.frozen?,g3]) (by simp[World.frozen?,g3])]at h2;simp only[Result.andThen]at h2;simp[execOp,ho,resolve,h1,Deferred.ofValue,invoke,←ex,←ey,h2]
theorem MS {c:Ctx}{g:fa}{env:Env}{F:Hp}{rs:RL}{nx:Nat}{a:Act}{w:World}(h:fF c N g ⟨env,F,rs,nx⟩ a w){id b:Nat}{r:kj}(hr:fR rs id=some r)(hb:r.gl=some b){k:Nat}(hk:r.cells.length+k≤r.cap):
  ∃vs:List Value,vs.length=k∧fF c N g ⟨env,F,qM rs id ⟨r.gl,r.cells++vs.map .v,r.ty,r.cap⟩,nx⟩ a w:=by
 have hown:=h.fO.own.own id r hr;rw[hb]at hown;obtain⟨o1,o2,cur,o3,o4,o5⟩:=hown;refine⟨(cur.toList.drop r.cells.length).take k,by rw[aw,aR,bj];omega,?_⟩;generalize hvs:(cur.toList.drop r.cells.length).take k=vs;have hvl:vs.length=k:=by rw[←hvs,aw,aR,bj];omega
 have hval:=fun e=>yO (r':=⟨r.gl,r.cells++vs.map .v,r.ty,r.cap⟩) hr rfl e;exact {
  size:=h.size
  defers:=h.defers
  fO:={
   le:=h.fO.le
   own:={
    own:=fun k' s hs=>by
     rw[jd]at hs;split at hs
     ·rw[hr]at hs;simp only[aJ,aa]at hs;subst hs;split
      ·rename_i hn;exact absurd (hb.symm.trans hn) (by simp)
      rename_i b0 hb0;obtain rfl:b=b0:=by
       have:=hb.symm.trans hb0;simpa using this
      refine⟨o1,by simp only[ag,ab];omega,cur,o3,o4,fun j ev x hj hx=>?_⟩;have hx':ev.val rs=some x:=by rw[←hval ev];exact hx
      simp only at hj;rw[cj]at hj;split at hj
      ·exact o5 j ev x hj hx'
      rename_i hlo;rw[aI,aS]at hj;obtain⟨v,hv,rfl⟩:=hj;simp only[EV.val,aa]at hx;subst hx;rw[←hvs,cB]at hv;split at hv
      ·rw[cu]at hv;have e3:r.cells.length+(j - r.cells.length)=j:=by omega
       rw[e3]at hv;simpa using hv
      cases hv
     have h1:=h.fO.own.own k' s hs;cases hsb:s.gl with
     | none=>rw[hsb]at h1;exact h1
     | some b'=>
      rw[hsb]at h1;obtain⟨g1,g2,cur',g3,g4,g5⟩:=h1;exact⟨g1,g2,cur',g3,g4,fun j ev x hj hx=>g5 j ev x hj (by rw[←hval ev];exact hx)⟩
    apart:=fun i j s t b' hi hj hs ht=>by
     rw[jd]at hi hj;have conv: ∀{k:Nat} {s:kj},(if k=id then (fR rs id).map fun _=>(⟨r.gl,r.cells++vs.map .v,r.ty,r.cap⟩:kj) else fR rs k)=some s→s.gl=some b'→∃s',fR rs k=some s'∧s'.gl=some b':=by
      intro k s hk hsb;split at hk
      ·rename_i rS;rw[hr]at hk;simp only[aJ,aa]at hk;subst hk;subst rS;exact⟨r,hr,hsb⟩
      exact⟨s,hk,hsb⟩
     obtain⟨s',hs1,hs2⟩:=conv hi hs;obtain⟨t',ht1,ht2⟩:=conv hj ht;exact h.fO.own.apart i j s' t' b' hs1 ht1 hs2 ht2 }
   il:=h.fO.il
   new:=fun k s b' hs hsb=>by
    rw[jd]at hs;split at hs
    ·rw[hr]at hs;simp only[aJ,aa]at hs;subst hs;exact h.fO.new id r b' hr (kj.Dk hb hsb rfl)
    exact h.fO.new k s b' hs hsb
   jT:=h.fO.jT
   sz:=h.fO.sz
   tp:=h.fO.tp }
  gI:={
   sub:=h.gI.sub
   kT:=h.gI.kT
   succ:=fun k s hk hs=>by
    rw[jd]at hs;split at hs
    ·rename_i rS;subst rS;rw[hr]at hs;simp only[aJ,aa]at hs;subst hs;exact h.gI.succ k r hk hr
    exact h.gI.succ k s hk hs }
  gS:=fun k s hs=>by
   simp only[jd]at hs;split at hs
   ·rename_i rS;rw[hr]at hs;simp only[aJ,aa]at hs;subst hs;obtain⟨q1,q2⟩:=h.gS id r hr;refine⟨by rw[rS];exact q1,fun e he=>?_⟩;rcases aK.1 he with he | he
    ·exact q2 e he
    obtain⟨v,_,rfl⟩:=aG.1 he;trivial
   exact h.gS k s hs
  ids:=h.ids
  env:=fun n e x h1 h2 h3=>h.env n e x h1 h2 (by rw[←hval e];exact h3)
  gv:=fun n ch e h1=>by
   obtain⟨q1,q2,q3,q4⟩:=h.gv n ch e h1;exact⟨fun hga=>⟨fun x hx=>(q1 hga).1 x (by rw[←hval e];exact hx),(q1 hga).2⟩,q2,q3,q4⟩ }
theorem VS.more {env:Env}{F:Hp}{rs:RL}{nx:Nat}{G:St→Prop}(id k:Nat){b:Nat}{cells:List EV}{ty:TypeId}{cap:Nat}(rs':List Value→RL)(hr:fR rs id=some ⟨some b,cells,ty,cap⟩)(hrs: ∀vs,iq (qM rs id ⟨some b,cells++vs.map .v,ty,cap⟩)=some (rs' vs))(hk:cells.length+k≤cap)(kk: ∀vs:List Value,vs.length=k→G ⟨env,F,rs' vs,nx⟩):VS N [] ⟨env,F,rs,nx⟩ G:=fun c a w hs=>by
 obtain⟨vs,h1,h2⟩:=MS hs hr rfl hk;have hq:=hrs vs;rw[fB,aa]at hq;refine⟨_,?_,kk vs h1⟩;rw[←hq];exact h2
end
end
end Go.TR
