/- A part of the proof. -/
import Derived.Test.YthbnddgjkonkdaaGreatDoorSetProofMake
set_option linter.unusedVariables false
set_option linter.unusedSimpArgs false
namespace Go.Proofs.YthbnddgjkonkdaaGreatDoor
section
open Go.TR
@[reducible] def Kh (h:Head) (p:jn) (a:Lay):Value:=.agg #[i64 h.dW,u64 (h.root:Nat),u64 (h.prev:Nat),i64 h.at_,S p.name,.slice a.e p.fZ.length a.ce,.slice a.s p.fC.length a.cs]
def iE (h:Head)(p:jn):Int:=if h.fault≠0 then h.fault else jr h.root p
def qZ (h:Head)(p:jn):List UInt8:=if iE h p=0 then (gF p.fZ p.name).getD [] else []
def rO (h:Head)(p:jn):Bool:=decide (iE h p=0)&&(gF p.fZ p.name).isSome
theorem DJ (r:Nat)(p:jn):jr r p=0∨jr r p=2∨jr r p=3∨jr r p=8:=by
 unfold jr;split
 ·rcases zd p with h | h | h<;>simp[h]
 split<;>simp
theorem B0 {r:Nat}{p:jn}(h:jr r p=0):qJ r p=(gF p.fZ p.name).getD []∧qE r p=(gF p.fZ p.name).isSome:=by
 obtain⟨g1,g2⟩:=Bp h;obtain⟨e1,e2⟩:=Gs (Ff g1);unfold qJ qE;rw[aZ h,aW h,e1,e2];exact⟨rfl,rfl⟩
theorem KJ {r:Nat}{p:jn}(h:jr r p≠0):qJ r p=[]∧qE r p=false:=by
 unfold qJ qE;rw[aY h,aX h];exact⟨rfl,rfl⟩
theorem xZ {h:Head}{p:jn}(h0:h.fault=0):qZ h p=qJ h.root p∧rO h p=qE h.root p∧iE h p=jr h.root p:=by
 have e:iE h p=jr h.root p:=by unfold iE;rw[aY (by simpa using h0)]
 unfold qZ rO;rw[e];by_cases h1:jr h.root p=0
 ·obtain⟨g1,g2⟩:=B0 h1;rw[aZ h1,aW h1,g1,g2];exact⟨rfl,rfl,rfl⟩
 obtain⟨g1,g2⟩:=KJ h1;rw[aY h1,aX h1,g1,g2];exact⟨rfl,rfl,rfl⟩
attribute [local irreducible] vc dT gx fc fA gC gG gw fG Plain eu eR dH VS fq fx fD ju fe IntKind.wrap
attribute [local irreducible] iE qZ rO jr qJ qE fS lA
set_option maxRecDepth 100000
set_option maxHeartbeats 1000000
theorem CZ (h:Head)(p:jn)(a:Lay)(hw:p.wf){F:Hp}(hf:p.at F a):Plain Tryz.prog F 13 [Kh h p a] (triple (S (qZ h p)) (.bool (rO h p)) (i64 (iE h p))):=by
 refine dN (N:=21) (rv:=[.tmp 2,.tmp 3,.tmp 4]) eP mixed Tryz.func13 rfl rfl rfl rfl rfl ?_;(refine run ?_;repeat intro b);refine dG _ rfl rfl rfl Gq rfl (kC h F) ?_;(refine run ?_;repeat intro b);refine ez (decide (h.fault≠0)) ?_ (fun h0=>?_) (fun h0=>?_)
 ·refine dS ?_;rw[ai];simp
 ·have h0:=ar h0;have e1:iE h p=h.fault:=by unfold iE;rw[aZ h0]
  have e2:qZ h p=[]:=by unfold qZ;rw[aY (by rw[e1];exact h0)]
  have e3:rO h p=false:=by unfold rO;rw[aX (by rw[e1];exact h0)];rfl
  rw[e1,e2,e3];(refine run ?_;repeat intro b);rfl
 have h0:h.fault=0:=by have:=au h0;omega
 obtain⟨e1,e2,e3⟩:=xZ (p:=p) h0;rw[e1,e2,e3];(refine run ?_;repeat intro b);refine dG _ rfl rfl rfl Xo rfl (PO h.root p a hw hf) ?_;(refine run ?_;repeat intro b);rfl
theorem vB (h:Head)(p:jn)(a:Lay)(hw:p.wf){F:Hp}(hf:p.at F a):Plain Tryz.prog F 136 [Kh h p a] (i64 (iE h p)):=by
 refine dN (N:=24) (rv:=[.tmp 2]) eP mixed Tryz.func136 rfl rfl rfl rfl rfl ?_;(refine run ?_;repeat intro b);refine dG _ rfl rfl rfl I9 rfl (oE h F) ?_;(refine run ?_;repeat intro b);refine ez (decide (h.fault≠0)) ?_ (fun h0=>?_) (fun h0=>?_)
 ·refine dS ?_;rw[ai];simp
 ·have h0:=ar h0;have e1:iE h p=h.fault:=by unfold iE;rw[aZ h0]
  rw[e1];(refine run ?_;repeat intro b);rfl
 have h0:h.fault=0:=by have:=au h0;omega
 obtain⟨_,_,e3⟩:=xZ (p:=p) h0;rw[e3];(refine run ?_;repeat intro b);refine dG _ rfl rfl rfl U1 rfl (Aq p a hw hf) ?_;(refine run ?_;repeat intro b);refine ez (decide (fS p≠0)) ?_ (fun h1=>?_) (fun h1=>?_)
 ·refine dS ?_;rw[ai];simp
 ·have h1:=ar h1;have e1:jr h.root p=fS p:=by unfold jr;rw[aZ h1]
  rw[e1];(refine run ?_;repeat intro b);rfl
 have h1:fS p=0:=by have:=au h1;omega
 have e1:jr h.root p=if lA p≠h.root then 8 else 0:=by unfold jr;rw[aY (by simpa using h1)]
 rw[e1];(refine run ?_;repeat intro b);refine fM (by kernel_rfl) ?_;(refine run ?_;repeat intro b);refine dG _ rfl rfl rfl Wk rfl (xe p a hw h1 hf) ?_;(refine run ?_;repeat intro b);refine ez (decide (lA p≠h.root)) ?_ (fun h2=>?_) (fun h2=>?_)
 ·refine dS ?_;rw[ai];simp;omega
 ·rw[aZ (ar h2)];(refine run ?_;repeat intro b);rfl
 rw[aY (au h2)];(refine run ?_;repeat intro b);rfl
end
section
open Go.TR
end
section
open Go.TR
def qC (c:eE)(n:List UInt8)(k:Int):Int:=if mf c k≠0 then mf c k else mh (kR c k) n
def o8 (c:eE)(n:List UInt8)(k:Int):Head:=if qC c n k=0 then c.dP.getD k.toNat Head.none else Head.none
def nq (c:eE)(n:List UInt8)(k:Int):jn:=if qC c n k=0 then nr (kR c k) n else jn.none
def qt (c:eE)(f t:Int):Int:=if ga c≠0 then ga c else pt c.dP f t
def k8 (c:eE)(f t:Int):List Head:=if qt c f t=0 then o9 c.dP f t else []
theorem FF {c:eE}{n:List UInt8}{k:Int}(h:qC c n k≠0):o8 c n k=Head.none∧nq c n k=jn.none:=by
 unfold o8 nq;rw[aY h,aY h];exact⟨rfl,rfl⟩
theorem Kf {c:eE}{n:List UInt8}{k:Int}(h:qC c n k=0):o8 c n k=c.dP.getD k.toNat Head.none∧nq c n k=nr (kR c k) n:=by
 unfold o8 nq;rw[aZ h,aZ h];exact⟨rfl,rfl⟩
theorem wM (F:Hp):jn.none.at F ⟨none,0,none,0⟩:=⟨eG _ _,eG _ _⟩
theorem FN {c:eE}{n:Int}(h:mf c n=0):ga c=0∧0≤n∧n<(c.ee.length:Int):=by
 unfold mf at h;split at h
 ·rename_i h0;exact absurd h h0
 rename_i h0;split at h
 ·cases h
 rename_i h1;exact⟨bE.1 h0,by omega,by omega⟩
theorem KB {c:eE}{n:Int}(h:mf c n=0): ∃k:Nat,n=(k:Int)∧ ∃hk:k<c.ee.length,kR c n=c.ee[k]:=by
 obtain⟨_,h1,h2⟩:=FN h;refine⟨n.toNat,by omega,by omega,?_⟩;unfold kR;rw[aZ h];simp[List.getD,show n.toNat<c.ee.length by omega]
theorem vZ {c:eE}(hw:c.wf)(n:Int):(kR c n).length≤4398046511104∧ ∀x∈kR c n,x.wf:=by
 by_cases h:mf c n=0
 ·obtain⟨k,_,hk,e⟩:=KB h;rw[e];exact hw.ee _ (aj hk)
 unfold kR;rw[aY h];exact⟨by decide,fun x hx=>by cases hx⟩
attribute [local irreducible] vc dT gx fc fA gC gG gw fG Plain eu eR dH VS fq fx fD ju fe IntKind.wrap
attribute [local irreducible] dV gK fK ga fp mf kR mh nr lS pt o9 qC o8 nq qt k8
set_option maxRecDepth 100000
set_option maxHeartbeats 4000000
theorem tY (c:eE)(l:jf)(n:List UInt8)(k:Int)(hw:c.wf)(hn:n.length≤4611686018427387904)(hk: -9223372036854775808≤k∧k≤9223372036854775807){F:Hp}(ha:c.at F l):
  iu Tryz.prog F 12 [c.v l,S n,i64 k] (fun y F'=>∃a,y=pair (Kh (o8 c n k) (nq c n k) a) (i64 (qC c n k))∧(nq c n k).at F' a):=by
 refine eu.drop (fU (N:=38) (rv:=[.cell 6 47,.tmp 7]) eP mixed Tryz.func12 rfl rfl rfl rfl rfl ?_);(refine run ?_;repeat intro b);refine fi rfl rfl rfl XV rfl (CM c l k hw hk ha) ?_;rintro _ F1 hF1 ⟨p1,c1,rfl,hf1⟩;(refine run ?_;repeat intro b);refine ez (decide (mf c k≠0)) ?_ (fun h0=>?_) (fun h0=>?_)
 ·refine dS ?_;rw[ai];simp
 ·have h0:=ar h0;have e:qC c n k=mf c k:=by unfold qC;rw[aZ h0]
  obtain⟨e1,e2⟩:=FF (c:=c) (n:=n) (k:=k) (by rw[e];exact h0);rw[e,e1,e2];(refine run ?_;repeat intro b);exact eM (VS.id ⟨_,rfl,⟨none,0,none,0⟩,rfl,wM _⟩)
 have h0:mf c k=0:=by have:=au h0;omega
 have e:qC c n k=mh (kR c k) n:=by unfold qC;rw[aY (by rw[h0];decide)]
 obtain⟨b1,b2⟩:=vZ hw k;obtain⟨g1,g2,g3⟩:=FN h0;have hG:=nb g1;have hlen:=hG.lens;(refine run ?_;repeat intro b);refine fi rfl rfl rfl Xb rfl (Pf (kR c k) n (by omega) b2 hn hf1) ?_;rintro _ F2 hF2 ⟨a,rfl,hm⟩;(refine run ?_;repeat intro b);refine ez (decide (mh (kR c k) n≠0)) ?_ (fun h1=>?_) (fun h1=>?_)
 ·refine dS ?_;rw[ai];simp
 ·have h1:=ar h1;obtain⟨e1,e2⟩:=FF (c:=c) (n:=n) (k:=k) (by rw[e];exact h1);rw[e,e1,e2];(refine run ?_;repeat intro b);exact eM (VS.id ⟨_,rfl,⟨none,0,none,0⟩,rfl,wM _⟩)
 have h1:mh (kR c k) n=0:=by have:=au h1;omega
 obtain⟨e1,e2⟩:=Kf (c:=c) (n:=n) (k:=k) (by rw[e];exact h1);obtain⟨j,rfl⟩: ∃j:Nat,k=(j:Int):=⟨k.toNat,by omega⟩;have hj:j<c.dP.length:=by omega
 have e3:c.dP.getD j Head.none=c.dP[j]:=by simp[List.getD,hj]
 rw[ae,e3]at e1;have Sy:=dZ (hF1.trans hF2) ha.h;obtain⟨o1,o2⟩:=eZ eW (by decide) Sy j hj;rw[e,e1,e2,h1];generalize c.dP[j]=hd at o2;(refine run ?_;repeat intro b);refine jK 7 (by kernel_rfl) rfl rfl ?_;(refine run ?_;repeat intro b);refine dI rfl rfl rfl ⟨by omega,by omega,dO Sy (j:=j * 4) (by rw[dL eW];omega)⟩ ?_;refine fy hd.row rfl rfl rfl rfl rfl (by rw[ae];exact o1) (by rw[ae];exact o2) ?_;(refine run ?_;repeat intro b);exact eM (VS.id ⟨_,rfl,a,rfl,hm⟩)
theorem zZ (c:eE)(l:jf)(f t:Int)(hw:c.wf){F:Hp}(ha:c.at F l):
  iu Tryz.prog F 235 [c.v l,i64 f,i64 t] (fun y F'=>∃p' c',y=pair (.slice p' (k8 c f t).length c') (i64 (qt c f t))∧(k8 c f t).length≤c'∧eY F' p' ((k8 c f t).flatMap Head.row)):=by
 refine eu.drop (fU (N:=21) (rv:=[.tmp 6,.tmp 7]) eP mixed Tryz.func235 rfl rfl rfl rfl rfl ?_);(refine run ?_;repeat intro b);refine dG _ rfl rfl rfl O5 rfl (mW c l hw ha) ?_;(refine run ?_;repeat intro b);refine ez (decide (ga c≠0)) ?_ (fun h0=>?_) (fun h0=>?_)
 ·refine dS ?_;rw[ai];simp
 ·have h0:=ar h0;have e:qt c f t=ga c:=by unfold qt;rw[aZ h0]
  have e1:k8 c f t=[]:=by unfold k8;rw[aY (by rw[e];exact h0)]
  rw[e,e1];(refine run ?_;repeat intro b);exact eM (VS.id ⟨_,rfl,none,0,rfl,ah _,eG _ _⟩)
 have h0:ga c=0:=by have:=au h0;omega
 have hG:=nb h0;have hlen:=hG.lens;have e:qt c f t=pt c.dP f t:=by unfold qt;rw[aY (by rw[h0];decide)]
 have e1:k8 c f t=o9 c.dP f t:=by
  unfold k8;rw[e];split
  ·rfl
  rename_i h1;unfold o9;rw[aY h1]
 rw[e,e1];(refine run ?_;repeat intro b);refine fi rfl rfl rfl Yd rfl (Dn c.dP f t (by omega) hw.dP ha.ch ha.h) ?_;rintro _ F2 hF2 ⟨p2,c2,rfl,hc2,hf2⟩;(refine run ?_;repeat intro b);exact eM (VS.id ⟨_,rfl,p2,c2,rfl,hc2,hf2⟩)
end
section
open Go.TR
def UH (x:Head)(b:List Head):List (Head×Head):=(b.filter fun y=>decide (x.dW=y.dW)).map fun y=>(x,y)
def QL (a b:List Head):List (Head×Head):=a.flatMap fun x=>UH x b
@[reducible] def aaj (q:Head×Head):List Value:=q.1.row++q.2.row
theorem M8 {a:Head}{t:List Head}{i:Nat}(h:sZ (a::t) i=none): ∃j,sZ t j=none:=by
 match t with
 | []=>exact⟨0,rfl⟩
 | b::t=>
  unfold sZ at h;split at h
  ·exact⟨_,h⟩
  cases h
theorem NU {a:Head}{t:List Head}{i:Nat}(h:sZ (a::t) i=none): ∀y∈t,a.dW<y.dW:=fun y hy=>by
 obtain⟨k,hk,rfl⟩:=List.mem_iff_getElem.1 hy;have:=sq h (k+1) (by simpa using hk);simp only[List.getElem_cons_succ,List.getElem_cons_zero]at this;omega
theorem uk: ∀{l:List Head}{i:Nat}(n:Int),sZ l i=none→(l.filter fun y=>decide (n=y.dW))=(jL l n).toList
 | [],_,_,_=>rfl
 | a::t,i,n,h=>by
  obtain⟨j,hj⟩:=M8 h;have hr:=NU h;have ih:=uk n hj;unfold jL at ih ⊢;by_cases hn:a.dW=n
  ·have:(t.filter fun y=>decide (n=y.dW))=[]:=by
    rw[List.filter_eq_nil_iff];intro y hy;have:=hr y hy;simp only[av];omega
   rw[List.filter_cons_of_pos (by simp[hn]),List.find?_cons_of_pos (by simp[hn]),this];rfl
  rw[List.filter_cons_of_neg (by simp;omega),List.find?_cons_of_neg (by simp[hn]),ih]
def U2 (a b:List Head):Option (Head×Head):=(QL a b).find? fun q=>decide (q.1≠q.2)
def T7 (a b:List Head):Int:=if (fp a).1≠0 then (fp a).1 else if (fp b).1≠0 then (fp b).1 else if (QL a b).length=0 then 5 else 0
def ZR (a b:List Head):Int:=if T7 a b≠0 then 0 else match U2 a b with
 | some q=>q.1.dW
 | none=> -1
def Ry (b:List Head):List Head→Option Int
 | []=>none
 | y::t=>match jL b y.dW with
  | some z=>if y≠z then some y.dW else Ry b t
  | none=>Ry b t
def QK (a:List Head):List (List Head)→Nat→Option (Nat×Int)
 | [],_=>none
 | b::t,k=>match Ry b a with
  | some n=>some (k,n)
  | none=>QK a t (k+1)
def Un:List (List Head)→Nat→Option (Nat×Nat×Int)
 | [],_=>none
 | a::t,i=>match QK a t (i+1) with
  | some (k,n)=>some (i,k,n)
  | none=>Un t (i+1)
end
section
open Go.TR
structure Ow where
 name:List UInt8
 key:Nat
 head:Head
 wanted:List (List UInt8)
 jA:Int
structure Ow.wf (o:Ow):Prop where
 name:o.name.length≤4611686018427387904
 key:o.key<18446744073709551616
 head:o.head.wf
 wanted:o.wanted.length * 16≤140737488355328
 each: ∀s∈o.wanted,s.length≤4611686018427387904
 jA: -9223372036854775808≤o.jA∧o.jA≤9223372036854775807
@[reducible] def Ow.v (o:Ow) (p:Option Addr) (c:Nat):Value:=.agg #[S o.name,u64 (o.key:Nat),i64 o.head.dW,u64 (o.head.root:Nat),u64 (o.head.prev:Nat),i64 o.head.at_,.slice p o.wanted.length c,i64 o.jA]
def Ow.none:Ow:=⟨[],0,Head.none,[],0⟩
def ng (s:List UInt8):Bool:=decide (20<s.length)
def kf (o:Ow):Int:=if eL o.name=true then (if o.head.fault≠0 then o.head.fault else if 30<o.wanted.length∨o.wanted.any ng=true then 2 else if o.jA<0∨(o.wanted.length:Int)<o.jA then 4 else 0) else 3
theorem iT {o:Ow}(h:kf o=0):eL o.name=true∧o.head.fault=0∧o.wanted.length≤30∧o.wanted.any ng=false∧0≤o.jA∧o.jA≤o.wanted.length:=by
 unfold kf at h;split at h
 ·rename_i h1;split at h
  ·rename_i h2;exact absurd h h2
  rename_i h2;split at h
  ·cases h
  rename_i h3;split at h
  ·cases h
  rename_i h4;rw[not_or]at h3 h4;exact⟨h1,by omega,by omega,by simpa using h3.2,by omega,by omega⟩
 cases h
def lN (h:Head)(l:List Head):Int:=
 if (fp l).1≠0 then 2
 else if h.dW+1<(qO l.head?).dW then 2
 else if (qO l.head?).dW=h.dW+1∧ji h (qO l.head?)=false then 2
 else if (l.any fun x=>decide (x.dW=h.dW)&&decide (x≠h))=true then 3
 else if (fK l).dW≤h.dW then 1 else 0
theorem wR (h:Head)(l:List Head):lN h l=0∨lN h l=1∨lN h l=2∨lN h l=3:=by
 unfold lN;split
 ·simp
 split
 ·simp
 split
 ·simp
 split
 ·simp
 split<;>simp
theorem Hb {l:List Head}{i:Nat}(hu:sZ l i=Option.none)(h:Head):(l.any fun x=>decide (x.dW=h.dW)&&decide (x≠h))=((jL l h.dW).isSome&&decide (qO (jL l h.dW)≠h)):=by
 have hf:=uk h.dW hu;have e1:(l.any fun x=>decide (x.dW=h.dW)&&decide (x≠h))=(l.filter fun y=>decide (h.dW=y.dW)).any fun x=>decide (x≠h):=by
  rw[List.any_filter];congr 1;funext x;congr 1;rw[ai,av,av];exact eq_comm
 rw[e1,hf];cases jL l h.dW with
 | none=>rfl
 | some z=>by_cases hz:z=h<;>simp[qO,hz]
def wZ (v:List UInt8)(jA:Int):List (List UInt8)→Nat→Nat
 | [],_=>0
 | w::t,k=>if jA≤(k:Int)+1∧w=v then k+1 else wZ v jA t (k+1)
theorem Li {v:List UInt8}{jA:Int}{l:List (List UInt8)}{k:Nat}(hk:k<l.length):wZ v jA (l.drop k) k=if jA≤(k:Int)+1∧l[k]=v then k+1 else wZ v jA (l.drop (k+1)) (k+1):=by
 rw[aO hk];rfl
theorem DT {v:List UInt8}{jA:Int}: ∀(l:List (List UInt8)) (k:Nat),jA≤(k:Int)+1→wZ v jA l k=if (l.any fun w=>decide (w=v))=true then k+l.findIdx (fun w=>decide (w=v))+1 else 0
 | [],k,_=>rfl
 | w::t,k,h=>by
  unfold wZ;by_cases hw:w=v
  ·rw[aZ ⟨h,hw⟩];simp[hw,List.findIdx_cons]
  rw[aY (fun hh=>hw hh.2),DT t (k+1) (by omega)];simp only[List.any_cons,hw,decide_false,bu,List.findIdx_cons,cond_false];split
  ·omega
  rfl
theorem EI {v:List UInt8}{jA:Int}: ∀(l:List (List UInt8)) (k n:Nat),(k:Int)+n+1=jA→wZ v jA l k=wZ v jA (l.drop n) (k+n)
 | l,k,0,_=>by simp
 | [],k,n+1,_=>by simp[wZ]
 | w::t,k,n+1,h=>by
  have ih:=EI (v:=v) (jA:=jA) t (k+1) n (by omega);rw[List.drop_succ_cons];show (if jA≤(k:Int)+1∧w=v then k+1 else wZ v jA t (k+1))=_;rw[aY (fun hh=>by have:=hh.1;omega),ih,show k+1+n=k+(n+1) by omega]
theorem OK {v:List UInt8}{jA:Int}{l:List (List UInt8)}{n:Nat}(h0:0≤jA)(hn:(n:Int)=if jA - 1<0 then 0 else jA - 1):
  ((wZ v jA l 0:Nat):Int)=if ov (fun w=>decide (w=v)) (l.drop n)<0 then 0 else (n:Int)+ov (fun w=>decide (w=v)) (l.drop n)+1:=by
 have e1:wZ v jA l 0=wZ v jA (l.drop n) n:=by
  by_cases h1:jA=0
  ·have:n=0:=by split at hn<;>omega
   subst this;simp
  have:=EI (v:=v) (jA:=jA) l 0 n (by split at hn<;>omega);rw[this,aP]
 rw[e1,DT _ _ (by split at hn<;>omega)];unfold ov;by_cases ha:((l.drop n).any fun w=>decide (w=v))=true
 ·rw[aZ ha,aZ ha,aY (by omega)];omega
 rw[aY ha,aY ha,aZ (by omega)];rfl
def lR (o:Ow)(l:List Head)(h:Head)(p:jn):Int:=
 if lN o.head l≠0 then lN o.head l
 else if iE h p≠0∨h≠fK l∨p.name≠o.name then 4
 else match gF p.fZ p.name with
  | Option.none=>if 0<o.jA then 5 else 0
  | some v=>if wZ v o.jA o.wanted 0=0 then 6 else 0
def mE (o:Ow)(l:List Head)(h:Head)(p:jn):Nat:=
 if lN o.head l≠0 then 0
 else if iE h p≠0∨h≠fK l∨p.name≠o.name then 0
 else match gF p.fZ p.name with
  | Option.none=>0
  | some v=>wZ v o.jA o.wanted 0
end
section
open Go.TR
theorem Bl (s:List UInt8):decide ((20:Int)<((s.length:Nat):Int))=ng s:=by
 unfold ng;rw[ai,av,av];omega
theorem Ao {α:Type}{f:α→Bool}{l:List α}{k:Nat}(hk:k<l.length)(h:(l.take k).any f=false)(h2:f l[k]=false):(l.take (k+1)).any f=false:=by
 rw[al hk,bI,h];simp[h2]
attribute [local irreducible] vc dT gx fc fA gC gG gw fG Plain eu eR dH VS fq fx fD ju fe IntKind.wrap
set_option maxRecDepth 100000
theorem Ie (s:List UInt8)(F:Hp):Plain Tryz.prog F 224 [S s] (.bool (ng s)):=by
 refine dN (N:=6) (rv:=[.tmp 2]) eP mixed Tryz.func224 rfl rfl rfl rfl rfl ?_;(refine run ?_;repeat intro b);exact a8 Value.bool (Bl s)
set_option maxHeartbeats 2000000 in
theorem oS (o:Ow)(hw:o.wf){p:Option Addr}{c:Nat}{F:Hp}(hf:eY F p (o.wanted.map S)):Plain Tryz.prog F 164 [o.v p c] (i64 (kf o)):=by
 have hn:=hw.name;have hl:=hw.wanted;refine dN (N:=36) (rv:=[.tmp 2]) eP mixed Tryz.func164 rfl rfl rfl rfl rfl ?_;(refine run ?_;repeat intro b);refine dG _ rfl rfl rfl wB rfl (oK o.name hn F) ?_;unfold kf;cases hg:eL o.name with
 | false=>
  (refine run ?_;repeat intro b);rfl
 | true=>
  rw[aZ rfl];(refine run ?_;repeat intro b);refine dG _ rfl rfl rfl Gq rfl (kC o.head F) ?_;(refine run ?_;repeat intro b);refine ez (decide (o.head.fault≠0)) ?_ (fun h0=>?_) (fun h0=>?_)
  ·refine dS ?_;rw[ai];simp
  ·rw[aZ (ar h0)];(refine run ?_;repeat intro b);rfl
  rw[aY (au h0)];(refine run ?_;repeat intro b);refine gi _ rfl rfl rfl rfl XU rfl rfl (fun _=>Lw ng _ #[] Qy o.wanted hf (by omega) (fun x _=>Ie x F)) ?_;(refine run ?_;repeat intro b);generalize (o.wanted.any ng)=y;refine ez (decide (30<o.wanted.length∨y=true)) ?_ (fun h1=>?_) (fun h1=>?_)
  ·refine dS ?_;rw[fu];have e:decide ((30:Int)<((o.wanted.length:Nat):Int))=decide (30<o.wanted.length):=by
    rw[ai,av,av];omega
   rw[e];by_cases hh:30<o.wanted.length<;>cases y<;>simp[hh]
  ·rw[aZ (ar h1)];(refine run ?_;repeat intro b);rfl
  rw[aY (au h1)];(refine run ?_;repeat intro b);refine ez (decide (o.jA<0∨(o.wanted.length:Int)<o.jA)) ?_ (fun h2=>?_) (fun h2=>?_)
  ·refine dS ?_;rw[fu,ai];simp
  ·rw[aZ (ar h2)];(refine run ?_;repeat intro b);rfl
  rw[aY (au h2)];(refine run ?_;repeat intro b);rfl
def Ow.fresh (name:List UInt8)(key:Nat)(h:Head):Ow:=⟨name,key,h,[],0⟩
def GC (name:List UInt8)(key:Nat)(h:Head):Ow:=if kf (Ow.fresh name key h)=0 then Ow.fresh name key h else Ow.none
theorem Fk (name:List UInt8)(key:Nat)(h:Head)(hn:name.length≤4611686018427387904)(hk:key<18446744073709551616)(hh:h.wf){F:Hp}:Plain Tryz.prog F 108 [S name,u64 (key:Nat),h.v] (pair ((GC name key h).v none 0) (i64 (kf (Ow.fresh name key h)))):=by
 have hw:(Ow.fresh name key h).wf:=⟨hn,hk,hh,by simp[Ow.fresh],fun s hs=>(by simp[Ow.fresh]at hs),by simp[Ow.fresh]⟩;refine dN (N:=21) (rv:=[.cell 6 76,.tmp 7]) eP mixed Tryz.func108 rfl rfl rfl rfl rfl ?_;(refine run ?_;repeat intro b);refine dG _ rfl rfl rfl M0 rfl (oS (Ow.fresh name key h) hw (p:=none) (c:=0) (eG _ _)) ?_;(refine run ?_;repeat intro b);refine ez (decide (kf (Ow.fresh name key h)≠0)) ?_ (fun h0=>?_) (fun h0=>?_)
 ·refine dS ?_;rw[ai];simp
 ·have h0:=ar h0;have e:GC name key h=Ow.none:=by unfold GC;rw[aY h0]
  rw[e];(refine run ?_;repeat intro b);rfl
 have h0:kf (Ow.fresh name key h)=0:=by have:=au h0;omega
 have e:GC name key h=Ow.fresh name key h:=by unfold GC;rw[aZ h0]
 rw[e,h0];(refine run ?_;repeat intro b);rfl
end
section
open Go.TR
theorem Gv (l:List Head):(fp l).1=0∨(fp l).1=2∨(fp l).1=3∨(fp l).1=4∨(fp l).1=5∨(fp l).1=8:=by
 unfold fp;split
 ·simp
 split
 ·simp
 cases hb:kb l 0 with
 | some x=>
  rw[pZ hb];have h2: ∀{l:List Head} {i:Nat} {x:Int×Nat},kb l i=some x→∃h:Head,x.1=h.fault:=by
   intro l
   induction l with
   | nil=>intro i x h;cases h
   | cons a l ih=>
    intro i x h;unfold kb at h;split at h
    ·exact ih h
    cases h;exact⟨a,rfl⟩
  obtain⟨h,e⟩:=h2 hb;rw[e];unfold Head.fault;split
  ·simp
  split<;>simp
 | none=>
  cases hu:sZ l 1 with
  | some i=>rw[qg hb hu];simp
  | none=>rw[nD hb hu];simp
attribute [local irreducible] vc dT gx fc fA gC gG gw fG Plain eu eR dH VS fq fx fD ju fe IntKind.wrap
set_option maxRecDepth 100000
theorem Po (q:Head→Bool)(g:Nat)(lb:Array Value)(hb:dH Tryz.prog g)(l:List Head){p:Option Addr}{c:Nat}{F:Hp}(hf:eY F p (l.flatMap Head.row))(hl:l.length≤4611686018427387904)(hp: ∀x∈l,Plain Tryz.prog F g (.agg (Head.row x).toArray::lb.toList) (.bool (q x))):
  Plain Tryz.prog F 329 [.slice p l.length c,.func (.func g) #[] lb] (i64 (ov q l)):=by
 refine dN (N:=19) (rv:=[.tmp 4]) eP mixed Tryz.func329 rfl rfl rfl rfl rfl ?_;(refine run ?_;repeat intro b);refine eU (fun k:Nat=>k≤l.length∧(l.take k).any q=false) (fun k=>⟨[(0,.v (.slice p l.length c)),(1,.v (.func (.func g) #[] lb)),(7,.v (i64 (l.length:Nat))),(8,.v (i64 (k:Nat)))],F,[],0⟩) (fun k=>l.length - k) 0 ⟨az _,rfl⟩ (VS.eH [0,1,7,8] rfl rfl) ?_;rintro k ⟨hk,hany⟩;(refine run ?_;repeat intro b);refine ez _ rfl (fun h=>?_) (fun h=>?_)
 ·have hlt:k<l.length:=by simpa using h
  obtain⟨o1,o2⟩:=eZ eW (by decide) hf k hlt;(refine run ?_;repeat intro b);refine dI rfl rfl rfl ⟨by omega,by omega,dO hf (j:=k * 4) (by rw[dL eW];omega)⟩ ?_;refine fy (Head.row l[k]) rfl rfl rfl rfl rfl (by rw[ae];exact o1) (by rw[ae];exact o2) ?_;(refine run ?_;repeat intro b);refine dG _ rfl rfl (by rw[fB];rfl) hb rfl (hp l[k] (aj hlt)) ?_;(refine run ?_;repeat intro b);refine ez _ rfl (fun h2=>?_) (fun h2=>?_)
  ·(refine run ?_;repeat intro b);rw[lg hlt hany h2];rfl
  (refine run ?_;repeat intro b);rw[dQ (by omega)];refine fj (k+1) ⟨hlt,?_⟩ (by omega) (VS.eH [0,1,7,8] rfl rfl);rw[al hlt,bI,hany];simp[h2]
 have hge:k=l.length:=by
  have: ¬k<l.length:=by simpa using h
  omega
 subst hge;rw[aD]at hany;(refine run ?_;repeat intro b);rw[lv hany];rfl
theorem OM (q:Head→Bool)(g:Nat)(lb:Array Value)(hb:dH Tryz.prog g)(l:List Head){p:Option Addr}{c:Nat}{F:Hp}(hf:eY F p (l.flatMap Head.row))(hl:l.length≤4611686018427387904)(hp: ∀x∈l,Plain Tryz.prog F g (.agg (Head.row x).toArray::lb.toList) (.bool (q x))):
  Plain Tryz.prog F 318 [.slice p l.length c,.func (.func g) #[] lb] (.bool (l.any q)):=by
 refine dN (N:=9) (rv:=[.tmp 4]) eP mixed Tryz.func318 rfl rfl rfl rfl rfl ?_;(refine run ?_;repeat intro b);refine dG _ rfl rfl rfl T5 rfl (Po q g lb hb l hf hl hp) ?_;(refine run ?_;repeat intro b);rw[og];rfl
theorem Kc (x h:Head){p:Option Addr}{F:Hp}(hf:eY F p h.row):Plain Tryz.prog F 319 [.agg x.row.toArray,.pointer p] (.bool (decide (x.dW=h.dW)&&decide (x≠h))):=by
 have hs:p.isSome=true:=dO hf (j:=0) (du 3);refine dN (N:=14) (rv:=[.tmp 3]) eP mixed Tryz.func319 rfl rfl rfl rfl rfl ?_;(refine run ?_;repeat intro b);refine dI rfl rfl rfl hs ?_;refine fr (i64 h.dW) rfl rfl rfl rfl (hf 0 _ rfl) ?_;(refine run ?_;repeat intro b);refine uc h.row rfl rfl rfl rfl rfl rfl rfl (fun _=>⟨hs,fun j hj=>by
  have hl:j<h.row.length:=hj;rw[ao hl];exact hf j _ (ao hl)⟩) ?_
 (refine run ?_;repeat intro b);refine a8 Value.bool ?_;rw[fH,sn];congr 1
set_option maxHeartbeats 4000000 in
theorem E8 (h:Head)(l:List Head)(hh:h.wf)(h0:h.fault=0)(hl:l.length≤4611686018427387904)(hw: ∀x∈l,x.wf){p:Option Addr}{c:Nat}{F:Hp}(hf:eY F p (l.flatMap Head.row)):Plain Tryz.prog F 302 [h.v,.slice p l.length c] (i64 (lN h l)):=by
 obtain⟨v1,v2,_⟩:=Head.uO h0;have ew:IntKind.i64.wrap (h.dW+1)=h.dW+1:=wrap_i64 (by omega) (by omega);refine dN (N:=55) (rv:=[.tmp 4]) eP mixed Tryz.func302 rfl rfl rfl rfl rfl ?_;(refine run ?_;repeat intro b);refine dG _ rfl rfl rfl Rq rfl (oO l hl hw hf) ?_;(refine run ?_;repeat intro b);unfold lN;by_cases hz:(fp l).1=0
 ·obtain⟨z1,z2,z3,z4,z5⟩:=iL hz;have hz':l.length - 1<l.length:=by omega
  obtain⟨o1,o2⟩:=eZ eW (by decide) hf 0 z1;obtain⟨o3,o4⟩:=eZ eW (by decide) hf (l.length - 1) hz';have vy:=Head.uO (z3 _ (aj z1));rw[←uE z1]at o2 vy;rw[uB z1]at o4;have Y0:IntKind.i64.wrap (((l.length:Nat):Int) - 1)=((l.length - 1:Nat):Int):=by rw[wrap_i64 (by omega) (by omega)];omega
  have Y1:y9 h l=ji h (qO l.head?):=by
   unfold y9 xI;rw[aY (by simpa using hz),h0];rfl
  rw[aY (by simpa using hz),hz];have hfl:=BX h l hh hl hw (c:=c) hf;rw[Y1]at hfl;generalize qO l.head? =y at o2 vy hfl;generalize fK l=z at o4;refine fM (by kernel_rfl) ?_;(refine run ?_;repeat intro b);refine dI rfl rfl rfl ⟨by omega,by omega,dO hf (j:=0 * 4) (by rw[dL eW];omega)⟩ ?_;(refine run ?_;repeat intro b);refine dI rfl rfl rfl o1 ?_;(refine run ?_;repeat intro b);refine fr (i64 y.dW) rfl rfl rfl rfl (o2 0 (by decide)) ?_;(refine run ?_;repeat intro b);rw[ew];refine ez (decide (h.dW+1<y.dW)) rfl (fun h1=>?_) (fun h1=>?_)
  ·rw[aZ (ar h1)];(refine run ?_;repeat intro b);rfl
  rw[aY (au h1)];(refine run ?_;repeat intro b);refine fM (by kernel_rfl) ?_;(refine run ?_;repeat intro b);refine dI rfl rfl rfl ⟨by omega,by omega,dO hf (j:=0 * 4) (by rw[dL eW];omega)⟩ ?_;refine dI rfl rfl rfl o1 ?_;refine fr (i64 y.dW) rfl rfl rfl rfl (o2 0 (by decide)) ?_;(refine run ?_;repeat intro b);rw[ew];refine k7 (β:=Unit) (fun _=>¬(y.dW=h.dW+1∧ji h y=false)) (fun _=>⟨[(1,.v (.slice p l.length c)),(2,.loc 0 0)],F,[(0,⟨some b,[.v (i64 h.dW),.v (u64 (h.root:Nat)),.v (u64 (h.prev:Nat)),.v (i64 h.at_)],41,4⟩)],1⟩) rfl (fun _ hbad=>?_) (fun u7 kn kr ke=>?_)
  ·rw[aY hbad];(refine run ?_;repeat intro b);refine fT (VS.freeze 0 [1,2,42,43] rfl rfl rfl rfl fun F1 hs1 hf1=>VS.id ?_);refine dG _ rfl rfl rfl Td rfl (OM (fun x=>decide (x.dW=h.dW)&&decide (x≠h)) _ #[_] We l (dZ hs1 hf) hl (fun x hx=>Kc x h hf1)) ?_;(refine run ?_;repeat intro b);generalize (l.any fun x=>decide (x.dW=h.dW)&&decide (x≠h))=y2;cases y2 with
   | true=>
    (refine run ?_;repeat intro b);rfl
   | false=>
    (refine run ?_;repeat intro b);refine fM (by kernel_rfl) ?_;(refine run ?_;repeat intro b);rw[Y0];refine dI rfl rfl rfl ⟨by omega,by omega,dO hf (j:=(l.length - 1) * 4) (by rw[dL eW];omega)⟩ ?_;refine dI rfl rfl rfl (by rw[ae];exact o3) ?_;refine fr (i64 z.dW) rfl rfl rfl rfl (by rw[ae];exact iS hs1 (o4 0 (by decide))) ?_;refine dI rfl rfl rfl rfl ?_;refine fr (i64 h.dW) rfl rfl rfl rfl (hf1 0 _ rfl) ?_;(refine run ?_;repeat intro b);refine ez (decide (z.dW≤h.dW)) rfl (fun h5=>?_) (fun h5=>?_)
    ·rw[aZ (ar h5)];(refine run ?_;repeat intro b);rfl
    rw[aY (au h5)];(refine run ?_;repeat intro b);rfl
  refine ez (decide (y.dW=h.dW+1)) ?_ (fun h2=>?_) (fun h2=>?_)
  ·refine dS ?_;rw[ai];simp
  ·have h2:=ar h2;(refine run ?_;repeat intro b);refine dG _ rfl rfl rfl Wm rfl hfl ?_;(refine run ?_;repeat intro b);refine ez (!ji h y) rfl (fun h3=>?_) (fun h3=>?_)
   ·have h3:ji h y=false:=by simpa using h3
    (refine run ?_;repeat intro b);refine kr _ ?_;rw[aZ ⟨h2,h3⟩];exact IF rfl rfl
   have h3: ¬ji h y=false:=by simpa using h3
   (refine run ?_;repeat intro b);exact kn _ (VS.eH [1,2] rfl ⟨(),fun hh=>h3 hh.2,rfl⟩)
  have h2:=au h2;(refine run ?_;repeat intro b);exact kn _ (VS.eH [1,2] rfl ⟨(),fun hh=>h2 hh.1,rfl⟩)
 rw[aZ hz];rcases Gv l with h | h | h | h | h | h
 ·exact absurd h hz
 all_goals
  rw[h];refine fM (by kernel_rfl) ?_;(refine run ?_;repeat intro b);rfl
end
section
open Go.TR
theorem CE (h:Head)(p:jn):iE h p=0∨iE h p=2∨iE h p=3∨iE h p=4∨iE h p=8:=by
 unfold iE;split
 ·unfold Head.fault;split
  ·simp
  split<;>simp
 rcases DJ h.root p with e | e | e | e<;>simp[e]
theorem Jz {F:Hp}{p:Option Addr}{l:List (List UInt8)}(h:eY F p (l.map S)){n c:Nat}(hn:n≤l.length)(hc:l.length≤c):eY F (jI p n c 1) ((l.drop n).map S):=by
 unfold jI;split
 ·rename_i h1;rw[bW (by omega)];exact eG _ _
 have:=AO h n;rw[cK,aA];cases p with
 | none=>exact this
 | some a=>exact this
attribute [local irreducible] vc dT gx fc fA gC gG gw fG Plain eu eR dH VS fq fx fD ju fe IntKind.wrap
set_option maxRecDepth 100000
theorem Dy (v:List UInt8)(l:List (List UInt8)){m:Nat}(hm:m=l.length)(hl:l.length≤4611686018427387904){p:Option Addr}{c:Nat}{F:Hp}(hf:eY F p (l.map S)):Plain Tryz.prog F 163 [.slice p m c,S v] (i64 (ov (fun w=>decide (w=v)) l)):=by
 subst hm;refine dN (N:=19) (rv:=[.tmp 4]) eP mixed Tryz.func163 rfl rfl rfl rfl rfl ?_;(refine run ?_;repeat intro b);refine eU (fun k:Nat=>k≤l.length∧(l.take k).any (fun w=>decide (w=v))=false) (fun k=>⟨[(0,.v (.slice p l.length c)),(1,.v (S v)),(7,.v (i64 (l.length:Nat))),(8,.v (i64 (k:Nat)))],F,[],0⟩) (fun k=>l.length - k) 0 ⟨az _,rfl⟩ (VS.eH [0,1,7,8] rfl rfl) ?_;rintro k ⟨hk,hany⟩;by_cases hlt:k<l.length
 ·have hget:gb F (im p (k * 1))=some (S l[k]):=by
   have:=gQ hf (j:=k) (by simpa using hlt);simpa using this
  (refine run ?_;repeat intro b);refine gm rfl (by omega) ?_;(refine run ?_;repeat intro b);refine dI rfl rfl rfl ⟨by omega,by omega,dO hf (j:=k * 1) (by simpa using hlt)⟩ ?_;refine fr (S l[k]) rfl rfl rfl rfl (by rw[ae];exact hget) ?_;(refine run ?_;repeat intro b);refine ez (decide (l[k]=v)) ?_ (fun h2=>?_) (fun h2=>?_)
  ·refine dS ?_;rw[fX,fX,ai,av,av];exact eq_comm
  ·(refine run ?_;repeat intro b);rw[lg hlt hany h2];rfl
  (refine run ?_;repeat intro b);rw[dQ (by omega)];exact fj (k+1) ⟨hlt,Ao hlt hany h2⟩ (by omega) (VS.eH [0,1,7,8] rfl rfl)
 have hge:k=l.length:=by omega
 subst hge;rw[aD]at hany;(refine run ?_;repeat intro b);refine gu rfl (by omega) ?_;(refine run ?_;repeat intro b);rw[lv hany];rfl
set_option maxHeartbeats 4000000 in
theorem Gd (o:Ow)(l:List Head)(h:Head)(q:jn)(a:Lay)(hw:o.wf)(h0:kf o=0)(hl:l.length≤4611686018427387904)(hwl: ∀x∈l,x.wf)(hq:q.wf){p:Option Addr}{c:Nat}(hc:o.wanted.length≤c){pl:Option Addr}{cl:Nat}{F:Hp}(hf:eY F p (o.wanted.map S))(hfl:eY F pl (l.flatMap Head.row))(ha:q.at F a):
  Plain Tryz.prog F 276 [o.v p c,.slice pl l.length cl,Kh h q a] (pair (i64 (lR o l h q)) (i64 (mE o l h q:Nat))):=by
 obtain⟨g1,g2,g3,g4,g5,g6⟩:=iT h0;refine dN (N:=76) (rv:=[.tmp 6,.tmp 7]) eP mixed Tryz.func276 rfl rfl rfl rfl rfl ?_;(refine run ?_;repeat intro b);refine dG _ rfl rfl rfl Tx rfl (E8 o.head l hw.head g2 hl hwl hfl) ?_;(refine run ?_;repeat intro b);have hK:lN o.head l≠0→lR o l h q=lN o.head l∧mE o l h q=0:=fun hh=>by
  unfold lR mE;rw[aZ hh,aZ hh];exact⟨rfl,rfl⟩
 have hbad: ∀e:Int,e≠0→lN o.head l=e→lR o l h q=e∧mE o l h q=0:=fun e he hh=>by
  have:=hK (by rw[hh];exact he);rw[hh]at this;exact this
 rcases wR o.head l with e | e | e | e
 ·have hz:(fp l).1=0:=by
   unfold lN at e;by_cases hz:(fp l).1=0
   ·exact hz
   rw[aZ hz]at e;cases e
  obtain⟨z1,_⟩:=iL hz;have hz':l.length - 1<l.length:=by omega
  obtain⟨o3,o4⟩:=eZ eW (by decide) hfl (l.length - 1) hz';rw[uB z1]at o4;have ew:IntKind.i64.wrap (((l.length:Nat):Int) - 1)=((l.length - 1:Nat):Int):=by rw[wrap_i64 (by omega) (by omega)];omega
  have hK2:lR o l h q=if iE h q≠0∨h≠fK l∨q.name≠o.name then 4
    else match gF q.fZ q.name with
     | Option.none=>if 0<o.jA then 5 else 0
     | some v=>if wZ v o.jA o.wanted 0=0 then 6 else 0:=by
   exact aY (by simpa using e)
  have hN2:mE o l h q=if iE h q≠0∨h≠fK l∨q.name≠o.name then 0
    else match gF q.fZ q.name with
     | Option.none=>0
     | some v=>wZ v o.jA o.wanted 0:=by
   exact aY (by simpa using e)
  rw[hK2,hN2,e];generalize fK l=z at o4;(refine run ?_;repeat intro b);refine dG _ rfl rfl rfl X3 rfl (CZ h q a hq ha) ?_;(refine run ?_;repeat intro b);refine fM (by kernel_rfl) ?_;rcases CE h q with hr | hr | hr | hr | hr
  ·have hT:qZ h q=(gF q.fZ q.name).getD []:=by unfold qZ;rw[aZ hr]
   have hB:rO h q=(gF q.fZ q.name).isSome:=by unfold rO;rw[hr];rfl
   rw[hr,hT,hB];(refine run ?_;repeat intro b);rw[ew];refine dI rfl rfl rfl ⟨by omega,by omega,dO hfl (j:=(l.length - 1) * 4) (by rw[dL eW];omega)⟩ ?_;(refine run ?_;repeat intro b);refine fy z.row rfl rfl rfl rfl rfl (by rw[ae];exact o3) (by rw[ae];exact o4) ?_;(refine run ?_;repeat intro b);refine ez (decide (h≠z∨q.name≠o.name)) ?_ (fun h1=>?_) (fun h1=>?_)
   ·refine dS ?_;rw[fu,sn,fX,fX,ai];simp
   ·have h1:=ar h1;rw[aZ (.inr h1),aZ (.inr h1)];(refine run ?_;repeat intro b);rfl
   have h1: ¬(h≠z∨q.name≠o.name):=au h1;have h2: ¬((0:Int)≠0∨h≠z∨q.name≠o.name):=fun hh=>hh.elim (fun e=>e rfl) h1;rw[aY h2,aY h2];cases gF q.fZ q.name with
   | none=>
    (refine run ?_;repeat intro b);refine ez (decide (0<o.jA)) rfl (fun h3=>?_) (fun h3=>?_)
    ·rw[aZ (ar h3)];(refine run ?_;repeat intro b);rfl
    rw[aY (au h3)];(refine run ?_;repeat intro b);rfl
   | some v=>
    dsimp only [dw,Option.isSome_some];(refine run ?_;repeat intro b);have hn: ∃n:Nat,(n:Int)=(if o.jA - 1<0 then 0 else o.jA - 1):=⟨(if o.jA - 1<0 then 0 else o.jA - 1).toNat,by split<;>omega⟩;obtain⟨n,hn⟩:=hn;have hw1:IntKind.i64.wrap (o.jA - 1)=o.jA - 1:=wrap_i64 (by omega) (by omega);have hmx:(if (0:Int)>IntKind.i64.wrap (o.jA - 1) then 0 else IntKind.i64.wrap (o.jA - 1))=((n:Nat):Int):=by rw[hw1,hn]
    have hnl:n≤o.wanted.length:=by split at hn<;>omega
    have hj:=OK (v:=v) (l:=o.wanted) g5 hn;have hil:ov (fun w=>decide (w=v)) (o.wanted.drop n)<100:=by
     unfold ov;split
     ·rename_i hany;have:=List.findIdx_lt_length_of_exists (p:=fun w=>decide (w=v)) (xs:=o.wanted.drop n) (by simpa using hany);rw[aR]at this;omega
     omega
    rw[hmx];refine dI rfl rfl rfl ⟨by omega,by omega,hc⟩ ?_;rw[ae];(refine run ?_;repeat intro b);refine dG _ rfl rfl rfl Qq rfl (Dy v (o.wanted.drop n) List.length_drop.symm (by rw[aR];omega) (Jz hf hnl hc)) ?_;generalize ov (fun w=>decide (w=v)) (o.wanted.drop n)=ix at hj hil;(refine run ?_;repeat intro b);refine ez (decide (ix<0)) rfl (fun h3=>?_) (fun h3=>?_)
    ·have h3:=ar h3;rw[aZ h3]at hj;have hj0:wZ v o.jA o.wanted 0=0:=by omega
     rw[hj0,aZ rfl];(refine run ?_;repeat intro b);rfl
    have h3:=au h3;rw[aY h3]at hj;have hj0: ¬wZ v o.jA o.wanted 0=0:=by omega
    have e1:IntKind.i64.wrap ((n:Nat)+ix)=(n:Nat)+ix:=wrap_i64 (by omega) (by omega);have e2:IntKind.i64.wrap ((n:Nat)+ix+1)=(n:Nat)+ix+1:=wrap_i64 (by omega) (by omega);rw[aY hj0,hj];(refine run ?_;repeat intro b);rw[e1,e2];rfl
  all_goals
   have h2:iE h q≠0∨h≠z∨q.name≠o.name:=.inl (by rw[hr];decide);rw[aZ h2,aZ h2,hr];(refine run ?_;repeat intro b);rfl
 all_goals
  obtain⟨e1,e2⟩:=hbad _ (by decide) e;rw[e,e1,e2];(refine run ?_;repeat intro b);rfl
end
section
open Go.TR
def FJ (o:Ow)(l:List Head)(h:Head)(q:jn):Int:=if kf o=0 then lR o l h q else 0
def uy (o:Ow)(l:List Head)(h:Head)(q:jn):Ow:=if kf o=0 then (if lR o l h q=0 then ⟨o.name,o.key,h,o.wanted,(mE o l h q:Nat)⟩ else o) else Ow.none
def jq (o:Ow)(value:List UInt8):Int:=if kf o≠0 then kf o else if ng value=true then 2 else if o.wanted.length=30 then 7 else 0
def jQ (o:Ow)(value:List UInt8):Ow:=if jq o value=0 then ⟨o.name,o.key,o.head,o.wanted++[value],o.jA⟩ else Ow.none
def iI (o:Ow)(value:List UInt8):Ask:=if jq o value=0 then uv o.key o.name value o.wanted.length else Ask.none
theorem lq (l:List (List UInt8)): ∀x∈l.map S,one (.v x)=true:=fun x hx=>by
 obtain⟨s,_,rfl⟩:=aG.1 hx;rfl
attribute [local irreducible] vc dT gx fc fA gC gG gw fG Plain eu eR dH VS fq fx fD ju fe IntKind.wrap
set_option maxRecDepth 100000
theorem A8 (cs:List Value)(n:Nat){p:Option Addr}{c:Nat}{F:Hp}(hl:cs.length=n * 1)(hf:eY F p cs)(h1: ∀x∈cs,Go.TR.one (.v x)=true)(hb:n * 16≤140737488355328):eu Tryz.prog F 227 [.slice p n c] (fun x _ new=>ml 9 1 cs n x new):=by
 refine fU (N:=8) (rv:=[.tmp 2]) eP mixed Tryz.func227 rfl rfl rfl rfl rfl ?_;(refine run ?_;repeat intro b);refine p9 (b:=p.isNone) eP rfl rfl rfl ?_;cases p with
 | none=>
  have hn:n=0:=by
   rcases dh n with h | h
   ·exact h
   have:=dO hf (j:=0) (by rw[hl];omega);cases this
  subst hn;(refine run ?_;repeat intro b);refine eM (VS.id ⟨_,rfl,.inl ⟨rfl,rfl,none,rfl⟩⟩)
 | some a=>
  (refine run ?_;repeat intro b);refine fv rfl rfl rfl rfl rfl rfl rfl rfl (iV hl hf) (gy _ h1) (fun h=>by cases h) (ah 0) rfl (az _) (by show (0+n) * 16≤_;omega) (fun hn=>?_) (fun hn b2 c2 hc2=>?_)
  ·subst hn;(refine run ?_;repeat intro b);refine eM ?_;refine VS.freeze 0 [2] rfl (cs:=[]) rfl rfl rfl fun F' hs1 hf1=>VS.id ⟨_,rfl,.inl ⟨rfl,rfl,_,rfl⟩⟩
  (refine run ?_;repeat intro b);simp only[aP]at hc2 ⊢;refine mI (qN.mM (nx':=1) [(1,0)] [2] [(0,⟨some b2,cs.map EV.v,9,c2 * 1⟩)] (ff ⟨_,rfl,rfl,rfl,rfl,.inl ⟨rfl,fun e he=>fw _ e he⟩⟩ trivial) rfl rfl rfl rfl rfl rfl ⟨_,rfl,.inr ⟨hn,b2,c2,hc2,rfl,rfl⟩⟩)
attribute [local irreducible] kf lR mE ng uv
theorem JT (o:Ow)(hw:o.wf){p:Option Addr}{c:Nat}{F:Hp}(hf:eY F p (o.wanted.map S)):iu Tryz.prog F 275 [o.v p c] (fun x F'=>∃p c,x=o.v p c∧o.wanted.length≤c∧eY F' p (o.wanted.map S)):=by
 refine eu.drop (fU (N:=8) (rv:=[.cell 2 76]) eP mixed Tryz.func275 rfl rfl rfl rfl rfl ?_);(refine run ?_;repeat intro b);refine fi rfl rfl rfl Qk rfl (eu.MH (fun h=>by rw[aq h];rfl) (A8 (o.wanted.map S) o.wanted.length (by rw[ab,aA]) hf (lq _) hw.wanted)) ?_;rintro _ F1 hF1 ⟨p1,c1,rfl,hc1,h1⟩;(refine run ?_;repeat intro b);exact eM (VS.id ⟨_,rfl,p1,c1,rfl,hc1,h1⟩)
set_option maxHeartbeats 2000000 in
theorem Lu (o:Ow)(l:List Head)(h:Head)(q:jn)(a:Lay)(hw:o.wf)(hl:l.length≤4611686018427387904)(hwl: ∀x∈l,x.wf)(hq:q.wf){p:Option Addr}{c:Nat}{pl:Option Addr}{cl:Nat}{F:Hp}(hf:eY F p (o.wanted.map S))(hfl:eY F pl (l.flatMap Head.row))(ha:q.at F a):
  iu Tryz.prog F 237 [o.v p c,.slice pl l.length cl,Kh h q a] (fun x F'=>∃p c,x=triple ((uy o l h q).v p c) (i64 (FJ o l h q)) (i64 (kf o))∧eY F' p ((uy o l h q).wanted.map S)):=by
 refine eu.drop (fU (N:=36) (rv:=[.cell 6 76,.tmp 7,.tmp 8]) eP mixed Tryz.func237 rfl rfl rfl rfl rfl ?_);(refine run ?_;repeat intro b);refine dG _ rfl rfl rfl M0 rfl (oS o hw hf) ?_;(refine run ?_;repeat intro b);refine ez (decide (kf o≠0)) ?_ (fun h0=>?_) (fun h0=>?_)
 ·refine dS ?_;rw[ai];simp
 ·have h0:=ar h0;have e1:uy o l h q=Ow.none:=by unfold uy;rw[aY h0]
  have e2:FJ o l h q=0:=by unfold FJ;rw[aY h0]
  rw[e1,e2];(refine run ?_;repeat intro b);exact eM (VS.id ⟨_,rfl,none,0,rfl,eG _ _⟩)
 have h0:kf o=0:=by have:=au h0;omega
 have e2:FJ o l h q=lR o l h q:=by unfold FJ;rw[aZ h0]
 rw[e2,h0];(refine run ?_;repeat intro b);refine fi rfl rfl rfl Vz rfl (JT o hw hf) ?_;rintro _ F1 hF1 ⟨p1,c1,rfl,hc1,h1⟩;(refine run ?_;repeat intro b);refine dG _ rfl rfl rfl Vo rfl (Gd o l h q a hw h0 hl hwl hq hc1 h1 (dZ hF1 hfl) (jn.eX hF1 ha)) ?_;(refine run ?_;repeat intro b);refine ez (decide (lR o l h q=0)) ?_ (fun h2=>?_) (fun h2=>?_)
 ·refine dS ?_;rw[ai];simp
 ·have h2:=ar h2;have e1:uy o l h q=⟨o.name,o.key,h,o.wanted,(mE o l h q:Nat)⟩:=by unfold uy;rw[aZ h0,aZ h2]
  rw[e1,h2];(refine run ?_;repeat intro b);exact eM (VS.id ⟨_,rfl,p1,c1,rfl,h1⟩)
 have h2:=au h2;have e1:uy o l h q=o:=by unfold uy;rw[aZ h0,aY h2]
 rw[e1];(refine run ?_;repeat intro b);exact eM (VS.id ⟨_,rfl,p1,c1,rfl,h1⟩)
set_option maxHeartbeats 2000000 in
theorem tF (o:Ow)(value:List UInt8)(hw:o.wf){p:Option Addr}{c:Nat}{F:Hp}(hf:eY F p (o.wanted.map S)):
  iu Tryz.prog F 167 [o.v p c,S value] (fun x F'=>∃p c,x=triple ((jQ o value).v p c) (iI o value).v (i64 (jq o value))∧eY F' p ((jQ o value).wanted.map S)):=by
 refine eu.drop (fU (N:=52) (rv:=[.cell 4 76,.cell 5 35,.tmp 6]) eP mixed Tryz.func167 rfl rfl rfl rfl rfl ?_);have hE: ∀e,e≠0→jq o value=e→jQ o value=Ow.none∧iI o value=Ask.none:=fun e he h=>by
  unfold jQ iI;rw[h,aY he,aY he];exact⟨rfl,rfl⟩
 (refine run ?_;repeat intro b);refine dG _ rfl rfl rfl M0 rfl (oS o hw hf) ?_;(refine run ?_;repeat intro b);refine ez (decide (kf o≠0)) ?_ (fun h0=>?_) (fun h0=>?_)
 ·refine dS ?_;rw[ai];simp
 ·have h0:=ar h0;have e0:jq o value=kf o:=by unfold jq;rw[aZ h0]
  obtain⟨e1,e2⟩:=hE _ h0 e0;rw[e0,e1,e2];(refine run ?_;repeat intro b);exact eM (VS.id ⟨_,rfl,none,0,rfl,eG _ _⟩)
 have h0:kf o=0:=by have:=au h0;omega
 obtain⟨g1,g2,g3,g4,g5,g6⟩:=iT h0;(refine run ?_;repeat intro b);refine dG _ rfl rfl rfl Qy rfl (Ie value F) ?_;(refine run ?_;repeat intro b);refine ez (ng value) rfl (fun h1=>?_) (fun h1=>?_)
 ·have e0:jq o value=2:=by unfold jq;rw[aY (by simpa using h0),aZ h1]
  obtain⟨e1,e2⟩:=hE _ (by decide) e0;rw[e0,e1,e2];(refine run ?_;repeat intro b);exact eM (VS.id ⟨_,rfl,none,0,rfl,eG _ _⟩)
 (refine run ?_;repeat intro b);refine ez (decide (o.wanted.length=30)) ?_ (fun h2=>?_) (fun h2=>?_)
 ·refine dS ?_;rw[ai,av,beq_iff_eq];omega
 ·have e0:jq o value=7:=by unfold jq;rw[aY (by simpa using h0),aY (by rw[h1];decide),aZ (ar h2)]
  obtain⟨e1,e2⟩:=hE _ (by decide) e0;rw[e0,e1,e2];(refine run ?_;repeat intro b);exact eM (VS.id ⟨_,rfl,none,0,rfl,eG _ _⟩)
 have e0:jq o value=0:=by unfold jq;rw[aY (by simpa using h0),aY (by rw[h1];decide),aY (au h2)]
 have e1:jQ o value=⟨o.name,o.key,o.head,o.wanted++[value],o.jA⟩:=by unfold jQ;rw[aZ e0]
 have e2:iI o value=uv o.key o.name value o.wanted.length:=by unfold iI;rw[aZ e0]
 have hcl:=A8 (o.wanted.map S) o.wanted.length (by rw[ab,aA]) hf (lq _) (c:=c) hw.wanted;have ew:IntKind.u64.wrap ((o.wanted.length:Nat):Int)=((o.wanted.length:Nat):Int):=by rw[nk];omega
 rw[e0,e1,e2];(refine run ?_;repeat intro b);rw[ew];refine dG _ rfl rfl rfl UL rfl (Kd o.key o.name value o.wanted.length hw.key hw.name (by omega) F) ?_;(refine run ?_;repeat intro b);refine nA (R:=fun _ cs=>cs=o.wanted.map S) (fun x F' new h=>⟨_,h,rfl⟩) rfl rfl rfl Qk rfl hcl (fun hk0 F1 p1 cs hF1 hcs=>?_) (fun hk1 F1 b1 c1 cs hF1 hc1 hcs=>?_)
 ·(refine run ?_;repeat intro b);refine jy [] rfl rfl rfl rfl rfl rfl rfl (eG _ _) (fb rfl rfl) (gy _ (lq [value])) (by decide) (fun h=>by cases h) (fun _ b2 c2 hc2=>?_);(refine run ?_;repeat intro b);have hnil:o.wanted=[]:=aq hk0;refine mq (VS.freeze 5 [2,4,5,8] rfl (cs:=[S value]) rfl rfl rfl fun F' hs1 hf1=>VS.id ?_);refine fz [0,3] (by kernel_rfl) ?_;refine dR [0,1] (f':=3) (by kernel_rfl) rfl rfl rfl ?_;(refine run ?_;repeat intro b);refine dY 2 (by kernel_rfl) rfl rfl ?_;(refine run ?_;repeat intro b);refine eC (Hp.sub.refl _) (dM rfl) ?_;refine dY 3 (by kernel_rfl) rfl rfl ?_;(refine run ?_;repeat intro b);refine eC (Hp.sub.refl _) (dM rfl) ?_;refine dR [4] (f':=0) (by kernel_rfl) rfl rfl rfl ?_;(refine run ?_;repeat intro b);refine fk (by kernel_rfl) ?_;(refine run ?_;repeat intro b);exact eM (VS.id ⟨_,rfl,some ⟨b2,0,none⟩,c2,by rw[hnil];rfl,by rw[hnil];exact hf1⟩)
 subst hcs;(refine run ?_;repeat intro b);refine fv rfl rfl rfl rfl rfl rfl rfl rfl (fb rfl rfl) (gy _ (lq [value])) (fun h=>by cases h) hc1 rfl (by simp) (by show _ * 16≤_;omega) (fun h=>by cases h) (fun _ b2 c2 hc2=>?_);(refine run ?_;repeat intro b);have hcells:((o.wanted.map S).map EV.v).take (o.wanted.length * 1)++[EV.v (S value)]=((o.wanted++[value]).map S).map EV.v:=by
  rw[aF,aF,an (by simp)];rfl
 refine mq (VS.freeze 6 [2,4,5,8] rfl (cs:=(o.wanted++[value]).map S) ((a8 (iU _) hcells).trans (eD _)) rfl rfl fun F' hs1 hf1=>VS.id ?_);refine fz [0,3] (by kernel_rfl) ?_;refine dR [0,1] (f':=3) (by kernel_rfl) rfl rfl rfl ?_;(refine run ?_;repeat intro b);refine dY 2 (by kernel_rfl) rfl rfl ?_;(refine run ?_;repeat intro b);refine eC (Hp.sub.refl _) (dM rfl) ?_;refine dY 3 (by kernel_rfl) rfl rfl ?_;(refine run ?_;repeat intro b);refine eC (Hp.sub.refl _) (dM rfl) ?_;refine dR [4] (f':=0) (by kernel_rfl) rfl rfl rfl ?_;(refine run ?_;repeat intro b);refine fk (by kernel_rfl) ?_;(refine run ?_;repeat intro b);exact eM (VS.id ⟨_,rfl,some ⟨b2,0,none⟩,c2,by show _=triple (.agg #[S o.name,u64 (o.key:Nat),i64 o.head.dW,u64 (o.head.root:Nat),u64 (o.head.prev:Nat),i64 o.head.at_,.slice _ (o.wanted++[value]).length c2,i64 o.jA]) _ _;rw[ag];rfl,hf1⟩)
end
end Go.Proofs.YthbnddgjkonkdaaGreatDoor
