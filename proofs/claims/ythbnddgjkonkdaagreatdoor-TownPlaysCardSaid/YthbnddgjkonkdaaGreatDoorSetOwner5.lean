/- A part of the proof. -/
import Derived.Test.YthbnddgjkonkdaaGreatDoorSetProofMake
set_option linter.unusedVariables false
set_option linter.unusedSimpArgs false
namespace Go.Proofs.YthbnddgjkonkdaaGreatDoor
section
open Go.TR
@[reducible] def J3 (h:Head) (p:jo) (a:Lay):Value:=.agg #[i64 h.dZ,u64 (h.root:Nat),u64 (h.prev:Nat),i64 h.at_,S p.name,.slice a.e p.gg.length a.ce,.slice a.s p.fF.length a.cs]
def iG (h:Head)(p:jo):Int:=if h.fault≠0 then h.fault else js h.root p
def re (h:Head)(p:jo):List UInt8:=if iG h p=0 then (gI p.gg p.name).getD [] else []
def rl (h:Head)(p:jo):Bool:=decide (iG h p=0)&&(gI p.gg p.name).isSome
theorem E2 (r:Nat)(p:jo):js r p=0∨js r p=2∨js r p=3∨js r p=8:=by
 unfold js;split
 ·rcases x5 p with h | h | h<;>simp[h]
 split<;>simp
theorem BQ {r:Nat}{p:jo}(h:js r p=0):qK r p=(gI p.gg p.name).getD []∧qM r p=(gI p.gg p.name).isSome:=by
 obtain⟨g1,g2⟩:=Bo h;obtain⟨e1,e2⟩:=Hf (Fe g1);unfold qK qM;rw[aZ h,aW h,e1,e2];exact⟨rfl,rfl⟩
theorem J7 {r:Nat}{p:jo}(h:js r p≠0):qK r p=[]∧qM r p=false:=by
 unfold qK qM;rw[aY h,aX h];exact⟨rfl,rfl⟩
theorem yC {h:Head}{p:jo}(h0:h.fault=0):re h p=qK h.root p∧rl h p=qM h.root p∧iG h p=js h.root p:=by
 have e:iG h p=js h.root p:=by unfold iG;rw[aY (by simpa using h0)]
 unfold re rl;rw[e];by_cases h1:js h.root p=0
 ·obtain⟨g1,g2⟩:=BQ h1;rw[aZ h1,aW h1,g1,g2];exact⟨rfl,rfl,rfl⟩
 obtain⟨g1,g2⟩:=J7 h1;rw[aY h1,aX h1,g1,g2];exact⟨rfl,rfl,rfl⟩
attribute [local irreducible] vc dW gz fg fD gF gJ gB fJ Plain eD eX dK VS fv fA fG jt fh IntKind.wrap
attribute [local irreducible] iG re rl js qK qM fV lv
set_option maxRecDepth 100000
set_option maxHeartbeats 1000000
theorem CI (h:Head)(p:jo)(a:Lay)(hw:p.wf){F:Hp}(hf:p.at F a):Plain Tryz.prog F 13 [J3 h p a] (triple (S (re h p)) (.bool (rl h p)) (i64 (iG h p))):=by
 refine dQ (N:=21) (rv:=[.tmp 2,.tmp 3,.tmp 4]) eW mixed Tryz.func13 rfl rfl rfl rfl rfl ?_;(refine run ?_;repeat intro b);refine dJ _ rfl rfl rfl HI rfl (kA h F) ?_;(refine run ?_;repeat intro b);refine eE (decide (h.fault≠0)) ?_ (fun h0=>?_) (fun h0=>?_)
 ·refine dV ?_;rw[ai];simp
 ·have h0:=ar h0;have e1:iG h p=h.fault:=by unfold iG;rw[aZ h0]
  have e2:re h p=[]:=by unfold re;rw[aY (by rw[e1];exact h0)]
  have e3:rl h p=false:=by unfold rl;rw[aX (by rw[e1];exact h0)];rfl
  rw[e1,e2,e3];(refine run ?_;repeat intro b);rfl
 have h0:h.fault=0:=by have:=au h0;omega
 obtain⟨e1,e2,e3⟩:=yC (p:=p) h0;rw[e1,e2,e3];(refine run ?_;repeat intro b);refine dJ _ rfl rfl rfl Xf rfl (PX h.root p a hw hf) ?_;(refine run ?_;repeat intro b);rfl
theorem vO (h:Head)(p:jo)(a:Lay)(hw:p.wf){F:Hp}(hf:p.at F a):Plain Tryz.prog F 136 [J3 h p a] (i64 (iG h p)):=by
 refine dQ (N:=24) (rv:=[.tmp 2]) eW mixed Tryz.func136 rfl rfl rfl rfl rfl ?_;(refine run ?_;repeat intro b);refine dJ _ rfl rfl rfl IQ rfl (oJ h F) ?_;(refine run ?_;repeat intro b);refine eE (decide (h.fault≠0)) ?_ (fun h0=>?_) (fun h0=>?_)
 ·refine dV ?_;rw[ai];simp
 ·have h0:=ar h0;have e1:iG h p=h.fault:=by unfold iG;rw[aZ h0]
  rw[e1];(refine run ?_;repeat intro b);rfl
 have h0:h.fault=0:=by have:=au h0;omega
 obtain⟨_,_,e3⟩:=yC (p:=p) h0;rw[e3];(refine run ?_;repeat intro b);refine dJ _ rfl rfl rfl UQ rfl (Aw p a hw hf) ?_;(refine run ?_;repeat intro b);refine eE (decide (fV p≠0)) ?_ (fun h1=>?_) (fun h1=>?_)
 ·refine dV ?_;rw[ai];simp
 ·have h1:=ar h1;have e1:js h.root p=fV p:=by unfold js;rw[aZ h1]
  rw[e1];(refine run ?_;repeat intro b);rfl
 have h1:fV p=0:=by have:=au h1;omega
 have e1:js h.root p=if lv p≠h.root then 8 else 0:=by unfold js;rw[aY (by simpa using h1)]
 rw[e1];(refine run ?_;repeat intro b);refine fO (by kernel_rfl) ?_;(refine run ?_;repeat intro b);refine dJ _ rfl rfl rfl Vc rfl (xe p a hw h1 hf) ?_;(refine run ?_;repeat intro b);refine eE (decide (lv p≠h.root)) ?_ (fun h2=>?_) (fun h2=>?_)
 ·refine dV ?_;rw[ai];simp;omega
 ·rw[aZ (ar h2)];(refine run ?_;repeat intro b);rfl
 rw[aY (au h2)];(refine run ?_;repeat intro b);rfl
end
section
open Go.TR
end
section
open Go.TR
def qH (c:eI)(n:List UInt8)(k:Int):Int:=if mj c k≠0 then mj c k else ml (kV c k) n
def pQ (c:eI)(n:List UInt8)(k:Int):Head:=if qH c n k=0 then c.dS.getD k.toNat Head.none else Head.none
def nu (c:eI)(n:List UInt8)(k:Int):jo:=if qH c n k=0 then nw (kV c k) n else jo.none
def qj (c:eI)(f t:Int):Int:=if gh c≠0 then gh c else pU c.dS f t
def k7 (c:eI)(f t:Int):List Head:=if qj c f t=0 then pT c.dS f t else []
theorem EH {c:eI}{n:List UInt8}{k:Int}(h:qH c n k≠0):pQ c n k=Head.none∧nu c n k=jo.none:=by
 unfold pQ nu;rw[aY h,aY h];exact⟨rfl,rfl⟩
theorem J8 {c:eI}{n:List UInt8}{k:Int}(h:qH c n k=0):pQ c n k=c.dS.getD k.toNat Head.none∧nu c n k=nw (kV c k) n:=by
 unfold pQ nu;rw[aZ h,aZ h];exact⟨rfl,rfl⟩
theorem wh (F:Hp):jo.none.at F ⟨none,0,none,0⟩:=⟨eJ _ _,eJ _ _⟩
theorem DX {c:eI}{n:Int}(h:mj c n=0):gh c=0∧0≤n∧n<(c.ez.length:Int):=by
 unfold mj at h;split at h
 ·rename_i h0;exact absurd h h0
 rename_i h0;split at h
 ·cases h
 rename_i h1;exact⟨bE.1 h0,by omega,by omega⟩
theorem JW {c:eI}{n:Int}(h:mj c n=0): ∃k:Nat,n=(k:Int)∧ ∃hk:k<c.ez.length,kV c n=c.ez[k]:=by
 obtain⟨_,h1,h2⟩:=DX h;refine⟨n.toNat,by omega,by omega,?_⟩;unfold kV;rw[aZ h];simp[List.getD,show n.toNat<c.ez.length by omega]
theorem wu {c:eI}(hw:c.wf)(n:Int):(kV c n).length≤4398046511104∧ ∀x∈kV c n,x.wf:=by
 by_cases h:mj c n=0
 ·obtain⟨k,_,hk,e⟩:=JW h;rw[e];exact hw.ez _ (aj hk)
 unfold kV;rw[aY h];exact⟨by decide,fun x hx=>by cases hx⟩
attribute [local irreducible] vc dW gz fg fD gF gJ gB fJ Plain eD eX dK VS fv fA fG jt fh IntKind.wrap
attribute [local irreducible] dY gN fL gh fu mj kV ml nw lT pU pT qH pQ nu qj k7
set_option maxRecDepth 100000
set_option maxHeartbeats 4000000
theorem uT (c:eI)(l:ji)(n:List UInt8)(k:Int)(hw:c.wf)(hn:n.length≤4611686018427387904)(hk: -9223372036854775808≤k∧k≤9223372036854775807){F:Hp}(ha:c.at F l):
  iy Tryz.prog F 12 [c.v l,S n,i64 k] (fun y F'=>∃a,y=pair (J3 (pQ c n k) (nu c n k) a) (i64 (qH c n k))∧(nu c n k).at F' a):=by
 refine eD.drop (fW (N:=38) (rv:=[.cell 6 47,.tmp 7]) eW mixed Tryz.func12 rfl rfl rfl rfl rfl ?_);(refine run ?_;repeat intro b);refine fm rfl rfl rfl XH rfl (CZ c l k hw hk ha) ?_;rintro _ F1 hF1 ⟨p1,c1,rfl,hf1⟩;(refine run ?_;repeat intro b);refine eE (decide (mj c k≠0)) ?_ (fun h0=>?_) (fun h0=>?_)
 ·refine dV ?_;rw[ai];simp
 ·have h0:=ar h0;have e:qH c n k=mj c k:=by unfold qH;rw[aZ h0]
  obtain⟨e1,e2⟩:=EH (c:=c) (n:=n) (k:=k) (by rw[e];exact h0);rw[e,e1,e2];(refine run ?_;repeat intro b);exact eU (VS.id ⟨_,rfl,⟨none,0,none,0⟩,rfl,wh _⟩)
 have h0:mj c k=0:=by have:=au h0;omega
 have e:qH c n k=ml (kV c k) n:=by unfold qH;rw[aY (by rw[h0];decide)]
 obtain⟨b1,b2⟩:=wu hw k;obtain⟨g1,g2,g3⟩:=DX h0;have hG:=nh g1;have hlen:=hG.lens;(refine run ?_;repeat intro b);refine fm rfl rfl rfl Yf rfl (OZ (kV c k) n (by omega) b2 hn hf1) ?_;rintro _ F2 hF2 ⟨a,rfl,hm⟩;(refine run ?_;repeat intro b);refine eE (decide (ml (kV c k) n≠0)) ?_ (fun h1=>?_) (fun h1=>?_)
 ·refine dV ?_;rw[ai];simp
 ·have h1:=ar h1;obtain⟨e1,e2⟩:=EH (c:=c) (n:=n) (k:=k) (by rw[e];exact h1);rw[e,e1,e2];(refine run ?_;repeat intro b);exact eU (VS.id ⟨_,rfl,⟨none,0,none,0⟩,rfl,wh _⟩)
 have h1:ml (kV c k) n=0:=by have:=au h1;omega
 obtain⟨e1,e2⟩:=J8 (c:=c) (n:=n) (k:=k) (by rw[e];exact h1);obtain⟨j,rfl⟩: ∃j:Nat,k=(j:Int):=⟨k.toNat,by omega⟩;have hj:j<c.dS.length:=by omega
 have e3:c.dS.getD j Head.none=c.dS[j]:=by simp[List.getD,hj]
 rw[ae,e3]at e1;have SB:=eu (hF1.trans hF2) ha.h;obtain⟨o1,o2⟩:=fa eZ (by decide) SB j hj;rw[e,e1,e2,h1];generalize c.dS[j]=hd at o2;(refine run ?_;repeat intro b);refine jM 7 (by kernel_rfl) rfl rfl ?_;(refine run ?_;repeat intro b);refine dL rfl rfl rfl ⟨by omega,by omega,dR SB (j:=j * 4) (by rw[dO eZ];omega)⟩ ?_;refine fB hd.row rfl rfl rfl rfl rfl (by rw[ae];exact o1) (by rw[ae];exact o2) ?_;(refine run ?_;repeat intro b);exact eU (VS.id ⟨_,rfl,a,rfl,hm⟩)
theorem Ax (c:eI)(l:ji)(f t:Int)(hw:c.wf){F:Hp}(ha:c.at F l):
  iy Tryz.prog F 235 [c.v l,i64 f,i64 t] (fun y F'=>∃p' c',y=pair (.slice p' (k7 c f t).length c') (i64 (qj c f t))∧(k7 c f t).length≤c'∧e9 F' p' ((k7 c f t).flatMap Head.row)):=by
 refine eD.drop (fW (N:=21) (rv:=[.tmp 6,.tmp 7]) eW mixed Tryz.func235 rfl rfl rfl rfl rfl ?_);(refine run ?_;repeat intro b);refine dJ _ rfl rfl rfl OI rfl (m0 c l hw ha) ?_;(refine run ?_;repeat intro b);refine eE (decide (gh c≠0)) ?_ (fun h0=>?_) (fun h0=>?_)
 ·refine dV ?_;rw[ai];simp
 ·have h0:=ar h0;have e:qj c f t=gh c:=by unfold qj;rw[aZ h0]
  have e1:k7 c f t=[]:=by unfold k7;rw[aY (by rw[e];exact h0)]
  rw[e,e1];(refine run ?_;repeat intro b);exact eU (VS.id ⟨_,rfl,none,0,rfl,ah _,eJ _ _⟩)
 have h0:gh c=0:=by have:=au h0;omega
 have hG:=nh h0;have hlen:=hG.lens;have e:qj c f t=pU c.dS f t:=by unfold qj;rw[aY (by rw[h0];decide)]
 have e1:k7 c f t=pT c.dS f t:=by
  unfold k7;rw[e];split
  ·rfl
  rename_i h1;unfold pT;rw[aY h1]
 rw[e,e1];(refine run ?_;repeat intro b);refine fm rfl rfl rfl X9 rfl (C6 c.dS f t (by omega) hw.dS ha.ch ha.h) ?_;rintro _ F2 hF2 ⟨p2,c2,rfl,hc2,hf2⟩;(refine run ?_;repeat intro b);exact eU (VS.id ⟨_,rfl,p2,c2,rfl,hc2,hf2⟩)
end
section
open Go.TR
def Tx (x:Head)(b:List Head):List (Head×Head):=(b.filter fun y=>decide (x.dZ=y.dZ)).map fun y=>(x,y)
def Q4 (a b:List Head):List (Head×Head):=a.flatMap fun x=>Tx x b
@[reducible] def aad (q:Head×Head):List Value:=q.1.row++q.2.row
theorem ND {a:Head}{t:List Head}{i:Nat}(h:td (a::t) i=none): ∃j,td t j=none:=by
 match t with
 | []=>exact⟨0,rfl⟩
 | b::t=>
  unfold td at h;split at h
  ·exact⟨_,h⟩
  cases h
theorem Mx {a:Head}{t:List Head}{i:Nat}(h:td (a::t) i=none): ∀y∈t,a.dZ<y.dZ:=fun y hy=>by
 obtain⟨k,hk,rfl⟩:=List.mem_iff_getElem.1 hy;have:=sk h (k+1) (by simpa using hk);simp only[List.getElem_cons_succ,List.getElem_cons_zero]at this;omega
theorem uF: ∀{l:List Head}{i:Nat}(n:Int),td l i=none→(l.filter fun y=>decide (n=y.dZ))=(jP l n).toList
 | [],_,_,_=>rfl
 | a::t,i,n,h=>by
  obtain⟨j,hj⟩:=ND h;have hr:=Mx h;have ih:=uF n hj;unfold jP at ih ⊢;by_cases hn:a.dZ=n
  ·have:(t.filter fun y=>decide (n=y.dZ))=[]:=by
    rw[List.filter_eq_nil_iff];intro y hy;have:=hr y hy;simp only[av];omega
   rw[List.filter_cons_of_pos (by simp[hn]),List.find?_cons_of_pos (by simp[hn]),this];rfl
  rw[List.filter_cons_of_neg (by simp;omega),List.find?_cons_of_neg (by simp[hn]),ih]
def UP (a b:List Head):Option (Head×Head):=(Q4 a b).find? fun q=>decide (q.1≠q.2)
def UL (a b:List Head):Int:=if (fu a).1≠0 then (fu a).1 else if (fu b).1≠0 then (fu b).1 else if (Q4 a b).length=0 then 5 else 0
def Zs (a b:List Head):Int:=if UL a b≠0 then 0 else match UP a b with
 | some q=>q.1.dZ
 | none=> -1
def Ss (b:List Head):List Head→Option Int
 | []=>none
 | y::t=>match jP b y.dZ with
  | some z=>if y≠z then some y.dZ else Ss b t
  | none=>Ss b t
def Qi (a:List Head):List (List Head)→Nat→Option (Nat×Int)
 | [],_=>none
 | b::t,k=>match Ss b a with
  | some n=>some (k,n)
  | none=>Qi a t (k+1)
def V6:List (List Head)→Nat→Option (Nat×Nat×Int)
 | [],_=>none
 | a::t,i=>match Qi a t (i+1) with
  | some (k,n)=>some (i,k,n)
  | none=>V6 t (i+1)
end
section
open Go.TR
structure Ow where
 name:List UInt8
 key:Nat
 head:Head
 wanted:List (List UInt8)
 jD:Int
structure Ow.wf (o:Ow):Prop where
 name:o.name.length≤4611686018427387904
 key:o.key<18446744073709551616
 head:o.head.wf
 wanted:o.wanted.length * 16≤140737488355328
 each: ∀s∈o.wanted,s.length≤4611686018427387904
 jD: -9223372036854775808≤o.jD∧o.jD≤9223372036854775807
@[reducible] def Ow.v (o:Ow) (p:Option Addr) (c:Nat):Value:=.agg #[S o.name,u64 (o.key:Nat),i64 o.head.dZ,u64 (o.head.root:Nat),u64 (o.head.prev:Nat),i64 o.head.at_,.slice p o.wanted.length c,i64 o.jD]
def Ow.none:Ow:=⟨[],0,Head.none,[],0⟩
def nb (s:List UInt8):Bool:=decide (20<s.length)
def ki (o:Ow):Int:=if eP o.name=true then (if o.head.fault≠0 then o.head.fault else if 30<o.wanted.length∨o.wanted.any nb=true then 2 else if o.jD<0∨(o.wanted.length:Int)<o.jD then 4 else 0) else 3
theorem iW {o:Ow}(h:ki o=0):eP o.name=true∧o.head.fault=0∧o.wanted.length≤30∧o.wanted.any nb=false∧0≤o.jD∧o.jD≤o.wanted.length:=by
 unfold ki at h;split at h
 ·rename_i h1;split at h
  ·rename_i h2;exact absurd h h2
  rename_i h2;split at h
  ·cases h
  rename_i h3;split at h
  ·cases h
  rename_i h4;rw[not_or]at h3 h4;exact⟨h1,by omega,by omega,by simpa using h3.2,by omega,by omega⟩
 cases h
def lM (h:Head)(l:List Head):Int:=
 if (fu l).1≠0 then 2
 else if h.dZ+1<(qR l.head?).dZ then 2
 else if (qR l.head?).dZ=h.dZ+1∧jl h (qR l.head?)=false then 2
 else if (l.any fun x=>decide (x.dZ=h.dZ)&&decide (x≠h))=true then 3
 else if (fL l).dZ≤h.dZ then 1 else 0
theorem wX (h:Head)(l:List Head):lM h l=0∨lM h l=1∨lM h l=2∨lM h l=3:=by
 unfold lM;split
 ·simp
 split
 ·simp
 split
 ·simp
 split
 ·simp
 split<;>simp
theorem Hy {l:List Head}{i:Nat}(hu:td l i=Option.none)(h:Head):(l.any fun x=>decide (x.dZ=h.dZ)&&decide (x≠h))=((jP l h.dZ).isSome&&decide (qR (jP l h.dZ)≠h)):=by
 have hf:=uF h.dZ hu;have e1:(l.any fun x=>decide (x.dZ=h.dZ)&&decide (x≠h))=(l.filter fun y=>decide (h.dZ=y.dZ)).any fun x=>decide (x≠h):=by
  rw[List.any_filter];congr 1;funext x;congr 1;rw[ai,av,av];exact eq_comm
 rw[e1,hf];cases jP l h.dZ with
 | none=>rfl
 | some z=>by_cases hz:z=h<;>simp[qR,hz]
def w7 (v:List UInt8)(jD:Int):List (List UInt8)→Nat→Nat
 | [],_=>0
 | w::t,k=>if jD≤(k:Int)+1∧w=v then k+1 else w7 v jD t (k+1)
theorem Lo {v:List UInt8}{jD:Int}{l:List (List UInt8)}{k:Nat}(hk:k<l.length):w7 v jD (l.drop k) k=if jD≤(k:Int)+1∧l[k]=v then k+1 else w7 v jD (l.drop (k+1)) (k+1):=by
 rw[aO hk];rfl
theorem DP {v:List UInt8}{jD:Int}: ∀(l:List (List UInt8)) (k:Nat),jD≤(k:Int)+1→w7 v jD l k=if (l.any fun w=>decide (w=v))=true then k+l.findIdx (fun w=>decide (w=v))+1 else 0
 | [],k,_=>rfl
 | w::t,k,h=>by
  unfold w7;by_cases hw:w=v
  ·rw[aZ ⟨h,hw⟩];simp[hw,List.findIdx_cons]
  rw[aY (fun hh=>hw hh.2),DP t (k+1) (by omega)];simp only[List.any_cons,hw,decide_false,bu,List.findIdx_cons,cond_false];split
  ·omega
  rfl
theorem DZ {v:List UInt8}{jD:Int}: ∀(l:List (List UInt8)) (k n:Nat),(k:Int)+n+1=jD→w7 v jD l k=w7 v jD (l.drop n) (k+n)
 | l,k,0,_=>by simp
 | [],k,n+1,_=>by simp[w7]
 | w::t,k,n+1,h=>by
  have ih:=DZ (v:=v) (jD:=jD) t (k+1) n (by omega);rw[List.drop_succ_cons];show (if jD≤(k:Int)+1∧w=v then k+1 else w7 v jD t (k+1))=_;rw[aY (fun hh=>by have:=hh.1;omega),ih,show k+1+n=k+(n+1) by omega]
theorem Pl {v:List UInt8}{jD:Int}{l:List (List UInt8)}{n:Nat}(h0:0≤jD)(hn:(n:Int)=if jD - 1<0 then 0 else jD - 1):
  ((w7 v jD l 0:Nat):Int)=if oy (fun w=>decide (w=v)) (l.drop n)<0 then 0 else (n:Int)+oy (fun w=>decide (w=v)) (l.drop n)+1:=by
 have e1:w7 v jD l 0=w7 v jD (l.drop n) n:=by
  by_cases h1:jD=0
  ·have:n=0:=by split at hn<;>omega
   subst this;simp
  have:=DZ (v:=v) (jD:=jD) l 0 n (by split at hn<;>omega);rw[this,aP]
 rw[e1,DP _ _ (by split at hn<;>omega)];unfold oy;by_cases ha:((l.drop n).any fun w=>decide (w=v))=true
 ·rw[aZ ha,aZ ha,aY (by omega)];omega
 rw[aY ha,aY ha,aZ (by omega)];rfl
def lO (o:Ow)(l:List Head)(h:Head)(p:jo):Int:=
 if lM o.head l≠0 then lM o.head l
 else if iG h p≠0∨h≠fL l∨p.name≠o.name then 4
 else match gI p.gg p.name with
  | Option.none=>if 0<o.jD then 5 else 0
  | some v=>if w7 v o.jD o.wanted 0=0 then 6 else 0
def mJ (o:Ow)(l:List Head)(h:Head)(p:jo):Nat:=
 if lM o.head l≠0 then 0
 else if iG h p≠0∨h≠fL l∨p.name≠o.name then 0
 else match gI p.gg p.name with
  | Option.none=>0
  | some v=>w7 v o.jD o.wanted 0
end
section
open Go.TR
theorem BA (s:List UInt8):decide ((20:Int)<((s.length:Nat):Int))=nb s:=by
 unfold nb;rw[ai,av,av];omega
theorem Ap {α:Type}{f:α→Bool}{l:List α}{k:Nat}(hk:k<l.length)(h:(l.take k).any f=false)(h2:f l[k]=false):(l.take (k+1)).any f=false:=by
 rw[al hk,bK,h];simp[h2]
attribute [local irreducible] vc dW gz fg fD gF gJ gB fJ Plain eD eX dK VS fv fA fG jt fh IntKind.wrap
set_option maxRecDepth 100000
theorem Ir (s:List UInt8)(F:Hp):Plain Tryz.prog F 224 [S s] (.bool (nb s)):=by
 refine dQ (N:=6) (rv:=[.tmp 2]) eW mixed Tryz.func224 rfl rfl rfl rfl rfl ?_;(refine run ?_;repeat intro b);exact a8 Value.bool (BA s)
set_option maxHeartbeats 2000000 in
theorem oU (o:Ow)(hw:o.wf){p:Option Addr}{c:Nat}{F:Hp}(hf:e9 F p (o.wanted.map S)):Plain Tryz.prog F 164 [o.v p c] (i64 (ki o)):=by
 have hn:=hw.name;have hl:=hw.wanted;refine dQ (N:=36) (rv:=[.tmp 2]) eW mixed Tryz.func164 rfl rfl rfl rfl rfl ?_;(refine run ?_;repeat intro b);refine dJ _ rfl rfl rfl wH rfl (oF o.name hn F) ?_;unfold ki;cases hg:eP o.name with
 | false=>
  (refine run ?_;repeat intro b);rfl
 | true=>
  rw[aZ rfl];(refine run ?_;repeat intro b);refine dJ _ rfl rfl rfl HI rfl (kA o.head F) ?_;(refine run ?_;repeat intro b);refine eE (decide (o.head.fault≠0)) ?_ (fun h0=>?_) (fun h0=>?_)
  ·refine dV ?_;rw[ai];simp
  ·rw[aZ (ar h0)];(refine run ?_;repeat intro b);rfl
  rw[aY (au h0)];(refine run ?_;repeat intro b);refine gm _ rfl rfl rfl rfl Yn rfl rfl (fun _=>M6 nb _ #[] Qw o.wanted hf (by omega) (fun x _=>Ir x F)) ?_;(refine run ?_;repeat intro b);generalize (o.wanted.any nb)=y;refine eE (decide (30<o.wanted.length∨y=true)) ?_ (fun h1=>?_) (fun h1=>?_)
  ·refine dV ?_;rw[fx];have e:decide ((30:Int)<((o.wanted.length:Nat):Int))=decide (30<o.wanted.length):=by
    rw[ai,av,av];omega
   rw[e];by_cases hh:30<o.wanted.length<;>cases y<;>simp[hh]
  ·rw[aZ (ar h1)];(refine run ?_;repeat intro b);rfl
  rw[aY (au h1)];(refine run ?_;repeat intro b);refine eE (decide (o.jD<0∨(o.wanted.length:Int)<o.jD)) ?_ (fun h2=>?_) (fun h2=>?_)
  ·refine dV ?_;rw[fx,ai];simp
  ·rw[aZ (ar h2)];(refine run ?_;repeat intro b);rfl
  rw[aY (au h2)];(refine run ?_;repeat intro b);rfl
def Ow.fresh (name:List UInt8)(key:Nat)(h:Head):Ow:=⟨name,key,h,[],0⟩
def GL (name:List UInt8)(key:Nat)(h:Head):Ow:=if ki (Ow.fresh name key h)=0 then Ow.fresh name key h else Ow.none
theorem E9 (name:List UInt8)(key:Nat)(h:Head)(hn:name.length≤4611686018427387904)(hk:key<18446744073709551616)(hh:h.wf){F:Hp}:Plain Tryz.prog F 108 [S name,u64 (key:Nat),h.v] (pair ((GL name key h).v none 0) (i64 (ki (Ow.fresh name key h)))):=by
 have hw:(Ow.fresh name key h).wf:=⟨hn,hk,hh,by simp[Ow.fresh],fun s hs=>(by simp[Ow.fresh]at hs),by simp[Ow.fresh]⟩;refine dQ (N:=21) (rv:=[.cell 6 76,.tmp 7]) eW mixed Tryz.func108 rfl rfl rfl rfl rfl ?_;(refine run ?_;repeat intro b);refine dJ _ rfl rfl rfl Mr rfl (oU (Ow.fresh name key h) hw (p:=none) (c:=0) (eJ _ _)) ?_;(refine run ?_;repeat intro b);refine eE (decide (ki (Ow.fresh name key h)≠0)) ?_ (fun h0=>?_) (fun h0=>?_)
 ·refine dV ?_;rw[ai];simp
 ·have h0:=ar h0;have e:GL name key h=Ow.none:=by unfold GL;rw[aY h0]
  rw[e];(refine run ?_;repeat intro b);rfl
 have h0:ki (Ow.fresh name key h)=0:=by have:=au h0;omega
 have e:GL name key h=Ow.fresh name key h:=by unfold GL;rw[aZ h0]
 rw[e,h0];(refine run ?_;repeat intro b);rfl
end
section
open Go.TR
theorem Gq (l:List Head):(fu l).1=0∨(fu l).1=2∨(fu l).1=3∨(fu l).1=4∨(fu l).1=5∨(fu l).1=8:=by
 unfold fu;split
 ·simp
 split
 ·simp
 cases hb:kq l 0 with
 | some x=>
  rw[qc hb];have h2: ∀{l:List Head} {i:Nat} {x:Int×Nat},kq l i=some x→∃h:Head,x.1=h.fault:=by
   intro l
   induction l with
   | nil=>intro i x h;cases h
   | cons a l ih=>
    intro i x h;unfold kq at h;split at h
    ·exact ih h
    cases h;exact⟨a,rfl⟩
  obtain⟨h,e⟩:=h2 hb;rw[e];unfold Head.fault;split
  ·simp
  split<;>simp
 | none=>
  cases hu:td l 1 with
  | some i=>rw[qw hb hu];simp
  | none=>rw[nI hb hu];simp
attribute [local irreducible] vc dW gz fg fD gF gJ gB fJ Plain eD eX dK VS fv fA fG jt fh IntKind.wrap
set_option maxRecDepth 100000
theorem Pg (q:Head→Bool)(g:Nat)(lb:Array Value)(hb:dK Tryz.prog g)(l:List Head){p:Option Addr}{c:Nat}{F:Hp}(hf:e9 F p (l.flatMap Head.row))(hl:l.length≤4611686018427387904)(hp: ∀x∈l,Plain Tryz.prog F g (.agg (Head.row x).toArray::lb.toList) (.bool (q x))):
  Plain Tryz.prog F 329 [.slice p l.length c,.func (.func g) #[] lb] (i64 (oy q l)):=by
 refine dQ (N:=19) (rv:=[.tmp 4]) eW mixed Tryz.func329 rfl rfl rfl rfl rfl ?_;(refine run ?_;repeat intro b);refine eY (fun k:Nat=>k≤l.length∧(l.take k).any q=false) (fun k=>⟨[(0,.v (.slice p l.length c)),(1,.v (.func (.func g) #[] lb)),(7,.v (i64 (l.length:Nat))),(8,.v (i64 (k:Nat)))],F,[],0⟩) (fun k=>l.length - k) 0 ⟨az _,rfl⟩ (VS.eL [0,1,7,8] rfl rfl) ?_;rintro k ⟨hk,hany⟩;(refine run ?_;repeat intro b);refine eE _ rfl (fun h=>?_) (fun h=>?_)
 ·have hlt:k<l.length:=by simpa using h
  obtain⟨o1,o2⟩:=fa eZ (by decide) hf k hlt;(refine run ?_;repeat intro b);refine dL rfl rfl rfl ⟨by omega,by omega,dR hf (j:=k * 4) (by rw[dO eZ];omega)⟩ ?_;refine fB (Head.row l[k]) rfl rfl rfl rfl rfl (by rw[ae];exact o1) (by rw[ae];exact o2) ?_;(refine run ?_;repeat intro b);refine dJ _ rfl rfl (by rw[fE];rfl) hb rfl (hp l[k] (aj hlt)) ?_;(refine run ?_;repeat intro b);refine eE _ rfl (fun h2=>?_) (fun h2=>?_)
  ·(refine run ?_;repeat intro b);rw[k8 hlt hany h2];rfl
  (refine run ?_;repeat intro b);rw[dT (by omega)];refine fp (k+1) ⟨hlt,?_⟩ (by omega) (VS.eL [0,1,7,8] rfl rfl);rw[al hlt,bK,hany];simp[h2]
 have hge:k=l.length:=by
  have: ¬k<l.length:=by simpa using h
  omega
 subst hge;rw[aD]at hany;(refine run ?_;repeat intro b);rw[lu hany];rfl
theorem OT (q:Head→Bool)(g:Nat)(lb:Array Value)(hb:dK Tryz.prog g)(l:List Head){p:Option Addr}{c:Nat}{F:Hp}(hf:e9 F p (l.flatMap Head.row))(hl:l.length≤4611686018427387904)(hp: ∀x∈l,Plain Tryz.prog F g (.agg (Head.row x).toArray::lb.toList) (.bool (q x))):
  Plain Tryz.prog F 318 [.slice p l.length c,.func (.func g) #[] lb] (.bool (l.any q)):=by
 refine dQ (N:=9) (rv:=[.tmp 4]) eW mixed Tryz.func318 rfl rfl rfl rfl rfl ?_;(refine run ?_;repeat intro b);refine dJ _ rfl rfl rfl Ty rfl (Pg q g lb hb l hf hl hp) ?_;(refine run ?_;repeat intro b);rw[nY];rfl
theorem JI (x h:Head){p:Option Addr}{F:Hp}(hf:e9 F p h.row):Plain Tryz.prog F 319 [.agg x.row.toArray,.pointer p] (.bool (decide (x.dZ=h.dZ)&&decide (x≠h))):=by
 have hs:p.isSome=true:=dR hf (j:=0) (dx 3);refine dQ (N:=14) (rv:=[.tmp 3]) eW mixed Tryz.func319 rfl rfl rfl rfl rfl ?_;(refine run ?_;repeat intro b);refine dL rfl rfl rfl hs ?_;refine fw (i64 h.dZ) rfl rfl rfl rfl (hf 0 _ rfl) ?_;(refine run ?_;repeat intro b);refine uM h.row rfl rfl rfl rfl rfl rfl rfl (fun _=>⟨hs,fun j hj=>by
  have hl:j<h.row.length:=hj;rw[ao hl];exact hf j _ (ao hl)⟩) ?_
 (refine run ?_;repeat intro b);refine a8 Value.bool ?_;rw[fK,sv];congr 1
set_option maxHeartbeats 4000000 in
theorem DW (h:Head)(l:List Head)(hh:h.wf)(h0:h.fault=0)(hl:l.length≤4611686018427387904)(hw: ∀x∈l,x.wf){p:Option Addr}{c:Nat}{F:Hp}(hf:e9 F p (l.flatMap Head.row)):Plain Tryz.prog F 302 [h.v,.slice p l.length c] (i64 (lM h l)):=by
 obtain⟨v1,v2,_⟩:=Head.uK h0;have ew:IntKind.i64.wrap (h.dZ+1)=h.dZ+1:=wrap_i64 (by omega) (by omega);refine dQ (N:=55) (rv:=[.tmp 4]) eW mixed Tryz.func302 rfl rfl rfl rfl rfl ?_;(refine run ?_;repeat intro b);refine dJ _ rfl rfl rfl R0 rfl (oR l hl hw hf) ?_;(refine run ?_;repeat intro b);unfold lM;by_cases hz:(fu l).1=0
 ·obtain⟨z1,z2,z3,z4,z5⟩:=iO hz;have hz':l.length - 1<l.length:=by omega
  obtain⟨o1,o2⟩:=fa eZ (by decide) hf 0 z1;obtain⟨o3,o4⟩:=fa eZ (by decide) hf (l.length - 1) hz';have vy:=Head.uK (z3 _ (aj z1));rw[←uA z1]at o2 vy;rw[tU z1]at o4;have Y3:IntKind.i64.wrap (((l.length:Nat):Int) - 1)=((l.length - 1:Nat):Int):=by rw[wrap_i64 (by omega) (by omega)];omega
  have Y4:yA h l=jl h (qR l.head?):=by
   unfold yA ye;rw[aY (by simpa using hz),h0];rfl
  rw[aY (by simpa using hz),hz];have hfl:=Dl h l hh hl hw (c:=c) hf;rw[Y4]at hfl;generalize qR l.head? =y at o2 vy hfl;generalize fL l=z at o4;refine fO (by kernel_rfl) ?_;(refine run ?_;repeat intro b);refine dL rfl rfl rfl ⟨by omega,by omega,dR hf (j:=0 * 4) (by rw[dO eZ];omega)⟩ ?_;(refine run ?_;repeat intro b);refine dL rfl rfl rfl o1 ?_;(refine run ?_;repeat intro b);refine fw (i64 y.dZ) rfl rfl rfl rfl (o2 0 (by decide)) ?_;(refine run ?_;repeat intro b);rw[ew];refine eE (decide (h.dZ+1<y.dZ)) rfl (fun h1=>?_) (fun h1=>?_)
  ·rw[aZ (ar h1)];(refine run ?_;repeat intro b);rfl
  rw[aY (au h1)];(refine run ?_;repeat intro b);refine fO (by kernel_rfl) ?_;(refine run ?_;repeat intro b);refine dL rfl rfl rfl ⟨by omega,by omega,dR hf (j:=0 * 4) (by rw[dO eZ];omega)⟩ ?_;refine dL rfl rfl rfl o1 ?_;refine fw (i64 y.dZ) rfl rfl rfl rfl (o2 0 (by decide)) ?_;(refine run ?_;repeat intro b);rw[ew];refine lp (β:=Unit) (fun _=>¬(y.dZ=h.dZ+1∧jl h y=false)) (fun _=>⟨[(1,.v (.slice p l.length c)),(2,.loc 0 0)],F,[(0,⟨some b,[.v (i64 h.dZ),.v (u64 (h.root:Nat)),.v (u64 (h.prev:Nat)),.v (i64 h.at_)],41,4⟩)],1⟩) rfl (fun _ hbad=>?_) (fun vb kn kr ke=>?_)
  ·rw[aY hbad];(refine run ?_;repeat intro b);refine fX (VS.freeze 0 [1,2,42,43] rfl rfl rfl rfl fun F1 hs1 hf1=>VS.id ?_);refine dJ _ rfl rfl rfl UR rfl (OT (fun x=>decide (x.dZ=h.dZ)&&decide (x≠h)) _ #[_] Vy l (eu hs1 hf) hl (fun x hx=>JI x h hf1)) ?_;(refine run ?_;repeat intro b);generalize (l.any fun x=>decide (x.dZ=h.dZ)&&decide (x≠h))=y2;cases y2 with
   | true=>
    (refine run ?_;repeat intro b);rfl
   | false=>
    (refine run ?_;repeat intro b);refine fO (by kernel_rfl) ?_;(refine run ?_;repeat intro b);rw[Y3];refine dL rfl rfl rfl ⟨by omega,by omega,dR hf (j:=(l.length - 1) * 4) (by rw[dO eZ];omega)⟩ ?_;refine dL rfl rfl rfl (by rw[ae];exact o3) ?_;refine fw (i64 z.dZ) rfl rfl rfl rfl (by rw[ae];exact iV hs1 (o4 0 (by decide))) ?_;refine dL rfl rfl rfl rfl ?_;refine fw (i64 h.dZ) rfl rfl rfl rfl (hf1 0 _ rfl) ?_;(refine run ?_;repeat intro b);refine eE (decide (z.dZ≤h.dZ)) rfl (fun h5=>?_) (fun h5=>?_)
    ·rw[aZ (ar h5)];(refine run ?_;repeat intro b);rfl
    rw[aY (au h5)];(refine run ?_;repeat intro b);rfl
  refine eE (decide (y.dZ=h.dZ+1)) ?_ (fun h2=>?_) (fun h2=>?_)
  ·refine dV ?_;rw[ai];simp
  ·have h2:=ar h2;(refine run ?_;repeat intro b);refine dJ _ rfl rfl rfl Vr rfl hfl ?_;(refine run ?_;repeat intro b);refine eE (!jl h y) rfl (fun h3=>?_) (fun h3=>?_)
   ·have h3:jl h y=false:=by simpa using h3
    (refine run ?_;repeat intro b);refine kr _ ?_;rw[aZ ⟨h2,h3⟩];exact H3 rfl rfl
   have h3: ¬jl h y=false:=by simpa using h3
   (refine run ?_;repeat intro b);exact kn _ (VS.eL [1,2] rfl ⟨(),fun hh=>h3 hh.2,rfl⟩)
  have h2:=au h2;(refine run ?_;repeat intro b);exact kn _ (VS.eL [1,2] rfl ⟨(),fun hh=>h2 hh.1,rfl⟩)
 rw[aZ hz];rcases Gq l with h | h | h | h | h | h
 ·exact absurd h hz
 all_goals
  rw[h];refine fO (by kernel_rfl) ?_;(refine run ?_;repeat intro b);rfl
end
section
open Go.TR
theorem CA (h:Head)(p:jo):iG h p=0∨iG h p=2∨iG h p=3∨iG h p=4∨iG h p=8:=by
 unfold iG;split
 ·unfold Head.fault;split
  ·simp
  split<;>simp
 rcases E2 h.root p with e | e | e | e<;>simp[e]
theorem J4 {F:Hp}{p:Option Addr}{l:List (List UInt8)}(h:e9 F p (l.map S)){n c:Nat}(hn:n≤l.length)(hc:l.length≤c):e9 F (jJ p n c 1) ((l.drop n).map S):=by
 unfold jJ;split
 ·rename_i h1;rw[cd (by omega)];exact eJ _ _
 have:=Az h n;rw[cN,aA];cases p with
 | none=>exact this
 | some a=>exact this
attribute [local irreducible] vc dW gz fg fD gF gJ gB fJ Plain eD eX dK VS fv fA fG jt fh IntKind.wrap
set_option maxRecDepth 100000
theorem DI (v:List UInt8)(l:List (List UInt8)){m:Nat}(hm:m=l.length)(hl:l.length≤4611686018427387904){p:Option Addr}{c:Nat}{F:Hp}(hf:e9 F p (l.map S)):Plain Tryz.prog F 163 [.slice p m c,S v] (i64 (oy (fun w=>decide (w=v)) l)):=by
 subst hm;refine dQ (N:=19) (rv:=[.tmp 4]) eW mixed Tryz.func163 rfl rfl rfl rfl rfl ?_;(refine run ?_;repeat intro b);refine eY (fun k:Nat=>k≤l.length∧(l.take k).any (fun w=>decide (w=v))=false) (fun k=>⟨[(0,.v (.slice p l.length c)),(1,.v (S v)),(7,.v (i64 (l.length:Nat))),(8,.v (i64 (k:Nat)))],F,[],0⟩) (fun k=>l.length - k) 0 ⟨az _,rfl⟩ (VS.eL [0,1,7,8] rfl rfl) ?_;rintro k ⟨hk,hany⟩;by_cases hlt:k<l.length
 ·have hget:gi F (iw p (k * 1))=some (S l[k]):=by
   have:=gS hf (j:=k) (by simpa using hlt);simpa using this
  (refine run ?_;repeat intro b);refine gw rfl (by omega) ?_;(refine run ?_;repeat intro b);refine dL rfl rfl rfl ⟨by omega,by omega,dR hf (j:=k * 1) (by simpa using hlt)⟩ ?_;refine fw (S l[k]) rfl rfl rfl rfl (by rw[ae];exact hget) ?_;(refine run ?_;repeat intro b);refine eE (decide (l[k]=v)) ?_ (fun h2=>?_) (fun h2=>?_)
  ·refine dV ?_;rw[ga,ga,ai,av,av];exact eq_comm
  ·(refine run ?_;repeat intro b);rw[k8 hlt hany h2];rfl
  (refine run ?_;repeat intro b);rw[dT (by omega)];exact fp (k+1) ⟨hlt,Ap hlt hany h2⟩ (by omega) (VS.eL [0,1,7,8] rfl rfl)
 have hge:k=l.length:=by omega
 subst hge;rw[aD]at hany;(refine run ?_;repeat intro b);refine gy rfl (by omega) ?_;(refine run ?_;repeat intro b);rw[lu hany];rfl
set_option maxHeartbeats 4000000 in
theorem He (o:Ow)(l:List Head)(h:Head)(q:jo)(a:Lay)(hw:o.wf)(h0:ki o=0)(hl:l.length≤4611686018427387904)(hwl: ∀x∈l,x.wf)(hq:q.wf){p:Option Addr}{c:Nat}(hc:o.wanted.length≤c){pl:Option Addr}{cl:Nat}{F:Hp}(hf:e9 F p (o.wanted.map S))(hfl:e9 F pl (l.flatMap Head.row))(ha:q.at F a):
  Plain Tryz.prog F 276 [o.v p c,.slice pl l.length cl,J3 h q a] (pair (i64 (lO o l h q)) (i64 (mJ o l h q:Nat))):=by
 obtain⟨g1,g2,g3,g4,g5,g6⟩:=iW h0;refine dQ (N:=76) (rv:=[.tmp 6,.tmp 7]) eW mixed Tryz.func276 rfl rfl rfl rfl rfl ?_;(refine run ?_;repeat intro b);refine dJ _ rfl rfl rfl To rfl (DW o.head l hw.head g2 hl hwl hfl) ?_;(refine run ?_;repeat intro b);have hK:lM o.head l≠0→lO o l h q=lM o.head l∧mJ o l h q=0:=fun hh=>by
  unfold lO mJ;rw[aZ hh,aZ hh];exact⟨rfl,rfl⟩
 have hbad: ∀e:Int,e≠0→lM o.head l=e→lO o l h q=e∧mJ o l h q=0:=fun e he hh=>by
  have:=hK (by rw[hh];exact he);rw[hh]at this;exact this
 rcases wX o.head l with e | e | e | e
 ·have hz:(fu l).1=0:=by
   unfold lM at e;by_cases hz:(fu l).1=0
   ·exact hz
   rw[aZ hz]at e;cases e
  obtain⟨z1,_⟩:=iO hz;have hz':l.length - 1<l.length:=by omega
  obtain⟨o3,o4⟩:=fa eZ (by decide) hfl (l.length - 1) hz';rw[tU z1]at o4;have ew:IntKind.i64.wrap (((l.length:Nat):Int) - 1)=((l.length - 1:Nat):Int):=by rw[wrap_i64 (by omega) (by omega)];omega
  have hK2:lO o l h q=if iG h q≠0∨h≠fL l∨q.name≠o.name then 4
    else match gI q.gg q.name with
     | Option.none=>if 0<o.jD then 5 else 0
     | some v=>if w7 v o.jD o.wanted 0=0 then 6 else 0:=by
   exact aY (by simpa using e)
  have hN2:mJ o l h q=if iG h q≠0∨h≠fL l∨q.name≠o.name then 0
    else match gI q.gg q.name with
     | Option.none=>0
     | some v=>w7 v o.jD o.wanted 0:=by
   exact aY (by simpa using e)
  rw[hK2,hN2,e];generalize fL l=z at o4;(refine run ?_;repeat intro b);refine dJ _ rfl rfl rfl XD rfl (CI h q a hq ha) ?_;(refine run ?_;repeat intro b);refine fO (by kernel_rfl) ?_;rcases CA h q with hr | hr | hr | hr | hr
  ·have hT:re h q=(gI q.gg q.name).getD []:=by unfold re;rw[aZ hr]
   have hB:rl h q=(gI q.gg q.name).isSome:=by unfold rl;rw[hr];rfl
   rw[hr,hT,hB];(refine run ?_;repeat intro b);rw[ew];refine dL rfl rfl rfl ⟨by omega,by omega,dR hfl (j:=(l.length - 1) * 4) (by rw[dO eZ];omega)⟩ ?_;(refine run ?_;repeat intro b);refine fB z.row rfl rfl rfl rfl rfl (by rw[ae];exact o3) (by rw[ae];exact o4) ?_;(refine run ?_;repeat intro b);refine eE (decide (h≠z∨q.name≠o.name)) ?_ (fun h1=>?_) (fun h1=>?_)
   ·refine dV ?_;rw[fx,sv,ga,ga,ai];simp
   ·have h1:=ar h1;rw[aZ (.inr h1),aZ (.inr h1)];(refine run ?_;repeat intro b);rfl
   have h1: ¬(h≠z∨q.name≠o.name):=au h1;have h2: ¬((0:Int)≠0∨h≠z∨q.name≠o.name):=fun hh=>hh.elim (fun e=>e rfl) h1;rw[aY h2,aY h2];cases gI q.gg q.name with
   | none=>
    (refine run ?_;repeat intro b);refine eE (decide (0<o.jD)) rfl (fun h3=>?_) (fun h3=>?_)
    ·rw[aZ (ar h3)];(refine run ?_;repeat intro b);rfl
    rw[aY (au h3)];(refine run ?_;repeat intro b);rfl
   | some v=>
    dsimp only [dz,Option.isSome_some];(refine run ?_;repeat intro b);have hn: ∃n:Nat,(n:Int)=(if o.jD - 1<0 then 0 else o.jD - 1):=⟨(if o.jD - 1<0 then 0 else o.jD - 1).toNat,by split<;>omega⟩;obtain⟨n,hn⟩:=hn;have hw1:IntKind.i64.wrap (o.jD - 1)=o.jD - 1:=wrap_i64 (by omega) (by omega);have hmx:(if (0:Int)>IntKind.i64.wrap (o.jD - 1) then 0 else IntKind.i64.wrap (o.jD - 1))=((n:Nat):Int):=by rw[hw1,hn]
    have hnl:n≤o.wanted.length:=by split at hn<;>omega
    have hj:=Pl (v:=v) (l:=o.wanted) g5 hn;have hil:oy (fun w=>decide (w=v)) (o.wanted.drop n)<100:=by
     unfold oy;split
     ·rename_i hany;have:=List.findIdx_lt_length_of_exists (p:=fun w=>decide (w=v)) (xs:=o.wanted.drop n) (by simpa using hany);rw[aR]at this;omega
     omega
    rw[hmx];refine dL rfl rfl rfl ⟨by omega,by omega,hc⟩ ?_;rw[ae];(refine run ?_;repeat intro b);refine dJ _ rfl rfl rfl QC rfl (DI v (o.wanted.drop n) List.length_drop.symm (by rw[aR];omega) (J4 hf hnl hc)) ?_;generalize oy (fun w=>decide (w=v)) (o.wanted.drop n)=ix at hj hil;(refine run ?_;repeat intro b);refine eE (decide (ix<0)) rfl (fun h3=>?_) (fun h3=>?_)
    ·have h3:=ar h3;rw[aZ h3]at hj;have hj0:w7 v o.jD o.wanted 0=0:=by omega
     rw[hj0,aZ rfl];(refine run ?_;repeat intro b);rfl
    have h3:=au h3;rw[aY h3]at hj;have hj0: ¬w7 v o.jD o.wanted 0=0:=by omega
    have e1:IntKind.i64.wrap ((n:Nat)+ix)=(n:Nat)+ix:=wrap_i64 (by omega) (by omega);have e2:IntKind.i64.wrap ((n:Nat)+ix+1)=(n:Nat)+ix+1:=wrap_i64 (by omega) (by omega);rw[aY hj0,hj];(refine run ?_;repeat intro b);rw[e1,e2];rfl
  all_goals
   have h2:iG h q≠0∨h≠z∨q.name≠o.name:=.inl (by rw[hr];decide);rw[aZ h2,aZ h2,hr];(refine run ?_;repeat intro b);rfl
 all_goals
  obtain⟨e1,e2⟩:=hbad _ (by decide) e;rw[e,e1,e2];(refine run ?_;repeat intro b);rfl
end
section
open Go.TR
def EF (o:Ow)(l:List Head)(h:Head)(q:jo):Int:=if ki o=0 then lO o l h q else 0
def tL (o:Ow)(l:List Head)(h:Head)(q:jo):Ow:=if ki o=0 then (if lO o l h q=0 then ⟨o.name,o.key,h,o.wanted,(mJ o l h q:Nat)⟩ else o) else Ow.none
def jv (o:Ow)(value:List UInt8):Int:=if ki o≠0 then ki o else if nb value=true then 2 else if o.wanted.length=30 then 7 else 0
def jR (o:Ow)(value:List UInt8):Ow:=if jv o value=0 then ⟨o.name,o.key,o.head,o.wanted++[value],o.jD⟩ else Ow.none
def iL (o:Ow)(value:List UInt8):Ask:=if jv o value=0 then uG o.key o.name value o.wanted.length else Ask.none
theorem lB (l:List (List UInt8)): ∀x∈l.map S,one (.v x)=true:=fun x hx=>by
 obtain⟨s,_,rfl⟩:=aG.1 hx;rfl
attribute [local irreducible] vc dW gz fg fD gF gJ gB fJ Plain eD eX dK VS fv fA fG jt fh IntKind.wrap
set_option maxRecDepth 100000
theorem Bm (cs:List Value)(n:Nat){p:Option Addr}{c:Nat}{F:Hp}(hl:cs.length=n * 1)(hf:e9 F p cs)(h1: ∀x∈cs,Go.TR.one (.v x)=true)(hb:n * 16≤140737488355328):eD Tryz.prog F 227 [.slice p n c] (fun x _ new=>mC 9 1 cs n x new):=by
 refine fW (N:=8) (rv:=[.tmp 2]) eW mixed Tryz.func227 rfl rfl rfl rfl rfl ?_;(refine run ?_;repeat intro b);refine qg (b:=p.isNone) eW rfl rfl rfl ?_;cases p with
 | none=>
  have hn:n=0:=by
   rcases dk n with h | h
   ·exact h
   have:=dR hf (j:=0) (by rw[hl];omega);cases this
  subst hn;(refine run ?_;repeat intro b);refine eU (VS.id ⟨_,rfl,.inl ⟨rfl,rfl,none,rfl⟩⟩)
 | some a=>
  (refine run ?_;repeat intro b);refine fy rfl rfl rfl rfl rfl rfl rfl rfl (iX hl hf) (gC _ h1) (fun h=>by cases h) (ah 0) rfl (az _) (by show (0+n) * 16≤_;omega) (fun hn=>?_) (fun hn b2 c2 hc2=>?_)
  ·subst hn;(refine run ?_;repeat intro b);refine eU ?_;refine VS.freeze 0 [2] rfl (cs:=[]) rfl rfl rfl fun F' hs1 hf1=>VS.id ⟨_,rfl,.inl ⟨rfl,rfl,_,rfl⟩⟩
  (refine run ?_;repeat intro b);simp only[aP]at hc2 ⊢;refine mH (qQ.mP (nx':=1) [(1,0)] [2] [(0,⟨some b2,cs.map EV.v,9,c2 * 1⟩)] (fi ⟨_,rfl,rfl,rfl,rfl,.inl ⟨rfl,fun e he=>fz _ e he⟩⟩ trivial) rfl rfl rfl rfl rfl rfl ⟨_,rfl,.inr ⟨hn,b2,c2,hc2,rfl,rfl⟩⟩)
attribute [local irreducible] ki lO mJ nb uG
theorem Ku (o:Ow)(hw:o.wf){p:Option Addr}{c:Nat}{F:Hp}(hf:e9 F p (o.wanted.map S)):iy Tryz.prog F 275 [o.v p c] (fun x F'=>∃p c,x=o.v p c∧o.wanted.length≤c∧e9 F' p (o.wanted.map S)):=by
 refine eD.drop (fW (N:=8) (rv:=[.cell 2 76]) eW mixed Tryz.func275 rfl rfl rfl rfl rfl ?_);(refine run ?_;repeat intro b);refine fm rfl rfl rfl QK rfl (eD.Mu (fun h=>by rw[aq h];rfl) (Bm (o.wanted.map S) o.wanted.length (by rw[ab,aA]) hf (lB _) hw.wanted)) ?_;rintro _ F1 hF1 ⟨p1,c1,rfl,hc1,h1⟩;(refine run ?_;repeat intro b);exact eU (VS.id ⟨_,rfl,p1,c1,rfl,hc1,h1⟩)
set_option maxHeartbeats 2000000 in
theorem MW (o:Ow)(l:List Head)(h:Head)(q:jo)(a:Lay)(hw:o.wf)(hl:l.length≤4611686018427387904)(hwl: ∀x∈l,x.wf)(hq:q.wf){p:Option Addr}{c:Nat}{pl:Option Addr}{cl:Nat}{F:Hp}(hf:e9 F p (o.wanted.map S))(hfl:e9 F pl (l.flatMap Head.row))(ha:q.at F a):
  iy Tryz.prog F 237 [o.v p c,.slice pl l.length cl,J3 h q a] (fun x F'=>∃p c,x=triple ((tL o l h q).v p c) (i64 (EF o l h q)) (i64 (ki o))∧e9 F' p ((tL o l h q).wanted.map S)):=by
 refine eD.drop (fW (N:=36) (rv:=[.cell 6 76,.tmp 7,.tmp 8]) eW mixed Tryz.func237 rfl rfl rfl rfl rfl ?_);(refine run ?_;repeat intro b);refine dJ _ rfl rfl rfl Mr rfl (oU o hw hf) ?_;(refine run ?_;repeat intro b);refine eE (decide (ki o≠0)) ?_ (fun h0=>?_) (fun h0=>?_)
 ·refine dV ?_;rw[ai];simp
 ·have h0:=ar h0;have e1:tL o l h q=Ow.none:=by unfold tL;rw[aY h0]
  have e2:EF o l h q=0:=by unfold EF;rw[aY h0]
  rw[e1,e2];(refine run ?_;repeat intro b);exact eU (VS.id ⟨_,rfl,none,0,rfl,eJ _ _⟩)
 have h0:ki o=0:=by have:=au h0;omega
 have e2:EF o l h q=lO o l h q:=by unfold EF;rw[aZ h0]
 rw[e2,h0];(refine run ?_;repeat intro b);refine fm rfl rfl rfl Ug rfl (Ku o hw hf) ?_;rintro _ F1 hF1 ⟨p1,c1,rfl,hc1,h1⟩;(refine run ?_;repeat intro b);refine dJ _ rfl rfl rfl Ve rfl (He o l h q a hw h0 hl hwl hq hc1 h1 (eu hF1 hfl) (jo.e8 hF1 ha)) ?_;(refine run ?_;repeat intro b);refine eE (decide (lO o l h q=0)) ?_ (fun h2=>?_) (fun h2=>?_)
 ·refine dV ?_;rw[ai];simp
 ·have h2:=ar h2;have e1:tL o l h q=⟨o.name,o.key,h,o.wanted,(mJ o l h q:Nat)⟩:=by unfold tL;rw[aZ h0,aZ h2]
  rw[e1,h2];(refine run ?_;repeat intro b);exact eU (VS.id ⟨_,rfl,p1,c1,rfl,h1⟩)
 have h2:=au h2;have e1:tL o l h q=o:=by unfold tL;rw[aZ h0,aY h2]
 rw[e1];(refine run ?_;repeat intro b);exact eU (VS.id ⟨_,rfl,p1,c1,rfl,h1⟩)
set_option maxHeartbeats 2000000 in
theorem tN (o:Ow)(value:List UInt8)(hw:o.wf){p:Option Addr}{c:Nat}{F:Hp}(hf:e9 F p (o.wanted.map S)):
  iy Tryz.prog F 167 [o.v p c,S value] (fun x F'=>∃p c,x=triple ((jR o value).v p c) (iL o value).v (i64 (jv o value))∧e9 F' p ((jR o value).wanted.map S)):=by
 refine eD.drop (fW (N:=52) (rv:=[.cell 4 76,.cell 5 35,.tmp 6]) eW mixed Tryz.func167 rfl rfl rfl rfl rfl ?_);have hE: ∀e,e≠0→jv o value=e→jR o value=Ow.none∧iL o value=Ask.none:=fun e he h=>by
  unfold jR iL;rw[h,aY he,aY he];exact⟨rfl,rfl⟩
 (refine run ?_;repeat intro b);refine dJ _ rfl rfl rfl Mr rfl (oU o hw hf) ?_;(refine run ?_;repeat intro b);refine eE (decide (ki o≠0)) ?_ (fun h0=>?_) (fun h0=>?_)
 ·refine dV ?_;rw[ai];simp
 ·have h0:=ar h0;have e0:jv o value=ki o:=by unfold jv;rw[aZ h0]
  obtain⟨e1,e2⟩:=hE _ h0 e0;rw[e0,e1,e2];(refine run ?_;repeat intro b);exact eU (VS.id ⟨_,rfl,none,0,rfl,eJ _ _⟩)
 have h0:ki o=0:=by have:=au h0;omega
 obtain⟨g1,g2,g3,g4,g5,g6⟩:=iW h0;(refine run ?_;repeat intro b);refine dJ _ rfl rfl rfl Qw rfl (Ir value F) ?_;(refine run ?_;repeat intro b);refine eE (nb value) rfl (fun h1=>?_) (fun h1=>?_)
 ·have e0:jv o value=2:=by unfold jv;rw[aY (by simpa using h0),aZ h1]
  obtain⟨e1,e2⟩:=hE _ (by decide) e0;rw[e0,e1,e2];(refine run ?_;repeat intro b);exact eU (VS.id ⟨_,rfl,none,0,rfl,eJ _ _⟩)
 (refine run ?_;repeat intro b);refine eE (decide (o.wanted.length=30)) ?_ (fun h2=>?_) (fun h2=>?_)
 ·refine dV ?_;rw[ai,av,beq_iff_eq];omega
 ·have e0:jv o value=7:=by unfold jv;rw[aY (by simpa using h0),aY (by rw[h1];decide),aZ (ar h2)]
  obtain⟨e1,e2⟩:=hE _ (by decide) e0;rw[e0,e1,e2];(refine run ?_;repeat intro b);exact eU (VS.id ⟨_,rfl,none,0,rfl,eJ _ _⟩)
 have e0:jv o value=0:=by unfold jv;rw[aY (by simpa using h0),aY (by rw[h1];decide),aY (au h2)]
 have e1:jR o value=⟨o.name,o.key,o.head,o.wanted++[value],o.jD⟩:=by unfold jR;rw[aZ e0]
 have e2:iL o value=uG o.key o.name value o.wanted.length:=by unfold iL;rw[aZ e0]
 have hcl:=Bm (o.wanted.map S) o.wanted.length (by rw[ab,aA]) hf (lB _) (c:=c) hw.wanted;have ew:IntKind.u64.wrap ((o.wanted.length:Nat):Int)=((o.wanted.length:Nat):Int):=by rw[nq];omega
 rw[e0,e1,e2];(refine run ?_;repeat intro b);rw[ew];refine dJ _ rfl rfl rfl TB rfl (KW o.key o.name value o.wanted.length hw.key hw.name (by omega) F) ?_;(refine run ?_;repeat intro b);refine nC (R:=fun _ cs=>cs=o.wanted.map S) (fun x F' new h=>⟨_,h,rfl⟩) rfl rfl rfl QK rfl hcl (fun hk0 F1 p1 cs hF1 hcs=>?_) (fun hk1 F1 b1 c1 cs hF1 hc1 hcs=>?_)
 ·(refine run ?_;repeat intro b);refine jA [] rfl rfl rfl rfl rfl rfl rfl (eJ _ _) (ff rfl rfl) (gC _ (lB [value])) (by decide) (fun h=>by cases h) (fun _ b2 c2 hc2=>?_);(refine run ?_;repeat intro b);have hnil:o.wanted=[]:=aq hk0;refine mA (VS.freeze 5 [2,4,5,8] rfl (cs:=[S value]) rfl rfl rfl fun F' hs1 hf1=>VS.id ?_);refine fC [0,3] (by kernel_rfl) ?_;refine dU [0,1] (f':=3) (by kernel_rfl) rfl rfl rfl ?_;(refine run ?_;repeat intro b);refine ee 2 (by kernel_rfl) rfl rfl ?_;(refine run ?_;repeat intro b);refine eG (Hp.sub.refl _) (dP rfl) ?_;refine ee 3 (by kernel_rfl) rfl rfl ?_;(refine run ?_;repeat intro b);refine eG (Hp.sub.refl _) (dP rfl) ?_;refine dU [4] (f':=0) (by kernel_rfl) rfl rfl rfl ?_;(refine run ?_;repeat intro b);refine fq (by kernel_rfl) ?_;(refine run ?_;repeat intro b);exact eU (VS.id ⟨_,rfl,some ⟨b2,0,none⟩,c2,by rw[hnil];rfl,by rw[hnil];exact hf1⟩)
 subst hcs;(refine run ?_;repeat intro b);refine fy rfl rfl rfl rfl rfl rfl rfl rfl (ff rfl rfl) (gC _ (lB [value])) (fun h=>by cases h) hc1 rfl (by simp) (by show _ * 16≤_;omega) (fun h=>by cases h) (fun _ b2 c2 hc2=>?_);(refine run ?_;repeat intro b);have hcells:((o.wanted.map S).map EV.v).take (o.wanted.length * 1)++[EV.v (S value)]=((o.wanted++[value]).map S).map EV.v:=by
  rw[aF,aF,an (by simp)];rfl
 refine mA (VS.freeze 6 [2,4,5,8] rfl (cs:=(o.wanted++[value]).map S) ((a8 (iZ _) hcells).trans (eH _)) rfl rfl fun F' hs1 hf1=>VS.id ?_);refine fC [0,3] (by kernel_rfl) ?_;refine dU [0,1] (f':=3) (by kernel_rfl) rfl rfl rfl ?_;(refine run ?_;repeat intro b);refine ee 2 (by kernel_rfl) rfl rfl ?_;(refine run ?_;repeat intro b);refine eG (Hp.sub.refl _) (dP rfl) ?_;refine ee 3 (by kernel_rfl) rfl rfl ?_;(refine run ?_;repeat intro b);refine eG (Hp.sub.refl _) (dP rfl) ?_;refine dU [4] (f':=0) (by kernel_rfl) rfl rfl rfl ?_;(refine run ?_;repeat intro b);refine fq (by kernel_rfl) ?_;(refine run ?_;repeat intro b);exact eU (VS.id ⟨_,rfl,some ⟨b2,0,none⟩,c2,by show _=triple (.agg #[S o.name,u64 (o.key:Nat),i64 o.head.dZ,u64 (o.head.root:Nat),u64 (o.head.prev:Nat),i64 o.head.at_,.slice _ (o.wanted++[value]).length c2,i64 o.jD]) _ _;rw[ag];rfl,hf1⟩)
end
end Go.Proofs.YthbnddgjkonkdaaGreatDoor
