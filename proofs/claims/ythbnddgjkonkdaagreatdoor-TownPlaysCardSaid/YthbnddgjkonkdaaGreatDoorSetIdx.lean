/- A part of the proof. -/
import Derived.Test.YthbnddgjkonkdaaGreatDoorSetPath
import Derived.Test.YthbnddgjkonkdaaGreatDoorSetQueue
import Derived.Test.YthbnddgjkonkdaaGreatDoorSetHead
set_option linter.unusedVariables false
set_option linter.unusedSimpArgs false
namespace Go.Proofs.YthbnddgjkonkdaaGreatDoor
section
open Go.TR
attribute [local irreducible] ahead kN ej jS eL
theorem rV {l:List Entry}{k:Nat}(h0:0<k)(h:k - 1<l.length):nO l k=some l[k - 1].name:=by
 obtain⟨j,rfl⟩: ∃j,k=j+1:=⟨k - 1,by omega⟩;show l[j]?.map Entry.name=_;rw[ao (by simpa using h)];rfl
attribute [local irreducible] vc dT gx fc fA gC gG gw fG Plain eu eR dH VS fq fx fD ju fe IntKind.wrap
set_option maxRecDepth 100000
set_option maxHeartbeats 1000000 in
theorem mw (l:List Entry)(hl:l.length≤4611686018427387904)(hw: ∀x∈l,x.wf){p:Option Addr}{c:Nat}{F:Hp}(hf:eY F p (l.flatMap Entry.row)):Plain Tryz.prog F 99 [.slice p l.length c] (i64 (dV l)):=by
 refine dN (N:=39) (rv:=[.tmp 2]) eP mixed Tryz.func99 rfl rfl rfl rfl rfl ?_;(refine run ?_;repeat intro b);refine ez (decide (24<l.length)) ?_ (fun h=>?_) (fun h=>?_)
 ·refine dS ?_;rw[ai,av,av];omega
 ·have e:dV l=2:=by unfold dV;rw[aZ (ar h)]
  rw[e];(refine run ?_;repeat intro b);rfl
 have tA:=au h;have e:dV l=lK none l:=by unfold dV;rw[aY tA]
 rw[e];(refine run ?_;repeat intro b);refine eU (fun k:Nat=>k≤l.length∧lK none l=lK (nO l k) (l.drop k)∧ ∀q,nO l k=some q→eL q=true) (fun k=>⟨[(0,.v (.slice p l.length c)),(9,.v (.slice p l.length c)),(10,.v (i64 (l.length:Nat))),(11,.v (i64 (k:Nat)))],F,[],0⟩) (fun k=>l.length - k) 0 ⟨az _,rfl,fun q h=>by cases h⟩ (VS.eH [0,9,10,11] rfl rfl) ?_;rintro k ⟨hk,hu,hgo⟩;by_cases hlt:k<l.length
 ·obtain⟨o1,o2⟩:=eZ eI (by decide) hf k hlt;have wx:=hw l[k] (aj hlt);rw[yp hlt]at hu;have hnx:nO l (k+1)=some l[k].name:=rV (by omega) (by simpa using hlt);have hp0: ∃y:Entry,y.wf∧(0<k→nO l k=some y.name∧gb F (im (im p ((k - 1) * 2)) 0)=some (S y.name)∧(im p ((k - 1) * 2)).isSome=true):=by
   by_cases h0:0<k
   ·obtain⟨q1,q2⟩:=eZ eI (by decide) hf (k - 1) (by omega);exact⟨l[k - 1],hw _ (aj _),fun _=>⟨rV h0 (by omega),q2 0 (by decide),q1⟩⟩
   exact⟨⟨[],[]⟩,⟨az _,az _⟩,fun h=>absurd h h0⟩
  obtain⟨y,wy,hy⟩:=hp0;generalize l[k]=x at o2 wx hu hnx;(refine run ?_;repeat intro b);refine gm rfl (by omega) ?_;(refine run ?_;repeat intro b);refine dI rfl rfl rfl ⟨by omega,by omega,dO hf (j:=k * 2) (by rw[dL eI];omega)⟩ ?_;refine fy x.row rfl rfl rfl rfl rfl (by rw[ae];exact o1) (by rw[ae];exact o2) ?_;(refine run ?_;repeat intro b);refine dG _ rfl rfl rfl V4 rfl (tB x.name x.value wx.name F) ?_;(refine run ?_;repeat intro b);refine ez (decide (eJ x.name x.value≠0)) ?_ (fun h=>?_) (fun h=>?_)
  ·refine dS ?_;rw[ai];simp
  ·rw[aZ (ar h)]at hu;rw[hu];(refine run ?_;repeat intro b);rfl
  rw[aY (au h)]at hu;obtain⟨hg,_⟩:=sC (by simpa using h);(refine run ?_;repeat intro b);refine fM (by kernel_rfl) ?_;(refine run ?_;repeat intro b);have hk0:decide ((0:Int)<(k:Int))=true→0<k:=fun h=>by have:=ar h;omega
  have ew:0<k→IntKind.i64.wrap ((k:Int) - 1)=((k - 1:Nat):Int):=fun h=>by rw[wrap_i64 (by omega) (by omega)];omega
  refine iw rfl rfl rfl rfl rfl (fun hg=>?_) ?_
  ·have h0:=hk0 hg.1;rw[ew h0];exact⟨by omega,by omega,dO hf (j:=(k - 1) * 2) (by rw[dL eI];omega)⟩
  (refine run ?_;repeat intro b);refine iw rfl rfl rfl rfl rfl (fun hg=>?_) ?_
  ·have h0:=hk0 hg.1;rw[ew h0,ae];exact (hy h0).2.2
  (refine run ?_;repeat intro b);refine sg (S y.name) rfl rfl rfl rfl rfl rfl (fun hg=>?_) ?_
  ·have h0:=hk0 hg.1;rw[ew h0,ae];exact (hy h0).2.1
  (refine run ?_;repeat intro b);refine gi _ rfl rfl rfl rfl Qw rfl rfl (fun hg=>Ek y.name x.name wy.name wx.name F) ?_;(refine run ?_;repeat intro b);refine ez ((nO l k).any fun p=> !ahead p x.name) ?_ (fun h=>?_) (fun h=>?_)
  ·refine dS ?_;rw[fH];by_cases h0:0<k
   ·have hp:=(hy h0).1;have hgy:=hgo _ hp;have e0:decide ((0:Int)<(k:Int))=true:=aW (by omega);rw[hp,e0,oD hgy hg];by_cases h1:ahead y.name x.name=true
    ·simp[h1]
    by_cases h2:y.name=x.name
    ·rw[h2]at h1 ⊢;simp[h1]
    simp[h1,h2]
   obtain rfl:k=0:=by omega
   rfl
  ·rw[aZ h]at hu;rw[hu];(refine run ?_;repeat intro b);rfl
  rw[aY (by rw[h];decide)]at hu;rw[hnx]at hu;(refine run ?_;repeat intro b);rw[dQ (by omega)];exact iH (k+1) [0] [0,9,10,11] ⟨hlt,by rw[hnx];exact hu,fun q h=>by rw[hnx]at h;cases h;exact hg⟩ (by omega) rfl rfl rfl rfl trivial rfl
 have hge:k=l.length:=by omega
 subst hge;rw[bZ]at hu;rw[hu];(refine run ?_;repeat intro b);refine gu rfl (by omega) ?_;(refine run ?_;repeat intro b);rfl
set_option maxHeartbeats 1000000 in
theorem CU (l:List Entry)(hl:l.length≤4611686018427387904)(hw: ∀x∈l,x.wf){p:Option Addr}{c:Nat}{F:Hp}(hf:eY F p (l.flatMap Entry.row)):Plain Tryz.prog F 244 [.slice p l.length c] (i64 (dV l)):=by
 refine dN (N:=38) (rv:=[.tmp 2]) eP mixed Tryz.func244 rfl rfl rfl rfl rfl ?_;(refine run ?_;repeat intro b);refine ez (decide (24<l.length)) ?_ (fun h=>?_) (fun h=>?_)
 ·refine dS ?_;rw[ai,av,av];omega
 ·have e:dV l=2:=by unfold dV;rw[aZ (ar h)]
  rw[e];(refine run ?_;repeat intro b);rfl
 have tA:=au h;have e:dV l=lK none l:=by unfold dV;rw[aY tA]
 rw[e];(refine run ?_;repeat intro b);refine eU (fun k:Nat=>k≤l.length∧lK none l=lK (nO l k) (l.drop k)∧ ∀q,nO l k=some q→eL q=true) (fun k=>⟨[(0,.v (.slice p l.length c)),(8,.v (.slice p l.length c)),(9,.v (i64 (l.length:Nat))),(10,.v (i64 (k:Nat)))],F,[],0⟩) (fun k=>l.length - k) 0 ⟨az _,rfl,fun q h=>by cases h⟩ (VS.eH [0,8,9,10] rfl rfl) ?_;rintro k ⟨hk,hu,hgo⟩;by_cases hlt:k<l.length
 ·obtain⟨o1,o2⟩:=eZ eI (by decide) hf k hlt;have wx:=hw l[k] (aj hlt);rw[yp hlt]at hu;have hnx:nO l (k+1)=some l[k].name:=rV (by omega) (by simpa using hlt);have hp0: ∃y:Entry,y.wf∧(0<k→nO l k=some y.name∧gb F (im (im p ((k - 1) * 2)) 0)=some (S y.name)∧(im p ((k - 1) * 2)).isSome=true):=by
   by_cases h0:0<k
   ·obtain⟨q1,q2⟩:=eZ eI (by decide) hf (k - 1) (by omega);exact⟨l[k - 1],hw _ (aj _),fun _=>⟨rV h0 (by omega),q2 0 (by decide),q1⟩⟩
   exact⟨⟨[],[]⟩,⟨az _,az _⟩,fun h=>absurd h h0⟩
  obtain⟨y,wy,hy⟩:=hp0;generalize l[k]=x at o2 wx hu hnx;(refine run ?_;repeat intro b);refine gm rfl (by omega) ?_;(refine run ?_;repeat intro b);refine dI rfl rfl rfl ⟨by omega,by omega,dO hf (j:=k * 2) (by rw[dL eI];omega)⟩ ?_;refine fy x.row rfl rfl rfl rfl rfl (by rw[ae];exact o1) (by rw[ae];exact o2) ?_;(refine run ?_;repeat intro b);refine dG _ rfl rfl rfl ON rfl (oC x.name wx.name F) ?_;(refine run ?_;repeat intro b);refine ez (!eL x.name) rfl (fun h=>?_) (fun h=>?_)
  ·have e3:eJ x.name x.value=3:=by unfold eJ;rw[aY (by simpa using h)]
   rw[e3,aZ (by decide)]at hu;rw[hu];(refine run ?_;repeat intro b);rfl
  (refine run ?_;repeat intro b);refine ez (decide (20<x.value.length)) ?_ (fun h2=>?_) (fun h2=>?_)
  ·refine dS ?_;rw[aV,fX];omega
  ·have e3:eJ x.name x.value=2:=by unfold eJ;rw[aZ (by simpa using h),aZ (ar h2)]
   rw[e3,aZ (by decide)]at hu;rw[hu];(refine run ?_;repeat intro b);rfl
  have e3:eJ x.name x.value=0:=by unfold eJ;rw[aZ (by simpa using h),aY (au h2)]
  rw[e3,aY (by decide)]at hu;have hg:eL x.name=true:=by simpa using h
  (refine run ?_;repeat intro b);refine fM (by kernel_rfl) ?_;(refine run ?_;repeat intro b);have hk0:decide ((0:Int)<(k:Int))=true→0<k:=fun h=>by have:=ar h;omega
  have ew:0<k→IntKind.i64.wrap ((k:Int) - 1)=((k - 1:Nat):Int):=fun h=>by rw[wrap_i64 (by omega) (by omega)];omega
  refine iw rfl rfl rfl rfl rfl (fun hg=>?_) ?_
  ·have h0:=hk0 hg.1;rw[ew h0];exact⟨by omega,by omega,dO hf (j:=(k - 1) * 2) (by rw[dL eI];omega)⟩
  (refine run ?_;repeat intro b);refine iw rfl rfl rfl rfl rfl (fun hg=>?_) ?_
  ·have h0:=hk0 hg.1;rw[ew h0,ae];exact (hy h0).2.2
  (refine run ?_;repeat intro b);refine sg (S y.name) rfl rfl rfl rfl rfl rfl (fun hg=>?_) ?_
  ·have h0:=hk0 hg.1;rw[ew h0,ae];exact (hy h0).2.1
  (refine run ?_;repeat intro b);refine gi _ rfl rfl rfl rfl Ik rfl rfl (fun hg=>uM y.name x.name wy.name wx.name F) ?_;(refine run ?_;repeat intro b);refine ez ((nO l k).any fun p=> !ahead p x.name) ?_ (fun h=>?_) (fun h=>?_)
  ·refine dS ?_;rw[fH];by_cases h0:0<k
   ·have hp:=(hy h0).1;have hgy:=hgo _ hp;have e0:decide ((0:Int)<(k:Int))=true:=aW (by omega);rw[hp,e0];rfl
   obtain rfl:k=0:=by omega
   rfl
  ·rw[aZ h]at hu;rw[hu];(refine run ?_;repeat intro b);rfl
  rw[aY (by rw[h];decide)]at hu;rw[hnx]at hu;(refine run ?_;repeat intro b);rw[dQ (by omega)];exact iH (k+1) [0] [0,8,9,10] ⟨hlt,by rw[hnx];exact hu,fun q h=>by rw[hnx]at h;cases h;exact hg⟩ (by omega) rfl rfl rfl rfl trivial rfl
 have hge:k=l.length:=by omega
 subst hge;rw[bZ]at hu;rw[hu];(refine run ?_;repeat intro b);refine gu rfl (by omega) ?_;(refine run ?_;repeat intro b);rfl
end
section
open Go.TR
def part (p:List UInt8):List UInt8:=UInt8.ofNat (p.length / 256)::UInt8.ofNat (p.length % 256)::p
theorem ic (p:List UInt8):(part p).length=p.length+2:=rfl
def ja:List (List UInt8)→List UInt8→Option (List UInt8)
 | [],o=>some o
 | p::l,o=>if 600<o.length+2+p.length then none else ja l (o++part p)
theorem AM: ∀(l:List (List UInt8))(o r:List UInt8),o.length≤600→ja l o=some r→r.length≤600
 | [],o,r,h,e=>by simp only[ja,aa]at e;subst e;exact h
 | p::l,o,r,h,e=>by
  simp only[ja]at e;split at e
  ·cases e
  exact AM l _ r (by rw[ag,ic];omega) e
def vq (l:List (List UInt8)):Int:=if 60<l.length then 2 else match ja l [] with
 | some _=>0
 | none=>2
def lF (l:List (List UInt8)):List UInt8:=if 60<l.length then [] else match ja l [] with
 | some o=>o
 | none=>[]
def xJ:List UInt8→Option (List UInt8×List UInt8)
 | a::b::t=>if t.length<256 * a.toNat+b.toNat then none else some (t.take (256 * a.toNat+b.toNat),t.drop (256 * a.toNat+b.toNat))
 | _=>none
def L6:Nat→List UInt8→Option (List (List UInt8))
 | 0,s=>match s with
  | []=>some []
  | _::_=>none
 | n+1,s=>match s with
  | []=>some []
  | c::t=>match xJ (c::t) with
   | some (p,r)=>(L6 n r).map (p:: ·)
   | none=>none
def Dl (s:List UInt8):Option (List (List UInt8)):=L6 s.length s
def aaf (s:List UInt8):Int:=if 600<s.length then 2 else match Dl s with
 | some l=>if l.length≤60 then 0 else 3
 | none=>3
def aai (s:List UInt8):List (List UInt8):=if 600<s.length then [] else match Dl s with
 | some l=>if l.length≤60 then l else []
 | none=>[]
def XE (s:List UInt8):Bool:=match Dl s with
 | some l=>decide (l.length≤60)
 | none=>false
def Zv (s:List UInt8):List (List UInt8):=match Dl s with
 | some l=>l
 | none=>[]
def Yh (s:List UInt8):Value:=match xJ s with
 | some (p,r)=>.tuple #[S p,S r,.bool true]
 | none=>.tuple #[S [],S [],.bool false]
def XY (s:List UInt8):Int:=if 600<s.length then 2 else match xJ s with
 | some _=>0
 | none=>3
def XB (s:List UInt8):List UInt8:=if 600<s.length then [] else match xJ s with
 | some (p,_)=>p
 | none=>[]
def zu (s:List UInt8):List UInt8:=if 600<s.length then [] else match xJ s with
 | some (_,r)=>r
 | none=>[]
end
section
open Go.TR
theorem tl {rs:RL}{x:Value}(h:one (.v x)=true:=by rfl):lj rs [.v x]:=fun e he=>by
 rw[aB]at he;subst he;exact⟨h,x,rfl⟩
theorem Nf:Tryz.prog.underlying 359=some .unsafePointer:=by kernel_rfl
theorem MG:liesAt Tryz.prog Tryz.prog.depth 288 (2 / Tryz.prog.cellsOf 288) 0 288 1=true:=by kernel_rfl
def lE (b:UInt8):EV:=.v (u8 (b.toNat:Nat))
def uY (b0:Nat):List UInt8→Option (Nat×Nat)→RL
 | _,none=>[(0,⟨some b0,[.v (.pointer none),.v (.slice none 0 0)],288,2⟩)]
 | o,some (b1,cap)=>[(1,⟨some b1,o.map lE,5,cap * 1⟩),(0,⟨some b0,[.loc 0 0,.row 1 0 o.length cap],288,2⟩)]
def U0:Option (Nat×Nat)→Nat
 | none=>1
 | some _=>2
theorem AW {rs:RL}(l:List UInt8):lj rs (l.map fun b=>.v (.int .u8 (b.toNat:Int))):=fun e he=>by
 obtain⟨b,_,rfl⟩:=aG.1 he;exact⟨rfl,_,rfl⟩
theorem Ls (n:Nat)(h:n≤600):IntKind.u8.wrap (Int.fdiv (n:Int) (2 ^ min (Int.toNat 8) IntKind.i64.bits))=(((UInt8.ofNat (n / 256)).toNat:Nat):Int):=by
 have e1:(2 ^ min (Int.toNat 8) IntKind.i64.bits:Int)=((256:Nat):Int):=by decide
 rw[e1,Ot,←bG,dz];generalize n / 256=q;omega
theorem Nc (n:Nat):IntKind.u8.wrap (n:Int)=(((UInt8.ofNat (n % 256)).toNat:Nat):Int):=by
 rw[Ot,dz];omega
theorem WV (o:List UInt8):(o.map lE).take (o.length * 1)=o.map lE:=an (by simp)
theorem WZ (o:List UInt8)(x:EV):(o.map lE++[x]).take ((o.length+1) * 1)=o.map lE++[x]:=an (by simp)
theorem ZV (o:List UInt8)(x y:EV):((o.map lE++[x])++[y]).take ((o.length+1+1) * 1)=(o.map lE++[x])++[y]:=an (by simp)
theorem sa (o p:List UInt8):(o++part p).map lE=((o.map lE++[.v (u8 ((UInt8.ofNat (p.length / 256)).toNat:Nat))])++[.v (u8 ((UInt8.ofNat (p.length % 256)).toNat:Nat))])++p.map fun b=>.v (.int .u8 (b.toNat:Int)):=by
 simp[part,lE]
attribute [local irreducible] vc dT gx fc fA gC gG gw fG Plain eu eR dH VS fq fx fD ju fe IntKind.wrap
set_option maxRecDepth 100000
set_option maxHeartbeats 4000000 in
theorem M9 (l:List (List UInt8)){p:Option Addr}{c:Nat}{F:Hp}(hf:eY F p (l.map S)):Plain Tryz.prog F 265 [.slice p l.length c] (pair (S (lF l)) (i64 (vq l))):=by
 refine dN (N:=34) (rv:=[.tmp 2,.tmp 3]) eP mixed Tryz.func265 rfl rfl rfl rfl rfl ?_;(refine run ?_;repeat intro b);refine ez _ rfl (fun h=>?_) (fun h=>?_)
 ·have h2:60<l.length:=by simp at h;omega
  (refine run ?_;repeat intro b);simp only[gE,lF,vq,aZ h2];rfl
 have h2: ¬60<l.length:=by simp at h;omega
 (refine run ?_;repeat intro b);generalize b=bb;refine eU (fun q:Nat×List UInt8×Option (Nat×Nat)=>q.1≤l.length∧ja l []=ja (l.drop q.1) q.2.1∧q.2.1.length≤600∧(q.2.2=none→q.2.1=[])∧(∀x,q.2.2=some x→q.2.1.length≤x.2∧q.2.1≠[]))
  (fun q=>⟨[(0,.v (.slice p l.length c)),(4,.loc 0 0),(10,.v (.slice p l.length c)),(11,.v (i64 (l.length:Nat))),(12,.v (i64 (q.1:Nat)))],F,uY bb q.2.1 q.2.2,U0 q.2.2⟩) (fun q=>l.length - q.1) (0,[],none) ⟨az _,rfl,by decide,fun _=>rfl,by simp⟩ (VS.eH [0,4,10,11,12] rfl rfl) ?_
 rintro⟨k,o,u⟩ ⟨hk,hp,ho,hn,hs⟩;dsimp only at hk hp ho hn hs ⊢;(refine run ?_;repeat intro b);refine ez _ rfl (fun h3=>?_) (fun h3=>?_)
 ·have hlt:k<l.length:=by simpa using h3
  have hdrop:l.drop k=l[k]::l.drop (k+1):=aO hlt;have hgo: ¬600<o.length+2+l[k].length→ja l []=ja (l.drop (k+1)) (o++part l[k]):=fun h=>by
   rw[hp,hdrop,ja,aY h]
  have hno:600<o.length+2+l[k].length→ja l []=none:=fun h=>by
   rw[hp,hdrop,ja,aZ h]
  generalize hq:l[k]=q at *;have hld:gb F (im p (((k:Nat):Int).toNat * 1))=some (S q):=by
   have:=gQ hf (j:=k) (by simpa using hlt);simpa [hq] using this
  have hsz:p.isSome=true:=dO hf (j:=k) (by simpa using hlt);(refine run ?_;repeat intro b);refine dI rfl rfl rfl ⟨by omega,by omega,hsz⟩ ?_;refine fr (S q) rfl rfl rfl rfl hld ?_;(refine run ?_;repeat intro b);cases u with
  | none=>
   have hn0:o=[]:=hn rfl;subst hn0;refine iG (N':=8) (rv:=[.tmp 2]) eP mixed Tryz.func296 rfl rfl rfl rfl rfl rfl rfl Q2 rfl ?_;(refine run ?_;repeat intro b);refine ez (decide (600<([]:List UInt8).length+2+q.length)) ?_ (fun h4=>?_) (fun h4=>?_)
   ·refine dS ?_;rw[wrap_i64 (by omega) (by omega),aV,fX];simp only[cH];omega
   ·have h5:=hno (by simpa using h4);(refine run ?_;repeat intro b);simp only[gE,lF,vq,aY h2,h5];rfl
   have h5: ¬600<([]:List UInt8).length+2+q.length:=by simpa using h4
   have h6:q.length≤600:=by omega
   (refine run ?_;repeat intro b);rw[fX,Ls _ h6];refine iG (N':=17) (rv:=[.tmp 4]) eP mixed Tryz.func297 rfl rfl rfl rfl rfl rfl rfl H3 rfl ?_;(refine run ?_;repeat intro b);refine iG (N':=20) (rv:=[]) eP mixed Tryz.func259 rfl rfl rfl rfl rfl rfl rfl AU rfl ?_;(refine run ?_;repeat intro b);refine rr eP rfl rfl rfl rfl ?_;(refine run ?_;repeat intro b);refine Gt eP rfl Nf rfl rfl rfl rfl rfl rfl ?_;refine R5 Tryz.func291 (by kernel_rfl) (by kernel_rfl) (by kernel_rfl) (by kernel_rfl) rfl rfl ?_;refine Cv eP Nf rfl rfl rfl rfl MG rfl ?_;(refine run ?_;repeat intro b);refine jy [] rfl rfl rfl rfl rfl rfl rfl (eG _ _) (fb rfl rfl) tl (by decide) (fun h=>by cases h) (fun _ b1 c1 hc1=>?_);(refine run ?_;repeat intro b);rw[fX,Nc];refine iG (N':=17) (rv:=[.tmp 4]) eP mixed Tryz.func297 rfl rfl rfl rfl rfl rfl rfl H3 rfl ?_;(refine run ?_;repeat intro b);refine iG (N':=20) (rv:=[]) eP mixed Tryz.func259 rfl rfl rfl rfl rfl rfl rfl AU rfl ?_;(refine run ?_;repeat intro b);refine rr eP rfl rfl rfl rfl ?_;(refine run ?_;repeat intro b);refine rr eP rfl rfl rfl rfl ?_;(refine run ?_;repeat intro b);refine fv rfl rfl rfl rfl rfl rfl rfl rfl (fb rfl rfl) tl (fun h=>by cases h) hc1 rfl (by simp) (by show _ * 1≤_;first | omega | (simp only[cH];omega)) (fun h=>by cases h) (fun _ b2 c2 hc2=>?_);(refine run ?_;repeat intro b);refine iG (N':=19) (rv:=[.tmp 4,.tmp 5]) eP mixed Tryz.func206 rfl rfl rfl rfl rfl rfl rfl QT rfl ?_;(refine run ?_;repeat intro b);refine iG (N':=20) (rv:=[]) eP mixed Tryz.func259 rfl rfl rfl rfl rfl rfl rfl AU rfl ?_;(refine run ?_;repeat intro b);refine rr eP rfl rfl rfl rfl ?_;(refine run ?_;repeat intro b);refine rr eP rfl rfl rfl rfl ?_;(refine run ?_;repeat intro b);refine fv rfl rfl rfl rfl rfl rfl rfl rfl IW (AW q) (fun h=>by cases h) hc2 rfl (by simp) (by show _ * 1≤_;first | omega | (simp only[cH]at *;omega)) (fun hm=>?_) (fun _ b3 c3 hc3=>?_)
   ·(refine run ?_;repeat intro b);have hq0:q=[]:=aq hm;rw[dQ (by omega)];refine fE (rs':=uY bb (([]:List UInt8)++part q) (some (b2,c2))) (k+1,([]:List UInt8)++part q,some (b2,c2)) 1 [(4,1),(0,0)] [0,4,10,11,12] [(1,⟨some b2,(([]:List UInt8)++part q).map lE,5,c2 * 1⟩),(0,⟨some bb,[.loc 0 0,.row 1 0 (([]:List UInt8).length+1+1) c2],288,2⟩)]
     ⟨hlt,hgo h5,by rw[ag,ic];omega,(fun h=>by cases h),(fun x hx=>by cases hx;exact⟨by rw[ag,ic,hq0];simp only[cH]at *;omega,by simp[part]⟩)⟩ (by simp only;omega) (aM _ _)
     (ff ⟨_,rfl,rfl,rfl,rfl,.inl ⟨?_,fun e he=>?_⟩⟩ (dU rfl trivial)) (by simp[uY,ic,hq0]) rfl rfl rfl rfl rfl rfl
    ·rw[sa,hq0];simp
    revert e;simp[lE]
   (refine run ?_;repeat intro b);rw[dQ (by omega)];refine fE (rs':=uY bb (([]:List UInt8)++part q) (some (b3,c3))) (k+1,([]:List UInt8)++part q,some (b3,c3)) 1 [(5,1),(0,0)] [0,4,10,11,12] [(1,⟨some b3,(([]:List UInt8)++part q).map lE,5,c3 * 1⟩),(0,⟨some bb,[.loc 0 0,.row 1 0 (([]:List UInt8).length+1+1+q.length) c3],288,2⟩)]
    ⟨hlt,hgo h5,by rw[ag,ic];omega,(fun h=>by cases h),(fun x hx=>by cases hx;exact⟨by rw[ag,ic];simp only[cH]at *;omega,by simp[part]⟩)⟩ (by simp only;omega) (aM _ _)
    (ff ⟨_,rfl,rfl,rfl,rfl,.inl ⟨?_,fun e he=>?_⟩⟩ (dU rfl trivial)) ?_ rfl rfl rfl rfl rfl rfl
   ·rw[sa];simp
   ·revert e;simp[lE]
   have e:(([]:List UInt8)++part q).length=([]:List UInt8).length+1+1+q.length:=by rw[ag,ic];omega
   simp only[uY,e]
  | some x=>
   obtain⟨b0,c0⟩:=x;obtain⟨hs1,hs2⟩:=hs _ rfl;dsimp only at hs1;refine iG (N':=8) (rv:=[.tmp 2]) eP mixed Tryz.func296 rfl rfl rfl rfl rfl rfl rfl Q2 rfl ?_;(refine run ?_;repeat intro b);refine ez (decide (600<o.length+2+q.length)) ?_ (fun h4=>?_) (fun h4=>?_)
   ·refine dS ?_;rw[wrap_i64 (by omega) (by omega),aV,fX];omega
   ·have h5:=hno (by simpa using h4);(refine run ?_;repeat intro b);simp only[gE,lF,vq,aY h2,h5];rfl
   have h5: ¬600<o.length+2+q.length:=by simpa using h4
   have h6:q.length≤600:=by omega
   (refine run ?_;repeat intro b);rw[fX,Ls _ h6];refine iG (N':=17) (rv:=[.tmp 4]) eP mixed Tryz.func297 rfl rfl rfl rfl rfl rfl rfl H3 rfl ?_;(refine run ?_;repeat intro b);refine iG (N':=20) (rv:=[]) eP mixed Tryz.func259 rfl rfl rfl rfl rfl rfl rfl AU rfl ?_;(refine run ?_;repeat intro b);refine rr eP rfl rfl rfl rfl ?_;(refine run ?_;repeat intro b);refine rr eP rfl rfl rfl rfl ?_;(refine run ?_;repeat intro b);refine fv rfl rfl rfl rfl rfl rfl rfl rfl (fb rfl rfl) tl (fun h=>by cases h) hs1 rfl (by simp) (by show _ * 1≤_;omega) (fun h=>by cases h) (fun _ b1 c1 hc1=>?_);(refine run ?_;repeat intro b);rw[fX,Nc];refine iG (N':=17) (rv:=[.tmp 4]) eP mixed Tryz.func297 rfl rfl rfl rfl rfl rfl rfl H3 rfl ?_;(refine run ?_;repeat intro b);refine iG (N':=20) (rv:=[]) eP mixed Tryz.func259 rfl rfl rfl rfl rfl rfl rfl AU rfl ?_;(refine run ?_;repeat intro b);refine rr eP rfl rfl rfl rfl ?_;(refine run ?_;repeat intro b);refine rr eP rfl rfl rfl rfl ?_;(refine run ?_;repeat intro b);refine fv rfl rfl rfl rfl rfl rfl rfl rfl (fb rfl rfl) tl (fun h=>by cases h) hc1 rfl (by simp) (by show _ * 1≤_;first | omega | (simp only[cH];omega)) (fun h=>by cases h) (fun _ b2 c2 hc2=>?_);(refine run ?_;repeat intro b);refine iG (N':=19) (rv:=[.tmp 4,.tmp 5]) eP mixed Tryz.func206 rfl rfl rfl rfl rfl rfl rfl QT rfl ?_;(refine run ?_;repeat intro b);refine iG (N':=20) (rv:=[]) eP mixed Tryz.func259 rfl rfl rfl rfl rfl rfl rfl AU rfl ?_;(refine run ?_;repeat intro b);refine rr eP rfl rfl rfl rfl ?_;(refine run ?_;repeat intro b);refine rr eP rfl rfl rfl rfl ?_;(refine run ?_;repeat intro b);refine fv rfl rfl rfl rfl rfl rfl rfl rfl IW (AW q) (fun h=>by cases h) hc2 rfl (by simp) (by show _ * 1≤_;first | omega | (simp only[cH]at *;omega)) (fun hm=>?_) (fun _ b3 c3 hc3=>?_)
   ·(refine run ?_;repeat intro b);have hq0:q=[]:=aq hm;rw[dQ (by omega)];refine fE (rs':=uY bb (o++part q) (some (b2,c2))) (k+1,o++part q,some (b2,c2)) 1 [(5,1),(0,0)] [0,4,10,11,12] [(1,⟨some b2,(o++part q).map lE,5,c2 * 1⟩),(0,⟨some bb,[.loc 0 0,.row 1 0 (o.length+1+1) c2],288,2⟩)]
     ⟨hlt,hgo h5,by rw[ag,ic];omega,(fun h=>by cases h),(fun x hx=>by cases hx;exact⟨by rw[ag,ic,hq0];simp only[cH]at *;omega,by simp[part]⟩)⟩ (by simp only;omega) (aM _ _)
     (ff ⟨_,rfl,rfl,rfl,rfl,.inl ⟨?_,fun e he=>?_⟩⟩ (dU rfl trivial)) (by simp[uY,ic,hq0]) rfl rfl rfl rfl rfl rfl
    ·show _=List.take ((o.length+1) * 1) (List.take (o.length * 1) (o.map lE)++_)++_;rw[sa,hq0,WV,WZ];simp
    have e:e∈List.take ((o.length+1) * 1) (List.take (o.length * 1) (o.map lE)++[_])++[_]:=he;rw[WV,WZ]at e;revert e;simp[lE];rintro (⟨a,_,rfl⟩ | rfl | rfl)<;>exact⟨_,rfl⟩
   (refine run ?_;repeat intro b);rw[dQ (by omega)];refine fE (rs':=uY bb (o++part q) (some (b3,c3))) (k+1,o++part q,some (b3,c3)) 1 [(6,1),(0,0)] [0,4,10,11,12] [(1,⟨some b3,(o++part q).map lE,5,c3 * 1⟩),(0,⟨some bb,[.loc 0 0,.row 1 0 (o.length+1+1+q.length) c3],288,2⟩)]
    ⟨hlt,hgo h5,by rw[ag,ic];omega,(fun h=>by cases h),(fun x hx=>by cases hx;exact⟨by rw[ag,ic];simp only[cH]at *;omega,by simp[part]⟩)⟩ (by simp only;omega) (aM _ _)
    (ff ⟨_,rfl,rfl,rfl,rfl,.inl ⟨?_,fun e he=>?_⟩⟩ (dU rfl trivial)) ?_ rfl rfl rfl rfl rfl rfl
   ·show _=List.take ((o.length+1+1) * 1) (List.take ((o.length+1) * 1) (List.take (o.length * 1) (o.map lE)++_)++_)++_;rw[sa,WV,WZ,ZV]
   ·have e:e∈List.take ((o.length+1+1) * 1) (List.take ((o.length+1) * 1) (List.take (o.length * 1) (o.map lE)++[_])++[_])++_:=he;rw[WV,WZ,ZV]at e;revert e;simp[lE];rintro (⟨a,_,rfl⟩ | rfl | rfl | ⟨a,_,rfl⟩)<;>exact⟨_,rfl⟩
   have e:(o++part q).length=o.length+1+1+q.length:=by rw[ag,ic];omega
   simp only[uY,e]
 have hge:k=l.length:=by
  have: ¬k<l.length:=by simpa using h3
  omega
 subst hge;rw[bZ]at hp;simp only[ja]at hp;cases u with
 | none=>
  have hn0:o=[]:=hn rfl;subst hn0;(refine run ?_;repeat intro b);refine iG (N':=14) (rv:=[.tmp 2]) eP mixed Tryz.func207 rfl rfl rfl rfl rfl rfl rfl QP rfl ?_;(refine run ?_;repeat intro b);refine jK 10 (by kernel_rfl) rfl rfl ?_;(refine run ?_;repeat intro b);refine Pd rfl rfl rfl ?_;(refine run ?_;repeat intro b);simp only[gE,lF,vq,aY h2,hp]
 | some x=>
  obtain⟨b0,c0⟩:=x;obtain⟨hs1,hs2⟩:=hs _ rfl;dsimp only at hs1;have hc0:c0≠0:=fun h=>hs2 (aq (by omega));(refine run ?_;repeat intro b);refine iG (N':=14) (rv:=[.tmp 2]) eP mixed Tryz.func207 rfl rfl rfl rfl rfl rfl rfl QP rfl ?_;(refine run ?_;repeat intro b);refine jK 10 (by kernel_rfl) rfl rfl ?_;(refine run ?_;repeat intro b);refine dI rfl rfl rfl ⟨hc0,_,_,rfl,rfl⟩ ?_;(refine run ?_;repeat intro b);refine Rm (rs':=[(0,⟨some bb,[.loc 0 0,.row 1 0 o.length c0],288,2⟩)]) o (by kernel_rfl) (by kernel_rfl) rfl rfl rfl rfl rfl rfl hs2 (by omega) (by simp) (by rw[an (by simp)];rfl) ?_;(refine run ?_;repeat intro b);simp only[gE,lF,vq,aY h2,hp]
end
section
open Go.TR
attribute [local irreducible] vc dT gx fc fA gC gG gw fG Plain eu eR dH VS fq fx fD ju fe IntKind.wrap
set_option maxRecDepth 100000
def xo (l:List (List UInt8)):Bool:=match ja l [] with
 | some _=>decide (l.length≤60)
 | none=>false
def js (l:List (List UInt8)):List UInt8:=match ja l [] with
 | some o=>o
 | none=>[]
theorem OR (n:Nat)(h:n≤600):IntKind.u8.wrap (IntKind.i64.wrap ((n:Int).tdiv 256))=(((UInt8.ofNat (n / 256)).toNat:Nat):Int):=by
 have e:(n:Int).tdiv 256=((n / 256:Nat):Int):=(Int.ofNat_tdiv n 256).symm;rw[e,dz];have:n / 256≤600:=by omega
 generalize n / 256=q at *;rw[wrap_i64 (by omega) (by omega),Ot];omega
theorem OD (n:Nat):IntKind.u8.wrap ((n:Int).tmod 256)=(((UInt8.ofNat (n % 256)).toNat:Nat):Int):=by
 have e:(n:Int).tmod 256=((n % 256:Nat):Int):=Int.ofNat_tmod n 256 ▸ rfl;rw[e,Ot,dz];omega
set_option maxHeartbeats 1000000 in
theorem ES (l:List (List UInt8))(hl:l.length≤4611686018427387904){p:Option Addr}{c:Nat}{F:Hp}(hf:eY F p (l.map S)):Plain Tryz.prog F 128 [.slice p l.length c] (pair (S (js l)) (.bool (xo l))):=by
 refine dN (N:=38) (rv:=[.tmp 2,.tmp 3]) eP mixed Tryz.func128 rfl rfl rfl rfl rfl ?_;(refine run ?_;repeat intro b);refine eU (fun q:Nat×List UInt8=>q.1≤l.length∧ja l []=ja (l.drop q.1) q.2∧q.2.length≤600)
  (fun q=>⟨[(0,.v (.slice p l.length c)),(4,.v (S q.2)),(7,.v (.slice p l.length c)),(8,.v (i64 (l.length:Nat))),(9,.v (i64 (q.1:Nat)))],F,[],0⟩) (fun q=>l.length - q.1) (0,[]) ⟨az _,rfl,by decide⟩ (VS.eH [0,4,7,8,9] rfl rfl) ?_
 rintro⟨k,o⟩ ⟨hk,hp,ho⟩;dsimp only at hk hp ho ⊢;(refine run ?_;repeat intro b);refine ez _ rfl (fun h3=>?_) (fun h3=>?_)
 ·have hlt:k<l.length:=by simpa using h3
  have hdrop:l.drop k=l[k]::l.drop (k+1):=aO hlt;have hgo: ¬600<o.length+2+l[k].length→ja l []=ja (l.drop (k+1)) (o++part l[k]):=fun h=>by
   rw[hp,hdrop,ja,aY h]
  have hno:600<o.length+2+l[k].length→ja l []=none:=fun h=>by
   rw[hp,hdrop,ja,aZ h]
  have hbad:600<o.length+2+l[k].length→js l=[]∧xo l=false:=fun h=>by
   unfold js xo;rw[hno h];exact⟨rfl,rfl⟩
  generalize hq:l[k]=q at *;have hld:gb F (im p (((k:Nat):Int).toNat * 1))=some (S q):=by
   have:=gQ hf (j:=k) (by simpa using hlt);simpa [hq] using this
  have hsz:p.isSome=true:=dO hf (j:=k) (by simpa using hlt);(refine run ?_;repeat intro b);refine dI rfl rfl rfl ⟨by omega,by omega,hsz⟩ ?_;refine fr (S q) rfl rfl rfl rfl hld ?_;(refine run ?_;repeat intro b);refine ez (decide (600<q.length)) ?_ (fun h4=>?_) (fun h4=>?_)
  ·refine dS ?_;rw[aV,fX];omega
  ·obtain⟨e1,e2⟩:=hbad (by have:600<q.length:=(by simpa using h4);omega);(refine run ?_;repeat intro b);rw[e1,e2];rfl
  have h5:q.length≤600:=by simpa using h4
  (refine run ?_;repeat intro b);rw[fX,OR _ h5,OD];refine qo [UInt8.ofNat (q.length / 256),UInt8.ofNat (q.length % 256)] rfl rfl rfl rfl (ah 2) rfl ?_;(refine run ?_;repeat intro b);refine dI rfl rfl rfl (by rw[fX,fX];unfold jg;simp only[aH,cH];omega) ?_;(refine run ?_;repeat intro b);refine dI rfl rfl rfl (by rw[fX,fX,fX,fX];unfold jg;simp only[aH,cH,ag];omega) ?_;(refine run ?_;repeat intro b);have WH:bl (jB o)++bl (jB (bl (jB [UInt8.ofNat (q.length / 256),UInt8.ofNat (q.length % 256)])++bl (jB q)))=o++part q:=rfl;rw[WH];refine ez (decide (600<o.length+2+q.length)) ?_ (fun h6=>?_) (fun h6=>?_)
  ·refine dS ?_;rw[aV,fX,ag,ic];omega
  ·obtain⟨e1,e2⟩:=hbad (by simpa using h6);(refine run ?_;repeat intro b);rw[e1,e2];rfl
  have h7: ¬600<o.length+2+q.length:=by simpa using h6
  (refine run ?_;repeat intro b);rw[dQ (by omega)];exact fE (k+1,o++part q) 0 [] [0,4,7,8,9] [] ⟨hlt,hgo h7,by simp only[ag,ic];omega⟩ (by simp only;omega) (aM _ _) trivial rfl rfl rfl rfl rfl rfl rfl
 have hge:k=l.length:=by
  have: ¬k<l.length:=by simpa using h3
  omega
 subst hge;rw[bZ]at hp;simp only[ja]at hp;(refine run ?_;repeat intro b);simp only[gE,js,xo,hp];have e:decide ((l.length:Int)≤60)=decide (l.length≤60):=by rw[aV];omega
 rw[e]
end
section
open Go.TR
def vL (key:Nat)(s:List UInt8):Nat:=gg (num key++s++num key)
def jO (name value:List UInt8)(n:Nat):List UInt8:=num n++js [name,value]
theorem B2 (a b:List UInt8):lF [a,b]=js [a,b]:=by
 unfold lF js;rw[aY (by simp)]
 all_goals (cases ja [a,b] []<;>rfl)
theorem lx (l:List (List UInt8)):(js l).length≤600:=by
 unfold js;cases h:ja l [] with
 | none=>simp
 | some o=>exact AM l [] o (by simp) h
theorem rj (name value:List UInt8)(n:Nat):(jO name value n).length≤608:=by
 unfold jO;have:=lx [name,value];simp only[ag,gh];omega
attribute [local irreducible] vc dT gx fc fA gC gG gw fG Plain eu eR dH VS fq fx fD ju fe IntKind.wrap
set_option maxRecDepth 100000
theorem FD (key:Nat)(s:List UInt8)(hk:key<18446744073709551616)(hs:s.length≤4611686018427387888)(F:Hp):Plain Tryz.prog F 273 [u64 key,S s] (u64 (vL key s:Nat)):=by
 refine dN (N:=13) (rv:=[.tmp 4]) eP mixed Tryz.func273 rfl rfl rfl rfl rfl ?_;(refine run ?_;repeat intro b);refine dG _ rfl rfl rfl ug rfl (kD key F) ?_;(refine run ?_;repeat intro b);refine dI rfl rfl rfl (by simp only[fX,gh];unfold jg;omega) ?_;(refine run ?_;repeat intro b);refine dG _ rfl rfl rfl ug rfl (kD key F) ?_;(refine run ?_;repeat intro b);refine dI rfl rfl rfl (by simp only[fX,gh,ag];unfold jg;omega) ?_;(refine run ?_;repeat intro b);refine dG _ rfl rfl rfl C9 rfl (lr (num key++s++num key) (by simp only[gh,ag];omega) F) ?_;(refine run ?_;repeat intro b);rfl
theorem KP (key:Nat)(s:List UInt8)(hk:key<18446744073709551616)(hs:s.length≤4611686018427387888)(F:Hp):Plain Tryz.prog F 129 [u64 key,S s] (u64 (vL key s:Nat)):=by
 refine dN (N:=13) (rv:=[.tmp 4]) eP mixed Tryz.func129 rfl rfl rfl rfl rfl ?_;(refine run ?_;repeat intro b);refine dG _ rfl rfl rfl uu rfl (ly key hk F) ?_;(refine run ?_;repeat intro b);refine dI rfl rfl rfl (by simp only[fX,gh];unfold jg;omega) ?_;(refine run ?_;repeat intro b);refine dG _ rfl rfl rfl uu rfl (ly key hk F) ?_;(refine run ?_;repeat intro b);refine dI rfl rfl rfl (by simp only[fX,gh,ag];unfold jg;omega) ?_;(refine run ?_;repeat intro b);refine dG _ rfl rfl rfl vQ rfl (jU (num key++s++num key) (by simp only[gh,ag];omega) F) ?_;(refine run ?_;repeat intro b);rfl
theorem Ex (key:Nat)(s:List UInt8)(t:Nat)(hk:key<18446744073709551616)(hs:s.length≤4611686018427387888)(F:Hp):Plain Tryz.prog F 229 [u64 key,S s,u64 t] (.bool (((vL key s:Nat):Int)==(t:Nat))):=by
 refine dN (N:=12) (rv:=[.tmp 6]) eP mixed Tryz.func229 rfl rfl rfl rfl rfl ?_;(refine run ?_;repeat intro b);refine dG _ rfl rfl rfl QS rfl (FD key s hk hs F) ?_;(refine run ?_;repeat intro b);rfl
theorem zl (name value:List UInt8)(n:Nat)(F:Hp):Plain Tryz.prog F 230 [S name,S value,u64 n] (S (jO name value n)):=by
 refine dN (N:=20) (rv:=[.tmp 6]) eP mixed Tryz.func230 rfl rfl rfl rfl rfl ?_;(refine run ?_;repeat intro b);refine fT (VS.freeze 0 [0,1,2,12] rfl rfl rfl rfl fun F1 hs1 hf1=>VS.id ?_);refine dG _ rfl rfl rfl Qo rfl (M9 [name,value] hf1) ?_;(refine run ?_;repeat intro b);refine dG _ rfl rfl rfl ug rfl (kD n F1) ?_;(refine run ?_;repeat intro b);have:=lx [name,value];refine dI rfl rfl rfl (by rw[B2];simp only[fX,gh];unfold jg;omega) ?_;(refine run ?_;repeat intro b);rw[B2];rfl
theorem Kr (key:Nat)(name value:List UInt8)(n:Nat)(hk:key<18446744073709551616)(hn:n<18446744073709551616)(F:Hp):Plain Tryz.prog F 73 [u64 key,S name,S value,u64 n] (u64 (vL key (jO name value n):Nat)):=by
 refine dN (N:=24) (rv:=[.tmp 8]) eP mixed Tryz.func73 rfl rfl rfl rfl rfl ?_;(refine run ?_;repeat intro b);refine fT (VS.freeze 0 [0,3,14] rfl rfl rfl rfl fun F1 hs1 hf1=>VS.id ?_);refine dG _ rfl rfl rfl Qx rfl (ES [name,value] (by simp) hf1) ?_;(refine run ?_;repeat intro b);refine dG _ rfl rfl rfl uu rfl (ly n hn F1) ?_;(refine run ?_;repeat intro b);have:=lx [name,value];refine dI rfl rfl rfl (by simp only[fX,gh];unfold jg;omega) ?_;have h2:=rj name value n;refine dG _ rfl rfl rfl TA rfl (KP key (jO name value n) hk (by omega) F1) ?_;(refine run ?_;repeat intro b);rfl
def uv (key:Nat)(name value:List UInt8)(n:Nat):Ask:=if eJ name value=0 then ⟨name,value,n,vL key (jO name value n)⟩ else Ask.none
theorem Kd (key:Nat)(name value:List UInt8)(n:Nat)(hk:key<18446744073709551616)(hl:name.length≤4611686018427387904)(hn:n<18446744073709551616)(F:Hp):Plain Tryz.prog F 226 [u64 key,S name,S value,u64 n] (pair (uv key name value n).v (i64 (eJ name value))):=by
 refine dN (N:=28) (rv:=[.cell 8 35,.tmp 9]) eP mixed Tryz.func226 rfl rfl rfl rfl rfl ?_;(refine run ?_;repeat intro b);refine dG _ rfl rfl rfl Qb rfl (wk name value hl F) ?_;(refine run ?_;repeat intro b);refine ez _ rfl (fun h=>?_) (fun h=>?_)
 ·have h2: ¬eJ name value=0:=by simpa using h
  (refine run ?_;repeat intro b);simp only[gE,uv,aY h2];rfl
 have h2:eJ name value=0:=by simpa using h
 (refine run ?_;repeat intro b);refine dG _ rfl rfl rfl Qz rfl (zl name value n F) ?_;have h3:=rj name value n;refine dG _ rfl rfl rfl QS rfl (FD key (jO name value n) hk (by omega) F) ?_;(refine run ?_;repeat intro b);have e:uv key name value n=⟨name,value,n,vL key (jO name value n)⟩:=by unfold uv;rw[aZ h2]
 rw[e,h2];simp only[gE]
def rG (key:Nat)(a:Ask):Bool:=(eJ a.name a.value==0)&&(((vL key (jO a.name a.value a.n):Nat):Int)==(a.tag:Nat))
theorem El (key:Nat)(a:Ask)(hk:key<18446744073709551616)(hw:a.wf)(F:Hp):Plain Tryz.prog F 168 [u64 key,a.v] (.bool (rG key a)):=by
 refine dN (N:=24) (rv:=[.tmp 4]) eP mixed Tryz.func168 rfl rfl rfl rfl rfl ?_;(refine run ?_;repeat intro b);refine fM (by kernel_rfl) ?_;(refine run ?_;repeat intro b);refine dG _ rfl rfl rfl Qb rfl (wk a.name a.value hw.name F) ?_;(refine run ?_;repeat intro b);refine gi (S (jO a.name a.value a.n)) rfl rfl rfl rfl Qz rfl rfl (fun _=>zl a.name a.value a.n F) ?_;(refine run ?_;repeat intro b);have h3:=rj a.name a.value a.n;refine gi _ rfl rfl rfl rfl TG rfl rfl (fun _=>Ex key (jO a.name a.value a.n) a.tag hk (by omega) F) ?_;(refine run ?_;repeat intro b);simp only[gE,fH,rG]
end
section
open Go.TR
@[reducible] def mu (n:Nat):Value:=u64 (n:Nat)
structure jn where
 name:List UInt8
 fZ:List Entry
 fC:List Nat
structure jn.wf (p:jn):Prop where
 name:p.name.length≤4611686018427387904
 fZ:p.fZ.length≤4611686018427387904
 each: ∀x∈p.fZ,x.wf
 fC:p.fC.length≤4611686018427387904
 side: ∀x∈p.fC,x<18446744073709551616
structure Lay where
 e:Option Addr
 ce:Nat
 s:Option Addr
 cs:Nat
@[reducible] def jn.v (p:jn) (a:Lay):Value:=.agg #[S p.name,.slice a.e p.fZ.length a.ce,.slice a.s p.fC.length a.cs]
structure jn.at (F:Hp) (p:jn) (a:Lay):Prop where
 fZ:eY F a.e (p.fZ.flatMap Entry.row)
 fC:eY F a.s (p.fC.map mu)
theorem jn.eX {F F':Hp}(h:F.sub F'){p:jn}{a:Lay}(k:jn.at F p a):jn.at F' p a:=⟨dZ h k.fZ,dZ h k.fC⟩
def fS (p:jn):Int:=
 if eL p.name=true then
  if dV p.fZ≠0 then dV p.fZ
  else if (p.fZ.any fun x=> !decide (ej x.name=ej p.name))=true then 3
  else if p.fC.length≠16 then 3
  else if (p.fC.any fun m=>decide (MM≤m))=true then 3
  else 0
 else 3
theorem wq: ∀{p:Option (List UInt8)}{l:List Entry},lK p l=0∨lK p l=2∨lK p l=3
 | _,[]=>.inl rfl
 | p,x::t=>by
  unfold lK;split
  ·unfold eJ;split
   ·split<;>simp
   simp
  split
  ·simp
  exact wq
theorem lV (l:List Entry):dV l=0∨dV l=2∨dV l=3:=by
 unfold dV;split
 ·simp
 exact wq
theorem zd (p:jn):fS p=0∨fS p=2∨fS p=3:=by
 unfold fS;split
 ·split
  ·exact lV _
  split
  ·simp
  split
  ·simp
  split<;>simp
 simp
theorem kL {p:jn}(h:fS p=0):eL p.name=true∧dV p.fZ=0∧(∀x∈p.fZ,ej x.name=ej p.name)∧p.fC.length=16∧ ∀m∈p.fC,m<MM:=by
 unfold fS at h;split at h
 ·rename_i h1;split at h
  ·rename_i h2;exact absurd h h2
  rename_i h2;split at h
  ·cases h
  rename_i h3;split at h
  ·cases h
  rename_i h4;split at h
  ·cases h
  rename_i h5;refine⟨h1,by simpa using h2,fun x hx=>?_,by omega,fun m hm=>?_⟩
  ·simp only[bK,not_exists,not_and,bz,Bool.not_eq_false,aU,Decidable.not_not]at h3;exact h3 x hx
  simp only[bK,not_exists,not_and,av]at h5;have:=h5 m hm;omega
 cases h
def zD (x:Entry):List UInt8:=js [x.name,x.value]
def jt (l:List Entry):List UInt8:=if l.length=0 then [0] else 1::l.flatMap zD
theorem pK: ∀l:List Entry,(l.flatMap zD).length≤600 * l.length
 | []=>by simp
 | x::t=>by
  have:=pK t;have:=lx [x.name,x.value];have e:zD x=js [x.name,x.value]:=rfl;rw[cg,ag,aH,e];omega
def jX:Nat:=gg [0]
def kX (a b:Nat):List UInt8:=if a=jX∧b=jX then [0] else two 2 a b
theorem sj (a b:Nat):(kX a b).length≤17:=by
 unfold kX;split
 ·decide
 rw[yG];exact ah _
def kd (p:jn):Nat→List UInt8
 | 0=>jt p.fZ
 | k+1=>if (ej p.name).getD (15 - k) 0=48 then kX (gg (kd p k)) (p.fC.getD k 0) else kX (p.fC.getD k 0) (gg (kd p k))
theorem uX {p:jn}(h:p.fZ.length≤24): ∀k,(kd p k).length≤20000
 | 0=>by
  show (jt p.fZ).length≤20000;have:=pK p.fZ;unfold jt;split
  ·decide
  rw[aH];omega
 | k+1=>by
  have h1:=sj (gg (kd p k)) (p.fC.getD k 0);have h2:=sj (p.fC.getD k 0) (gg (kd p k));unfold kd;split<;>omega
def lH (p:jn)(k:Nat):List (List UInt8):=(List.range k).map (kd p)
theorem Kb (p:jn)(k:Nat):lH p (k+1)=lH p k++[kd p k]:=by
 unfold lH;rw[List.range_succ,aF];rfl
theorem m8 (p:jn)(k:Nat):(lH p k).length=k:=by unfold lH;rw[ab,List.length_range]
def na (p:jn):List (List UInt8):=if fS p=0 then lH p 17 else []
def lA (p:jn):Nat:=gg (kd p 16)
def xH (p:jn):Nat:=if fS p=0 then lA p else 0
theorem ra (s:List UInt8)(k:Nat)(hk:k<16):(ej s).getD k 0=48∨(ej s).getD k 0=49:=by
 have h:(ej s).getD k 0=zI (gg s / 2 ^ (15 - k)):=by
  unfold ej;rw[aE,ao (by rw[mQ];exact hk),vo 16 _ k hk];rfl
 rw[h];unfold zI;rcases Nat.mod_two_eq_zero_or_one (gg s / 2 ^ (15 - k)) with h | h<;>rw[h]<;>decide
end
section
open Go.TR
def ov {α:Type}(q:α→Bool)(l:List α):Int:=if l.any q=true then ((l.findIdx q:Nat):Int) else -1
theorem lv {α:Type}{q:α→Bool}{l:List α}(h:l.any q=false):ov q l= -1:=by unfold ov;rw[h];rfl
theorem lg {α:Type}{q:α→Bool}{l:List α}{k:Nat}(hk:k<l.length)(hany:(l.take k).any q=false)(h:q l[k]=true):ov q l=(k:Int):=by
 have h1:l.any q=true:=bK.2 ⟨l[k],aj hk,h⟩;have h2:l.findIdx q=k:=by
  rw[List.findIdx_eq hk];refine⟨h,fun j hj=>?_⟩;rw[bJ]at hany;have hm:l[j]∈l.take k:=by
   have:(l.take k)[j]'(by rw[aw];omega)=l[j]:=List.getElem_take;rw[←this];exact aj _
  simpa using hany _ hm
 unfold ov;rw[aZ h1,h2]
theorem og {α:Type}(q:α→Bool)(l:List α):decide (0≤ov q l)=l.any q:=by
 unfold ov;cases h:l.any q with
 | true=>simp
 | false=>simp
attribute [local irreducible] vc dT gx fc fA gC gG gw fG Plain eu eR dH VS fq fx fD ju fe IntKind.wrap
set_option maxRecDepth 100000
theorem ML (q:(List UInt8)→Bool)(g:Nat)(lb:Array Value)(hb:dH Tryz.prog g)(l:List (List UInt8)){p:Option Addr}{c:Nat}{F:Hp}(hf:eY F p (l.map S))(hl:l.length≤4611686018427387904)(hp: ∀x∈l,Plain Tryz.prog F g (S x::lb.toList) (.bool (q x))):
  Plain Tryz.prog F 81 [.slice p l.length c,.func (.func g) #[] lb] (i64 (ov q l)):=by
 refine dN (N:=19) (rv:=[.tmp 4]) eP mixed Tryz.func81 rfl rfl rfl rfl rfl ?_;(refine run ?_;repeat intro b);refine eU (fun k:Nat=>k≤l.length∧(l.take k).any q=false) (fun k=>⟨[(0,.v (.slice p l.length c)),(1,.v (.func (.func g) #[] lb)),(7,.v (i64 (l.length:Nat))),(8,.v (i64 (k:Nat)))],F,[],0⟩) (fun k=>l.length - k) 0 ⟨az _,rfl⟩ (VS.eH [0,1,7,8] rfl rfl) ?_;rintro k ⟨hk,hany⟩;(refine run ?_;repeat intro b);refine ez _ rfl (fun h=>?_) (fun h=>?_)
 ·have hlt:k<l.length:=by simpa using h
  (refine run ?_;repeat intro b);refine dI rfl rfl rfl ⟨by omega,by omega,dO hf (j:=k) (by simpa using hlt)⟩ ?_;refine fr (S l[k]) rfl rfl rfl rfl (by have:=gQ hf (j:=k) (by simpa using hlt);simpa using this) ?_;(refine run ?_;repeat intro b);refine dG _ rfl rfl (by rw[fB];rfl) hb rfl (hp l[k] (aj hlt)) ?_;(refine run ?_;repeat intro b);refine ez _ rfl (fun h2=>?_) (fun h2=>?_)
  ·(refine run ?_;repeat intro b);rw[lg hlt hany h2];rfl
  (refine run ?_;repeat intro b);rw[dQ (by omega)];refine fj (k+1) ⟨hlt,?_⟩ (by omega) (VS.eH [0,1,7,8] rfl rfl);rw[al hlt,bI,hany];simp[h2]
 have hge:k=l.length:=by
  have: ¬k<l.length:=by simpa using h
  omega
 subst hge;rw[aD]at hany;(refine run ?_;repeat intro b);rw[lv hany];rfl
theorem Lw (q:(List UInt8)→Bool)(g:Nat)(lb:Array Value)(hb:dH Tryz.prog g)(l:List (List UInt8)){p:Option Addr}{c:Nat}{F:Hp}(hf:eY F p (l.map S))(hl:l.length≤4611686018427387904)(hp: ∀x∈l,Plain Tryz.prog F g (S x::lb.toList) (.bool (q x))):
  Plain Tryz.prog F 28 [.slice p l.length c,.func (.func g) #[] lb] (.bool (l.any q)):=by
 refine dN (N:=9) (rv:=[.tmp 4]) eP mixed Tryz.func28 rfl rfl rfl rfl rfl ?_;(refine run ?_;repeat intro b);refine dG _ rfl rfl rfl XR rfl (ML q g lb hb l hf hl hp) ?_;(refine run ?_;repeat intro b);rw[og];rfl
theorem Lk (q:Int→Bool)(g:Nat)(lb:Array Value)(hb:dH Tryz.prog g)(l:List Int){p:Option Addr}{c:Nat}{F:Hp}(hf:eY F p (l.map i64))(hl:l.length≤4611686018427387904)(hp: ∀x∈l,Plain Tryz.prog F g (i64 x::lb.toList) (.bool (q x))):
  Plain Tryz.prog F 233 [.slice p l.length c,.func (.func g) #[] lb] (i64 (ov q l)):=by
 refine dN (N:=19) (rv:=[.tmp 4]) eP mixed Tryz.func233 rfl rfl rfl rfl rfl ?_;(refine run ?_;repeat intro b);refine eU (fun k:Nat=>k≤l.length∧(l.take k).any q=false) (fun k=>⟨[(0,.v (.slice p l.length c)),(1,.v (.func (.func g) #[] lb)),(7,.v (i64 (l.length:Nat))),(8,.v (i64 (k:Nat)))],F,[],0⟩) (fun k=>l.length - k) 0 ⟨az _,rfl⟩ (VS.eH [0,1,7,8] rfl rfl) ?_;rintro k ⟨hk,hany⟩;(refine run ?_;repeat intro b);refine ez _ rfl (fun h=>?_) (fun h=>?_)
 ·have hlt:k<l.length:=by simpa using h
  (refine run ?_;repeat intro b);refine dI rfl rfl rfl ⟨by omega,by omega,dO hf (j:=k) (by simpa using hlt)⟩ ?_;refine fr (i64 l[k]) rfl rfl rfl rfl (by have:=gQ hf (j:=k) (by simpa using hlt);simpa using this) ?_;(refine run ?_;repeat intro b);refine dG _ rfl rfl (by rw[fB];rfl) hb rfl (hp l[k] (aj hlt)) ?_;(refine run ?_;repeat intro b);refine ez _ rfl (fun h2=>?_) (fun h2=>?_)
  ·(refine run ?_;repeat intro b);rw[lg hlt hany h2];rfl
  (refine run ?_;repeat intro b);rw[dQ (by omega)];refine fj (k+1) ⟨hlt,?_⟩ (by omega) (VS.eH [0,1,7,8] rfl rfl);rw[al hlt,bI,hany];simp[h2]
 have hge:k=l.length:=by
  have: ¬k<l.length:=by simpa using h
  omega
 subst hge;rw[aD]at hany;(refine run ?_;repeat intro b);rw[lv hany];rfl
theorem NN (q:Int→Bool)(g:Nat)(lb:Array Value)(hb:dH Tryz.prog g)(l:List Int){p:Option Addr}{c:Nat}{F:Hp}(hf:eY F p (l.map i64))(hl:l.length≤4611686018427387904)(hp: ∀x∈l,Plain Tryz.prog F g (i64 x::lb.toList) (.bool (q x))):
  Plain Tryz.prog F 171 [.slice p l.length c,.func (.func g) #[] lb] (.bool (l.any q)):=by
 refine dN (N:=9) (rv:=[.tmp 4]) eP mixed Tryz.func171 rfl rfl rfl rfl rfl ?_;(refine run ?_;repeat intro b);refine dG _ rfl rfl rfl TZ rfl (Lk q g lb hb l hf hl hp) ?_;(refine run ?_;repeat intro b);rw[og];rfl
end
end Go.Proofs.YthbnddgjkonkdaaGreatDoor
