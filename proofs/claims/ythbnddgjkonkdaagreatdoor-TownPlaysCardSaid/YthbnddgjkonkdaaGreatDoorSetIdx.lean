/- A part of the proof. -/
import Derived.Test.YthbnddgjkonkdaaGreatDoorSetPath
import Derived.Test.YthbnddgjkonkdaaGreatDoorSetQueue
import Derived.Test.YthbnddgjkonkdaaGreatDoorSetHead
set_option linter.unusedVariables false
set_option linter.unusedSimpArgs false
namespace Go.Proofs.YthbnddgjkonkdaaGreatDoor
section
open Go.TR
attribute [local irreducible] ahead kP eC jQ eP
theorem si {l:List Entry}{k:Nat}(h0:0<k)(h:k - 1<l.length):oa l k=some l[k - 1].name:=by
 obtain⟨j,rfl⟩: ∃j,k=j+1:=⟨k - 1,by omega⟩;show l[j]?.map Entry.name=_;rw[ao (by simpa using h)];rfl
attribute [local irreducible] vc dW gz fg fD gF gJ gB fJ Plain eD eX dK VS fv fA fG jt fh IntKind.wrap
set_option maxRecDepth 100000
set_option maxHeartbeats 1000000 in
theorem mK (l:List Entry)(hl:l.length≤4611686018427387904)(hw: ∀x∈l,x.wf){p:Option Addr}{c:Nat}{F:Hp}(hf:e9 F p (l.flatMap Entry.row)):Plain Tryz.prog F 99 [.slice p l.length c] (i64 (dY l)):=by
 refine dQ (N:=39) (rv:=[.tmp 2]) eW mixed Tryz.func99 rfl rfl rfl rfl rfl ?_;(refine run ?_;repeat intro b);refine eE (decide (24<l.length)) ?_ (fun h=>?_) (fun h=>?_)
 ·refine dV ?_;rw[ai,av,av];omega
 ·have e:dY l=2:=by unfold dY;rw[aZ (ar h)]
  rw[e];(refine run ?_;repeat intro b);rfl
 have tD:=au h;have e:dY l=lP none l:=by unfold dY;rw[aY tD]
 rw[e];(refine run ?_;repeat intro b);refine eY (fun k:Nat=>k≤l.length∧lP none l=lP (oa l k) (l.drop k)∧ ∀q,oa l k=some q→eP q=true) (fun k=>⟨[(0,.v (.slice p l.length c)),(9,.v (.slice p l.length c)),(10,.v (i64 (l.length:Nat))),(11,.v (i64 (k:Nat)))],F,[],0⟩) (fun k=>l.length - k) 0 ⟨az _,rfl,fun q h=>by cases h⟩ (VS.eL [0,9,10,11] rfl rfl) ?_;rintro k ⟨hk,hu,hgo⟩;by_cases hlt:k<l.length
 ·obtain⟨o1,o2⟩:=fa eM (by decide) hf k hlt;have wx:=hw l[k] (aj hlt);rw[xQ hlt]at hu;have hnx:oa l (k+1)=some l[k].name:=si (by omega) (by simpa using hlt);have hp0: ∃y:Entry,y.wf∧(0<k→oa l k=some y.name∧gi F (iw (iw p ((k - 1) * 2)) 0)=some (S y.name)∧(iw p ((k - 1) * 2)).isSome=true):=by
   by_cases h0:0<k
   ·obtain⟨q1,q2⟩:=fa eM (by decide) hf (k - 1) (by omega);exact⟨l[k - 1],hw _ (aj _),fun _=>⟨si h0 (by omega),q2 0 (by decide),q1⟩⟩
   exact⟨⟨[],[]⟩,⟨az _,az _⟩,fun h=>absurd h h0⟩
  obtain⟨y,wy,hy⟩:=hp0;generalize l[k]=x at o2 wx hu hnx;(refine run ?_;repeat intro b);refine gw rfl (by omega) ?_;(refine run ?_;repeat intro b);refine dL rfl rfl rfl ⟨by omega,by omega,dR hf (j:=k * 2) (by rw[dO eM];omega)⟩ ?_;refine fB x.row rfl rfl rfl rfl rfl (by rw[ae];exact o1) (by rw[ae];exact o2) ?_;(refine run ?_;repeat intro b);refine dJ _ rfl rfl rfl UT rfl (uc x.name x.value wx.name F) ?_;(refine run ?_;repeat intro b);refine eE (decide (eR x.name x.value≠0)) ?_ (fun h=>?_) (fun h=>?_)
  ·refine dV ?_;rw[ai];simp
  ·rw[aZ (ar h)]at hu;rw[hu];(refine run ?_;repeat intro b);rfl
  rw[aY (au h)]at hu;obtain⟨hg,_⟩:=sR (by simpa using h);(refine run ?_;repeat intro b);refine fO (by kernel_rfl) ?_;(refine run ?_;repeat intro b);have hk0:decide ((0:Int)<(k:Int))=true→0<k:=fun h=>by have:=ar h;omega
  have ew:0<k→IntKind.i64.wrap ((k:Int) - 1)=((k - 1:Nat):Int):=fun h=>by rw[wrap_i64 (by omega) (by omega)];omega
  refine iz rfl rfl rfl rfl rfl (fun hg=>?_) ?_
  ·have h0:=hk0 hg.1;rw[ew h0];exact⟨by omega,by omega,dR hf (j:=(k - 1) * 2) (by rw[dO eM];omega)⟩
  (refine run ?_;repeat intro b);refine iz rfl rfl rfl rfl rfl (fun hg=>?_) ?_
  ·have h0:=hk0 hg.1;rw[ew h0,ae];exact (hy h0).2.2
  (refine run ?_;repeat intro b);refine su (S y.name) rfl rfl rfl rfl rfl rfl (fun hg=>?_) ?_
  ·have h0:=hk0 hg.1;rw[ew h0,ae];exact (hy h0).2.1
  (refine run ?_;repeat intro b);refine gm _ rfl rfl rfl rfl QD rfl rfl (fun hg=>Ez y.name x.name wy.name wx.name F) ?_;(refine run ?_;repeat intro b);refine eE ((oa l k).any fun p=> !ahead p x.name) ?_ (fun h=>?_) (fun h=>?_)
  ·refine dV ?_;rw[fK];by_cases h0:0<k
   ·have hp:=(hy h0).1;have hgy:=hgo _ hp;have e0:decide ((0:Int)<(k:Int))=true:=aW (by omega);rw[hp,e0,oO hgy hg];by_cases h1:ahead y.name x.name=true
    ·simp[h1]
    by_cases h2:y.name=x.name
    ·rw[h2]at h1 ⊢;simp[h1]
    simp[h1,h2]
   obtain rfl:k=0:=by omega
   rfl
  ·rw[aZ h]at hu;rw[hu];(refine run ?_;repeat intro b);rfl
  rw[aY (by rw[h];decide)]at hu;rw[hnx]at hu;(refine run ?_;repeat intro b);rw[dT (by omega)];exact iK (k+1) [0] [0,9,10,11] ⟨hlt,by rw[hnx];exact hu,fun q h=>by rw[hnx]at h;cases h;exact hg⟩ (by omega) rfl rfl rfl rfl trivial rfl
 have hge:k=l.length:=by omega
 subst hge;rw[cg]at hu;rw[hu];(refine run ?_;repeat intro b);refine gy rfl (by omega) ?_;(refine run ?_;repeat intro b);rfl
set_option maxHeartbeats 1000000 in
theorem BU (l:List Entry)(hl:l.length≤4611686018427387904)(hw: ∀x∈l,x.wf){p:Option Addr}{c:Nat}{F:Hp}(hf:e9 F p (l.flatMap Entry.row)):Plain Tryz.prog F 244 [.slice p l.length c] (i64 (dY l)):=by
 refine dQ (N:=38) (rv:=[.tmp 2]) eW mixed Tryz.func244 rfl rfl rfl rfl rfl ?_;(refine run ?_;repeat intro b);refine eE (decide (24<l.length)) ?_ (fun h=>?_) (fun h=>?_)
 ·refine dV ?_;rw[ai,av,av];omega
 ·have e:dY l=2:=by unfold dY;rw[aZ (ar h)]
  rw[e];(refine run ?_;repeat intro b);rfl
 have tD:=au h;have e:dY l=lP none l:=by unfold dY;rw[aY tD]
 rw[e];(refine run ?_;repeat intro b);refine eY (fun k:Nat=>k≤l.length∧lP none l=lP (oa l k) (l.drop k)∧ ∀q,oa l k=some q→eP q=true) (fun k=>⟨[(0,.v (.slice p l.length c)),(8,.v (.slice p l.length c)),(9,.v (i64 (l.length:Nat))),(10,.v (i64 (k:Nat)))],F,[],0⟩) (fun k=>l.length - k) 0 ⟨az _,rfl,fun q h=>by cases h⟩ (VS.eL [0,8,9,10] rfl rfl) ?_;rintro k ⟨hk,hu,hgo⟩;by_cases hlt:k<l.length
 ·obtain⟨o1,o2⟩:=fa eM (by decide) hf k hlt;have wx:=hw l[k] (aj hlt);rw[xQ hlt]at hu;have hnx:oa l (k+1)=some l[k].name:=si (by omega) (by simpa using hlt);have hp0: ∃y:Entry,y.wf∧(0<k→oa l k=some y.name∧gi F (iw (iw p ((k - 1) * 2)) 0)=some (S y.name)∧(iw p ((k - 1) * 2)).isSome=true):=by
   by_cases h0:0<k
   ·obtain⟨q1,q2⟩:=fa eM (by decide) hf (k - 1) (by omega);exact⟨l[k - 1],hw _ (aj _),fun _=>⟨si h0 (by omega),q2 0 (by decide),q1⟩⟩
   exact⟨⟨[],[]⟩,⟨az _,az _⟩,fun h=>absurd h h0⟩
  obtain⟨y,wy,hy⟩:=hp0;generalize l[k]=x at o2 wx hu hnx;(refine run ?_;repeat intro b);refine gw rfl (by omega) ?_;(refine run ?_;repeat intro b);refine dL rfl rfl rfl ⟨by omega,by omega,dR hf (j:=k * 2) (by rw[dO eM];omega)⟩ ?_;refine fB x.row rfl rfl rfl rfl rfl (by rw[ae];exact o1) (by rw[ae];exact o2) ?_;(refine run ?_;repeat intro b);refine dJ _ rfl rfl rfl Px rfl (oK x.name wx.name F) ?_;(refine run ?_;repeat intro b);refine eE (!eP x.name) rfl (fun h=>?_) (fun h=>?_)
  ·have e3:eR x.name x.value=3:=by unfold eR;rw[aY (by simpa using h)]
   rw[e3,aZ (by decide)]at hu;rw[hu];(refine run ?_;repeat intro b);rfl
  (refine run ?_;repeat intro b);refine eE (decide (20<x.value.length)) ?_ (fun h2=>?_) (fun h2=>?_)
  ·refine dV ?_;rw[aV,ga];omega
  ·have e3:eR x.name x.value=2:=by unfold eR;rw[aZ (by simpa using h),aZ (ar h2)]
   rw[e3,aZ (by decide)]at hu;rw[hu];(refine run ?_;repeat intro b);rfl
  have e3:eR x.name x.value=0:=by unfold eR;rw[aZ (by simpa using h),aY (au h2)]
  rw[e3,aY (by decide)]at hu;have hg:eP x.name=true:=by simpa using h
  (refine run ?_;repeat intro b);refine fO (by kernel_rfl) ?_;(refine run ?_;repeat intro b);have hk0:decide ((0:Int)<(k:Int))=true→0<k:=fun h=>by have:=ar h;omega
  have ew:0<k→IntKind.i64.wrap ((k:Int) - 1)=((k - 1:Nat):Int):=fun h=>by rw[wrap_i64 (by omega) (by omega)];omega
  refine iz rfl rfl rfl rfl rfl (fun hg=>?_) ?_
  ·have h0:=hk0 hg.1;rw[ew h0];exact⟨by omega,by omega,dR hf (j:=(k - 1) * 2) (by rw[dO eM];omega)⟩
  (refine run ?_;repeat intro b);refine iz rfl rfl rfl rfl rfl (fun hg=>?_) ?_
  ·have h0:=hk0 hg.1;rw[ew h0,ae];exact (hy h0).2.2
  (refine run ?_;repeat intro b);refine su (S y.name) rfl rfl rfl rfl rfl rfl (fun hg=>?_) ?_
  ·have h0:=hk0 hg.1;rw[ew h0,ae];exact (hy h0).2.1
  (refine run ?_;repeat intro b);refine gm _ rfl rfl rfl rfl Jh rfl rfl (fun hg=>uW y.name x.name wy.name wx.name F) ?_;(refine run ?_;repeat intro b);refine eE ((oa l k).any fun p=> !ahead p x.name) ?_ (fun h=>?_) (fun h=>?_)
  ·refine dV ?_;rw[fK];by_cases h0:0<k
   ·have hp:=(hy h0).1;have hgy:=hgo _ hp;have e0:decide ((0:Int)<(k:Int))=true:=aW (by omega);rw[hp,e0];rfl
   obtain rfl:k=0:=by omega
   rfl
  ·rw[aZ h]at hu;rw[hu];(refine run ?_;repeat intro b);rfl
  rw[aY (by rw[h];decide)]at hu;rw[hnx]at hu;(refine run ?_;repeat intro b);rw[dT (by omega)];exact iK (k+1) [0] [0,8,9,10] ⟨hlt,by rw[hnx];exact hu,fun q h=>by rw[hnx]at h;cases h;exact hg⟩ (by omega) rfl rfl rfl rfl trivial rfl
 have hge:k=l.length:=by omega
 subst hge;rw[cg]at hu;rw[hu];(refine run ?_;repeat intro b);refine gy rfl (by omega) ?_;(refine run ?_;repeat intro b);rfl
end
section
open Go.TR
def part (p:List UInt8):List UInt8:=UInt8.ofNat (p.length / 256)::UInt8.ofNat (p.length % 256)::p
theorem ie (p:List UInt8):(part p).length=p.length+2:=rfl
def jf:List (List UInt8)→List UInt8→Option (List UInt8)
 | [],o=>some o
 | p::l,o=>if 600<o.length+2+p.length then none else jf l (o++part p)
theorem Bh: ∀(l:List (List UInt8))(o r:List UInt8),o.length≤600→jf l o=some r→r.length≤600
 | [],o,r,h,e=>by simp only[jf,aa]at e;subst e;exact h
 | p::l,o,r,h,e=>by
  simp only[jf]at e;split at e
  ·cases e
  exact Bh l _ r (by rw[ag,ie];omega) e
def vA (l:List (List UInt8)):Int:=if 60<l.length then 2 else match jf l [] with
 | some _=>0
 | none=>2
def lI (l:List (List UInt8)):List UInt8:=if 60<l.length then [] else match jf l [] with
 | some o=>o
 | none=>[]
def yY:List UInt8→Option (List UInt8×List UInt8)
 | a::b::t=>if t.length<256 * a.toNat+b.toNat then none else some (t.take (256 * a.toNat+b.toNat),t.drop (256 * a.toNat+b.toNat))
 | _=>none
def Mi:Nat→List UInt8→Option (List (List UInt8))
 | 0,s=>match s with
  | []=>some []
  | _::_=>none
 | n+1,s=>match s with
  | []=>some []
  | c::t=>match yY (c::t) with
   | some (p,r)=>(Mi n r).map (p:: ·)
   | none=>none
def Ca (s:List UInt8):Option (List (List UInt8)):=Mi s.length s
def aai (s:List UInt8):Int:=if 600<s.length then 2 else match Ca s with
 | some l=>if l.length≤60 then 0 else 3
 | none=>3
def aaj (s:List UInt8):List (List UInt8):=if 600<s.length then [] else match Ca s with
 | some l=>if l.length≤60 then l else []
 | none=>[]
def Xq (s:List UInt8):Bool:=match Ca s with
 | some l=>decide (l.length≤60)
 | none=>false
def ZN (s:List UInt8):List (List UInt8):=match Ca s with
 | some l=>l
 | none=>[]
def XN (s:List UInt8):Value:=match yY s with
 | some (p,r)=>.tuple #[S p,S r,.bool true]
 | none=>.tuple #[S [],S [],.bool false]
def XQ (s:List UInt8):Int:=if 600<s.length then 2 else match yY s with
 | some _=>0
 | none=>3
def Xv (s:List UInt8):List UInt8:=if 600<s.length then [] else match yY s with
 | some (p,_)=>p
 | none=>[]
def yu (s:List UInt8):List UInt8:=if 600<s.length then [] else match yY s with
 | some (_,r)=>r
 | none=>[]
end
section
open Go.TR
theorem tl {rs:RL}{x:Value}(h:one (.v x)=true:=by rfl):ll rs [.v x]:=fun e he=>by
 rw[aB]at he;subst he;exact⟨h,x,rfl⟩
theorem MN:Tryz.prog.underlying 359=some .unsafePointer:=by kernel_rfl
theorem MF:liesAt Tryz.prog Tryz.prog.depth 288 (2 / Tryz.prog.cellsOf 288) 0 288 1=true:=by kernel_rfl
def lH (b:UInt8):EV:=.v (u8 (b.toNat:Nat))
def tR (b0:Nat):List UInt8→Option (Nat×Nat)→RL
 | _,none=>[(0,⟨some b0,[.v (.pointer none),.v (.slice none 0 0)],288,2⟩)]
 | o,some (b1,cap)=>[(1,⟨some b1,o.map lH,5,cap * 1⟩),(0,⟨some b0,[.loc 0 0,.row 1 0 o.length cap],288,2⟩)]
def Te:Option (Nat×Nat)→Nat
 | none=>1
 | some _=>2
theorem AD {rs:RL}(l:List UInt8):ll rs (l.map fun b=>.v (.int .u8 (b.toNat:Int))):=fun e he=>by
 obtain⟨b,_,rfl⟩:=aG.1 he;exact⟨rfl,_,rfl⟩
theorem Nk (n:Nat)(h:n≤600):IntKind.u8.wrap (Int.fdiv (n:Int) (2 ^ min (Int.toNat 8) IntKind.i64.bits))=(((UInt8.ofNat (n / 256)).toNat:Nat):Int):=by
 have e1:(2 ^ min (Int.toNat 8) IntKind.i64.bits:Int)=((256:Nat):Int):=by decide
 rw[e1,Ox,←bG,dC];generalize n / 256=q;omega
theorem MB (n:Nat):IntKind.u8.wrap (n:Int)=(((UInt8.ofNat (n % 256)).toNat:Nat):Int):=by
 rw[Ox,dC];omega
theorem W0 (o:List UInt8):(o.map lH).take (o.length * 1)=o.map lH:=an (by simp)
theorem W1 (o:List UInt8)(x:EV):(o.map lH++[x]).take ((o.length+1) * 1)=o.map lH++[x]:=an (by simp)
theorem ZK (o:List UInt8)(x y:EV):((o.map lH++[x])++[y]).take ((o.length+1+1) * 1)=(o.map lH++[x])++[y]:=an (by simp)
theorem sn (o p:List UInt8):(o++part p).map lH=((o.map lH++[.v (u8 ((UInt8.ofNat (p.length / 256)).toNat:Nat))])++[.v (u8 ((UInt8.ofNat (p.length % 256)).toNat:Nat))])++p.map fun b=>.v (.int .u8 (b.toNat:Int)):=by
 simp[part,lH]
attribute [local irreducible] vc dW gz fg fD gF gJ gB fJ Plain eD eX dK VS fv fA fG jt fh IntKind.wrap
set_option maxRecDepth 100000
set_option maxHeartbeats 4000000 in
theorem Mo (l:List (List UInt8)){p:Option Addr}{c:Nat}{F:Hp}(hf:e9 F p (l.map S)):Plain Tryz.prog F 265 [.slice p l.length c] (pair (S (lI l)) (i64 (vA l))):=by
 refine dQ (N:=34) (rv:=[.tmp 2,.tmp 3]) eW mixed Tryz.func265 rfl rfl rfl rfl rfl ?_;(refine run ?_;repeat intro b);refine eE _ rfl (fun h=>?_) (fun h=>?_)
 ·have h2:60<l.length:=by simp at h;omega
  (refine run ?_;repeat intro b);simp only[gH,lI,vA,aZ h2];rfl
 have h2: ¬60<l.length:=by simp at h;omega
 (refine run ?_;repeat intro b);generalize b=bb;refine eY (fun q:Nat×List UInt8×Option (Nat×Nat)=>q.1≤l.length∧jf l []=jf (l.drop q.1) q.2.1∧q.2.1.length≤600∧(q.2.2=none→q.2.1=[])∧(∀x,q.2.2=some x→q.2.1.length≤x.2∧q.2.1≠[]))
  (fun q=>⟨[(0,.v (.slice p l.length c)),(4,.loc 0 0),(10,.v (.slice p l.length c)),(11,.v (i64 (l.length:Nat))),(12,.v (i64 (q.1:Nat)))],F,tR bb q.2.1 q.2.2,Te q.2.2⟩) (fun q=>l.length - q.1) (0,[],none) ⟨az _,rfl,by decide,fun _=>rfl,by simp⟩ (VS.eL [0,4,10,11,12] rfl rfl) ?_
 rintro⟨k,o,u⟩ ⟨hk,hp,ho,hn,hs⟩;dsimp only at hk hp ho hn hs ⊢;(refine run ?_;repeat intro b);refine eE _ rfl (fun h3=>?_) (fun h3=>?_)
 ·have hlt:k<l.length:=by simpa using h3
  have hdrop:l.drop k=l[k]::l.drop (k+1):=aO hlt;have hgo: ¬600<o.length+2+l[k].length→jf l []=jf (l.drop (k+1)) (o++part l[k]):=fun h=>by
   rw[hp,hdrop,jf,aY h]
  have hno:600<o.length+2+l[k].length→jf l []=none:=fun h=>by
   rw[hp,hdrop,jf,aZ h]
  generalize hq:l[k]=q at *;have hld:gi F (iw p (((k:Nat):Int).toNat * 1))=some (S q):=by
   have:=gS hf (j:=k) (by simpa using hlt);simpa [hq] using this
  have hsz:p.isSome=true:=dR hf (j:=k) (by simpa using hlt);(refine run ?_;repeat intro b);refine dL rfl rfl rfl ⟨by omega,by omega,hsz⟩ ?_;refine fw (S q) rfl rfl rfl rfl hld ?_;(refine run ?_;repeat intro b);cases u with
  | none=>
   have hn0:o=[]:=hn rfl;subst hn0;refine iI (N':=8) (rv:=[.tmp 2]) eW mixed Tryz.func296 rfl rfl rfl rfl rfl rfl rfl Qr rfl ?_;(refine run ?_;repeat intro b);refine eE (decide (600<([]:List UInt8).length+2+q.length)) ?_ (fun h4=>?_) (fun h4=>?_)
   ·refine dV ?_;rw[wrap_i64 (by omega) (by omega),aV,ga];simp only[cK];omega
   ·have h5:=hno (by simpa using h4);(refine run ?_;repeat intro b);simp only[gH,lI,vA,aY h2,h5];rfl
   have h5: ¬600<([]:List UInt8).length+2+q.length:=by simpa using h4
   have h6:q.length≤600:=by omega
   (refine run ?_;repeat intro b);rw[ga,Nk _ h6];refine iI (N':=17) (rv:=[.tmp 4]) eW mixed Tryz.func297 rfl rfl rfl rfl rfl rfl rfl IU rfl ?_;(refine run ?_;repeat intro b);refine iI (N':=20) (rv:=[]) eW mixed Tryz.func259 rfl rfl rfl rfl rfl rfl rfl BB rfl ?_;(refine run ?_;repeat intro b);refine q8 eW rfl rfl rfl rfl ?_;(refine run ?_;repeat intro b);refine Gs eW rfl MN rfl rfl rfl rfl rfl rfl ?_;refine Rl Tryz.func291 (by kernel_rfl) (by kernel_rfl) (by kernel_rfl) (by kernel_rfl) rfl rfl ?_;refine Dp eW MN rfl rfl rfl rfl MF rfl ?_;(refine run ?_;repeat intro b);refine jA [] rfl rfl rfl rfl rfl rfl rfl (eJ _ _) (ff rfl rfl) tl (by decide) (fun h=>by cases h) (fun _ b1 c1 hc1=>?_);(refine run ?_;repeat intro b);rw[ga,MB];refine iI (N':=17) (rv:=[.tmp 4]) eW mixed Tryz.func297 rfl rfl rfl rfl rfl rfl rfl IU rfl ?_;(refine run ?_;repeat intro b);refine iI (N':=20) (rv:=[]) eW mixed Tryz.func259 rfl rfl rfl rfl rfl rfl rfl BB rfl ?_;(refine run ?_;repeat intro b);refine q8 eW rfl rfl rfl rfl ?_;(refine run ?_;repeat intro b);refine q8 eW rfl rfl rfl rfl ?_;(refine run ?_;repeat intro b);refine fy rfl rfl rfl rfl rfl rfl rfl rfl (ff rfl rfl) tl (fun h=>by cases h) hc1 rfl (by simp) (by show _ * 1≤_;first | omega | (simp only[cK];omega)) (fun h=>by cases h) (fun _ b2 c2 hc2=>?_);(refine run ?_;repeat intro b);refine iI (N':=19) (rv:=[.tmp 4,.tmp 5]) eW mixed Tryz.func206 rfl rfl rfl rfl rfl rfl rfl Qe rfl ?_;(refine run ?_;repeat intro b);refine iI (N':=20) (rv:=[]) eW mixed Tryz.func259 rfl rfl rfl rfl rfl rfl rfl BB rfl ?_;(refine run ?_;repeat intro b);refine q8 eW rfl rfl rfl rfl ?_;(refine run ?_;repeat intro b);refine q8 eW rfl rfl rfl rfl ?_;(refine run ?_;repeat intro b);refine fy rfl rfl rfl rfl rfl rfl rfl rfl Ip (AD q) (fun h=>by cases h) hc2 rfl (by simp) (by show _ * 1≤_;first | omega | (simp only[cK]at *;omega)) (fun hm=>?_) (fun _ b3 c3 hc3=>?_)
   ·(refine run ?_;repeat intro b);have hq0:q=[]:=aq hm;rw[dT (by omega)];refine fH (rs':=tR bb (([]:List UInt8)++part q) (some (b2,c2))) (k+1,([]:List UInt8)++part q,some (b2,c2)) 1 [(4,1),(0,0)] [0,4,10,11,12] [(1,⟨some b2,(([]:List UInt8)++part q).map lH,5,c2 * 1⟩),(0,⟨some bb,[.loc 0 0,.row 1 0 (([]:List UInt8).length+1+1) c2],288,2⟩)]
     ⟨hlt,hgo h5,by rw[ag,ie];omega,(fun h=>by cases h),(fun x hx=>by cases hx;exact⟨by rw[ag,ie,hq0];simp only[cK]at *;omega,by simp[part]⟩)⟩ (by simp only;omega) (aM _ _)
     (fi ⟨_,rfl,rfl,rfl,rfl,.inl ⟨?_,fun e he=>?_⟩⟩ (dX rfl trivial)) (by simp[tR,ie,hq0]) rfl rfl rfl rfl rfl rfl
    ·rw[sn,hq0];simp
    revert e;simp[lH]
   (refine run ?_;repeat intro b);rw[dT (by omega)];refine fH (rs':=tR bb (([]:List UInt8)++part q) (some (b3,c3))) (k+1,([]:List UInt8)++part q,some (b3,c3)) 1 [(5,1),(0,0)] [0,4,10,11,12] [(1,⟨some b3,(([]:List UInt8)++part q).map lH,5,c3 * 1⟩),(0,⟨some bb,[.loc 0 0,.row 1 0 (([]:List UInt8).length+1+1+q.length) c3],288,2⟩)]
    ⟨hlt,hgo h5,by rw[ag,ie];omega,(fun h=>by cases h),(fun x hx=>by cases hx;exact⟨by rw[ag,ie];simp only[cK]at *;omega,by simp[part]⟩)⟩ (by simp only;omega) (aM _ _)
    (fi ⟨_,rfl,rfl,rfl,rfl,.inl ⟨?_,fun e he=>?_⟩⟩ (dX rfl trivial)) ?_ rfl rfl rfl rfl rfl rfl
   ·rw[sn];simp
   ·revert e;simp[lH]
   have e:(([]:List UInt8)++part q).length=([]:List UInt8).length+1+1+q.length:=by rw[ag,ie];omega
   simp only[tR,e]
  | some x=>
   obtain⟨b0,c0⟩:=x;obtain⟨hs1,hs2⟩:=hs _ rfl;dsimp only at hs1;refine iI (N':=8) (rv:=[.tmp 2]) eW mixed Tryz.func296 rfl rfl rfl rfl rfl rfl rfl Qr rfl ?_;(refine run ?_;repeat intro b);refine eE (decide (600<o.length+2+q.length)) ?_ (fun h4=>?_) (fun h4=>?_)
   ·refine dV ?_;rw[wrap_i64 (by omega) (by omega),aV,ga];omega
   ·have h5:=hno (by simpa using h4);(refine run ?_;repeat intro b);simp only[gH,lI,vA,aY h2,h5];rfl
   have h5: ¬600<o.length+2+q.length:=by simpa using h4
   have h6:q.length≤600:=by omega
   (refine run ?_;repeat intro b);rw[ga,Nk _ h6];refine iI (N':=17) (rv:=[.tmp 4]) eW mixed Tryz.func297 rfl rfl rfl rfl rfl rfl rfl IU rfl ?_;(refine run ?_;repeat intro b);refine iI (N':=20) (rv:=[]) eW mixed Tryz.func259 rfl rfl rfl rfl rfl rfl rfl BB rfl ?_;(refine run ?_;repeat intro b);refine q8 eW rfl rfl rfl rfl ?_;(refine run ?_;repeat intro b);refine q8 eW rfl rfl rfl rfl ?_;(refine run ?_;repeat intro b);refine fy rfl rfl rfl rfl rfl rfl rfl rfl (ff rfl rfl) tl (fun h=>by cases h) hs1 rfl (by simp) (by show _ * 1≤_;omega) (fun h=>by cases h) (fun _ b1 c1 hc1=>?_);(refine run ?_;repeat intro b);rw[ga,MB];refine iI (N':=17) (rv:=[.tmp 4]) eW mixed Tryz.func297 rfl rfl rfl rfl rfl rfl rfl IU rfl ?_;(refine run ?_;repeat intro b);refine iI (N':=20) (rv:=[]) eW mixed Tryz.func259 rfl rfl rfl rfl rfl rfl rfl BB rfl ?_;(refine run ?_;repeat intro b);refine q8 eW rfl rfl rfl rfl ?_;(refine run ?_;repeat intro b);refine q8 eW rfl rfl rfl rfl ?_;(refine run ?_;repeat intro b);refine fy rfl rfl rfl rfl rfl rfl rfl rfl (ff rfl rfl) tl (fun h=>by cases h) hc1 rfl (by simp) (by show _ * 1≤_;first | omega | (simp only[cK];omega)) (fun h=>by cases h) (fun _ b2 c2 hc2=>?_);(refine run ?_;repeat intro b);refine iI (N':=19) (rv:=[.tmp 4,.tmp 5]) eW mixed Tryz.func206 rfl rfl rfl rfl rfl rfl rfl Qe rfl ?_;(refine run ?_;repeat intro b);refine iI (N':=20) (rv:=[]) eW mixed Tryz.func259 rfl rfl rfl rfl rfl rfl rfl BB rfl ?_;(refine run ?_;repeat intro b);refine q8 eW rfl rfl rfl rfl ?_;(refine run ?_;repeat intro b);refine q8 eW rfl rfl rfl rfl ?_;(refine run ?_;repeat intro b);refine fy rfl rfl rfl rfl rfl rfl rfl rfl Ip (AD q) (fun h=>by cases h) hc2 rfl (by simp) (by show _ * 1≤_;first | omega | (simp only[cK]at *;omega)) (fun hm=>?_) (fun _ b3 c3 hc3=>?_)
   ·(refine run ?_;repeat intro b);have hq0:q=[]:=aq hm;rw[dT (by omega)];refine fH (rs':=tR bb (o++part q) (some (b2,c2))) (k+1,o++part q,some (b2,c2)) 1 [(5,1),(0,0)] [0,4,10,11,12] [(1,⟨some b2,(o++part q).map lH,5,c2 * 1⟩),(0,⟨some bb,[.loc 0 0,.row 1 0 (o.length+1+1) c2],288,2⟩)]
     ⟨hlt,hgo h5,by rw[ag,ie];omega,(fun h=>by cases h),(fun x hx=>by cases hx;exact⟨by rw[ag,ie,hq0];simp only[cK]at *;omega,by simp[part]⟩)⟩ (by simp only;omega) (aM _ _)
     (fi ⟨_,rfl,rfl,rfl,rfl,.inl ⟨?_,fun e he=>?_⟩⟩ (dX rfl trivial)) (by simp[tR,ie,hq0]) rfl rfl rfl rfl rfl rfl
    ·show _=List.take ((o.length+1) * 1) (List.take (o.length * 1) (o.map lH)++_)++_;rw[sn,hq0,W0,W1];simp
    have e:e∈List.take ((o.length+1) * 1) (List.take (o.length * 1) (o.map lH)++[_])++[_]:=he;rw[W0,W1]at e;revert e;simp[lH];rintro (⟨a,_,rfl⟩ | rfl | rfl)<;>exact⟨_,rfl⟩
   (refine run ?_;repeat intro b);rw[dT (by omega)];refine fH (rs':=tR bb (o++part q) (some (b3,c3))) (k+1,o++part q,some (b3,c3)) 1 [(6,1),(0,0)] [0,4,10,11,12] [(1,⟨some b3,(o++part q).map lH,5,c3 * 1⟩),(0,⟨some bb,[.loc 0 0,.row 1 0 (o.length+1+1+q.length) c3],288,2⟩)]
    ⟨hlt,hgo h5,by rw[ag,ie];omega,(fun h=>by cases h),(fun x hx=>by cases hx;exact⟨by rw[ag,ie];simp only[cK]at *;omega,by simp[part]⟩)⟩ (by simp only;omega) (aM _ _)
    (fi ⟨_,rfl,rfl,rfl,rfl,.inl ⟨?_,fun e he=>?_⟩⟩ (dX rfl trivial)) ?_ rfl rfl rfl rfl rfl rfl
   ·show _=List.take ((o.length+1+1) * 1) (List.take ((o.length+1) * 1) (List.take (o.length * 1) (o.map lH)++_)++_)++_;rw[sn,W0,W1,ZK]
   ·have e:e∈List.take ((o.length+1+1) * 1) (List.take ((o.length+1) * 1) (List.take (o.length * 1) (o.map lH)++[_])++[_])++_:=he;rw[W0,W1,ZK]at e;revert e;simp[lH];rintro (⟨a,_,rfl⟩ | rfl | rfl | ⟨a,_,rfl⟩)<;>exact⟨_,rfl⟩
   have e:(o++part q).length=o.length+1+1+q.length:=by rw[ag,ie];omega
   simp only[tR,e]
 have hge:k=l.length:=by
  have: ¬k<l.length:=by simpa using h3
  omega
 subst hge;rw[cg]at hp;simp only[jf]at hp;cases u with
 | none=>
  have hn0:o=[]:=hn rfl;subst hn0;(refine run ?_;repeat intro b);refine iI (N':=14) (rv:=[.tmp 2]) eW mixed Tryz.func207 rfl rfl rfl rfl rfl rfl rfl Qp rfl ?_;(refine run ?_;repeat intro b);refine jM 10 (by kernel_rfl) rfl rfl ?_;(refine run ?_;repeat intro b);refine Pb rfl rfl rfl ?_;(refine run ?_;repeat intro b);simp only[gH,lI,vA,aY h2,hp]
 | some x=>
  obtain⟨b0,c0⟩:=x;obtain⟨hs1,hs2⟩:=hs _ rfl;dsimp only at hs1;have hc0:c0≠0:=fun h=>hs2 (aq (by omega));(refine run ?_;repeat intro b);refine iI (N':=14) (rv:=[.tmp 2]) eW mixed Tryz.func207 rfl rfl rfl rfl rfl rfl rfl Qp rfl ?_;(refine run ?_;repeat intro b);refine jM 10 (by kernel_rfl) rfl rfl ?_;(refine run ?_;repeat intro b);refine dL rfl rfl rfl ⟨hc0,_,_,rfl,rfl⟩ ?_;(refine run ?_;repeat intro b);refine RF (rs':=[(0,⟨some bb,[.loc 0 0,.row 1 0 o.length c0],288,2⟩)]) o (by kernel_rfl) (by kernel_rfl) rfl rfl rfl rfl rfl rfl hs2 (by omega) (by simp) (by rw[an (by simp)];rfl) ?_;(refine run ?_;repeat intro b);simp only[gH,lI,vA,aY h2,hp]
end
section
open Go.TR
attribute [local irreducible] vc dW gz fg fD gF gJ gB fJ Plain eD eX dK VS fv fA fG jt fh IntKind.wrap
set_option maxRecDepth 100000
def xq (l:List (List UInt8)):Bool:=match jf l [] with
 | some _=>decide (l.length≤60)
 | none=>false
def jx (l:List (List UInt8)):List UInt8:=match jf l [] with
 | some o=>o
 | none=>[]
theorem PU (n:Nat)(h:n≤600):IntKind.u8.wrap (IntKind.i64.wrap ((n:Int).tdiv 256))=(((UInt8.ofNat (n / 256)).toNat:Nat):Int):=by
 have e:(n:Int).tdiv 256=((n / 256:Nat):Int):=(Int.ofNat_tdiv n 256).symm;rw[e,dC];have:n / 256≤600:=by omega
 generalize n / 256=q at *;rw[wrap_i64 (by omega) (by omega),Ox];omega
theorem Pc (n:Nat):IntKind.u8.wrap ((n:Int).tmod 256)=(((UInt8.ofNat (n % 256)).toNat:Nat):Int):=by
 have e:(n:Int).tmod 256=((n % 256:Nat):Int):=Int.ofNat_tmod n 256 ▸ rfl;rw[e,Ox,dC];omega
set_option maxHeartbeats 1000000 in
theorem DD (l:List (List UInt8))(hl:l.length≤4611686018427387904){p:Option Addr}{c:Nat}{F:Hp}(hf:e9 F p (l.map S)):Plain Tryz.prog F 128 [.slice p l.length c] (pair (S (jx l)) (.bool (xq l))):=by
 refine dQ (N:=38) (rv:=[.tmp 2,.tmp 3]) eW mixed Tryz.func128 rfl rfl rfl rfl rfl ?_;(refine run ?_;repeat intro b);refine eY (fun q:Nat×List UInt8=>q.1≤l.length∧jf l []=jf (l.drop q.1) q.2∧q.2.length≤600)
  (fun q=>⟨[(0,.v (.slice p l.length c)),(4,.v (S q.2)),(7,.v (.slice p l.length c)),(8,.v (i64 (l.length:Nat))),(9,.v (i64 (q.1:Nat)))],F,[],0⟩) (fun q=>l.length - q.1) (0,[]) ⟨az _,rfl,by decide⟩ (VS.eL [0,4,7,8,9] rfl rfl) ?_
 rintro⟨k,o⟩ ⟨hk,hp,ho⟩;dsimp only at hk hp ho ⊢;(refine run ?_;repeat intro b);refine eE _ rfl (fun h3=>?_) (fun h3=>?_)
 ·have hlt:k<l.length:=by simpa using h3
  have hdrop:l.drop k=l[k]::l.drop (k+1):=aO hlt;have hgo: ¬600<o.length+2+l[k].length→jf l []=jf (l.drop (k+1)) (o++part l[k]):=fun h=>by
   rw[hp,hdrop,jf,aY h]
  have hno:600<o.length+2+l[k].length→jf l []=none:=fun h=>by
   rw[hp,hdrop,jf,aZ h]
  have hbad:600<o.length+2+l[k].length→jx l=[]∧xq l=false:=fun h=>by
   unfold jx xq;rw[hno h];exact⟨rfl,rfl⟩
  generalize hq:l[k]=q at *;have hld:gi F (iw p (((k:Nat):Int).toNat * 1))=some (S q):=by
   have:=gS hf (j:=k) (by simpa using hlt);simpa [hq] using this
  have hsz:p.isSome=true:=dR hf (j:=k) (by simpa using hlt);(refine run ?_;repeat intro b);refine dL rfl rfl rfl ⟨by omega,by omega,hsz⟩ ?_;refine fw (S q) rfl rfl rfl rfl hld ?_;(refine run ?_;repeat intro b);refine eE (decide (600<q.length)) ?_ (fun h4=>?_) (fun h4=>?_)
  ·refine dV ?_;rw[aV,ga];omega
  ·obtain⟨e1,e2⟩:=hbad (by have:600<q.length:=(by simpa using h4);omega);(refine run ?_;repeat intro b);rw[e1,e2];rfl
  have h5:q.length≤600:=by simpa using h4
  (refine run ?_;repeat intro b);rw[ga,PU _ h5,Pc];refine qx [UInt8.ofNat (q.length / 256),UInt8.ofNat (q.length % 256)] rfl rfl rfl rfl (ah 2) rfl ?_;(refine run ?_;repeat intro b);refine dL rfl rfl rfl (by rw[ga,ga];unfold jj;simp only[aH,cK];omega) ?_;(refine run ?_;repeat intro b);refine dL rfl rfl rfl (by rw[ga,ga,ga,ga];unfold jj;simp only[aH,cK,ag];omega) ?_;(refine run ?_;repeat intro b);have WK:bl (jE o)++bl (jE (bl (jE [UInt8.ofNat (q.length / 256),UInt8.ofNat (q.length % 256)])++bl (jE q)))=o++part q:=rfl;rw[WK];refine eE (decide (600<o.length+2+q.length)) ?_ (fun h6=>?_) (fun h6=>?_)
  ·refine dV ?_;rw[aV,ga,ag,ie];omega
  ·obtain⟨e1,e2⟩:=hbad (by simpa using h6);(refine run ?_;repeat intro b);rw[e1,e2];rfl
  have h7: ¬600<o.length+2+q.length:=by simpa using h6
  (refine run ?_;repeat intro b);rw[dT (by omega)];exact fH (k+1,o++part q) 0 [] [0,4,7,8,9] [] ⟨hlt,hgo h7,by simp only[ag,ie];omega⟩ (by simp only;omega) (aM _ _) trivial rfl rfl rfl rfl rfl rfl rfl
 have hge:k=l.length:=by
  have: ¬k<l.length:=by simpa using h3
  omega
 subst hge;rw[cg]at hp;simp only[jf]at hp;(refine run ?_;repeat intro b);simp only[gH,jx,xq,hp];have e:decide ((l.length:Int)≤60)=decide (l.length≤60):=by rw[aV];omega
 rw[e]
end
section
open Go.TR
def vi (key:Nat)(s:List UInt8):Nat:=gj (num key++s++num key)
def jT (name value:List UInt8)(n:Nat):List UInt8:=num n++jx [name,value]
theorem CE (a b:List UInt8):lI [a,b]=jx [a,b]:=by
 unfold lI jx;rw[aY (by simp)];cases jf [a,b] []<;>rfl
theorem lD (l:List (List UInt8)):(jx l).length≤600:=by
 unfold jx;cases h:jf l [] with
 | none=>simp
 | some o=>exact Bh l [] o (by simp) h
theorem ra (name value:List UInt8)(n:Nat):(jT name value n).length≤608:=by
 unfold jT;have:=lD [name,value];simp only[ag,gl];omega
attribute [local irreducible] vc dW gz fg fD gF gJ gB fJ Plain eD eX dK VS fv fA fG jt fh IntKind.wrap
set_option maxRecDepth 100000
theorem Fy (key:Nat)(s:List UInt8)(hk:key<18446744073709551616)(hs:s.length≤4611686018427387888)(F:Hp):Plain Tryz.prog F 273 [u64 key,S s] (u64 (vi key s:Nat)):=by
 refine dQ (N:=13) (rv:=[.tmp 4]) eW mixed Tryz.func273 rfl rfl rfl rfl rfl ?_;(refine run ?_;repeat intro b);refine dJ _ rfl rfl rfl uo rfl (kC key F) ?_;(refine run ?_;repeat intro b);refine dL rfl rfl rfl (by simp only[ga,gl];unfold jj;omega) ?_;(refine run ?_;repeat intro b);refine dJ _ rfl rfl rfl uo rfl (kC key F) ?_;(refine run ?_;repeat intro b);refine dL rfl rfl rfl (by simp only[ga,gl,ag];unfold jj;omega) ?_;(refine run ?_;repeat intro b);refine dJ _ rfl rfl rfl Cu rfl (ly (num key++s++num key) (by simp only[gl,ag];omega) F) ?_;(refine run ?_;repeat intro b);rfl
theorem JB (key:Nat)(s:List UInt8)(hk:key<18446744073709551616)(hs:s.length≤4611686018427387888)(F:Hp):Plain Tryz.prog F 129 [u64 key,S s] (u64 (vi key s:Nat)):=by
 refine dQ (N:=13) (rv:=[.tmp 4]) eW mixed Tryz.func129 rfl rfl rfl rfl rfl ?_;(refine run ?_;repeat intro b);refine dJ _ rfl rfl rfl uY rfl (lE key hk F) ?_;(refine run ?_;repeat intro b);refine dL rfl rfl rfl (by simp only[ga,gl];unfold jj;omega) ?_;(refine run ?_;repeat intro b);refine dJ _ rfl rfl rfl uY rfl (lE key hk F) ?_;(refine run ?_;repeat intro b);refine dL rfl rfl rfl (by simp only[ga,gl,ag];unfold jj;omega) ?_;(refine run ?_;repeat intro b);refine dJ _ rfl rfl rfl vW rfl (jX (num key++s++num key) (by simp only[gl,ag];omega) F) ?_;(refine run ?_;repeat intro b);rfl
theorem Ed (key:Nat)(s:List UInt8)(t:Nat)(hk:key<18446744073709551616)(hs:s.length≤4611686018427387888)(F:Hp):Plain Tryz.prog F 229 [u64 key,S s,u64 t] (.bool (((vi key s:Nat):Int)==(t:Nat))):=by
 refine dQ (N:=12) (rv:=[.tmp 6]) eW mixed Tryz.func229 rfl rfl rfl rfl rfl ?_;(refine run ?_;repeat intro b);refine dJ _ rfl rfl rfl QO rfl (Fy key s hk hs F) ?_;(refine run ?_;repeat intro b);rfl
theorem x9 (name value:List UInt8)(n:Nat)(F:Hp):Plain Tryz.prog F 230 [S name,S value,u64 n] (S (jT name value n)):=by
 refine dQ (N:=20) (rv:=[.tmp 6]) eW mixed Tryz.func230 rfl rfl rfl rfl rfl ?_;(refine run ?_;repeat intro b);refine fX (VS.freeze 0 [0,1,2,12] rfl rfl rfl rfl fun F1 hs1 hf1=>VS.id ?_);refine dJ _ rfl rfl rfl Q1 rfl (Mo [name,value] hf1) ?_;(refine run ?_;repeat intro b);refine dJ _ rfl rfl rfl uo rfl (kC n F1) ?_;(refine run ?_;repeat intro b);have:=lD [name,value];refine dL rfl rfl rfl (by rw[CE];simp only[ga,gl];unfold jj;omega) ?_;(refine run ?_;repeat intro b);rw[CE];rfl
theorem KF (key:Nat)(name value:List UInt8)(n:Nat)(hk:key<18446744073709551616)(hn:n<18446744073709551616)(F:Hp):Plain Tryz.prog F 73 [u64 key,S name,S value,u64 n] (u64 (vi key (jT name value n):Nat)):=by
 refine dQ (N:=24) (rv:=[.tmp 8]) eW mixed Tryz.func73 rfl rfl rfl rfl rfl ?_;(refine run ?_;repeat intro b);refine fX (VS.freeze 0 [0,3,14] rfl rfl rfl rfl fun F1 hs1 hf1=>VS.id ?_);refine dJ _ rfl rfl rfl Q2 rfl (DD [name,value] (by simp) hf1) ?_;(refine run ?_;repeat intro b);refine dJ _ rfl rfl rfl uY rfl (lE n hn F1) ?_;(refine run ?_;repeat intro b);have:=lD [name,value];refine dL rfl rfl rfl (by simp only[ga,gl];unfold jj;omega) ?_;have h2:=ra name value n;refine dJ _ rfl rfl rfl Vo rfl (JB key (jT name value n) hk (by omega) F1) ?_;(refine run ?_;repeat intro b);rfl
def uG (key:Nat)(name value:List UInt8)(n:Nat):Ask:=if eR name value=0 then ⟨name,value,n,vi key (jT name value n)⟩ else Ask.none
theorem KW (key:Nat)(name value:List UInt8)(n:Nat)(hk:key<18446744073709551616)(hl:name.length≤4611686018427387904)(hn:n<18446744073709551616)(F:Hp):Plain Tryz.prog F 226 [u64 key,S name,S value,u64 n] (pair (uG key name value n).v (i64 (eR name value))):=by
 refine dQ (N:=28) (rv:=[.cell 8 35,.tmp 9]) eW mixed Tryz.func226 rfl rfl rfl rfl rfl ?_;(refine run ?_;repeat intro b);refine dJ _ rfl rfl rfl QN rfl (wP name value hl F) ?_;(refine run ?_;repeat intro b);refine eE _ rfl (fun h=>?_) (fun h=>?_)
 ·have h2: ¬eR name value=0:=by simpa using h
  (refine run ?_;repeat intro b);simp only[gH,uG,aY h2];rfl
 have h2:eR name value=0:=by simpa using h
 (refine run ?_;repeat intro b);refine dJ _ rfl rfl rfl QU rfl (x9 name value n F) ?_;have h3:=ra name value n;refine dJ _ rfl rfl rfl QO rfl (Fy key (jT name value n) hk (by omega) F) ?_;(refine run ?_;repeat intro b);have e:uG key name value n=⟨name,value,n,vi key (jT name value n)⟩:=by unfold uG;rw[aZ h2]
 rw[e,h2];simp only[gH]
def rE (key:Nat)(a:Ask):Bool:=(eR a.name a.value==0)&&(((vi key (jT a.name a.value a.n):Nat):Int)==(a.tag:Nat))
theorem FB (key:Nat)(a:Ask)(hk:key<18446744073709551616)(hw:a.wf)(F:Hp):Plain Tryz.prog F 168 [u64 key,a.v] (.bool (rE key a)):=by
 refine dQ (N:=24) (rv:=[.tmp 4]) eW mixed Tryz.func168 rfl rfl rfl rfl rfl ?_;(refine run ?_;repeat intro b);refine fO (by kernel_rfl) ?_;(refine run ?_;repeat intro b);refine dJ _ rfl rfl rfl QN rfl (wP a.name a.value hw.name F) ?_;(refine run ?_;repeat intro b);refine gm (S (jT a.name a.value a.n)) rfl rfl rfl rfl QU rfl rfl (fun _=>x9 a.name a.value a.n F) ?_;(refine run ?_;repeat intro b);have h3:=ra a.name a.value a.n;refine gm _ rfl rfl rfl rfl Wl rfl rfl (fun _=>Ed key (jT a.name a.value a.n) a.tag hk (by omega) F) ?_;(refine run ?_;repeat intro b);simp only[gH,fK,rE]
end
section
open Go.TR
@[reducible] def mu (n:Nat):Value:=u64 (n:Nat)
structure jo where
 name:List UInt8
 gg:List Entry
 fF:List Nat
structure jo.wf (p:jo):Prop where
 name:p.name.length≤4611686018427387904
 gg:p.gg.length≤4611686018427387904
 each: ∀x∈p.gg,x.wf
 fF:p.fF.length≤4611686018427387904
 side: ∀x∈p.fF,x<18446744073709551616
structure Lay where
 e:Option Addr
 ce:Nat
 s:Option Addr
 cs:Nat
@[reducible] def jo.v (p:jo) (a:Lay):Value:=.agg #[S p.name,.slice a.e p.gg.length a.ce,.slice a.s p.fF.length a.cs]
structure jo.at (F:Hp) (p:jo) (a:Lay):Prop where
 gg:e9 F a.e (p.gg.flatMap Entry.row)
 fF:e9 F a.s (p.fF.map mu)
theorem jo.e8 {F F':Hp}(h:F.sub F'){p:jo}{a:Lay}(k:jo.at F p a):jo.at F' p a:=⟨eu h k.gg,eu h k.fF⟩
def fV (p:jo):Int:=
 if eP p.name=true then
  if dY p.gg≠0 then dY p.gg
  else if (p.gg.any fun x=> !decide (eC x.name=eC p.name))=true then 3
  else if p.fF.length≠16 then 3
  else if (p.fF.any fun m=>decide (MM≤m))=true then 3
  else 0
 else 3
theorem wS: ∀{p:Option (List UInt8)}{l:List Entry},lP p l=0∨lP p l=2∨lP p l=3
 | _,[]=>.inl rfl
 | p,x::t=>by
  unfold lP;split
  ·unfold eR;split
   ·split<;>simp
   simp
  split
  ·simp
  exact wS
theorem lY (l:List Entry):dY l=0∨dY l=2∨dY l=3:=by
 unfold dY;split
 ·simp
 exact wS
theorem x5 (p:jo):fV p=0∨fV p=2∨fV p=3:=by
 unfold fV;split
 ·split
  ·exact lY _
  split
  ·simp
  split
  ·simp
  split<;>simp
 simp
theorem kO {p:jo}(h:fV p=0):eP p.name=true∧dY p.gg=0∧(∀x∈p.gg,eC x.name=eC p.name)∧p.fF.length=16∧ ∀m∈p.fF,m<MM:=by
 unfold fV at h;split at h
 ·rename_i h1;split at h
  ·rename_i h2;exact absurd h h2
  rename_i h2;split at h
  ·cases h
  rename_i h3;split at h
  ·cases h
  rename_i h4;split at h
  ·cases h
  rename_i h5;refine⟨h1,by simpa using h2,fun x hx=>?_,by omega,fun m hm=>?_⟩
  ·simp only[bT,not_exists,not_and,bz,Bool.not_eq_false,aU,Decidable.not_not]at h3;exact h3 x hx
  simp only[bT,not_exists,not_and,av]at h5;have:=h5 m hm;omega
 cases h
def zV (x:Entry):List UInt8:=jx [x.name,x.value]
def ju (l:List Entry):List UInt8:=if l.length=0 then [0] else 1::l.flatMap zV
theorem pE: ∀l:List Entry,(l.flatMap zV).length≤600 * l.length
 | []=>by simp
 | x::t=>by
  have:=pE t;have:=lD [x.name,x.value];have e:zV x=jx [x.name,x.value]:=rfl;rw[cu,ag,aH,e];omega
def ka:Nat:=gj [0]
def ld (a b:Nat):List UInt8:=if a=ka∧b=ka then [0] else two 2 a b
theorem se (a b:Nat):(ld a b).length≤17:=by
 unfold ld;split
 ·decide
 rw[xP];exact ah _
def ko (p:jo):Nat→List UInt8
 | 0=>ju p.gg
 | k+1=>if (eC p.name).getD (15 - k) 0=48 then ld (gj (ko p k)) (p.fF.getD k 0) else ld (p.fF.getD k 0) (gj (ko p k))
theorem uR {p:jo}(h:p.gg.length≤24): ∀k,(ko p k).length≤20000
 | 0=>by
  show (ju p.gg).length≤20000;have:=pE p.gg;unfold ju;split
  ·decide
  rw[aH];omega
 | k+1=>by
  have h1:=se (gj (ko p k)) (p.fF.getD k 0);have h2:=se (p.fF.getD k 0) (gj (ko p k));unfold ko;split<;>omega
def lK (p:jo)(k:Nat):List (List UInt8):=(List.range k).map (ko p)
theorem Ko (p:jo)(k:Nat):lK p (k+1)=lK p k++[ko p k]:=by
 unfold lK;rw[List.range_succ,aF];rfl
theorem na (p:jo)(k:Nat):(lK p k).length=k:=by unfold lK;rw[ab,List.length_range]
def nj (p:jo):List (List UInt8):=if fV p=0 then lK p 17 else []
def lv (p:jo):Nat:=gj (ko p 16)
def yX (p:jo):Nat:=if fV p=0 then lv p else 0
theorem rk (s:List UInt8)(k:Nat)(hk:k<16):(eC s).getD k 0=48∨(eC s).getD k 0=49:=by
 have h:(eC s).getD k 0=zy (gj s / 2 ^ (15 - k)):=by
  unfold eC;rw[aE,ao (by rw[mR];exact hk),vS 16 _ k hk];rfl
 rw[h];unfold zy;rcases Nat.mod_two_eq_zero_or_one (gj s / 2 ^ (15 - k)) with h | h<;>rw[h]<;>decide
end
section
open Go.TR
def oy {α:Type}(q:α→Bool)(l:List α):Int:=if l.any q=true then ((l.findIdx q:Nat):Int) else -1
theorem lu {α:Type}{q:α→Bool}{l:List α}(h:l.any q=false):oy q l= -1:=by unfold oy;rw[h];rfl
theorem k8 {α:Type}{q:α→Bool}{l:List α}{k:Nat}(hk:k<l.length)(hany:(l.take k).any q=false)(h:q l[k]=true):oy q l=(k:Int):=by
 have h1:l.any q=true:=bT.2 ⟨l[k],aj hk,h⟩;have h2:l.findIdx q=k:=by
  rw[List.findIdx_eq hk];refine⟨h,fun j hj=>?_⟩;rw[bM]at hany;have hm:l[j]∈l.take k:=by
   have:(l.take k)[j]'(by rw[aw];omega)=l[j]:=List.getElem_take;rw[←this];exact aj _
  simpa using hany _ hm
 unfold oy;rw[aZ h1,h2]
theorem nY {α:Type}(q:α→Bool)(l:List α):decide (0≤oy q l)=l.any q:=by
 unfold oy;cases h:l.any q with
 | true=>simp
 | false=>simp
attribute [local irreducible] vc dW gz fg fD gF gJ gB fJ Plain eD eX dK VS fv fA fG jt fh IntKind.wrap
set_option maxRecDepth 100000
theorem LY (q:(List UInt8)→Bool)(g:Nat)(lb:Array Value)(hb:dK Tryz.prog g)(l:List (List UInt8)){p:Option Addr}{c:Nat}{F:Hp}(hf:e9 F p (l.map S))(hl:l.length≤4611686018427387904)(hp: ∀x∈l,Plain Tryz.prog F g (S x::lb.toList) (.bool (q x))):
  Plain Tryz.prog F 81 [.slice p l.length c,.func (.func g) #[] lb] (i64 (oy q l)):=by
 refine dQ (N:=19) (rv:=[.tmp 4]) eW mixed Tryz.func81 rfl rfl rfl rfl rfl ?_;(refine run ?_;repeat intro b);refine eY (fun k:Nat=>k≤l.length∧(l.take k).any q=false) (fun k=>⟨[(0,.v (.slice p l.length c)),(1,.v (.func (.func g) #[] lb)),(7,.v (i64 (l.length:Nat))),(8,.v (i64 (k:Nat)))],F,[],0⟩) (fun k=>l.length - k) 0 ⟨az _,rfl⟩ (VS.eL [0,1,7,8] rfl rfl) ?_;rintro k ⟨hk,hany⟩;(refine run ?_;repeat intro b);refine eE _ rfl (fun h=>?_) (fun h=>?_)
 ·have hlt:k<l.length:=by simpa using h
  (refine run ?_;repeat intro b);refine dL rfl rfl rfl ⟨by omega,by omega,dR hf (j:=k) (by simpa using hlt)⟩ ?_;refine fw (S l[k]) rfl rfl rfl rfl (by have:=gS hf (j:=k) (by simpa using hlt);simpa using this) ?_;(refine run ?_;repeat intro b);refine dJ _ rfl rfl (by rw[fE];rfl) hb rfl (hp l[k] (aj hlt)) ?_;(refine run ?_;repeat intro b);refine eE _ rfl (fun h2=>?_) (fun h2=>?_)
  ·(refine run ?_;repeat intro b);rw[k8 hlt hany h2];rfl
  (refine run ?_;repeat intro b);rw[dT (by omega)];refine fp (k+1) ⟨hlt,?_⟩ (by omega) (VS.eL [0,1,7,8] rfl rfl);rw[al hlt,bK,hany];simp[h2]
 have hge:k=l.length:=by
  have: ¬k<l.length:=by simpa using h
  omega
 subst hge;rw[aD]at hany;(refine run ?_;repeat intro b);rw[lu hany];rfl
theorem M6 (q:(List UInt8)→Bool)(g:Nat)(lb:Array Value)(hb:dK Tryz.prog g)(l:List (List UInt8)){p:Option Addr}{c:Nat}{F:Hp}(hf:e9 F p (l.map S))(hl:l.length≤4611686018427387904)(hp: ∀x∈l,Plain Tryz.prog F g (S x::lb.toList) (.bool (q x))):
  Plain Tryz.prog F 28 [.slice p l.length c,.func (.func g) #[] lb] (.bool (l.any q)):=by
 refine dQ (N:=9) (rv:=[.tmp 4]) eW mixed Tryz.func28 rfl rfl rfl rfl rfl ?_;(refine run ?_;repeat intro b);refine dJ _ rfl rfl rfl XV rfl (LY q g lb hb l hf hl hp) ?_;(refine run ?_;repeat intro b);rw[nY];rfl
theorem Mz (q:Int→Bool)(g:Nat)(lb:Array Value)(hb:dK Tryz.prog g)(l:List Int){p:Option Addr}{c:Nat}{F:Hp}(hf:e9 F p (l.map i64))(hl:l.length≤4611686018427387904)(hp: ∀x∈l,Plain Tryz.prog F g (i64 x::lb.toList) (.bool (q x))):
  Plain Tryz.prog F 233 [.slice p l.length c,.func (.func g) #[] lb] (i64 (oy q l)):=by
 refine dQ (N:=19) (rv:=[.tmp 4]) eW mixed Tryz.func233 rfl rfl rfl rfl rfl ?_;(refine run ?_;repeat intro b);refine eY (fun k:Nat=>k≤l.length∧(l.take k).any q=false) (fun k=>⟨[(0,.v (.slice p l.length c)),(1,.v (.func (.func g) #[] lb)),(7,.v (i64 (l.length:Nat))),(8,.v (i64 (k:Nat)))],F,[],0⟩) (fun k=>l.length - k) 0 ⟨az _,rfl⟩ (VS.eL [0,1,7,8] rfl rfl) ?_;rintro k ⟨hk,hany⟩;(refine run ?_;repeat intro b);refine eE _ rfl (fun h=>?_) (fun h=>?_)
 ·have hlt:k<l.length:=by simpa using h
  (refine run ?_;repeat intro b);refine dL rfl rfl rfl ⟨by omega,by omega,dR hf (j:=k) (by simpa using hlt)⟩ ?_;refine fw (i64 l[k]) rfl rfl rfl rfl (by have:=gS hf (j:=k) (by simpa using hlt);simpa using this) ?_;(refine run ?_;repeat intro b);refine dJ _ rfl rfl (by rw[fE];rfl) hb rfl (hp l[k] (aj hlt)) ?_;(refine run ?_;repeat intro b);refine eE _ rfl (fun h2=>?_) (fun h2=>?_)
  ·(refine run ?_;repeat intro b);rw[k8 hlt hany h2];rfl
  (refine run ?_;repeat intro b);rw[dT (by omega)];refine fp (k+1) ⟨hlt,?_⟩ (by omega) (VS.eL [0,1,7,8] rfl rfl);rw[al hlt,bK,hany];simp[h2]
 have hge:k=l.length:=by
  have: ¬k<l.length:=by simpa using h
  omega
 subst hge;rw[aD]at hany;(refine run ?_;repeat intro b);rw[lu hany];rfl
theorem NT (q:Int→Bool)(g:Nat)(lb:Array Value)(hb:dK Tryz.prog g)(l:List Int){p:Option Addr}{c:Nat}{F:Hp}(hf:e9 F p (l.map i64))(hl:l.length≤4611686018427387904)(hp: ∀x∈l,Plain Tryz.prog F g (i64 x::lb.toList) (.bool (q x))):
  Plain Tryz.prog F 171 [.slice p l.length c,.func (.func g) #[] lb] (.bool (l.any q)):=by
 refine dQ (N:=9) (rv:=[.tmp 4]) eW mixed Tryz.func171 rfl rfl rfl rfl rfl ?_;(refine run ?_;repeat intro b);refine dJ _ rfl rfl rfl TT rfl (Mz q g lb hb l hf hl hp) ?_;(refine run ?_;repeat intro b);rw[nY];rfl
end
end Go.Proofs.YthbnddgjkonkdaaGreatDoor
