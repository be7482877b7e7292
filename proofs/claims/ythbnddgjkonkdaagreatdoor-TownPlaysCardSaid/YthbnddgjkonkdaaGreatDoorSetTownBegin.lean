/- A part of the proof. -/
import Derived.Test.YthbnddgjkonkdaaGreatDoorSetTown8
set_option linter.unusedVariables false
set_option linter.unusedSimpArgs false
namespace Go.Proofs.YthbnddgjkonkdaaGreatDoor
section
open Go.TR
structure lX where
 names:List (List UInt8)
 keys:List Nat
 most:Int
 batch:Int
 every:Int
 least:Int
 top:Int
 lost:Int
 reach:Int
def mi:Head:=⟨0,gN [][],0,0⟩
def kR (l:List (List UInt8))(k:Nat):Bool:= !eP (l.getD k [])||(l.take k).any fun m=>decide (m=l.getD k [])
def lN (l:List (List UInt8)):Bool:=(List.range l.length).any (kR l)
def lX.jO (s:lX):Poll:=Poll.fresh s.least s.top s.lost
def ig (s:lX):Int:=
 if jH s.most s.batch s.every=true then 4
 else if 4<s.names.length then 2
 else if s.keys.length≠s.names.length then 3
 else if lN s.names=true then 3
 else if s.jO.bad=true then 4
 else if s.reach<1∨40<s.reach then 4
 else 0
def mQ (s:lX)(n:Nat):Int:=if ig s≠0 then ig s else if 200<n then 2 else 0
def lX.own (s:lX)(k:Nat):Ow:=Ow.fresh (s.names.getD k []) (s.keys.getD k 0) mi
def lX.dN (s:lX)(k:Nat):List Ow:=(List.range k).map s.own
def firstT (s:lX):fr:=⟨jS s.most s.batch s.every,s.dN s.names.length,List.replicate s.names.length s.jO,0,[],s.reach,[],[]⟩
theorem lX.D7 (s:lX)(k:Nat):s.dN (k+1)=s.dN k++[s.own k]:=by
 unfold lX.dN;rw[List.range_succ,aF];rfl
theorem lX.zf (s:lX)(k:Nat):(s.dN k).length=k:=by unfold lX.dN;rw[ab,List.length_range]
structure lX.wf (s:lX):Prop where
 names:s.names.length≤4611686018427387904
 each: ∀n∈s.names,n.length≤4611686018427387904
 ZI:s.keys.length≤4611686018427387904
 keys: ∀k∈s.keys,k<18446744073709551616
 aah:(-9223372036854775808≤s.most∧s.most≤9223372036854775807)∧(-9223372036854775808≤s.batch∧s.batch≤9223372036854775807)∧(-9223372036854775808≤s.every∧s.every≤9223372036854775807)∧(-9223372036854775808≤s.least∧s.least≤9223372036854775807)∧(-9223372036854775808≤s.top∧s.top≤9223372036854775807)∧(-9223372036854775808≤s.lost∧s.lost≤9223372036854775807)∧(-9223372036854775808≤s.reach∧s.reach≤9223372036854775807)
attribute [local irreducible] gN dY
theorem qm:mi.wf∧mi.fault=0:=by
 have h:=uC [] [];have hm:MM≤18446744073709551616:=by decide
 refine⟨⟨by show gN [] []<_;omega,by show (0:Nat)<18446744073709551616;decide,by show (-9223372036854775808:Int)≤0∧(0:Int)≤9223372036854775807;decide,by show (-9223372036854775808:Int)≤0∧(0:Int)≤9223372036854775807;decide⟩,?_⟩;have h1:mi.vr=false:=by
  unfold Head.vr mi;simp only[aQ,aU];have h0: ¬MM≤0:=by decide
  refine⟨⟨⟨⟨⟨by decide,by decide⟩,by omega⟩,h0⟩,by decide⟩,by decide⟩
 unfold Head.fault;rw[h1,aY (by decide),aY];unfold Head.yb mi;decide
theorem uE {m b e:Int}(h:jH m b e=false):jS m b e=⟨⟨m,[]⟩,b,e,0,[mi],[[]]⟩:=by
 unfold jS;rw[aY (by rw[h];decide)];rfl
theorem EB {m b e:Int}(h:jH m b e=false):1≤m∧m≤30∧1≤b∧b≤30∧1≤e∧e≤1000:=by
 unfold jH at h;simp only[aQ,aU]at h;omega
theorem JF {m b e:Int}(h:jH m b e=false):Good (jS m b e):=by
 obtain⟨h1,h2,h3,h4,h5,h6⟩:=EB h;obtain⟨z1,z2⟩:=qm;rw[uE h];refine⟨?_,?_,?_,?_,?_,?_⟩
 ·unfold fj;rw[aY (by dsimp only;omega),aY (by simp only[cK];omega)];rfl
 ·unfold sS;simp only[aQ,aU];omega
 ·unfold fu;rw[aY (by simp),aY (by simp)];rw[nI (by unfold kq;rw[aZ z2];rfl) rfl]
 ·unfold ny;simp[fL,mi]
 ·unfold iu;rw[aY (by rw[sI];decide),aY (by simp[mi])];unfold iu;rfl
 show (kW []).length≤24;decide
theorem wM {s:lX}(h:ig s=0):jH s.most s.batch s.every=false∧s.names.length≤4∧s.keys.length=s.names.length∧lN s.names=false∧s.jO.bad=false∧1≤s.reach∧s.reach≤40:=by
 unfold ig at h;split at h
 ·cases h
 split at h
 ·cases h
 split at h
 ·cases h
 split at h
 ·cases h
 split at h
 ·cases h
 split at h
 ·cases h
 rename_i h1 h2 h3 h4 h5 h6;exact⟨by simpa using h1,by omega,bE.1 h3,by simpa using h4,by simpa using h5,by omega,by omega⟩
theorem A3 {n:List UInt8}{k:Nat}(hn:eP n=true):ki (Ow.fresh n k mi)=0:=by
 unfold ki Ow.fresh;rw[aZ hn,aY (by rw[qm.2];decide),aY (by simp),aY (by simp)]
theorem Na {n:List UInt8}{k:Nat}(hn:n.length≤4611686018427387904)(hk:k<18446744073709551616):(Ow.fresh n k mi).wf:=
 ⟨hn,hk,qm.1,by simp[Ow.fresh],fun s hs=>(by simp[Ow.fresh]at hs),by simp[Ow.fresh]⟩
theorem CK {l:List (List UInt8)}{k:Nat}(h:kR l k=false):eP (l.getD k [])=true:=by
 unfold kR at h;simp only[aQ,Bool.not_eq_false']at h;exact h.1
theorem Et {l:List (List UInt8)}(h:lN l=false){k:Nat}(hk:k<l.length):kR l k=false:=by
 unfold lN at h;have:=bM.1 h k (List.mem_range.2 hk);simpa using this
theorem lX.wf.name {s:lX}(hw:s.wf)(k:Nat):(s.names.getD k []).length≤4611686018427387904:=by
 rw[aE];cases h:s.names[k]? with
 | none=>simp
 | some n=>exact hw.each n (cW h)
theorem lX.wf.key {s:lX}(hw:s.wf)(k:Nat):s.keys.getD k 0<18446744073709551616:=by
 rw[aE];cases h:s.keys[k]? with
 | none=>simp
 | some n=>exact hw.keys n (cW h)
theorem tg {s:lX}(hw:s.wf)(h:ig s=0):(firstT s).Inv s.names.length:=by
 obtain⟨h1,h2,h3,h4,h5,h6,h7⟩:=wM h;have hg:=JF h1;refine⟨hg,?_,h2,s.zf _,fun o ho=>?_,by simp[firstT],fun p hp=>?_,?_,by simp[firstT],fun l hl=>?_,fun l hl=>?_,⟨h6,h7⟩,fun f hf=>?_⟩
 ·show∀a∈(jS s.most s.batch s.every).queue.wait,a.wf;rw[uE h1];intro a ha;cases ha
 ·obtain⟨k,hk,rfl⟩:=aG.1 ho;exact⟨Na (hw.name k) (hw.key k),A3 (CK (Et h4 (List.mem_range.1 hk)))⟩
 ·have:=List.eq_of_mem_replicate hp;rw[this];exact h5
 ·show (0:Int)=(jS s.most s.batch s.every).now;rw[uE h1]
 ·cases hl
 ·cases hl
 cases hf
end
section
open Go.TR
structure Ar where
 pn:Option Addr
 cn:Nat
 pk:Option Addr
 ck:Nat
@[reducible] def lX.row (s:lX) (a:Ar):List Value:=[.slice a.pn s.names.length a.cn,.slice a.pk s.keys.length a.ck,i64 s.most,i64 s.batch,i64 s.every,i64 s.least,i64 s.top,i64 s.lost,i64 s.reach]
structure lX.at (F:Hp) (s:lX) (a:Ar):Prop where
 names:e9 F a.pn (s.names.map S)
 cap:s.names.length≤a.cn
 keys:e9 F a.pk (s.keys.map mu)
theorem lX.e8 {F F':Hp}(h:F.sub F'){s:lX}{a:Ar}(k:s.at F a):s.at F' a:=⟨eu h k.names,k.cap,eu h k.keys⟩
def lX.nU (s:lX):Bool:=s.jO.bad||decide (s.reach<1)||decide (40<s.reach)
theorem Ke (s:lX):((((((decide (s.least<1)||decide (s.top<s.least))||decide (1000<s.top))||decide (s.lost<1))||decide (100<s.lost))||decide (s.reach<1))||decide (40<s.reach))=s.nU:=by
 unfold lX.nU lX.jO Poll.bad Poll.fresh;rw[ai];simp only[bD,av];omega
theorem wJ {s:lX}(h1:jH s.most s.batch s.every=false)(h2:s.names.length≤4)(h3:s.keys.length=s.names.length)(h4:lN s.names=false):ig s=if s.nU=true then 4 else 0:=by
 unfold ig;rw[aY (by rw[h1];decide),aY (by omega),aY (by simpa using h3),aY (by rw[h4];decide)];unfold lX.nU;cases hp:s.jO.bad with
 | true=>rw[aZ rfl,aZ (by simp)]
 | false=>
  rw[aY (by decide)];by_cases hr:s.reach<1∨40<s.reach
  ·rw[aZ hr,aZ];simp only[bu,bD,av];exact hr
  rw[aY hr,aY];simp only[bu,bD,av];exact hr
theorem yO {s:lX}{n:Nat}(h:ig s=0):mQ s n=if 200<n then 2 else 0:=by unfold mQ;rw[aY (by rw[h];decide)]
theorem pA {s:lX}{n:Nat}(h:ig s≠0):mQ s n=ig s:=by unfold mQ;rw[aZ h]
theorem rB (f:Nat→Bool)(k:Nat):(List.range (k+1)).any f=((List.range k).any f||f k):=by
 rw[List.range_succ,bK];simp
theorem H7 (p:Option Addr)(c size:Nat):jJ p 0 c size=p:=by unfold jJ;cases p<;>simp[Addr.add]
attribute [local irreducible] vc dW gz fg fD gF gJ gB fJ Plain eD eX dK VS fv fA fG jt fh IntKind.wrap
attribute [local irreducible] dY gN eP jH
set_option maxRecDepth 100000
set_option maxHeartbeats 4000000
theorem uU (s:lX)(a:Ar)(n:Nat)(hw:s.wf){F:Hp}(ha:s.at F a):Plain Tryz.prog F 23 [.agg (s.row a).toArray,i64 (n:Nat)] (i64 (mQ s n)):=by
 refine dQ (N:=110) (rv:=[.tmp 4]) eW mixed Tryz.func23 rfl rfl rfl rfl rfl ?_;have hcap:=ha.cap;(refine run ?_;repeat intro b);revert b;intro bS;refine eE (jH s.most s.batch s.every) ?_ (fun h1=>?_) (fun h1=>?_)
 ·refine dV ?_;simp only[fx];unfold jH;rfl
 ·have e:mQ s n=4:=by
   have e0:ig s=4:=by unfold ig;rw[aZ h1]
   rw[pA (by rw[e0];decide),e0]
  rw[e];(refine run ?_;repeat intro b);rfl
 (refine run ?_;repeat intro b);refine eE (decide (4<s.names.length)) ?_ (fun h2=>?_) (fun h2=>?_)
 ·refine dV ?_;rw[ai,av,av];omega
 ·have h2:=ar h2;have e:mQ s n=2:=by
   have e0:ig s=2:=by unfold ig;rw[aY (by rw[h1];decide),aZ h2]
   rw[pA (by rw[e0];decide),e0]
  rw[e];(refine run ?_;repeat intro b);rfl
 have h2:=au h2;(refine run ?_;repeat intro b);refine eE (decide (s.keys.length≠s.names.length)) ?_ (fun h3=>?_) (fun h3=>?_)
 ·refine dV ?_;rw[ai];simp;omega
 ·have h3:=ar h3;have e:mQ s n=3:=by
   have e0:ig s=3:=by unfold ig;rw[aY (by rw[h1];decide),aY h2,aZ h3]
   rw[pA (by rw[e0];decide),e0]
  rw[e];(refine run ?_;repeat intro b);rfl
 have h3:s.keys.length=s.names.length:=bE.1 (au h3);have hbad:lN s.names=true→mQ s n=3:=fun hb=>by
  have e0:ig s=3:=by unfold ig;rw[aY (by rw[h1];decide),aY h2,aY (by simpa using h3),aZ hb]
  rw[pA (by rw[e0];decide),e0]
 have Om: ∀k,k<s.names.length→kR s.names k=true→mQ s n=3:=fun k hk hb=>hbad (by
  unfold lN;exact bT.2 ⟨k,List.mem_range.2 hk,hb⟩)
 (refine run ?_;repeat intro b);refine eY (fun k:Nat=>k≤s.names.length∧(List.range k).any (kR s.names)=false)
  (fun k=>⟨[(1,.v (i64 (n:Nat))),(2,.loc 0 0),(49,.v (.slice a.pn s.names.length a.cn)),(50,.v (i64 (s.names.length:Nat))),(51,.v (i64 (k:Nat)))],F,[(0,⟨some bS,(s.row a).map EV.v,56,9⟩)],1⟩) (fun k=>s.names.length - k) 0 ⟨az _,rfl⟩ (VS.eL [1,2,49,50,51] rfl rfl) ?_
 rintro k ⟨hk,hany⟩;by_cases hlt:k<s.names.length
 ·have en:s.names.getD k []=s.names[k]:=by simp[List.getD,hlt]
  have hnl:=hw.each _ (aj hlt);have hcell:=gS ha.names (j:=k) (by rw[ab];exact hlt);rw[cG]at hcell;have hft:e9 F a.pn ((s.names.take k).map S):=by rw[cQ];exact r6 ha.names k
  have hnb:kR s.names k=(!eP s.names[k]||(s.names.take k).any fun m=>decide (m=s.names[k])):=by unfold kR;rw[en]
  have hlast:=Om k hlt;rw[hnb]at hlast;have hnx:=rB (kR s.names) k;rw[hany,bu,hnb]at hnx;have htl:(s.names.take k).length=k:=by rw[aw];omega
  generalize s.names[k]=nm at *;generalize s.names.take k=pre at *;(refine run ?_;repeat intro b);refine gw rfl (by omega) ?_;(refine run ?_;repeat intro b);refine dL rfl rfl rfl ⟨by omega,by omega,dR ha.names (j:=k) (by rw[ab];omega)⟩ ?_;refine fw (S nm) rfl rfl rfl rfl (by rw[ae,aA];exact hcell) ?_;(refine run ?_;repeat intro b);refine dJ _ rfl rfl rfl Px rfl (oK nm hnl F) ?_;(refine run ?_;repeat intro b);refine eE (!eP nm) rfl (fun hg=>?_) (fun hg=>?_)
  ·rw[hlast (by rw[hg];rfl)];(refine run ?_;repeat intro b);rfl
  (refine run ?_;repeat intro b);refine dL rfl rfl rfl ⟨by omega,by omega⟩ ?_;rw[H7];(refine run ?_;repeat intro b);refine eY (fun j:Nat=>j≤pre.length∧(pre.take j).any (fun m=>decide (m=nm))=false)
   (fun j=>⟨[(1,.v (i64 (n:Nat))),(2,.loc 0 0),(6,.v (S nm)),(49,.v (.slice a.pn s.names.length a.cn)),(50,.v (i64 (s.names.length:Nat))),(51,.v (i64 (k:Nat))),(62,.v (.slice a.pn k a.cn)),(63,.v (i64 (k:Nat))),(64,.v (i64 (j:Nat)))],F,[(0,⟨some bS,(s.row a).map EV.v,56,9⟩)],1⟩) (fun j=>pre.length - j) 0 ⟨az _,rfl⟩ (VS.eL [1,2,6,49,50,51,62,63,64] rfl rfl) ?_
  rintro j ⟨hj,hja⟩;by_cases hjt:j<pre.length
  ·have hc2:=gS hft (j:=j) (by rw[ab];exact hjt);rw[cG]at hc2;have hst:(pre.take (j+1)).any (fun m=>decide (m=nm))=decide (pre[j]=nm):=by rw[al hjt,bK,hja];simp
   have hme:pre[j]∈pre:=aj hjt;(refine run ?_;repeat intro b);refine gw rfl (by omega) ?_;(refine run ?_;repeat intro b);refine dL rfl rfl rfl ⟨by omega,by omega,dR hft (j:=j) (by rw[ab];omega)⟩ ?_;refine fw (S pre[j]) rfl rfl rfl rfl (by rw[ae,aA];exact hc2) ?_;(refine run ?_;repeat intro b);refine eE (decide (pre[j]=nm)) rfl (fun he=>?_) (fun he=>?_)
   ·rw[hlast (by rw[bD];exact .inr (bT.2 ⟨_,hme,he⟩))];(refine run ?_;repeat intro b);rfl
   (refine run ?_;repeat intro b);rw[dT (by omega)];exact fp (j+1) ⟨hjt,hst.trans he⟩ (by omega) (VS.eL [1,2,6,49,50,51,62,63,64] rfl rfl)
  have hge:j=k:=by omega
  rw[an (by omega)]at hja;subst hge;(refine run ?_;repeat intro b);refine gy rfl (by omega) ?_;(refine run ?_;repeat intro b);rw[dT (by omega)];exact fp (j+1) ⟨hlt,by rw[hnx,hja,Bool.or_false];exact hg⟩ (by omega) (VS.eL [1,2,49,50,51] rfl rfl)
 have hge:k=s.names.length:=by omega
 subst hge;have hnb:lN s.names=false:=hany;have he:=wJ h1 (by omega) h3 hnb;(refine run ?_;repeat intro b);refine gy rfl (by omega) ?_;(refine run ?_;repeat intro b);refine eE s.nU ?_ (fun h5=>?_) (fun h5=>?_)
 ·refine dV ?_;simp only[fx];exact Ke s
 ·rw[aZ h5]at he;rw[pA (by rw[he];decide),he];(refine run ?_;repeat intro b);rfl
 rw[aY (by rw[h5];decide)]at he;rw[yO he];(refine run ?_;repeat intro b);refine eE (decide (200<n)) ?_ (fun h6=>?_) (fun h6=>?_)
 ·refine dV ?_;rw[ai,av,av];omega
 ·rw[aZ (ar h6)];(refine run ?_;repeat intro b);rfl
 rw[aY (au h6)];(refine run ?_;repeat intro b);rfl
end
end Go.Proofs.YthbnddgjkonkdaaGreatDoor
namespace Go.TR
open Go
section
variable {P:Program} {tb:Tb} {N:Nat} {all rest:List Oper} {K:fe→St→Prop}
theorem Jg {d:Nat}{x y:Operand}{t1 t2 e:TypeId}{ty:TypeId}{pos:String}{af:Array Edge}{env:Env}{F:Hp}{rs rs':RL}{nx id o n c b cap m c2:Nat}{ad:Addr}{cells:List EV}{xG:TypeId}{ti:TI}(k:Nat)(cs:List Value)(htb:g9 P tb)(ht:tk tb t1=some (.slice e))(hi:tb e=some ti)
  (hx:gO rs [] env [] x=some (.row id o n c)) (hy:gO rs [] env [] y=some (.v (.slice (some ad) m c2))) (hr:fU rs id=some ⟨some b,cells,xG,cap⟩) (hd:Nat.blt d N=true) (hk:k=Nat.min m n) (hcs:cs.length=k * ti.size) (hF:e9 F (some ad) cs) (hone: ∀v∈cs,v.oneCell'=true)
  (hfit:o+k * ti.size≤cells.length) (hrs:iv (qP rs id ⟨some b,cells.take o++cs.map .v++cells.drop (o+k * ti.size),xG,cap⟩)=some rs')
  (kk:dW P tb N false all rest K [] ⟨(d,.v (.int .i64 (k:Nat)))::env,F,rs',nx⟩):
  dW P tb N false all (⟨some d,.call ⟨.builtin .copy,#[x,y],#[t1,t2]⟩,ty,pos,af,none⟩::rest) K [] ⟨env,F,rs,nx⟩:=by
 obtain⟨i,z,hinfo,hsz,hby,hz,hzs⟩:=oM htb hi;have hut:=jq htb ht;rw[fE,aa]at hrs;subst hrs;refine oe (ι:=Unit) (fun _=>.v (.int .i64 (k:Nat))) (env:=fun _=>env) (F:=fun _=>F) (rs:=fun _=>qP rs id ⟨some b,cells.take o++cs.map .v++cells.drop (o+k * ti.size),xG,cap⟩) (nx:=fun _=>nx) hd (fun c' a w op hs ho=>?_) (fun _=>kk);have ex:=fM hs hx;simp only[EV.val,hr]at ex;simp only[aJ,aa]at ex;have ey:=fM hs hy;simp only[EV.val,aa]at ey;obtain⟨g1,g2,cur,g3,g4,g5⟩:=hs.fR.own.own id _ hr;simp only at g2 g4;have hfc:=run_firstCells_some (P:=P) w ti.size k ad m c2 cs hcs (sc hs.fR.le hF);have hst:=run_storeCells_at (P:=P) b o xG cs 0 cur w g3 (by rw[hcs,g4];omega) hone;simp only[di]at hst;refine⟨(),.int .i64 (k:Nat),w.setRow b (cur.toList.take o++cs++cur.toList.drop (o+cs.length)).toArray,?_,?_,rfl⟩
 ·simp only[execOp,ho,resolve,invoke,builtin];simp only[←ex,←ey,List.map_toArray,a9,cP];rw[←hsz]at hfc;rw[hk]at hfc;simp[Builtin.copy_,run_underlying hut,Builtin.lenOf,sizeOf,typeInfo,hinfo,hfc,hst,goInt,hk]
 have:=sr hs hr rfl (es:=cs.map .v) (vs:=cs) (off:=o) (by rw[ab]) (by rw[ab,hcs];exact hfit) (fun e he=>by obtain⟨v,_,rfl⟩:=aG.1 he;exact trivial) (fun j e x hj hx=>by
  rw[aI]at hj;cases hcj:cs[j]? with
  | none=>rw[hcj]at hj;cases hj
  | some u=>rw[hcj]at hj;cases hj;exact hx) g3
 rw[ab,hcs]at this;rw[hcs];exact this
end
end Go.TR
namespace Go.Proofs.YthbnddgjkonkdaaGreatDoor
section
open Go.TR
attribute [local irreducible] vc dW gz fg fD gF gJ gB fJ Plain eD eX dK VS fv fA fG jt fh IntKind.wrap
set_option maxRecDepth 100000
set_option maxHeartbeats 4000000
theorem ML (cs:List Value){K k m:Nat}(hcs:cs.length=K)(hk:k≤m):((List.replicate m cs).flatten).take (k * K)=(List.replicate k cs).flatten:=by
 obtain⟨j,rfl⟩: ∃j,m=k+j:=⟨m - k,by omega⟩;rw[←List.replicate_append_replicate,List.flatten_append,List.take_left'];rw[List.length_flatten,List.map_replicate,hcs,List.sum_replicate_nat]
theorem HE (x y:Nat)(hx:x<18446744073709551616)(hy:y<18446744073709551616)(F:Hp):Plain Tryz.prog F 166 [u64 x,u64 y] (pair (u64 (x * y / 18446744073709551616:Nat)) (u64 (x * y % 18446744073709551616:Nat))):=by
 refine dQ (N:=30) (rv:=[.tmp 4,.tmp 5]) eW mixed Tryz.func166 rfl rfl rfl rfl rfl ?_;(refine run ?_;repeat intro b);refine dJ _ rfl rfl rfl Qa rfl (E8 x y hx hy F) ?_;(refine run ?_;repeat intro b);rfl
theorem v7 (cs:List Value)(n:Nat)(hcs:cs.length=6)(hn:n≤1000){a:Addr}{c:Nat}{F:Hp}(hc:1≤c)(hf:e9 F (some a) cs)(h1: ∀x∈cs,Go.TR.one (.v x)=true∧x.oneCell'=true):eD Tryz.prog F 110 [.slice (some a) 1 c,i64 (n:Nat)] (fun x _ new=>∃b,x= .slice (some ⟨b,0,none⟩) n n∧new=[(0,⟨some b,((List.replicate n cs).flatten).map EV.v,159,n * 6⟩)]):=by
 refine fW (N:=48) (rv:=[.tmp 4]) eW mixed Tryz.func110 rfl rfl rfl rfl rfl ?_;(refine run ?_;repeat intro b);have hm:=HE 1 n (by decide) (by omega) F;rw[Nat.one_mul,Nat.div_eq_of_lt (by omega),Nat.mod_eq_of_lt (by omega)]at hm;have e1:IntKind.u64.wrap (((1:Nat):Int))=((1:Nat):Int):=by rw[nq];decide
 have e2:IntKind.u64.wrap ((n:Nat):Int)=((n:Nat):Int):=by rw[nq];omega
 simp only[e1,e2];refine dJ _ rfl rfl rfl U6 rfl hm ?_;(refine run ?_;repeat intro b);refine eE false ?_ (fun h=>by cases h) (fun _=>?_)
 ·refine dV ?_;simp[lS];omega
 (refine run ?_;repeat intro b);rw[wrap_i64 (n:=((n:Nat):Int)) (by omega) (by omega)];refine Ob eW rfl rfl rfl rfl rfl (by show _ * 48≤_;omega) (by omega) (fun b vs hvs _=>?_);have hvs:vs.length=n * 6:=hvs;(refine run ?_;repeat intro b);by_cases h0:n=0
 ·subst h0;have hv0:vs=[]:=aq (by omega);subst hv0;refine Jg 0 [] eW rfl rfl rfl rfl rfl rfl rfl rfl (eJ _ _) (fun v hv=>by cases hv) (ah _) rfl ?_;(refine run ?_;repeat intro b);refine L2 (ι:=Unit) (fun _=>⟨[(7,.row 0 0 0 0),(8,.v (i64 0))],F,[(0,⟨some b,[],159,0⟩)],1⟩) (fun _=>0) () (VS.eL [7,8] rfl rfl) ?_;rintro⟨⟩;(refine run ?_;repeat intro b);exact eU (VS.eL [4] rfl ⟨_,rfl,b,rfl,rfl⟩)
 refine Jg 1 cs eW rfl rfl rfl rfl rfl rfl (Nat.min_eq_left (by omega)).symm (by rw[Nat.one_mul];exact hcs) hf (fun v hv=>(h1 v hv).2) (by rw[ab,hvs];show 0+1 * 6≤_;omega) rfl ?_;(refine run ?_;repeat intro b);have aac: ∀m,((List.replicate m cs).flatten).length=m * 6:=fun m=>by rw[List.length_flatten,List.map_replicate,hcs,List.sum_replicate_nat]
 refine eY (fun q:Nat×List Value=>1≤q.1∧q.1≤n∧q.2.length=n * 6∧q.2.take (q.1 * 6)=(List.replicate q.1 cs).flatten) (fun q=>⟨[(7,.row 0 0 n n),(8,.v (i64 (q.1:Nat)))],F,[(0,⟨some b,q.2.map EV.v,159,n * 6⟩)],1⟩) (fun q=>n - q.1) (1,cs++vs.drop 6) ⟨ah _,by omega,by rw[ag,aR,hvs,hcs];show 6+(n * 6 - 6)=n * 6;omega,by show List.take (1 * 6) (cs++_)=_;rw[Nat.one_mul,←hcs,List.take_left];simp⟩ (VS.eL [7,8] rfl (by simp only[df,c7,aF,cN])) ?_;rintro⟨m,ws⟩ ⟨m1,m2,m3,m4⟩;dsimp only at m1 m2 m3 m4 ⊢;(refine run ?_;repeat intro b);by_cases hlt:m<n
 ·refine gw rfl (by omega) ?_;(refine run ?_;repeat intro b);refine fC [] (by kernel_rfl) ?_;refine dU [0,1,2,3,4,5,6] (f':=3) (by kernel_rfl) rfl rfl rfl ?_;(refine run ?_;repeat intro b);refine dL rfl rfl rfl ⟨by omega,by omega,by omega⟩ ?_;(refine run ?_;repeat intro b);refine dL rfl rfl rfl ⟨by omega,by omega⟩ ?_;have hso:gU 0 (Int.toNat ((m:Nat):Int)) n 6=m * 6:=by unfold gU;rw[aY (by omega)];omega
  obtain⟨k,hk⟩: ∃k,k=Nat.min m (n - m):=⟨_,rfl⟩;have hk1:k≤m:=by rw[hk];exact aM _ _
  have hk2:k≤n - m:=by rw[hk];exact Nat.min_le_right _ _
  have hk3:1≤k:=by rw[hk];exact Nat.le_min.2 ⟨m1,by omega⟩
  (refine run ?_;repeat intro b);refine ee 7 (by kernel_rfl) rfl rfl ?_;refine zH k ((ws.take (k * 6)).map EV.v) eW rfl rfl rfl rfl rfl rfl rfl hk (by show List.drop 0 (List.take (0+k * 6) (ws.map EV.v))=_;rw[cj,aP,cQ]) (gC _ (fun x hx=>?_)) (by rw[ab,m3];show 0+k * 6≤_;omega) (by rw[ab,m3,hso];show m * 6+k * 6≤_;omega) rfl ?_
  ·refine (h1 x ?_).1;have hx:x∈(ws.take (m * 6)):=(List.take_subset_take_left ws (by omega)) hx;rw[m4]at hx;obtain⟨c0,hc0,hx⟩:=List.mem_flatten.1 hx;rw[List.eq_of_mem_replicate hc0]at hx;exact hx
  (refine run ?_;repeat intro b);refine eG (Hp.sub.refl _) trivial ?_;refine ee 8 (by kernel_rfl) rfl rfl ?_;(refine run ?_;repeat intro b);refine eG (Hp.sub.refl _) trivial ?_;refine ee 9 (by kernel_rfl) rfl rfl ?_;(refine run ?_;repeat intro b);refine eG (Hp.sub.refl _) trivial ?_;refine fq (by kernel_rfl) ?_;(refine run ?_;repeat intro b);rw[wrap_i64 (by omega) (by omega)];have e1:((m:Nat):Int)+((k:Nat):Int)=((m+k:Nat):Int):=by omega
  rw[e1,hso];have hr:=ML cs hcs hk1;have hr2:ws.take (k * 6)=(List.replicate k cs).flatten:=by rw[←hr,←m4,List.take_take,Nat.min_eq_left (by omega)]
  refine fp (m+k,ws.take (m * 6)++ws.take (k * 6)++ws.drop (m * 6+k * 6)) ⟨by omega,by omega,?_,?_⟩ (by dsimp only;omega) (VS.eL [7,8] rfl (by simp only[aF,cQ,cN]))
  ·simp only[ag,aw,aR,m3];omega
  show List.take ((m+k) * 6) (ws.take (m * 6)++ws.take (k * 6)++ws.drop (m * 6+k * 6))=_;rw[List.take_left' (by simp only[ag,aw,m3];omega),m4,hr2,←List.replicate_append_replicate,List.flatten_append]
 have W9:m=n:=by omega
 subst W9;rw[an (by omega)]at m4;refine gy rfl (by omega) ?_;(refine run ?_;repeat intro b);exact eU (VS.eL [4] rfl ⟨_,rfl,b,rfl,by rw[m4]⟩)
end
section
open Go.TR
theorem xu (l:List jk): ∀x∈l.flatMap jk.row,Go.TR.one (.v x)=true:=fun x hx=>by
 obtain⟨a,_,ha⟩:=List.mem_flatMap.1 hx;simp only[jk.row,aT,da,dH]at ha;rcases ha with rfl | rfl | rfl | rfl | rfl | rfl | rfl | rfl<;>rfl
theorem sa (p:Poll): ∀x∈p.row,Go.TR.one (.v x)=true∧x.oneCell'=true:=fun x hx=>by
 simp only[Poll.row,aT,da,dH]at hx;rcases hx with rfl | rfl | rfl | rfl | rfl | rfl<;>exact⟨rfl,rfl⟩
theorem BC (l:List jk)(x:jk){k:Nat}(h:l.length=k):((l.flatMap jk.row).map EV.v).take (k * 8)++x.row.map EV.v=((l++[x]).flatMap jk.row).map EV.v:=by
 rw[an (by rw[ab,dO gZ,h];exact ah _)];simp
theorem AX (n:Nat)(b:Option Nat)(L:List Value)(t:TypeId)(c:Nat):gD n [(0,⟨b,L.map EV.v,t,c⟩)]=[(n,⟨b,L.map EV.v,t,c⟩)]:=by
 unfold gD gY;simp only[a9,cP,qd];rfl
@[reducible] def TL.Qq (s:TL):RL:=[(4,⟨s.be,(s.events.flatMap lW.row).map EV.v,167,s.ce * 4⟩),(3,⟨s.bf,s.jb.map EV.v,69,s.xf⟩),(2,⟨s.bp,(s.polls.flatMap Poll.row).map EV.v,159,s.cp * 6⟩),(1,⟨s.bo,(s.dN.flatMap jk.row).map EV.v,76,s.co * 8⟩),(0,⟨some s.b0,s.cells 1 2 3 4,140,14⟩)]
def mM (s:lX)(k:Nat):List jk:=(s.dN k).map fun o=>⟨o,none,0⟩
theorem uJ (s:lX)(k:Nat):(mM s k).length=k:=by unfold mM;rw[ab,s.zf]
theorem A6 (s:lX)(k:Nat):mM s (k+1)=mM s k++[⟨s.own k,none,0⟩]:=by unfold mM;rw[s.D7,aF];rfl
theorem yv (s:lX)(k:Nat):(mM s k).map jk.o=s.dN k:=by
 unfold mM;rw[cO];simp[Function.comp_def]
theorem CJ (s:lX)(k:Nat)(F:Hp): ∀x∈mM s k,x.at F:=fun x hx=>by
 unfold mM lX.dN at hx;obtain⟨o,ho,rfl⟩:=aG.1 hx;obtain⟨j,_,rfl⟩:=aG.1 ho;exact eJ _ _
@[reducible] def PL (s:lX) (l:ji) (n1 k co:Nat):List EV:=[.v (i64 (jS s.most s.batch s.every).queue.most),.v (.slice l.w (jS s.most s.batch s.every).queue.wait.length l.cw),.v (i64 (jS s.most s.batch s.every).batch),.v (i64 (jS s.most s.batch s.every).every),.v (i64 (jS s.most s.batch s.every).now),.v (.slice l.h (jS s.most s.batch s.every).dS.length l.ch),.v (.slice l.b (jS s.most s.batch s.every).ez.length l.cb),.row n1 0 k co,.v (.slice none 0 0),.v (i64 0),.v (.slice none 0 0),.v (i64 s.reach),.v (.slice none 0 0),.v (.slice none 0 0)]
theorem Cz (v:List UInt8)(l:List (List UInt8)){m:Nat}(hm:m=l.length)(hl:l.length≤4611686018427387904){p:Option Addr}{c:Nat}{F:Hp}(hf:e9 F p (l.map S)):Plain Tryz.prog F 107 [.slice p m c,S v] (.bool (l.any fun w=>decide (w=v))):=by
 refine dQ (N:=9) (rv:=[.tmp 4]) eW mixed Tryz.func107 rfl rfl rfl rfl rfl ?_;(refine run ?_;repeat intro b);refine dJ _ rfl rfl rfl QC rfl (DI v l hm hl hf) ?_;(refine run ?_;repeat intro b);rw[←nY];rfl
attribute [local irreducible] vc dW gz fg fD gF gJ gB fJ Plain eD eX dK VS fv fA fG jt fh IntKind.wrap
attribute [local irreducible] dY gN eP jH jS
set_option maxRecDepth 100000
set_option maxHeartbeats 8000000
theorem NW (s:lX)(a:Ar)(hw:s.wf){F:Hp}(ha:s.at F a):eD Tryz.prog F 52 [.agg (s.row a).toArray] (fun x F' new=>(ig s≠0∧x=pair (.pointer none) (i64 (ig s))∧new=[])∨(ig s=0∧ ∃T:TL,x=pair (.pointer (some ⟨T.b0,0,none⟩)) (i64 0)∧T.t=firstT s∧T.at F'∧new=T.Qq)):=by
 refine fW (N:=130) (rv:=[.tmp 2,.tmp 3]) eW mixed Tryz.func52 rfl rfl rfl rfl rfl ?_;have hcap:=ha.cap;(refine run ?_;repeat intro b);revert b;intro bS;refine fm rfl rfl rfl bd8 rfl (Ei s.most s.batch s.every) ?_;rintro _ F1 hs1 ⟨l',rfl,hl'⟩;(refine run ?_;repeat intro b);revert b;intro bc;refine eE (jH s.most s.batch s.every) ?_ (fun h1=>?_) (fun h1=>?_)
 ·refine dV ?_;unfold zx;cases jH s.most s.batch s.every<;>rfl
 ·have e0:ig s=4:=by unfold ig;rw[aZ h1]
  have e1:zx s.most s.batch s.every=4:=by unfold zx;rw[aZ h1]
  rw[e0,e1];(refine run ?_;repeat intro b);exact eU (VS.iB [1,0] rfl (VS.id ⟨_,rfl,.inl ⟨by decide,rfl,rfl⟩⟩))
 have e1:zx s.most s.batch s.every=0:=by unfold zx;rw[aY (by rw[h1];decide)]
 rw[e1];(refine run ?_;repeat intro b);refine eE (decide (4<s.names.length)) ?_ (fun h2=>?_) (fun h2=>?_)
 ·refine dV ?_;rw[ai,av,av];omega
 ·have e0:ig s=2:=by unfold ig;rw[aY (by rw[h1];decide),aZ (ar h2)]
  rw[e0];(refine run ?_;repeat intro b);exact eU (VS.iB [1,0] rfl (VS.id ⟨_,rfl,.inl ⟨by decide,rfl,rfl⟩⟩))
 have h2:=au h2;(refine run ?_;repeat intro b);refine eE (decide (s.keys.length≠s.names.length)) ?_ (fun h3=>?_) (fun h3=>?_)
 ·refine dV ?_;rw[ai];simp;omega
 ·have e0:ig s=3:=by unfold ig;rw[aY (by rw[h1];decide),aY h2,aZ (ar h3)]
  rw[e0];(refine run ?_;repeat intro b);exact eU (VS.iB [1,0] rfl (VS.id ⟨_,rfl,.inl ⟨by decide,rfl,rfl⟩⟩))
 have h3:s.keys.length=s.names.length:=bE.1 (au h3);have Om: ∀k,k<s.names.length→kR s.names k=true→ig s=3:=fun k hk hb=>by
  unfold ig;rw[aY (by rw[h1];decide),aY h2,aY (by simpa using h3),aZ];unfold lN;exact bT.2 ⟨k,List.mem_range.2 hk,hb⟩
 have hcn:=uE h1;have hch:e9 F1 l'.h ([mi].flatMap Head.row):=by have:=hl'.h;rw[hcn]at this;exact this
 have hcl:(jS s.most s.batch s.every).dS.length=1:=by rw[hcn];rfl
 (refine run ?_;repeat intro b);revert b;intro bt;refine eY (fun q:Nat×Option Nat×Nat=>q.1≤s.names.length∧(List.range q.1).any (kR s.names)=false∧(q.2.1=none→q.1=0∧q.2.2=0)∧q.1≤q.2.2)
  (fun q=>⟨[(1,.loc 0 0),(4,.loc 1 0),(6,.loc 2 0),(48,.v (.slice a.pn s.names.length a.cn)),(49,.v (i64 (s.names.length:Nat))),(50,.v (i64 (q.1:Nat)))],F1,
   [(3,⟨q.2.1,((mM s q.1).flatMap jk.row).map EV.v,76,q.2.2 * 8⟩),(2,⟨some bt,PL s l' 3 q.1 q.2.2,140,14⟩),(1,⟨some bc,(eI.row (jS s.most s.batch s.every) l').map EV.v,28,7⟩),(0,⟨some bS,(s.row a).map EV.v,56,9⟩)],4⟩) (fun q=>s.names.length - q.1) (0,none,0) ⟨az _,rfl,fun _=>⟨rfl,rfl⟩,ah _⟩
  (VS.l8 76 (VS.l6 2 (PL s l' 3 0 0) rfl ⟨⟨trivial,rfl⟩,⟨trivial,rfl⟩,⟨trivial,rfl⟩,⟨trivial,rfl⟩,⟨trivial,rfl⟩,⟨trivial,rfl⟩,⟨trivial,rfl⟩,⟨(by decide:3<4),rfl⟩,⟨trivial,rfl⟩,⟨trivial,rfl⟩,⟨trivial,rfl⟩,⟨trivial,rfl⟩,⟨trivial,rfl⟩,⟨trivial,rfl⟩,trivial⟩ rfl (VS.eL [1,4,6,48,49,50] rfl rfl))) ?_
 rintro⟨k,bo,co⟩ ⟨hk,hany,hnil,hle⟩;dsimp only at hk hany hnil hle ⊢;by_cases hlt:k<s.names.length
 ·have en:s.names.getD k []=s.names[k]:=by simp[List.getD,hlt]
  have hkl:k<s.keys.length:=by omega
  have ek:s.keys.getD k 0=s.keys[k]:=by simp[List.getD,hkl]
  have hnl:=hw.each _ (aj hlt);have hkv:=hw.keys _ (aj hkl);have hcell:=gS (eu hs1 ha.names) (j:=k) (by rw[ab];exact hlt);rw[cG]at hcell;have zW:=gS (eu hs1 ha.keys) (j:=k) (by rw[ab];exact hkl);rw[cG]at zW;have hft:e9 F1 a.pn ((s.names.take k).map S):=by rw[cQ];exact r6 (eu hs1 ha.names) k
  have hnb:kR s.names k=(!eP s.names[k]||(s.names.take k).any fun m=>decide (m=s.names[k])):=by unfold kR;rw[en]
  have hlast:=Om k hlt;have hnx:=rB (kR s.names) k;rw[hany,bu]at hnx;rw[hnb]at hlast hnx;have htl:(s.names.take k).length=k:=by rw[aw];omega
  have hown:s.own k=Ow.fresh s.names[k] s.keys[k] mi:=by unfold lX.own;rw[en,ek]
  have hnew:=E9 s.names[k] s.keys[k] mi hnl hkv qm.1 (F:=F1);have hln:=uJ s k;have hcells:=BC (mM s k) ⟨s.own k,none,0⟩ hln;rw[←A6]at hcells;generalize s.names[k]=nm at *;generalize s.keys[k]=ky at *;generalize s.names.take k=pre at *;obtain⟨o1,o2⟩:=fa eZ (by decide) hch 0 (by decide);(refine run ?_;repeat intro b);refine gw rfl (by omega) ?_;(refine run ?_;repeat intro b);refine dL rfl rfl rfl ⟨by omega,by omega,dR (eu hs1 ha.names) (j:=k) (by rw[ab];omega)⟩ ?_;refine fw (S nm) rfl rfl rfl rfl (by rw[ae,aA];exact hcell) ?_;(refine run ?_;repeat intro b);refine dJ _ rfl rfl rfl wH rfl (oF nm hnl F1) ?_;(refine run ?_;repeat intro b);refine iz rfl rfl rfl rfl rfl (fun _=>⟨by omega,by omega⟩) ?_;rw[H7];(refine run ?_;repeat intro b);refine gm _ rfl rfl rfl rfl Td rfl rfl (fun _=>Cz nm pre htl.symm (by omega) hft) ?_;(refine run ?_;repeat intro b);refine eE (!eP nm||pre.any fun m=>decide (m=nm)) ?_ (fun hg=>?_) (fun hg=>?_)
  ·refine dV ?_;rw[fx]
  ·rw[hlast hg];(refine run ?_;repeat intro b);exact eU (VS.iB [3,2,1,0] rfl (VS.id ⟨_,rfl,.inl ⟨by decide,rfl,rfl⟩⟩))
  have hgn:eP nm=true:=by
   simp only[aQ,Bool.not_eq_false']at hg;exact hg.1
  rw[hg]at hnx;have hf0:ki (Ow.fresh nm ky mi)=0:=A3 hgn;have hno:GL nm ky mi=Ow.fresh nm ky mi:=by unfold GL;rw[aZ hf0]
  rw[hno,hf0,←hown]at hnew;(refine run ?_;repeat intro b);refine fC [0,1] (by kernel_rfl) ?_;refine dU [0,1,2,3,4,5,6,7,8,9,10,11,12,13] (f':=3) (by kernel_rfl) rfl rfl rfl ?_;(refine run ?_;repeat intro b);refine dL rfl rfl rfl ⟨by omega,by omega,dR (eu hs1 ha.keys) (j:=k) (by rw[ab];omega)⟩ ?_;refine fw (mu ky) rfl rfl rfl rfl (by rw[ae,aA];exact zW) ?_;(refine run ?_;repeat intro b);refine dL rfl rfl rfl ⟨by omega,by omega,dR hch (j:=0) (by decide)⟩ ?_;refine fB mi.row rfl rfl rfl rfl rfl (by exact o1) (by exact o2) ?_;(refine run ?_;repeat intro b);refine dJ _ rfl rfl rfl Wo rfl hnew ?_;(refine run ?_;repeat intro b);refine ee 14 (by kernel_rfl) rfl rfl ?_;(refine run ?_;repeat intro b);refine eG (Hp.sub.refl _) (dP rfl) ?_;refine ee 15 (by kernel_rfl) rfl rfl ?_;(refine run ?_;repeat intro b);refine eG (Hp.sub.refl _) (dP rfl) ?_;refine ee 16 (by kernel_rfl) rfl rfl ?_;(refine run ?_;repeat intro b);refine eG (Hp.sub.refl _) (dP rfl) ?_;refine fq (by kernel_rfl) ?_;(refine run ?_;repeat intro b);refine fC [4] (by kernel_rfl) ?_;refine dU [0,1,2,3,4,6] (f':=7) (by kernel_rfl) rfl rfl rfl ?_;(refine run ?_;repeat intro b);refine jF 5 7 (by kernel_rfl) rfl rfl rfl ?_ ?_
  ·(refine run ?_;repeat intro b);refine eG (Hp.sub.refl _) (dP rfl) ?_;refine ee 7 (by kernel_rfl) rfl rfl ?_;(refine run ?_;repeat intro b);refine eG (Hp.sub.refl _) (dP rfl) ?_;refine ee 8 (by kernel_rfl) rfl rfl ?_;refine fy rfl rfl rfl rfl rfl rfl rfl rfl (ff rfl rfl) (gC _ (xu [⟨s.own k,none,0⟩])) hnil hle rfl (by rw[ab,dO gZ,hln];exact ah _) (by show (k+1) * 88≤_;omega) (fun h=>by cases h) (fun _ b2 c2 hc2=>?_);(refine run ?_;repeat intro b);refine eG (Hp.sub.refl _) (dP rfl) ?_;refine dU [9,10,11] (f':=1) (by kernel_rfl) rfl rfl rfl ?_;(refine run ?_;repeat intro b);refine ee 12 (by kernel_rfl) rfl rfl ?_;(refine run ?_;repeat intro b);refine eG (Hp.sub.refl _) (dP rfl) ?_;refine fq (by kernel_rfl) ?_;(refine run ?_;repeat intro b);rw[dT (by omega)];exact fH (k+1,some b2,c2) 3 [(6,3),(2,2),(1,1),(0,0)] [1,4,6,48,49,50] [(3,⟨some b2,(((mM s (k+1)).flatMap jk.row)).map EV.v,76,c2 * 8⟩),(2,⟨some bt,PL s l' 3 (k+1) c2,140,14⟩),(1,⟨some bc,(eI.row (jS s.most s.batch s.every) l').map EV.v,28,7⟩),(0,⟨some bS,(s.row a).map EV.v,56,9⟩)] ⟨hlt,hnx,fun h=>(by cases h),hc2⟩ (by dsimp only;omega) (aM _ _) (fi ⟨_,rfl,rfl,rfl,rfl,.inl ⟨hcells.symm,fun e he=>fz _ e (hcells ▸ he)⟩⟩ (dX rfl (dM rfl rfl (dM rfl rfl trivial)))) rfl rfl rfl rfl rfl rfl rfl
  (refine run ?_;repeat intro b);refine eG (Hp.sub.refl _) (dP rfl) ?_;refine ee 5 (by kernel_rfl) rfl rfl ?_;(refine run ?_;repeat intro b);refine eG (Hp.sub.refl _) (dP rfl) ?_;refine ee 8 (by kernel_rfl) rfl rfl ?_;refine fy rfl rfl rfl rfl rfl rfl rfl rfl (ff rfl rfl) (gC _ (xu [⟨s.own k,none,0⟩])) hnil hle rfl (by rw[ab,dO gZ,hln];exact ah _) (by show (k+1) * 88≤_;omega) (fun h=>by cases h) (fun _ b2 c2 hc2=>?_);(refine run ?_;repeat intro b);refine eG (Hp.sub.refl _) (dP rfl) ?_;refine dU [9,10,11] (f':=1) (by kernel_rfl) rfl rfl rfl ?_;(refine run ?_;repeat intro b);refine ee 12 (by kernel_rfl) rfl rfl ?_;(refine run ?_;repeat intro b);refine eG (Hp.sub.refl _) (dP rfl) ?_;refine fq (by kernel_rfl) ?_;(refine run ?_;repeat intro b);rw[dT (by omega)];exact fH (k+1,some b2,c2) 3 [(6,3),(2,2),(1,1),(0,0)] [1,4,6,48,49,50] [(3,⟨some b2,(((mM s (k+1)).flatMap jk.row)).map EV.v,76,c2 * 8⟩),(2,⟨some bt,PL s l' 3 (k+1) c2,140,14⟩),(1,⟨some bc,(eI.row (jS s.most s.batch s.every) l').map EV.v,28,7⟩),(0,⟨some bS,(s.row a).map EV.v,56,9⟩)] ⟨hlt,hnx,fun h=>(by cases h),hc2⟩ (by dsimp only;omega) (aM _ _) (fi ⟨_,rfl,rfl,rfl,rfl,.inl ⟨hcells.symm,fun e he=>fz _ e (hcells ▸ he)⟩⟩ (dX rfl (dM rfl rfl (dM rfl rfl trivial)))) rfl rfl rfl rfl rfl rfl rfl
 have hge:k=s.names.length:=by omega
 subst hge;have hnb:lN s.names=false:=hany;have he:=wJ h1 (by omega) h3 hnb;have hln:=uJ s s.names.length;(refine run ?_;repeat intro b);refine gy rfl (by omega) ?_;(refine run ?_;repeat intro b);refine dJ _ rfl rfl rfl Vs rfl (M7 s.least s.top s.lost F1) ?_;(refine run ?_;repeat intro b);revert b;intro u7;refine eE s.jO.bad ?_ (fun h4=>?_) (fun h4=>?_)
 ·refine dV ?_;exact Lz s.jO
 ·have hr:s.nU=true:=by unfold lX.nU;rw[h4];rfl
  rw[aZ hr]at he;have hf:(Poll.fresh s.least s.top s.lost).fault=4:=by unfold Poll.fault;exact aZ h4
  rw[he,hf];(refine run ?_;repeat intro b);exact eU (VS.iB [4,3,2,1,0] rfl (VS.id ⟨_,rfl,.inl ⟨by decide,rfl,rfl⟩⟩))
 have hf:(Poll.fresh s.least s.top s.lost).fault=0:=by unfold Poll.fault;exact aY (by rw[show (Poll.fresh s.least s.top s.lost).bad=false from h4];decide)
 have hon:(Poll.fresh s.least s.top s.lost).ij 0=s.jO:=by unfold Poll.ij;rw[aY (by decide)];rfl
 rw[hf,hon];(refine run ?_;repeat intro b);refine eE (decide (s.reach<1)||decide (40<s.reach)) ?_ (fun h5=>?_) (fun h5=>?_)
 ·refine dV ?_;rw[fx]
 ·have hr:s.nU=true:=by unfold lX.nU;rw[h4,bu];exact h5
  rw[aZ hr]at he;rw[he];(refine run ?_;repeat intro b);exact eU (VS.iB [4,3,2,1,0] rfl (VS.id ⟨_,rfl,.inl ⟨by decide,rfl,rfl⟩⟩))
 have hr:s.nU=false:=by unfold lX.nU;rw[h4,bu];exact h5
 rw[hr,aY (by decide)]at he;rw[he];(refine run ?_;repeat intro b);refine fC [4] (by kernel_rfl) ?_;refine dU [0,1,3,4,5,6] (f':=8) (by kernel_rfl) rfl rfl rfl ?_;(refine run ?_;repeat intro b);refine jF 2 7 (by kernel_rfl) rfl rfl rfl ?_ ?_
 ·(refine run ?_;repeat intro b);refine eG (Hp.sub.refl _) (dP rfl) ?_;refine ee 7 (by kernel_rfl) rfl rfl ?_;(refine run ?_;repeat intro b);refine eG (Hp.sub.refl _) (dP rfl) ?_;refine dU [8] (f':=5) (by kernel_rfl) rfl rfl rfl ?_;(refine run ?_;repeat intro b);refine ee 9 (by kernel_rfl) rfl rfl ?_;refine fX (VS.freeze 5 [6,116,118,124] rfl rfl rfl rfl fun F2 hs2 hf2=>VS.id ?_);rw[fc,fc,fc];refine q7 rfl rfl rfl Qs rfl (v7 s.jO.row s.names.length rfl (by omega) (ah 1) hf2 (fun x hx=>sa s.jO x hx)) ?_;rintro _ F3 _ hs3 ⟨bp,rfl,rfl⟩;refine⟨1,.row 0 0 s.names.length s.names.length,uj ⟨⟨Nat.zero_lt_one,fun e he=>by obtain⟨v,_,rfl⟩:=aG.1 he;exact trivial⟩,trivial⟩,rfl,?_⟩;rw[AX];(refine run ?_;repeat intro b);refine eG (hs2.trans hs3) (dP rfl) ?_;refine dU [10,11,12] (f':=1) (by kernel_rfl) rfl rfl rfl ?_;(refine run ?_;repeat intro b);refine ee 13 (by kernel_rfl) rfl rfl ?_;(refine run ?_;repeat intro b);refine eG (Hp.sub.refl _) (dP rfl) ?_;refine fq (by kernel_rfl) ?_;(refine run ?_;repeat intro b);have hpc:(List.replicate s.names.length s.jO.row).flatten=(List.replicate s.names.length s.jO).flatMap Poll.row:=by rw[List.flatMap_def,List.map_replicate]
  refine mH (qQ.trans (VS.l8 69 (VS.l8 167 (VS.l6 2 [.v (i64 (jS s.most s.batch s.every).queue.most),.v (.slice l'.w (jS s.most s.batch s.every).queue.wait.length l'.cw),.v (i64 (jS s.most s.batch s.every).batch),.v (i64 (jS s.most s.batch s.every).every),.v (i64 (jS s.most s.batch s.every).now),.v (.slice l'.h (jS s.most s.batch s.every).dS.length l'.ch),.v (.slice l'.b (jS s.most s.batch s.every).ez.length l'.cb),.row 3 0 s.names.length co,.row 6 0 s.names.length s.names.length,.v (i64 0),.v (.slice none 0 0),.v (i64 s.reach),.row 7 0 0 0,.row 8 0 0 0] rfl ⟨⟨trivial,rfl⟩,⟨trivial,rfl⟩,⟨trivial,rfl⟩,⟨trivial,rfl⟩,⟨trivial,rfl⟩,⟨trivial,rfl⟩,⟨trivial,rfl⟩,⟨(by decide:3<9),rfl⟩,⟨(by decide:6<9),rfl⟩,⟨trivial,rfl⟩,⟨trivial,rfl⟩,⟨trivial,rfl⟩,⟨(by decide:7<9),rfl⟩,⟨(by decide:8<9),rfl⟩,trivial⟩ rfl (VS.id ?_)))));obtain⟨T,hT⟩: ∃T:TL,T=⟨jS s.most s.batch s.every,l',mM s s.names.length,List.replicate s.names.length s.jO,⟨0,[],none,0⟩,s.reach,[],0,[],[],bt,bo,co,some bp,s.names.length,none,0,0,none,0⟩:=⟨_,rfl⟩;have S4:T.t=firstT s:=by rw[hT];unfold TL.t firstT;simp only[yv,cP]
  have Lc:T.at F3:=by
   rw[hT];exact {
    dI:=eI.e8 (hs2.trans hs3) hl'
    dN:=CJ s _ _
    fN:=⟨eJ _ _,fun x hx=>by cases hx⟩
    ej:=fun x hx=>by cases hx
    xi:=rfl
    zg:=ah _
    zQ:=ah _
    OP:=ah _
    vP:=fun _=>⟨rfl,rfl,rfl⟩
    rq:=fun h=>⟨by show (mM s _).length=0;rw[hln];exact (hnil h).1,(hnil h).2⟩
    It:=by show (mM s _).length≤co;rw[hln];exact hle
    w9:=fun h=>by cases h
    K8:=by show (List.replicate _ _).length≤_;rw[cL];exact ah _
    vo:=fun _=>⟨rfl,rfl⟩
    Ks:=ah _ }
  refine qQ.mP (nx':=5) [(8,4),(7,3),(6,2),(3,1),(2,0)] [2,3] T.Qq ?_ rfl rfl rfl rfl rfl rfl ⟨_,rfl,.inr ⟨rfl,T,by rw[hT];rfl,S4,Lc,rfl⟩⟩;rw[hT];dsimp only [TL.Qq,TL.cells];rw[hln,cL];exact (fi ⟨_,rfl,rfl,rfl,rfl,.inl ⟨rfl,fun e he=>by cases he⟩⟩ (fi ⟨_,rfl,rfl,rfl,rfl,.inl ⟨rfl,fun e he=>by cases he⟩⟩ (fi ⟨_,rfl,rfl,rfl,rfl,.inl ⟨by rw[←hpc],fun e he=>fz _ e he⟩⟩ (dM rfl rfl (dX rfl trivial)))))
 (refine run ?_;repeat intro b);refine eG (Hp.sub.refl _) (dP rfl) ?_;refine dU [8] (f':=6) (by kernel_rfl) rfl rfl rfl ?_;(refine run ?_;repeat intro b);refine ee 2 (by kernel_rfl) rfl rfl ?_;(refine run ?_;repeat intro b);refine eG (Hp.sub.refl _) (dP rfl) ?_;refine ee 9 (by kernel_rfl) rfl rfl ?_;refine fX (VS.freeze 5 [6,116,118,124] rfl rfl rfl rfl fun F2 hs2 hf2=>VS.id ?_);rw[fc,fc,fc];refine q7 rfl rfl rfl Qs rfl (v7 s.jO.row s.names.length rfl (by omega) (ah 1) hf2 (fun x hx=>sa s.jO x hx)) ?_;rintro _ F3 _ hs3 ⟨bp,rfl,rfl⟩;refine⟨1,.row 0 0 s.names.length s.names.length,uj ⟨⟨Nat.zero_lt_one,fun e he=>by obtain⟨v,_,rfl⟩:=aG.1 he;exact trivial⟩,trivial⟩,rfl,?_⟩;rw[AX];(refine run ?_;repeat intro b);refine eG (hs2.trans hs3) (dP rfl) ?_;refine dU [10,11,12] (f':=1) (by kernel_rfl) rfl rfl rfl ?_;(refine run ?_;repeat intro b);refine ee 13 (by kernel_rfl) rfl rfl ?_;(refine run ?_;repeat intro b);refine eG (Hp.sub.refl _) (dP rfl) ?_;refine fq (by kernel_rfl) ?_;(refine run ?_;repeat intro b);have hpc:(List.replicate s.names.length s.jO.row).flatten=(List.replicate s.names.length s.jO).flatMap Poll.row:=by rw[List.flatMap_def,List.map_replicate]
 refine mH (qQ.trans (VS.l8 69 (VS.l8 167 (VS.l6 2 [.v (i64 (jS s.most s.batch s.every).queue.most),.v (.slice l'.w (jS s.most s.batch s.every).queue.wait.length l'.cw),.v (i64 (jS s.most s.batch s.every).batch),.v (i64 (jS s.most s.batch s.every).every),.v (i64 (jS s.most s.batch s.every).now),.v (.slice l'.h (jS s.most s.batch s.every).dS.length l'.ch),.v (.slice l'.b (jS s.most s.batch s.every).ez.length l'.cb),.row 3 0 s.names.length co,.row 6 0 s.names.length s.names.length,.v (i64 0),.v (.slice none 0 0),.v (i64 s.reach),.row 7 0 0 0,.row 8 0 0 0] rfl ⟨⟨trivial,rfl⟩,⟨trivial,rfl⟩,⟨trivial,rfl⟩,⟨trivial,rfl⟩,⟨trivial,rfl⟩,⟨trivial,rfl⟩,⟨trivial,rfl⟩,⟨(by decide:3<9),rfl⟩,⟨(by decide:6<9),rfl⟩,⟨trivial,rfl⟩,⟨trivial,rfl⟩,⟨trivial,rfl⟩,⟨(by decide:7<9),rfl⟩,⟨(by decide:8<9),rfl⟩,trivial⟩ rfl (VS.id ?_)))));obtain⟨T,hT⟩: ∃T:TL,T=⟨jS s.most s.batch s.every,l',mM s s.names.length,List.replicate s.names.length s.jO,⟨0,[],none,0⟩,s.reach,[],0,[],[],bt,bo,co,some bp,s.names.length,none,0,0,none,0⟩:=⟨_,rfl⟩;have S4:T.t=firstT s:=by rw[hT];unfold TL.t firstT;simp only[yv,cP]
 have Lc:T.at F3:=by
  rw[hT];exact {
   dI:=eI.e8 (hs2.trans hs3) hl'
   dN:=CJ s _ _
   fN:=⟨eJ _ _,fun x hx=>by cases hx⟩
   ej:=fun x hx=>by cases hx
   xi:=rfl
   zg:=ah _
   zQ:=ah _
   OP:=ah _
   vP:=fun _=>⟨rfl,rfl,rfl⟩
   rq:=fun h=>⟨by show (mM s _).length=0;rw[hln];exact (hnil h).1,(hnil h).2⟩
   It:=by show (mM s _).length≤co;rw[hln];exact hle
   w9:=fun h=>by cases h
   K8:=by show (List.replicate _ _).length≤_;rw[cL];exact ah _
   vo:=fun _=>⟨rfl,rfl⟩
   Ks:=ah _ }
 refine qQ.mP (nx':=5) [(8,4),(7,3),(6,2),(3,1),(2,0)] [2,3] T.Qq ?_ rfl rfl rfl rfl rfl rfl ⟨_,rfl,.inr ⟨rfl,T,by rw[hT];rfl,S4,Lc,rfl⟩⟩;rw[hT];dsimp only [TL.Qq,TL.cells];rw[hln,cL];exact (fi ⟨_,rfl,rfl,rfl,rfl,.inl ⟨rfl,fun e he=>by cases he⟩⟩ (fi ⟨_,rfl,rfl,rfl,rfl,.inl ⟨rfl,fun e he=>by cases he⟩⟩ (fi ⟨_,rfl,rfl,rfl,rfl,.inl ⟨by rw[←hpc],fun e he=>fz _ e he⟩⟩ (dM rfl rfl (dX rfl trivial)))))
end
end Go.Proofs.YthbnddgjkonkdaaGreatDoor
