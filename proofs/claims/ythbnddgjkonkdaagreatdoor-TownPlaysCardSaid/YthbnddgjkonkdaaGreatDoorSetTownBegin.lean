/- A part of the proof. -/
import Derived.Test.YthbnddgjkonkdaaGreatDoorSetTown8
set_option linter.unusedVariables false
set_option linter.unusedSimpArgs false
namespace Go.Proofs.YthbnddgjkonkdaaGreatDoor
section
open Go.TR
structure lT where
 names:List (List UInt8)
 keys:List Nat
 most:Int
 batch:Int
 every:Int
 least:Int
 top:Int
 lost:Int
 reach:Int
def l9:Head:=⟨0,gK [] [],0,0⟩
def kP (l:List (List UInt8))(k:Nat):Bool:= !eL (l.getD k [])||(l.take k).any fun m=>decide (m=l.getD k [])
def lO (l:List (List UInt8)):Bool:=(List.range l.length).any (kP l)
def lT.jN (s:lT):Poll:=Poll.fresh s.least s.top s.lost
def hZ (s:lT):Int:=
 if jG s.most s.batch s.every=true then 4
 else if 4<s.names.length then 2
 else if s.keys.length≠s.names.length then 3
 else if lO s.names=true then 3
 else if s.jN.bad=true then 4
 else if s.reach<1∨40<s.reach then 4
 else 0
def mN (s:lT)(n:Nat):Int:=if hZ s≠0 then hZ s else if 200<n then 2 else 0
def lT.own (s:lT)(k:Nat):Ow:=Ow.fresh (s.names.getD k []) (s.keys.getD k 0) l9
def lT.dK (s:lT)(k:Nat):List Ow:=(List.range k).map s.own
def firstT (s:lT):fm:=⟨jM s.most s.batch s.every,s.dK s.names.length,List.replicate s.names.length s.jN,0,[],s.reach,[],[]⟩
theorem lT.Ft (s:lT)(k:Nat):s.dK (k+1)=s.dK k++[s.own k]:=by
 unfold lT.dK;rw[List.range_succ,aF];rfl
theorem lT.yV (s:lT)(k:Nat):(s.dK k).length=k:=by unfold lT.dK;rw[ab,List.length_range]
structure lT.wf (s:lT):Prop where
 names:s.names.length≤4611686018427387904
 each: ∀n∈s.names,n.length≤4611686018427387904
 ZX:s.keys.length≤4611686018427387904
 keys: ∀k∈s.keys,k<18446744073709551616
 aad:(-9223372036854775808≤s.most∧s.most≤9223372036854775807)∧(-9223372036854775808≤s.batch∧s.batch≤9223372036854775807)∧(-9223372036854775808≤s.every∧s.every≤9223372036854775807)∧(-9223372036854775808≤s.least∧s.least≤9223372036854775807)∧(-9223372036854775808≤s.top∧s.top≤9223372036854775807)∧(-9223372036854775808≤s.lost∧s.lost≤9223372036854775807)∧(-9223372036854775808≤s.reach∧s.reach≤9223372036854775807)
attribute [local irreducible] gK dV
theorem qm:l9.wf∧l9.fault=0:=by
 have h:=uS [] [];have hm:MM≤18446744073709551616:=by decide
 refine⟨⟨by show gK [] []<_;omega,by show (0:Nat)<18446744073709551616;decide,by show (-9223372036854775808:Int)≤0∧(0:Int)≤9223372036854775807;decide,by show (-9223372036854775808:Int)≤0∧(0:Int)≤9223372036854775807;decide⟩,?_⟩;have h1:l9.vu=false:=by
  unfold Head.vu l9;simp only[aQ,aU];have h0: ¬MM≤0:=by decide
  refine⟨⟨⟨⟨⟨by decide,by decide⟩,by omega⟩,h0⟩,by decide⟩,by decide⟩
 unfold Head.fault;rw[h1,aY (by decide),aY];unfold Head.xG l9;decide
theorem uz {m b e:Int}(h:jG m b e=false):jM m b e=⟨⟨m,[]⟩,b,e,0,[l9],[[]]⟩:=by
 unfold jM;rw[aY (by rw[h];decide)];rfl
theorem E3 {m b e:Int}(h:jG m b e=false):1≤m∧m≤30∧1≤b∧b≤30∧1≤e∧e≤1000:=by
 unfold jG at h;simp only[aQ,aU]at h;omega
theorem Jx {m b e:Int}(h:jG m b e=false):Good (jM m b e):=by
 obtain⟨h1,h2,h3,h4,h5,h6⟩:=E3 h;obtain⟨z1,z2⟩:=qm;rw[uz h];refine⟨?_,?_,?_,?_,?_,?_⟩
 ·unfold fg;rw[aY (by dsimp only;omega),aY (by simp only[cH];omega)];rfl
 ·unfold sR;simp only[aQ,aU];omega
 ·unfold fp;rw[aY (by simp),aY (by simp)];rw[nD (by unfold kb;rw[aZ z2];rfl) rfl]
 ·unfold ns;simp[fK,l9]
 ·unfold ir;rw[aY (by rw[sP];decide),aY (by simp[l9])];unfold ir;rfl
 show (kU []).length≤24;decide
theorem wo {s:lT}(h:hZ s=0):jG s.most s.batch s.every=false∧s.names.length≤4∧s.keys.length=s.names.length∧lO s.names=false∧s.jN.bad=false∧1≤s.reach∧s.reach≤40:=by
 unfold hZ at h;split at h
 ·cases h
 split at h
 ·cases h
 split at h
 ·cases h
 split at h
 ·cases h
 split at h
 ·cases h
 split at h
 ·cases h
 rename_i h1 h2 h3 h4 h5 h6;exact⟨by simpa using h1,by omega,bE.1 h3,by simpa using h4,by simpa using h5,by omega,by omega⟩
theorem Ax {n:List UInt8}{k:Nat}(hn:eL n=true):kf (Ow.fresh n k l9)=0:=by
 unfold kf Ow.fresh;rw[aZ hn,aY (by rw[qm.2];decide),aY (by simp),aY (by simp)]
theorem Ly {n:List UInt8}{k:Nat}(hn:n.length≤4611686018427387904)(hk:k<18446744073709551616):(Ow.fresh n k l9).wf:=
 ⟨hn,hk,qm.1,by simp[Ow.fresh],fun s hs=>(by simp[Ow.fresh]at hs),by simp[Ow.fresh]⟩
theorem BH {l:List (List UInt8)}{k:Nat}(h:kP l k=false):eL (l.getD k [])=true:=by
 unfold kP at h;simp only[aQ,Bool.not_eq_false']at h;exact h.1
theorem Fv {l:List (List UInt8)}(h:lO l=false){k:Nat}(hk:k<l.length):kP l k=false:=by
 unfold lO at h;have:=bJ.1 h k (List.mem_range.2 hk);simpa using this
theorem lT.wf.name {s:lT}(hw:s.wf)(k:Nat):(s.names.getD k []).length≤4611686018427387904:=by
 rw[aE];cases h:s.names[k]? with
 | none=>simp
 | some n=>exact hw.each n (cT h)
theorem lT.wf.key {s:lT}(hw:s.wf)(k:Nat):s.keys.getD k 0<18446744073709551616:=by
 rw[aE];cases h:s.keys[k]? with
 | none=>simp
 | some n=>exact hw.keys n (cT h)
theorem tq {s:lT}(hw:s.wf)(h:hZ s=0):(firstT s).Inv s.names.length:=by
 obtain⟨h1,h2,h3,h4,h5,h6,h7⟩:=wo h;have hg:=Jx h1;refine⟨hg,?_,h2,s.yV _,fun o ho=>?_,by simp[firstT],fun p hp=>?_,?_,by simp[firstT],fun l hl=>?_,fun l hl=>?_,⟨h6,h7⟩,fun f hf=>?_⟩
 ·show∀a∈(jM s.most s.batch s.every).queue.wait,a.wf;rw[uz h1];intro a ha;cases ha
 ·obtain⟨k,hk,rfl⟩:=aG.1 ho;exact⟨Ly (hw.name k) (hw.key k),Ax (BH (Fv h4 (List.mem_range.1 hk)))⟩
 ·have:=List.eq_of_mem_replicate hp;rw[this];exact h5
 ·show (0:Int)=(jM s.most s.batch s.every).now;rw[uz h1]
 ·cases hl
 ·cases hl
 cases hf
end
section
open Go.TR
structure Ak where
 pn:Option Addr
 cn:Nat
 pk:Option Addr
 ck:Nat
@[reducible] def lT.row (s:lT) (a:Ak):List Value:=[.slice a.pn s.names.length a.cn,.slice a.pk s.keys.length a.ck,i64 s.most,i64 s.batch,i64 s.every,i64 s.least,i64 s.top,i64 s.lost,i64 s.reach]
structure lT.at (F:Hp) (s:lT) (a:Ak):Prop where
 names:eY F a.pn (s.names.map S)
 cap:s.names.length≤a.cn
 keys:eY F a.pk (s.keys.map mu)
theorem lT.eX {F F':Hp}(h:F.sub F'){s:lT}{a:Ak}(k:s.at F a):s.at F' a:=⟨dZ h k.names,k.cap,dZ h k.keys⟩
def lT.nQ (s:lT):Bool:=s.jN.bad||decide (s.reach<1)||decide (40<s.reach)
theorem KE (s:lT):((((((decide (s.least<1)||decide (s.top<s.least))||decide (1000<s.top))||decide (s.lost<1))||decide (100<s.lost))||decide (s.reach<1))||decide (40<s.reach))=s.nQ:=by
 unfold lT.nQ lT.jN Poll.bad Poll.fresh;rw[ai];simp only[bD,av];omega
theorem wC {s:lT}(h1:jG s.most s.batch s.every=false)(h2:s.names.length≤4)(h3:s.keys.length=s.names.length)(h4:lO s.names=false):hZ s=if s.nQ=true then 4 else 0:=by
 unfold hZ;rw[aY (by rw[h1];decide),aY (by omega),aY (by simpa using h3),aY (by rw[h4];decide)];unfold lT.nQ;cases hp:s.jN.bad with
 | true=>rw[aZ rfl,aZ (by simp)]
 | false=>
  rw[aY (by decide)];by_cases hr:s.reach<1∨40<s.reach
  ·rw[aZ hr,aZ];simp only[bu,bD,av];exact hr
  rw[aY hr,aY];simp only[bu,bD,av];exact hr
theorem yT {s:lT}{n:Nat}(h:hZ s=0):mN s n=if 200<n then 2 else 0:=by unfold mN;rw[aY (by rw[h];decide)]
theorem pH {s:lT}{n:Nat}(h:hZ s≠0):mN s n=hZ s:=by unfold mN;rw[aZ h]
theorem qX (f:Nat→Bool)(k:Nat):(List.range (k+1)).any f=((List.range k).any f||f k):=by
 rw[List.range_succ,bI];simp
theorem H5 (p:Option Addr)(c size:Nat):jI p 0 c size=p:=by unfold jI;cases p<;>simp[Addr.add]
attribute [local irreducible] vc dT gx fc fA gC gG gw fG Plain eu eR dH VS fq fx fD ju fe IntKind.wrap
attribute [local irreducible] dV gK eL jG
set_option maxRecDepth 100000
set_option maxHeartbeats 4000000
theorem tP (s:lT)(a:Ak)(n:Nat)(hw:s.wf){F:Hp}(ha:s.at F a):Plain Tryz.prog F 23 [.agg (s.row a).toArray,i64 (n:Nat)] (i64 (mN s n)):=by
 refine dN (N:=110) (rv:=[.tmp 4]) eP mixed Tryz.func23 rfl rfl rfl rfl rfl ?_;have hcap:=ha.cap;(refine run ?_;repeat intro b);revert b;intro bS;refine ez (jG s.most s.batch s.every) ?_ (fun h1=>?_) (fun h1=>?_)
 ·refine dS ?_;simp only[fu];unfold jG;rfl
 ·have e:mN s n=4:=by
   have e0:hZ s=4:=by unfold hZ;rw[aZ h1]
   rw[pH (by rw[e0];decide),e0]
  rw[e];(refine run ?_;repeat intro b);rfl
 (refine run ?_;repeat intro b);refine ez (decide (4<s.names.length)) ?_ (fun h2=>?_) (fun h2=>?_)
 ·refine dS ?_;rw[ai,av,av];omega
 ·have h2:=ar h2;have e:mN s n=2:=by
   have e0:hZ s=2:=by unfold hZ;rw[aY (by rw[h1];decide),aZ h2]
   rw[pH (by rw[e0];decide),e0]
  rw[e];(refine run ?_;repeat intro b);rfl
 have h2:=au h2;(refine run ?_;repeat intro b);refine ez (decide (s.keys.length≠s.names.length)) ?_ (fun h3=>?_) (fun h3=>?_)
 ·refine dS ?_;rw[ai];simp;omega
 ·have h3:=ar h3;have e:mN s n=3:=by
   have e0:hZ s=3:=by unfold hZ;rw[aY (by rw[h1];decide),aY h2,aZ h3]
   rw[pH (by rw[e0];decide),e0]
  rw[e];(refine run ?_;repeat intro b);rfl
 have h3:s.keys.length=s.names.length:=bE.1 (au h3);have hbad:lO s.names=true→mN s n=3:=fun hb=>by
  have e0:hZ s=3:=by unfold hZ;rw[aY (by rw[h1];decide),aY h2,aY (by simpa using h3),aZ hb]
  rw[pH (by rw[e0];decide),e0]
 have Oi: ∀k,k<s.names.length→kP s.names k=true→mN s n=3:=fun k hk hb=>hbad (by
  unfold lO;exact bK.2 ⟨k,List.mem_range.2 hk,hb⟩)
 (refine run ?_;repeat intro b);refine eU (fun k:Nat=>k≤s.names.length∧(List.range k).any (kP s.names)=false)
  (fun k=>⟨[(1,.v (i64 (n:Nat))),(2,.loc 0 0),(49,.v (.slice a.pn s.names.length a.cn)),(50,.v (i64 (s.names.length:Nat))),(51,.v (i64 (k:Nat)))],F,[(0,⟨some bS,(s.row a).map EV.v,56,9⟩)],1⟩) (fun k=>s.names.length - k) 0 ⟨az _,rfl⟩ (VS.eH [1,2,49,50,51] rfl rfl) ?_
 rintro k ⟨hk,hany⟩;by_cases hlt:k<s.names.length
 ·have en:s.names.getD k []=s.names[k]:=by simp[List.getD,hlt]
  have hnl:=hw.each _ (aj hlt);have hcell:=gQ ha.names (j:=k) (by rw[ab];exact hlt);rw[cD]at hcell;have hft:eY F a.pn ((s.names.take k).map S):=by rw[cN];exact sd ha.names k
  have hnb:kP s.names k=(!eL s.names[k]||(s.names.take k).any fun m=>decide (m=s.names[k])):=by unfold kP;rw[en]
  have hlast:=Oi k hlt;rw[hnb]at hlast;have hnx:=qX (kP s.names) k;rw[hany,bu,hnb]at hnx;have htl:(s.names.take k).length=k:=by rw[aw];omega
  generalize s.names[k]=nm at *;generalize s.names.take k=pre at *;(refine run ?_;repeat intro b);refine gm rfl (by omega) ?_;(refine run ?_;repeat intro b);refine dI rfl rfl rfl ⟨by omega,by omega,dO ha.names (j:=k) (by rw[ab];omega)⟩ ?_;refine fr (S nm) rfl rfl rfl rfl (by rw[ae,aA];exact hcell) ?_;(refine run ?_;repeat intro b);refine dG _ rfl rfl rfl ON rfl (oC nm hnl F) ?_;(refine run ?_;repeat intro b);refine ez (!eL nm) rfl (fun hg=>?_) (fun hg=>?_)
  ·rw[hlast (by rw[hg];rfl)];(refine run ?_;repeat intro b);rfl
  (refine run ?_;repeat intro b);refine dI rfl rfl rfl ⟨by omega,by omega⟩ ?_;rw[H5];(refine run ?_;repeat intro b);refine eU (fun j:Nat=>j≤pre.length∧(pre.take j).any (fun m=>decide (m=nm))=false)
   (fun j=>⟨[(1,.v (i64 (n:Nat))),(2,.loc 0 0),(6,.v (S nm)),(49,.v (.slice a.pn s.names.length a.cn)),(50,.v (i64 (s.names.length:Nat))),(51,.v (i64 (k:Nat))),(62,.v (.slice a.pn k a.cn)),(63,.v (i64 (k:Nat))),(64,.v (i64 (j:Nat)))],F,[(0,⟨some bS,(s.row a).map EV.v,56,9⟩)],1⟩) (fun j=>pre.length - j) 0 ⟨az _,rfl⟩ (VS.eH [1,2,6,49,50,51,62,63,64] rfl rfl) ?_
  rintro j ⟨hj,hja⟩;by_cases hjt:j<pre.length
  ·have hc2:=gQ hft (j:=j) (by rw[ab];exact hjt);rw[cD]at hc2;have hst:(pre.take (j+1)).any (fun m=>decide (m=nm))=decide (pre[j]=nm):=by rw[al hjt,bI,hja];simp
   have hme:pre[j]∈pre:=aj hjt;(refine run ?_;repeat intro b);refine gm rfl (by omega) ?_;(refine run ?_;repeat intro b);refine dI rfl rfl rfl ⟨by omega,by omega,dO hft (j:=j) (by rw[ab];omega)⟩ ?_;refine fr (S pre[j]) rfl rfl rfl rfl (by rw[ae,aA];exact hc2) ?_;(refine run ?_;repeat intro b);refine ez (decide (pre[j]=nm)) rfl (fun he=>?_) (fun he=>?_)
   ·rw[hlast (by rw[bD];exact .inr (bK.2 ⟨_,hme,he⟩))];(refine run ?_;repeat intro b);rfl
   (refine run ?_;repeat intro b);rw[dQ (by omega)];exact fj (j+1) ⟨hjt,hst.trans he⟩ (by omega) (VS.eH [1,2,6,49,50,51,62,63,64] rfl rfl)
  have hge:j=k:=by omega
  rw[an (by omega)]at hja;subst hge;(refine run ?_;repeat intro b);refine gu rfl (by omega) ?_;(refine run ?_;repeat intro b);rw[dQ (by omega)];exact fj (j+1) ⟨hlt,by rw[hnx,hja,Bool.or_false];exact hg⟩ (by omega) (VS.eH [1,2,49,50,51] rfl rfl)
 have hge:k=s.names.length:=by omega
 subst hge;have hnb:lO s.names=false:=hany;have he:=wC h1 (by omega) h3 hnb;(refine run ?_;repeat intro b);refine gu rfl (by omega) ?_;(refine run ?_;repeat intro b);refine ez s.nQ ?_ (fun h5=>?_) (fun h5=>?_)
 ·refine dS ?_;simp only[fu];exact KE s
 ·rw[aZ h5]at he;rw[pH (by rw[he];decide),he];(refine run ?_;repeat intro b);rfl
 rw[aY (by rw[h5];decide)]at he;rw[yT he];(refine run ?_;repeat intro b);refine ez (decide (200<n)) ?_ (fun h6=>?_) (fun h6=>?_)
 ·refine dS ?_;rw[ai,av,av];omega
 ·rw[aZ (ar h6)];(refine run ?_;repeat intro b);rfl
 rw[aY (au h6)];(refine run ?_;repeat intro b);rfl
end
end Go.Proofs.YthbnddgjkonkdaaGreatDoor
namespace Go.TR
open Go
section
variable {P:Program} {tb:Tb} {N:Nat} {all rest:List Oper} {K:fa→St→Prop}
theorem HZ {d:Nat}{x y:Operand}{t1 t2 e:TypeId}{ty:TypeId}{pos:String}{af:Array Edge}{env:Env}{F:Hp}{rs rs':RL}{nx id o n c b cap m c2:Nat}{ad:Addr}{cells:List EV}{xD:TypeId}{ti:TI}(k:Nat)(cs:List Value)(htb:gZ P tb)(ht:tk tb t1=some (.slice e))(hi:tb e=some ti)
  (hx:gL rs [] env [] x=some (.row id o n c)) (hy:gL rs [] env [] y=some (.v (.slice (some ad) m c2))) (hr:fR rs id=some ⟨some b,cells,xD,cap⟩) (hd:Nat.blt d N=true) (hk:k=Nat.min m n) (hcs:cs.length=k * ti.size) (hF:eY F (some ad) cs) (hone: ∀v∈cs,v.oneCell'=true)
  (hfit:o+k * ti.size≤cells.length) (hrs:iq (qM rs id ⟨some b,cells.take o++cs.map .v++cells.drop (o+k * ti.size),xD,cap⟩)=some rs')
  (kk:dT P tb N false all rest K [] ⟨(d,.v (.int .i64 (k:Nat)))::env,F,rs',nx⟩):
  dT P tb N false all (⟨some d,.call ⟨.builtin .copy,#[x,y],#[t1,t2]⟩,ty,pos,af,none⟩::rest) K [] ⟨env,F,rs,nx⟩:=by
 obtain⟨i,z,hinfo,hsz,hby,hz,hzs⟩:=oI htb hi;have hut:=jm htb ht;rw[fB,aa]at hrs;subst hrs;refine nY (ι:=Unit) (fun _=>.v (.int .i64 (k:Nat))) (env:=fun _=>env) (F:=fun _=>F) (rs:=fun _=>qM rs id ⟨some b,cells.take o++cs.map .v++cells.drop (o+k * ti.size),xD,cap⟩) (nx:=fun _=>nx) hd (fun c' a w op hs ho=>?_) (fun _=>kk);have ex:=fI hs hx;simp only[EV.val,hr]at ex;simp only[aJ,aa]at ex;have ey:=fI hs hy;simp only[EV.val,aa]at ey;obtain⟨g1,g2,cur,g3,g4,g5⟩:=hs.fO.own.own id _ hr;simp only at g2 g4;have hfc:=run_firstCells_some (P:=P) w ti.size k ad m c2 cs hcs (r6 hs.fO.le hF);have hst:=run_storeCells_at (P:=P) b o xD cs 0 cur w g3 (by rw[hcs,g4];omega) hone;simp only[df]at hst;refine⟨(),.int .i64 (k:Nat),w.setRow b (cur.toList.take o++cs++cur.toList.drop (o+cs.length)).toArray,?_,?_,rfl⟩
 ·simp only[execOp,ho,resolve,invoke,builtin];simp only[←ex,←ey,List.map_toArray,a9,cM];rw[←hsz]at hfc;rw[hk]at hfc;simp[Builtin.copy_,run_underlying hut,Builtin.lenOf,sizeOf,typeInfo,hinfo,hfc,hst,goInt,hk]
 have:=r7 hs hr rfl (es:=cs.map .v) (vs:=cs) (off:=o) (by rw[ab]) (by rw[ab,hcs];exact hfit) (fun e he=>by obtain⟨v,_,rfl⟩:=aG.1 he;exact trivial) (fun j e x hj hx=>by
  rw[aI]at hj;cases hcj:cs[j]? with
  | none=>rw[hcj]at hj;cases hj
  | some u=>rw[hcj]at hj;cases hj;exact hx) g3
 rw[ab,hcs]at this;rw[hcs];exact this
end
end Go.TR
namespace Go.Proofs.YthbnddgjkonkdaaGreatDoor
section
open Go.TR
attribute [local irreducible] vc dT gx fc fA gC gG gw fG Plain eu eR dH VS fq fx fD ju fe IntKind.wrap
set_option maxRecDepth 100000
set_option maxHeartbeats 4000000
theorem Mo (cs:List Value){K k m:Nat}(hcs:cs.length=K)(hk:k≤m):((List.replicate m cs).flatten).take (k * K)=(List.replicate k cs).flatten:=by
 obtain⟨j,rfl⟩: ∃j,m=k+j:=⟨m - k,by omega⟩;rw[←List.replicate_append_replicate,List.flatten_append,List.take_left'];rw[List.length_flatten,List.map_replicate,hcs,List.sum_replicate_nat]
theorem Gp (x y:Nat)(hx:x<18446744073709551616)(hy:y<18446744073709551616)(F:Hp):Plain Tryz.prog F 166 [u64 x,u64 y] (pair (u64 (x * y / 18446744073709551616:Nat)) (u64 (x * y % 18446744073709551616:Nat))):=by
 refine dN (N:=30) (rv:=[.tmp 4,.tmp 5]) eP mixed Tryz.func166 rfl rfl rfl rfl rfl ?_;(refine run ?_;repeat intro b);refine dG _ rfl rfl rfl Qa rfl (D5 x y hx hy F) ?_;(refine run ?_;repeat intro b);rfl
theorem wI (cs:List Value)(n:Nat)(hcs:cs.length=6)(hn:n≤1000){a:Addr}{c:Nat}{F:Hp}(hc:1≤c)(hf:eY F (some a) cs)(h1: ∀x∈cs,Go.TR.one (.v x)=true∧x.oneCell'=true):eu Tryz.prog F 110 [.slice (some a) 1 c,i64 (n:Nat)] (fun x _ new=>∃b,x= .slice (some ⟨b,0,none⟩) n n∧new=[(0,⟨some b,((List.replicate n cs).flatten).map EV.v,159,n * 6⟩)]):=by
 refine fU (N:=48) (rv:=[.tmp 4]) eP mixed Tryz.func110 rfl rfl rfl rfl rfl ?_;(refine run ?_;repeat intro b);have hm:=Gp 1 n (by decide) (by omega) F;rw[Nat.one_mul,Nat.div_eq_of_lt (by omega),Nat.mod_eq_of_lt (by omega)]at hm;have e1:IntKind.u64.wrap (((1:Nat):Int))=((1:Nat):Int):=by rw[nk];decide
 have e2:IntKind.u64.wrap ((n:Nat):Int)=((n:Nat):Int):=by rw[nk];omega
 simp only[e1,e2];refine dG _ rfl rfl rfl VH rfl hm ?_;(refine run ?_;repeat intro b);refine ez false ?_ (fun h=>by cases h) (fun _=>?_)
 ·refine dS ?_;simp[lL];omega
 (refine run ?_;repeat intro b);rw[wrap_i64 (n:=((n:Nat):Int)) (by omega) (by omega)];refine Lf eP rfl rfl rfl rfl rfl (by show _ * 48≤_;omega) (by omega) (fun b vs hvs _=>?_);have hvs:vs.length=n * 6:=hvs;(refine run ?_;repeat intro b);by_cases h0:n=0
 ·subst h0;have hv0:vs=[]:=aq (by omega);subst hv0;refine HZ 0 [] eP rfl rfl rfl rfl rfl rfl rfl rfl (eG _ _) (fun v hv=>by cases hv) (ah _) rfl ?_;(refine run ?_;repeat intro b);refine Mb (ι:=Unit) (fun _=>⟨[(7,.row 0 0 0 0),(8,.v (i64 0))],F,[(0,⟨some b,[],159,0⟩)],1⟩) (fun _=>0) () (VS.eH [7,8] rfl rfl) ?_;rintro⟨⟩;(refine run ?_;repeat intro b);exact eM (VS.eH [4] rfl ⟨_,rfl,b,rfl,rfl⟩)
 refine HZ 1 cs eP rfl rfl rfl rfl rfl rfl (Nat.min_eq_left (by omega)).symm (by rw[Nat.one_mul];exact hcs) hf (fun v hv=>(h1 v hv).2) (by rw[ab,hvs];show 0+1 * 6≤_;omega) rfl ?_;(refine run ?_;repeat intro b);have aac: ∀m,((List.replicate m cs).flatten).length=m * 6:=fun m=>by rw[List.length_flatten,List.map_replicate,hcs,List.sum_replicate_nat]
 refine eU (fun q:Nat×List Value=>1≤q.1∧q.1≤n∧q.2.length=n * 6∧q.2.take (q.1 * 6)=(List.replicate q.1 cs).flatten) (fun q=>⟨[(7,.row 0 0 n n),(8,.v (i64 (q.1:Nat)))],F,[(0,⟨some b,q.2.map EV.v,159,n * 6⟩)],1⟩) (fun q=>n - q.1) (1,cs++vs.drop 6) ⟨ah _,by omega,by rw[ag,aR,hvs,hcs];show 6+(n * 6 - 6)=n * 6;omega,by show List.take (1 * 6) (cs++_)=_;rw[Nat.one_mul,←hcs,List.take_left];simp⟩ (VS.eH [7,8] rfl (by simp only[db,cX,aF,cK])) ?_;rintro⟨m,ws⟩ ⟨m1,m2,m3,m4⟩;dsimp only at m1 m2 m3 m4 ⊢;(refine run ?_;repeat intro b);by_cases hlt:m<n
 ·refine gm rfl (by omega) ?_;(refine run ?_;repeat intro b);refine fz [] (by kernel_rfl) ?_;refine dR [0,1,2,3,4,5,6] (f':=3) (by kernel_rfl) rfl rfl rfl ?_;(refine run ?_;repeat intro b);refine dI rfl rfl rfl ⟨by omega,by omega,by omega⟩ ?_;(refine run ?_;repeat intro b);refine dI rfl rfl rfl ⟨by omega,by omega⟩ ?_;have hso:gR 0 (Int.toNat ((m:Nat):Int)) n 6=m * 6:=by unfold gR;rw[aY (by omega)];omega
  obtain⟨k,hk⟩: ∃k,k=Nat.min m (n - m):=⟨_,rfl⟩;have hk1:k≤m:=by rw[hk];exact aM _ _
  have hk2:k≤n - m:=by rw[hk];exact Nat.min_le_right _ _
  have hk3:1≤k:=by rw[hk];exact Nat.le_min.2 ⟨m1,by omega⟩
  (refine run ?_;repeat intro b);refine dY 7 (by kernel_rfl) rfl rfl ?_;refine yq k ((ws.take (k * 6)).map EV.v) eP rfl rfl rfl rfl rfl rfl rfl hk (by show List.drop 0 (List.take (0+k * 6) (ws.map EV.v))=_;rw[List.drop_zero,aP,cN]) (gy _ (fun x hx=>?_)) (by rw[ab,m3];show 0+k * 6≤_;omega) (by rw[ab,m3,hso];show m * 6+k * 6≤_;omega) rfl ?_
  ·refine (h1 x ?_).1;have hx:x∈(ws.take (m * 6)):=(List.take_subset_take_left ws (by omega)) hx;rw[m4]at hx;obtain⟨c0,hc0,hx⟩:=List.mem_flatten.1 hx;rw[List.eq_of_mem_replicate hc0]at hx;exact hx
  (refine run ?_;repeat intro b);refine eC (Hp.sub.refl _) trivial ?_;refine dY 8 (by kernel_rfl) rfl rfl ?_;(refine run ?_;repeat intro b);refine eC (Hp.sub.refl _) trivial ?_;refine dY 9 (by kernel_rfl) rfl rfl ?_;(refine run ?_;repeat intro b);refine eC (Hp.sub.refl _) trivial ?_;refine fk (by kernel_rfl) ?_;(refine run ?_;repeat intro b);rw[wrap_i64 (by omega) (by omega)];have e1:((m:Nat):Int)+((k:Nat):Int)=((m+k:Nat):Int):=by omega
  rw[e1,hso];have hr:=Mo cs hcs hk1;have hr2:ws.take (k * 6)=(List.replicate k cs).flatten:=by rw[←hr,←m4,List.take_take,Nat.min_eq_left (by omega)]
  refine fj (m+k,ws.take (m * 6)++ws.take (k * 6)++ws.drop (m * 6+k * 6)) ⟨by omega,by omega,?_,?_⟩ (by dsimp only;omega) (VS.eH [7,8] rfl (by simp only[aF,cN,cK]))
  ·simp only[ag,aw,aR,m3];omega
  show List.take ((m+k) * 6) (ws.take (m * 6)++ws.take (k * 6)++ws.drop (m * 6+k * 6))=_;rw[List.take_left' (by simp only[ag,aw,m3];omega),m4,hr2,←List.replicate_append_replicate,List.flatten_append]
 have W6:m=n:=by omega
 subst W6;rw[an (by omega)]at m4;refine gu rfl (by omega) ?_;(refine run ?_;repeat intro b);exact eM (VS.eH [4] rfl ⟨_,rfl,b,rfl,by rw[m4]⟩)
end
section
open Go.TR
theorem xp (l:List jh): ∀x∈l.flatMap jh.row,Go.TR.one (.v x)=true:=fun x hx=>by
 obtain⟨a,_,ha⟩:=List.mem_flatMap.1 hx;simp only[jh.row,aT,cZ,dE]at ha;rcases ha with rfl | rfl | rfl | rfl | rfl | rfl | rfl | rfl<;>rfl
theorem rZ (p:Poll): ∀x∈p.row,Go.TR.one (.v x)=true∧x.oneCell'=true:=fun x hx=>by
 simp only[Poll.row,aT,cZ,dE]at hx;rcases hx with rfl | rfl | rfl | rfl | rfl | rfl<;>exact⟨rfl,rfl⟩
theorem Bo (l:List jh)(x:jh){k:Nat}(h:l.length=k):((l.flatMap jh.row).map EV.v).take (k * 8)++x.row.map EV.v=((l++[x]).flatMap jh.row).map EV.v:=by
 rw[an (by rw[ab,dL gW,h];exact ah _)];simp
theorem Bv (n:Nat)(b:Option Nat)(L:List Value)(t:TypeId)(c:Nat):gB n [(0,⟨b,L.map EV.v,t,c⟩)]=[(n,⟨b,L.map EV.v,t,c⟩)]:=by
 unfold gB gV;simp only[a9,cM,pX];rfl
@[reducible] def TL.Qv (s:TL):RL:=[(4,⟨s.be,(s.events.flatMap lU.row).map EV.v,167,s.ce * 4⟩),(3,⟨s.bf,s.iY.map EV.v,69,s.xf⟩),(2,⟨s.bp,(s.polls.flatMap Poll.row).map EV.v,159,s.cp * 6⟩),(1,⟨s.bo,(s.dK.flatMap jh.row).map EV.v,76,s.co * 8⟩),(0,⟨some s.b0,s.cells 1 2 3 4,140,14⟩)]
def mK (s:lT)(k:Nat):List jh:=(s.dK k).map fun o=>⟨o,none,0⟩
theorem tE (s:lT)(k:Nat):(mK s k).length=k:=by unfold mK;rw[ab,s.yV]
theorem Be (s:lT)(k:Nat):mK s (k+1)=mK s k++[⟨s.own k,none,0⟩]:=by unfold mK;rw[s.Ft,aF];rfl
theorem xN (s:lT)(k:Nat):(mK s k).map jh.o=s.dK k:=by
 unfold mK;rw[cL];simp[Function.comp_def]
theorem CA (s:lT)(k:Nat)(F:Hp): ∀x∈mK s k,x.at F:=fun x hx=>by
 unfold mK lT.dK at hx;obtain⟨o,ho,rfl⟩:=aG.1 hx;obtain⟨j,_,rfl⟩:=aG.1 ho;exact eG _ _
@[reducible] def PH (s:lT) (l:jf) (n1 k co:Nat):List EV:=[.v (i64 (jM s.most s.batch s.every).queue.most),.v (.slice l.w (jM s.most s.batch s.every).queue.wait.length l.cw),.v (i64 (jM s.most s.batch s.every).batch),.v (i64 (jM s.most s.batch s.every).every),.v (i64 (jM s.most s.batch s.every).now),.v (.slice l.h (jM s.most s.batch s.every).dP.length l.ch),.v (.slice l.b (jM s.most s.batch s.every).ee.length l.cb),.row n1 0 k co,.v (.slice none 0 0),.v (i64 0),.v (.slice none 0 0),.v (i64 s.reach),.v (.slice none 0 0),.v (.slice none 0 0)]
theorem B1 (v:List UInt8)(l:List (List UInt8)){m:Nat}(hm:m=l.length)(hl:l.length≤4611686018427387904){p:Option Addr}{c:Nat}{F:Hp}(hf:eY F p (l.map S)):Plain Tryz.prog F 107 [.slice p m c,S v] (.bool (l.any fun w=>decide (w=v))):=by
 refine dN (N:=9) (rv:=[.tmp 4]) eP mixed Tryz.func107 rfl rfl rfl rfl rfl ?_;(refine run ?_;repeat intro b);refine dG _ rfl rfl rfl Qq rfl (Dy v l hm hl hf) ?_;(refine run ?_;repeat intro b);rw[←og];rfl
attribute [local irreducible] vc dT gx fc fA gC gG gw fG Plain eu eR dH VS fq fx fD ju fe IntKind.wrap
attribute [local irreducible] dV gK eL jG jM
set_option maxRecDepth 100000
set_option maxHeartbeats 8000000
theorem NZ (s:lT)(a:Ak)(hw:s.wf){F:Hp}(ha:s.at F a):eu Tryz.prog F 52 [.agg (s.row a).toArray] (fun x F' new=>(hZ s≠0∧x=pair (.pointer none) (i64 (hZ s))∧new=[])∨(hZ s=0∧ ∃T:TL,x=pair (.pointer (some ⟨T.b0,0,none⟩)) (i64 0)∧T.t=firstT s∧T.at F'∧new=T.Qv)):=by
 refine fU (N:=130) (rv:=[.tmp 2,.tmp 3]) eP mixed Tryz.func52 rfl rfl rfl rfl rfl ?_;have hcap:=ha.cap;(refine run ?_;repeat intro b);revert b;intro bS;refine fi rfl rfl rfl bd8 rfl (EZ s.most s.batch s.every) ?_;rintro _ F1 hs1 ⟨l',rfl,hl'⟩;(refine run ?_;repeat intro b);revert b;intro bc;refine ez (jG s.most s.batch s.every) ?_ (fun h1=>?_) (fun h1=>?_)
 ·refine dS ?_;unfold xK;cases jG s.most s.batch s.every<;>rfl
 ·have e0:hZ s=4:=by unfold hZ;rw[aZ h1]
  have e1:xK s.most s.batch s.every=4:=by unfold xK;rw[aZ h1]
  rw[e0,e1];(refine run ?_;repeat intro b);exact eM (VS.iy [1,0] rfl (VS.id ⟨_,rfl,.inl ⟨by decide,rfl,rfl⟩⟩))
 have e1:xK s.most s.batch s.every=0:=by unfold xK;rw[aY (by rw[h1];decide)]
 rw[e1];(refine run ?_;repeat intro b);refine ez (decide (4<s.names.length)) ?_ (fun h2=>?_) (fun h2=>?_)
 ·refine dS ?_;rw[ai,av,av];omega
 ·have e0:hZ s=2:=by unfold hZ;rw[aY (by rw[h1];decide),aZ (ar h2)]
  rw[e0];(refine run ?_;repeat intro b);exact eM (VS.iy [1,0] rfl (VS.id ⟨_,rfl,.inl ⟨by decide,rfl,rfl⟩⟩))
 have h2:=au h2;(refine run ?_;repeat intro b);refine ez (decide (s.keys.length≠s.names.length)) ?_ (fun h3=>?_) (fun h3=>?_)
 ·refine dS ?_;rw[ai];simp;omega
 ·have e0:hZ s=3:=by unfold hZ;rw[aY (by rw[h1];decide),aY h2,aZ (ar h3)]
  rw[e0];(refine run ?_;repeat intro b);exact eM (VS.iy [1,0] rfl (VS.id ⟨_,rfl,.inl ⟨by decide,rfl,rfl⟩⟩))
 have h3:s.keys.length=s.names.length:=bE.1 (au h3);have Oi: ∀k,k<s.names.length→kP s.names k=true→hZ s=3:=fun k hk hb=>by
  unfold hZ;rw[aY (by rw[h1];decide),aY h2,aY (by simpa using h3),aZ];unfold lO;exact bK.2 ⟨k,List.mem_range.2 hk,hb⟩
 have hcn:=uz h1;have hch:eY F1 l'.h ([l9].flatMap Head.row):=by have:=hl'.h;rw[hcn]at this;exact this
 have hcl:(jM s.most s.batch s.every).dP.length=1:=by rw[hcn];rfl
 (refine run ?_;repeat intro b);revert b;intro bt;refine eU (fun q:Nat×Option Nat×Nat=>q.1≤s.names.length∧(List.range q.1).any (kP s.names)=false∧(q.2.1=none→q.1=0∧q.2.2=0)∧q.1≤q.2.2)
  (fun q=>⟨[(1,.loc 0 0),(4,.loc 1 0),(6,.loc 2 0),(48,.v (.slice a.pn s.names.length a.cn)),(49,.v (i64 (s.names.length:Nat))),(50,.v (i64 (q.1:Nat)))],F1,
   [(3,⟨q.2.1,((mK s q.1).flatMap jh.row).map EV.v,76,q.2.2 * 8⟩),(2,⟨some bt,PH s l' 3 q.1 q.2.2,140,14⟩),(1,⟨some bc,(eE.row (jM s.most s.batch s.every) l').map EV.v,28,7⟩),(0,⟨some bS,(s.row a).map EV.v,56,9⟩)],4⟩) (fun q=>s.names.length - q.1) (0,none,0) ⟨az _,rfl,fun _=>⟨rfl,rfl⟩,ah _⟩
  (VS.l6 76 (VS.l5 2 (PH s l' 3 0 0) rfl ⟨⟨trivial,rfl⟩,⟨trivial,rfl⟩,⟨trivial,rfl⟩,⟨trivial,rfl⟩,⟨trivial,rfl⟩,⟨trivial,rfl⟩,⟨trivial,rfl⟩,⟨(by decide:3<4),rfl⟩,⟨trivial,rfl⟩,⟨trivial,rfl⟩,⟨trivial,rfl⟩,⟨trivial,rfl⟩,⟨trivial,rfl⟩,⟨trivial,rfl⟩,trivial⟩ rfl (VS.eH [1,4,6,48,49,50] rfl rfl))) ?_
 rintro⟨k,bo,co⟩ ⟨hk,hany,hnil,hle⟩;dsimp only at hk hany hnil hle ⊢;by_cases hlt:k<s.names.length
 ·have en:s.names.getD k []=s.names[k]:=by simp[List.getD,hlt]
  have hkl:k<s.keys.length:=by omega
  have ek:s.keys.getD k 0=s.keys[k]:=by simp[List.getD,hkl]
  have hnl:=hw.each _ (aj hlt);have hkv:=hw.keys _ (aj hkl);have hcell:=gQ (dZ hs1 ha.names) (j:=k) (by rw[ab];exact hlt);rw[cD]at hcell;have zT:=gQ (dZ hs1 ha.keys) (j:=k) (by rw[ab];exact hkl);rw[cD]at zT;have hft:eY F1 a.pn ((s.names.take k).map S):=by rw[cN];exact sd (dZ hs1 ha.names) k
  have hnb:kP s.names k=(!eL s.names[k]||(s.names.take k).any fun m=>decide (m=s.names[k])):=by unfold kP;rw[en]
  have hlast:=Oi k hlt;have hnx:=qX (kP s.names) k;rw[hany,bu]at hnx;rw[hnb]at hlast hnx;have htl:(s.names.take k).length=k:=by rw[aw];omega
  have hown:s.own k=Ow.fresh s.names[k] s.keys[k] l9:=by unfold lT.own;rw[en,ek]
  have hnew:=Fk s.names[k] s.keys[k] l9 hnl hkv qm.1 (F:=F1);have hln:=tE s k;have hcells:=Bo (mK s k) ⟨s.own k,none,0⟩ hln;rw[←Be]at hcells;generalize s.names[k]=nm at *;generalize s.keys[k]=ky at *;generalize s.names.take k=pre at *;obtain⟨o1,o2⟩:=eZ eW (by decide) hch 0 (by decide);(refine run ?_;repeat intro b);refine gm rfl (by omega) ?_;(refine run ?_;repeat intro b);refine dI rfl rfl rfl ⟨by omega,by omega,dO (dZ hs1 ha.names) (j:=k) (by rw[ab];omega)⟩ ?_;refine fr (S nm) rfl rfl rfl rfl (by rw[ae,aA];exact hcell) ?_;(refine run ?_;repeat intro b);refine dG _ rfl rfl rfl wB rfl (oK nm hnl F1) ?_;(refine run ?_;repeat intro b);refine iw rfl rfl rfl rfl rfl (fun _=>⟨by omega,by omega⟩) ?_;rw[H5];(refine run ?_;repeat intro b);refine gi _ rfl rfl rfl rfl TM rfl rfl (fun _=>B1 nm pre htl.symm (by omega) hft) ?_;(refine run ?_;repeat intro b);refine ez (!eL nm||pre.any fun m=>decide (m=nm)) ?_ (fun hg=>?_) (fun hg=>?_)
  ·refine dS ?_;rw[fu]
  ·rw[hlast hg];(refine run ?_;repeat intro b);exact eM (VS.iy [3,2,1,0] rfl (VS.id ⟨_,rfl,.inl ⟨by decide,rfl,rfl⟩⟩))
  have hgn:eL nm=true:=by
   simp only[aQ,Bool.not_eq_false']at hg;exact hg.1
  rw[hg]at hnx;have hf0:kf (Ow.fresh nm ky l9)=0:=Ax hgn;have hno:GC nm ky l9=Ow.fresh nm ky l9:=by unfold GC;rw[aZ hf0]
  rw[hno,hf0,←hown]at hnew;(refine run ?_;repeat intro b);refine fz [0,1] (by kernel_rfl) ?_;refine dR [0,1,2,3,4,5,6,7,8,9,10,11,12,13] (f':=3) (by kernel_rfl) rfl rfl rfl ?_;(refine run ?_;repeat intro b);refine dI rfl rfl rfl ⟨by omega,by omega,dO (dZ hs1 ha.keys) (j:=k) (by rw[ab];omega)⟩ ?_;refine fr (mu ky) rfl rfl rfl rfl (by rw[ae,aA];exact zT) ?_;(refine run ?_;repeat intro b);refine dI rfl rfl rfl ⟨by omega,by omega,dO hch (j:=0) (by decide)⟩ ?_;refine fy l9.row rfl rfl rfl rfl rfl (by exact o1) (by exact o2) ?_;(refine run ?_;repeat intro b);refine dG _ rfl rfl rfl Ue rfl hnew ?_;(refine run ?_;repeat intro b);refine dY 14 (by kernel_rfl) rfl rfl ?_;(refine run ?_;repeat intro b);refine eC (Hp.sub.refl _) (dM rfl) ?_;refine dY 15 (by kernel_rfl) rfl rfl ?_;(refine run ?_;repeat intro b);refine eC (Hp.sub.refl _) (dM rfl) ?_;refine dY 16 (by kernel_rfl) rfl rfl ?_;(refine run ?_;repeat intro b);refine eC (Hp.sub.refl _) (dM rfl) ?_;refine fk (by kernel_rfl) ?_;(refine run ?_;repeat intro b);refine fz [4] (by kernel_rfl) ?_;refine dR [0,1,2,3,4,6] (f':=7) (by kernel_rfl) rfl rfl rfl ?_;(refine run ?_;repeat intro b);refine jC 5 7 (by kernel_rfl) rfl rfl rfl ?_ ?_
  ·(refine run ?_;repeat intro b);refine eC (Hp.sub.refl _) (dM rfl) ?_;refine dY 7 (by kernel_rfl) rfl rfl ?_;(refine run ?_;repeat intro b);refine eC (Hp.sub.refl _) (dM rfl) ?_;refine dY 8 (by kernel_rfl) rfl rfl ?_;refine fv rfl rfl rfl rfl rfl rfl rfl rfl (fb rfl rfl) (gy _ (xp [⟨s.own k,none,0⟩])) hnil hle rfl (by rw[ab,dL gW,hln];exact ah _) (by show (k+1) * 88≤_;omega) (fun h=>by cases h) (fun _ b2 c2 hc2=>?_);(refine run ?_;repeat intro b);refine eC (Hp.sub.refl _) (dM rfl) ?_;refine dR [9,10,11] (f':=1) (by kernel_rfl) rfl rfl rfl ?_;(refine run ?_;repeat intro b);refine dY 12 (by kernel_rfl) rfl rfl ?_;(refine run ?_;repeat intro b);refine eC (Hp.sub.refl _) (dM rfl) ?_;refine fk (by kernel_rfl) ?_;(refine run ?_;repeat intro b);rw[dQ (by omega)];exact fE (k+1,some b2,c2) 3 [(6,3),(2,2),(1,1),(0,0)] [1,4,6,48,49,50] [(3,⟨some b2,(((mK s (k+1)).flatMap jh.row)).map EV.v,76,c2 * 8⟩),(2,⟨some bt,PH s l' 3 (k+1) c2,140,14⟩),(1,⟨some bc,(eE.row (jM s.most s.batch s.every) l').map EV.v,28,7⟩),(0,⟨some bS,(s.row a).map EV.v,56,9⟩)] ⟨hlt,hnx,fun h=>(by cases h),hc2⟩ (by dsimp only;omega) (aM _ _) (ff ⟨_,rfl,rfl,rfl,rfl,.inl ⟨hcells.symm,fun e he=>fw _ e (hcells ▸ he)⟩⟩ (dU rfl (dJ rfl rfl (dJ rfl rfl trivial)))) rfl rfl rfl rfl rfl rfl rfl
  (refine run ?_;repeat intro b);refine eC (Hp.sub.refl _) (dM rfl) ?_;refine dY 5 (by kernel_rfl) rfl rfl ?_;(refine run ?_;repeat intro b);refine eC (Hp.sub.refl _) (dM rfl) ?_;refine dY 8 (by kernel_rfl) rfl rfl ?_;refine fv rfl rfl rfl rfl rfl rfl rfl rfl (fb rfl rfl) (gy _ (xp [⟨s.own k,none,0⟩])) hnil hle rfl (by rw[ab,dL gW,hln];exact ah _) (by show (k+1) * 88≤_;omega) (fun h=>by cases h) (fun _ b2 c2 hc2=>?_);(refine run ?_;repeat intro b);refine eC (Hp.sub.refl _) (dM rfl) ?_;refine dR [9,10,11] (f':=1) (by kernel_rfl) rfl rfl rfl ?_;(refine run ?_;repeat intro b);refine dY 12 (by kernel_rfl) rfl rfl ?_;(refine run ?_;repeat intro b);refine eC (Hp.sub.refl _) (dM rfl) ?_;refine fk (by kernel_rfl) ?_;(refine run ?_;repeat intro b);rw[dQ (by omega)];exact fE (k+1,some b2,c2) 3 [(6,3),(2,2),(1,1),(0,0)] [1,4,6,48,49,50] [(3,⟨some b2,(((mK s (k+1)).flatMap jh.row)).map EV.v,76,c2 * 8⟩),(2,⟨some bt,PH s l' 3 (k+1) c2,140,14⟩),(1,⟨some bc,(eE.row (jM s.most s.batch s.every) l').map EV.v,28,7⟩),(0,⟨some bS,(s.row a).map EV.v,56,9⟩)] ⟨hlt,hnx,fun h=>(by cases h),hc2⟩ (by dsimp only;omega) (aM _ _) (ff ⟨_,rfl,rfl,rfl,rfl,.inl ⟨hcells.symm,fun e he=>fw _ e (hcells ▸ he)⟩⟩ (dU rfl (dJ rfl rfl (dJ rfl rfl trivial)))) rfl rfl rfl rfl rfl rfl rfl
 have hge:k=s.names.length:=by omega
 subst hge;have hnb:lO s.names=false:=hany;have he:=wC h1 (by omega) h3 hnb;have hln:=tE s s.names.length;(refine run ?_;repeat intro b);refine gu rfl (by omega) ?_;(refine run ?_;repeat intro b);refine dG _ rfl rfl rfl UI rfl (NA s.least s.top s.lost F1) ?_;(refine run ?_;repeat intro b);revert b;intro u4;refine ez s.jN.bad ?_ (fun h4=>?_) (fun h4=>?_)
 ·refine dS ?_;exact Nk s.jN
 ·have hr:s.nQ=true:=by unfold lT.nQ;rw[h4];rfl
  rw[aZ hr]at he;have hf:(Poll.fresh s.least s.top s.lost).fault=4:=by unfold Poll.fault;exact aZ h4
  rw[he,hf];(refine run ?_;repeat intro b);exact eM (VS.iy [4,3,2,1,0] rfl (VS.id ⟨_,rfl,.inl ⟨by decide,rfl,rfl⟩⟩))
 have hf:(Poll.fresh s.least s.top s.lost).fault=0:=by unfold Poll.fault;exact aY (by rw[show (Poll.fresh s.least s.top s.lost).bad=false from h4];decide)
 have hon:(Poll.fresh s.least s.top s.lost).hU 0=s.jN:=by unfold Poll.hU;rw[aY (by decide)];rfl
 rw[hf,hon];(refine run ?_;repeat intro b);refine ez (decide (s.reach<1)||decide (40<s.reach)) ?_ (fun h5=>?_) (fun h5=>?_)
 ·refine dS ?_;rw[fu]
 ·have hr:s.nQ=true:=by unfold lT.nQ;rw[h4,bu];exact h5
  rw[aZ hr]at he;rw[he];(refine run ?_;repeat intro b);exact eM (VS.iy [4,3,2,1,0] rfl (VS.id ⟨_,rfl,.inl ⟨by decide,rfl,rfl⟩⟩))
 have hr:s.nQ=false:=by unfold lT.nQ;rw[h4,bu];exact h5
 rw[hr,aY (by decide)]at he;rw[he];(refine run ?_;repeat intro b);refine fz [4] (by kernel_rfl) ?_;refine dR [0,1,3,4,5,6] (f':=8) (by kernel_rfl) rfl rfl rfl ?_;(refine run ?_;repeat intro b);refine jC 2 7 (by kernel_rfl) rfl rfl rfl ?_ ?_
 ·(refine run ?_;repeat intro b);refine eC (Hp.sub.refl _) (dM rfl) ?_;refine dY 7 (by kernel_rfl) rfl rfl ?_;(refine run ?_;repeat intro b);refine eC (Hp.sub.refl _) (dM rfl) ?_;refine dR [8] (f':=5) (by kernel_rfl) rfl rfl rfl ?_;(refine run ?_;repeat intro b);refine dY 9 (by kernel_rfl) rfl rfl ?_;refine fT (VS.freeze 5 [6,116,118,124] rfl rfl rfl rfl fun F2 hs2 hf2=>VS.id ?_);rw[e9,e9,e9];refine rJ rfl rfl rfl Qu rfl (wI s.jN.row s.names.length rfl (by omega) (ah 1) hf2 (fun x hx=>rZ s.jN x hx)) ?_;rintro _ F3 _ hs3 ⟨bp,rfl,rfl⟩;refine⟨1,.row 0 0 s.names.length s.names.length,uj ⟨⟨Nat.zero_lt_one,fun e he=>by obtain⟨v,_,rfl⟩:=aG.1 he;exact trivial⟩,trivial⟩,rfl,?_⟩;rw[Bv];(refine run ?_;repeat intro b);refine eC (hs2.trans hs3) (dM rfl) ?_;refine dR [10,11,12] (f':=1) (by kernel_rfl) rfl rfl rfl ?_;(refine run ?_;repeat intro b);refine dY 13 (by kernel_rfl) rfl rfl ?_;(refine run ?_;repeat intro b);refine eC (Hp.sub.refl _) (dM rfl) ?_;refine fk (by kernel_rfl) ?_;(refine run ?_;repeat intro b);have hpc:(List.replicate s.names.length s.jN.row).flatten=(List.replicate s.names.length s.jN).flatMap Poll.row:=by rw[List.flatMap_def,List.map_replicate]
  refine mI (qN.trans (VS.l6 69 (VS.l6 167 (VS.l5 2 [.v (i64 (jM s.most s.batch s.every).queue.most),.v (.slice l'.w (jM s.most s.batch s.every).queue.wait.length l'.cw),.v (i64 (jM s.most s.batch s.every).batch),.v (i64 (jM s.most s.batch s.every).every),.v (i64 (jM s.most s.batch s.every).now),.v (.slice l'.h (jM s.most s.batch s.every).dP.length l'.ch),.v (.slice l'.b (jM s.most s.batch s.every).ee.length l'.cb),.row 3 0 s.names.length co,.row 6 0 s.names.length s.names.length,.v (i64 0),.v (.slice none 0 0),.v (i64 s.reach),.row 7 0 0 0,.row 8 0 0 0] rfl ⟨⟨trivial,rfl⟩,⟨trivial,rfl⟩,⟨trivial,rfl⟩,⟨trivial,rfl⟩,⟨trivial,rfl⟩,⟨trivial,rfl⟩,⟨trivial,rfl⟩,⟨(by decide:3<9),rfl⟩,⟨(by decide:6<9),rfl⟩,⟨trivial,rfl⟩,⟨trivial,rfl⟩,⟨trivial,rfl⟩,⟨(by decide:7<9),rfl⟩,⟨(by decide:8<9),rfl⟩,trivial⟩ rfl (VS.id ?_)))));obtain⟨T,hT⟩: ∃T:TL,T=⟨jM s.most s.batch s.every,l',mK s s.names.length,List.replicate s.names.length s.jN,⟨0,[],none,0⟩,s.reach,[],0,[],[],bt,bo,co,some bp,s.names.length,none,0,0,none,0⟩:=⟨_,rfl⟩;have S1:T.t=firstT s:=by rw[hT];unfold TL.t firstT;simp only[xN,cM]
  have K9:T.at F3:=by
   rw[hT];exact {
    dF:=eE.eX (hs2.trans hs3) hl'
    dK:=CA s _ _
    fJ:=⟨eG _ _,fun x hx=>by cases hx⟩
    dX:=fun x hx=>by cases hx
    xb:=rfl
    xM:=ah _
    zp:=ah _
    Pw:=ah _
    vM:=fun _=>⟨rfl,rfl,rfl⟩
    rD:=fun h=>⟨by show (mK s _).length=0;rw[hln];exact (hnil h).1,(hnil h).2⟩
    IV:=by show (mK s _).length≤co;rw[hln];exact hle
    wY:=fun h=>by cases h
    K7:=by show (List.replicate _ _).length≤_;rw[cI];exact ah _
    vt:=fun _=>⟨rfl,rfl⟩
    Js:=ah _ }
  refine qN.mM (nx':=5) [(8,4),(7,3),(6,2),(3,1),(2,0)] [2,3] T.Qv ?_ rfl rfl rfl rfl rfl rfl ⟨_,rfl,.inr ⟨rfl,T,by rw[hT];rfl,S1,K9,rfl⟩⟩;rw[hT];dsimp only [TL.Qv,TL.cells];rw[hln,cI];exact (ff ⟨_,rfl,rfl,rfl,rfl,.inl ⟨rfl,fun e he=>by cases he⟩⟩ (ff ⟨_,rfl,rfl,rfl,rfl,.inl ⟨rfl,fun e he=>by cases he⟩⟩ (ff ⟨_,rfl,rfl,rfl,rfl,.inl ⟨by rw[←hpc],fun e he=>fw _ e he⟩⟩ (dJ rfl rfl (dU rfl trivial)))))
 (refine run ?_;repeat intro b);refine eC (Hp.sub.refl _) (dM rfl) ?_;refine dR [8] (f':=6) (by kernel_rfl) rfl rfl rfl ?_;(refine run ?_;repeat intro b);refine dY 2 (by kernel_rfl) rfl rfl ?_;(refine run ?_;repeat intro b);refine eC (Hp.sub.refl _) (dM rfl) ?_;refine dY 9 (by kernel_rfl) rfl rfl ?_;refine fT (VS.freeze 5 [6,116,118,124] rfl rfl rfl rfl fun F2 hs2 hf2=>VS.id ?_);rw[e9,e9,e9];refine rJ rfl rfl rfl Qu rfl (wI s.jN.row s.names.length rfl (by omega) (ah 1) hf2 (fun x hx=>rZ s.jN x hx)) ?_;rintro _ F3 _ hs3 ⟨bp,rfl,rfl⟩;refine⟨1,.row 0 0 s.names.length s.names.length,uj ⟨⟨Nat.zero_lt_one,fun e he=>by obtain⟨v,_,rfl⟩:=aG.1 he;exact trivial⟩,trivial⟩,rfl,?_⟩;rw[Bv];(refine run ?_;repeat intro b);refine eC (hs2.trans hs3) (dM rfl) ?_;refine dR [10,11,12] (f':=1) (by kernel_rfl) rfl rfl rfl ?_;(refine run ?_;repeat intro b);refine dY 13 (by kernel_rfl) rfl rfl ?_;(refine run ?_;repeat intro b);refine eC (Hp.sub.refl _) (dM rfl) ?_;refine fk (by kernel_rfl) ?_;(refine run ?_;repeat intro b);have hpc:(List.replicate s.names.length s.jN.row).flatten=(List.replicate s.names.length s.jN).flatMap Poll.row:=by rw[List.flatMap_def,List.map_replicate]
 refine mI (qN.trans (VS.l6 69 (VS.l6 167 (VS.l5 2 [.v (i64 (jM s.most s.batch s.every).queue.most),.v (.slice l'.w (jM s.most s.batch s.every).queue.wait.length l'.cw),.v (i64 (jM s.most s.batch s.every).batch),.v (i64 (jM s.most s.batch s.every).every),.v (i64 (jM s.most s.batch s.every).now),.v (.slice l'.h (jM s.most s.batch s.every).dP.length l'.ch),.v (.slice l'.b (jM s.most s.batch s.every).ee.length l'.cb),.row 3 0 s.names.length co,.row 6 0 s.names.length s.names.length,.v (i64 0),.v (.slice none 0 0),.v (i64 s.reach),.row 7 0 0 0,.row 8 0 0 0] rfl ⟨⟨trivial,rfl⟩,⟨trivial,rfl⟩,⟨trivial,rfl⟩,⟨trivial,rfl⟩,⟨trivial,rfl⟩,⟨trivial,rfl⟩,⟨trivial,rfl⟩,⟨(by decide:3<9),rfl⟩,⟨(by decide:6<9),rfl⟩,⟨trivial,rfl⟩,⟨trivial,rfl⟩,⟨trivial,rfl⟩,⟨(by decide:7<9),rfl⟩,⟨(by decide:8<9),rfl⟩,trivial⟩ rfl (VS.id ?_)))));obtain⟨T,hT⟩: ∃T:TL,T=⟨jM s.most s.batch s.every,l',mK s s.names.length,List.replicate s.names.length s.jN,⟨0,[],none,0⟩,s.reach,[],0,[],[],bt,bo,co,some bp,s.names.length,none,0,0,none,0⟩:=⟨_,rfl⟩;have S1:T.t=firstT s:=by rw[hT];unfold TL.t firstT;simp only[xN,cM]
 have K9:T.at F3:=by
  rw[hT];exact {
   dF:=eE.eX (hs2.trans hs3) hl'
   dK:=CA s _ _
   fJ:=⟨eG _ _,fun x hx=>by cases hx⟩
   dX:=fun x hx=>by cases hx
   xb:=rfl
   xM:=ah _
   zp:=ah _
   Pw:=ah _
   vM:=fun _=>⟨rfl,rfl,rfl⟩
   rD:=fun h=>⟨by show (mK s _).length=0;rw[hln];exact (hnil h).1,(hnil h).2⟩
   IV:=by show (mK s _).length≤co;rw[hln];exact hle
   wY:=fun h=>by cases h
   K7:=by show (List.replicate _ _).length≤_;rw[cI];exact ah _
   vt:=fun _=>⟨rfl,rfl⟩
   Js:=ah _ }
 refine qN.mM (nx':=5) [(8,4),(7,3),(6,2),(3,1),(2,0)] [2,3] T.Qv ?_ rfl rfl rfl rfl rfl rfl ⟨_,rfl,.inr ⟨rfl,T,by rw[hT];rfl,S1,K9,rfl⟩⟩;rw[hT];dsimp only [TL.Qv,TL.cells];rw[hln,cI];exact (ff ⟨_,rfl,rfl,rfl,rfl,.inl ⟨rfl,fun e he=>by cases he⟩⟩ (ff ⟨_,rfl,rfl,rfl,rfl,.inl ⟨rfl,fun e he=>by cases he⟩⟩ (ff ⟨_,rfl,rfl,rfl,rfl,.inl ⟨by rw[←hpc],fun e he=>fw _ e he⟩⟩ (dJ rfl rfl (dU rfl trivial)))))
end
end Go.Proofs.YthbnddgjkonkdaaGreatDoor
