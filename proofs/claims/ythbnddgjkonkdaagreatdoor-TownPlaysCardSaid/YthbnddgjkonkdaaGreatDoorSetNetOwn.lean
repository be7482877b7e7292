/- A part of the proof. -/
import Derived.Test.YthbnddgjkonkdaaGreatDoorSetClerk5
import Derived.Test.YthbnddgjkonkdaaGreatDoorSetFwZ
set_option linter.unusedVariables false
set_option linter.unusedSimpArgs false
namespace Go.TR
variable {P:Program} {tb:Tb} {N:Nat} {dr:Bool} {all rest:List Oper} {K:fe→St→Prop}
theorem sE (w:World)(t tx ty e:TypeId)(i:TypeInfo)(ht:P.underlying t=some (.slice e))(hi:P.info? e=some i)(b off sLen sCap:Nat)(x:Value)(n:Nat)(news:List Value)(hs:Src P i.size tx x n news w)
  (hroom:sLen+n≤sCap) {cur:Array Value} {ct:TypeId} (qE:w.heap[b]? =some (.cells cur ct (0,0))) (hfit:off+sLen * i.size+news.length≤cur.size):
  (Builtin.append_ #[t,tx] ty #[.slice (some ⟨b,off,none⟩) sLen sCap,x]).run P w= .ok (.slice (some ⟨b,off,none⟩) (sLen+n) sCap) (w.setRow b (cur.toList.take (off+sLen * i.size)++news++cur.toList.drop (off+sLen * i.size+news.length)).toArray):=by
 have hst:=run_storeCells_at (P:=P) b (off+sLen * i.size) ct news 0 cur w qE (by simpa using hfit) hs.one;simp only[di]at hst;have h0:(⟨b,off,none⟩:Addr).add (sLen * i.size)=⟨b,off+sLen * i.size,none⟩:=Addr.add_lit _ _ _;rcases hs.kind with⟨e',hk⟩ | hk<;>simp[Builtin.append_,run_underlying ht,run_underlying hk,sizeOf,typeInfo,hi,hs.len,hroom,hs.cells,h0,hst]
theorem BN {d:Nat}{x y:Operand}{t1 t2 e:TypeId}{ty:TypeId}{pos:String}{af:Array Edge}{env:Env}{F:Hp}{rs rs':RL}{nx id o n c cap m:Nat}{gq:Option Nat}{cells news:List EV}{ti:TI}(htb:g9 P tb)(ht:tk tb t1=some (.slice e))(ht2:wI (tk tb t2)=true)(hi:tb e=some ti)(h0:(Nat.blt 0 ti.size&&Nat.beq ti.zero.length ti.size)=true)
  (hx:gO rs [] env [] x=some (.row id o n c)) (hr:fU rs id=some ⟨gq,cells,e,cap⟩) (hrs:iv (uL rs id)=some rs') (hd:Nat.blt d N=true) (hsrc:wQ F rs ti.size (gO rs [] env [] y) m news) (hone:ll rs news) (hnl:news.length=m * ti.size) (hm:0<m) (hok:gq=none→o=0∧n=0∧c=0) (hcap:o+c * ti.size≤cap) (hcl:o+n * ti.size≤cells.length)
  (hby:(n+m) * ti.bytes≤140737488355328) (hb0:(Nat.blt 0 ti.bytes)=true)
  (k: ∀(b o' c' cap':Nat) (pre:List EV),pre.length=o'→(∀e∈pre,e∈cells)→n+m≤c'→o'+c' * ti.size≤cap'→dW P tb N false all rest K [] ⟨(d,.row nx o' (n+m) c')::env,F,(nx,⟨some b,pre++((cells.drop o).take (n * ti.size)++news),e,cap'⟩)::rs',nx+1⟩):
  dW P tb N false all (⟨some d,.call ⟨.builtin .append,#[x,y],#[t1,t2]⟩,ty,pos,af,none⟩::rest) K [] ⟨env,F,rs,nx⟩:=by
 simp only[aL,Nat.blt_eq,Nat.beq_eq]at h0 hb0;obtain⟨hs0,hz0⟩:=h0;obtain⟨i,z,hinfo,hsz,Zg,hz,hzs⟩:=oM htb hi;have hut:=jq htb ht;rw[fE,aa]at hrs;subst hrs;have hnm:n+m≤(n+m) * ti.bytes:=Nat.le_mul_of_pos_right _ hb0;refine oe (ι:={ q:Nat×Nat×Nat×List EV×Nat // q.2.2.2.1.length=q.2.1∧(∀e∈q.2.2.2.1,e∈cells)∧n+m≤q.2.2.1∧q.2.1+q.2.2.1 * ti.size≤q.2.2.2.2 }) (fun q=>.row nx q.1.2.1 (n+m) q.1.2.2.1) (env:=fun _=>env) (F:=fun _=>F)
  (rs:=fun q=>(nx,⟨some q.1.1,q.1.2.2.2.1++((cells.drop o).take (n * ti.size)++news),e,q.1.2.2.2.2⟩)::uL rs id) (nx:=fun _=>nx+1) hd (fun c' a w op hs ho=>?_) (fun q=>k q.1.1 q.1.2.1 q.1.2.2.1 q.1.2.2.2.2 q.1.2.2.2.1 q.2.1 q.2.2.1 q.2.2.2.1 q.2.2.2.2)
 have ex:=fM hs hx;simp only[EV.val,hr]at ex;simp only[aa]at ex;have hsub: ∀k r,fU (uL rs id) k=some r→fU rs k=some r:=fun k r hk=>by
  rw[o9]at hk;split at hk
  ·cases hk
  exact hk
 have Ri:=(hs.gV id _ hr).2;obtain⟨m',news',vs,⟨rfl,rfl⟩,s1,s2,s3,s4⟩:=B0 (P:=P) htb hs hs0 ht2 (K:=fun m' n'=>m'=m∧n'=news) (hsrc _ ⟨hone,rfl,rfl⟩);simp only at s4;have hlen:((cells.drop o).take (n * ti.size)).length=n * ti.size:=by rw[aw,aR];omega
 by_cases hroom:n+m'≤c
 ·cases gq with
  | none=>obtain⟨_,_,h3⟩:=hok rfl;omega
  | some b=>
   obtain⟨g1,g2,cur,g3,g4,g5⟩:=hs.fR.own.own id _ hr;simp only at g2 g4;have hcs:n * ti.size+m' * ti.size≤c * ti.size:=by rw[←dg];exact dv _ hroom
   have hrun:=sE (P:=P) w t1 t2 op.type e i hut hinfo b o n c (a.eval y) m' vs (by rw[hsz];exact s1) hroom g3 (by rw[hsz,s2,hnl,g4];omega);simp only[aJ]at ex;rw[ex,hsz]at hrun;refine⟨⟨(b,o,c,cells.take o,cap),by simp only[aw];omega,fun e he=>cY he,hroom,hcap⟩,_,_,ik ho rfl rfl hrun,?_,?_⟩
   ·have hp:ic [b] w (w.setRow b (cur.toList.take (o+n * ti.size)++vs++cur.toList.drop (o+n * ti.size+vs.length)).toArray):=⟨rfl,rfl,rfl,by simp[World.setRow],fun k _ hk=>setRow_other w b k _ (by simpa using hk)⟩;have Zh:cells.take o++((cells.drop o).take (n * ti.size)++news')=cells.take (o+n * ti.size)++news':=by
     rw[←bU];congr 1;rw[List.take_add]
    rw[Zh];have hl1:(cells.take (o+n * ti.size)).length=o+n * ti.size:=by rw[aw];omega
    have hl2:(cur.toList.take (o+n * ti.size)).length=o+n * ti.size:=by rw[aw,bj];omega
    refine vp hs hsub hp (fun y hy=>by simpa using hy) g1 (hs.fR.new id _ b hr (.inl rfl)) (fun k r hkr hbr=>?_) (setRow_heap w b cur _ _ _ g3) ?_ ?_ (fun e he=>?_) (fun j e x hj hx=>?_)
    ·rw[o9]at hkr;split at hkr
     ·cases hkr
     rename_i hne;exact hne (hs.fR.own.apart k id r _ b hkr hr hbr rfl)
    ·show _=cap;simp only[dc,ag,aw,aR,bj];omega
    ·show _≤cap;rw[ag,hl1,hnl];omega
    ·rcases aK.1 he with he | he
     ·exact Ri e (cY he)
     exact s3 e he
    simp only[cF];rw[bU,cy];rw[cy]at hj;rw[hl1]at hj;rw[hl2];split
    ·rename_i hlo;rw[aZ hlo,cE,aZ hlo]at hj;rw[cE,aZ hlo];simpa using g5 j e x hj hx
    rename_i hlo;rw[aY hlo]at hj;have:=s4 _ e x hj hx;rw[List.getElem?_append_left (cC.1 this).1];exact this
   simp only[EV.val,fb,dF,aJ]
 have hold: ∃BD:List Value,BD.length=n * ti.size∧(Builtin.firstCells ti.size n (.slice (gq.map fun b=>⟨b,o,none⟩) n c)).run P w.drew= .ok BD.toArray w.drew∧ ∀(j:Nat) (e:EV) (x:Value),((cells.drop o).take (n * ti.size))[j]? =some e→e.val rs=some x→BD[j]? =some x:=by
  cases gq with
  | none=>
   obtain⟨h1,h2,h3⟩:=hok rfl;subst h1 h2 h3;refine⟨[],by simp,run_firstCells_none (P:=P) w.drew ti.size 0 0 0,fun j e x hj=>by simp at hj⟩
  | some b=>
   obtain⟨BD,v1,v2,v3⟩:=sq hs hr rfl (o:=o) (k:=n * ti.size) (by simpa using hcl);refine⟨BD,v1,run_firstCells_some (P:=P) w.drew ti.size n ⟨b,o,none⟩ n c BD v1 (fun j u hj=>by rw[Addr.add_lit];exact v2 j u hj),fun j e x hj hx=>v3 j e x (by
    rw[List.drop_take];have:o+n * ti.size - o=n * ti.size:=by omega
    rw[this];exact hj) hx⟩
 obtain⟨BD,v1,v2,v3⟩:=hold;rw[←hsz]at v2;have hg:c<n+m':=by omega
 have hrun:=run_append_grow_src (P:=P) w t1 t2 op.type e i z hut hinfo hz (gq.map fun b=>⟨b,o,none⟩) n c BD v2 (a.eval y) m' vs (by rw[hsz];exact s1) hg (by omega) (growslice_fits hg (by rw[Zg];exact hby));rw[ex]at hrun;have hge:=grownCap_ge w (n+m') c e;refine⟨⟨(w.heap.size,0,grownCap w (n+m') c e,[],grownCap w (n+m') c e * ti.size),rfl,(fun e he=>by cases he),hge,by simp only[aP];exact ah _⟩,_,_,ik ho rfl rfl hrun,?_,?_⟩
 ·have:=yG hs hsub (cells:=(cells.drop o).take (n * ti.size)++news') (xs:=BD++vs) (rest:=Builtin.zeroCells z.cells (grownCap w (n+m') c e - (n+m'))) (e:=e) (cap:=grownCap w (n+m') c e * ti.size) (by rw[ag,ag,v1,s2,hlen]) (by
   rw[ag,v1,s2,hnl,size_zeroCells,hzs,hz0,←dg,←dg];congr 1;omega) (fun e he=>by
    rcases aK.1 he with he | he
    ·exact Ri e (cX (cY he))
    ·exact s3 e he) (fun j e x hj hx=>by
    rw[cy]at hj ⊢;rw[hlen]at hj;rw[v1];split
    ·rename_i hlo;rw[aZ hlo]at hj;exact v3 j e x hj hx
    rename_i hlo;rw[aY hlo]at hj;exact s4 _ e x hj hx)
  simp only[c7];exact this
 simp only[EV.val,fb,dF,aJ]
end Go.TR
namespace Go.Proofs.YthbnddgjkonkdaaGreatDoor
section
open Go.TR
theorem fZ {G:Prop}{H:Unit→Prop}(k:H ())(h: ∀u,H u→G:=by
 intro u
 repeat (first
  | refine iH (Go.TR.Dq rfl rfl rfl) ?_ | refine iH (Go.TR.IX rfl rfl) ?_ | refine iH (Go.TR.xy rfl rfl rfl) ?_ | refine iH (Go.TR.tf rfl rfl rfl) ?_
  | refine iH (Go.TR.rn rfl rfl rfl) ?_ | refine iH (Go.TR.rz rfl rfl rfl rfl rfl) ?_ | refine iH (Go.TR.qA rfl rfl rfl rfl rfl) ?_ | refine iH (Go.TR.Df rfl rfl rfl rfl rfl) ?_
  | refine iH (Go.TR.Hz rfl rfl rfl rfl) ?_ | refine iH (Go.TR.CF rfl) ?_ | refine iH (Go.TR.Cv rfl rfl rfl rfl) ?_ | refine iH (Go.TR.HQ rfl rfl rfl) ?_
  | refine iH (Go.TR.xB rfl rfl) ?_ | refine iH (Go.TR.B3 rfl rfl) ?_ | refine iH (Go.TR.Cd rfl rfl rfl rfl) ?_ | refine iH (Go.TR.HG rfl rfl rfl) ?_
  | refine iH Go.TR.Mp ?_ | refine iH Go.TR.Hm ?_ | refine iH Go.TR.Gv ?_ | refine iH Go.TR.HR ?_
  | refine iH Go.TR.Hd ?_ | refine iH Go.TR.HT ?_ | refine iH Go.TR.LV ?_ | refine iH Go.TR.lV ?_
  | refine iH Go.TR.Dr ?_ | refine iH Go.TR.xN ?_ | refine iH Go.TR.xZ ?_ | refine iH Go.TR.yr ?_
  | refine iH (Go.TR.yT rfl) ?_ | refine iH Go.TR.Hc ?_ | refine iH Go.TR.Lv ?_ | refine iH Go.TR.GV ?_
  | (refine' B2 (Go.TR.LW rfl rfl rfl rfl) (fun b=>?_);rotate_left) | (refine' B2 (Go.TR.uq rfl rfl rfl rfl) (fun b=>?_);rotate_left) | refine iH (Go.TR.CB rfl) ?_ | refine iH (Go.TR.CQ rfl) ?_
  | (refine' B2 (Go.TR.zj rfl rfl rfl rfl rfl rfl rfl rfl) (fun b=>?_);rotate_left) | refine iH Go.TR.C4 ?_ | refine iH Go.TR.BO ?_ | refine iH Go.TR.yH ?_
  | refine iH Go.TR.ze ?_ | refine iH (Go.TR.dL rfl rfl rfl (by decide)) ?_ | refine iH (Go.TR.iz rfl rfl rfl rfl rfl (fun _=>by decide)) ?_)
 exact fun h=>h):G:=h () k
theorem fT (rs rs':RL): ∀l:List Value,ES rs rs' (l.map EV.v)
 | []=>trivial
 | _::l=>⟨rfl,fT rs rs' l⟩
theorem OH {P:Program}{tb:Tb}{N:Nat}{g:fe}{st:St}{ops:Array Oper}{kept:List Nat}{K:St→Prop}{m f':Nat}{done:Array Bool}{lo:List Oper}(i j k:Nat){o o' o2:Oper}(hr:Region.ready .any ops done=[i,j,k])(hlo:ops.toList=lo)(ho:lo[i]? =some o)(ho':lo[j]? =some o')(ho2:lo[k]? =some o2)(h1:dW P tb N false lo [o] (jt kept st.F st.rs (fv P tb N ops kept K m f' (done.setIfInBounds i true))) g st)
  (h2:dW P tb N false lo [o'] (jt kept st.F st.rs (fv P tb N ops kept K m f' (done.setIfInBounds j true))) g st) (h3:dW P tb N false lo [o2] (jt kept st.F st.rs (fv P tb N ops kept K m f' (done.setIfInBounds k true))) g st):fv P tb N ops kept K (m+1) (f'+1) done g st:=by
 subst hlo;refine .inr (.inr ⟨f',rfl,by rw[hr];simp,fun q hq=>?_⟩);rw[hr]at hq;obtain⟨d,op,ty,pos,af,gd⟩:=o;obtain⟨d',op',ty',pos',YO,YP⟩:=o';obtain⟨d2,op2,Ta,Zd,af2,gd2⟩:=o2;simp only[aT,da,dH]at hq;rcases hq with rfl | rfl | rfl
 ·exact⟨⟨d,op,ty,pos,af,gd⟩,by simpa using ho,h1⟩
 ·exact⟨⟨d',op',ty',pos',YO,YP⟩,by simpa using ho',h2⟩
 exact⟨⟨d2,op2,Ta,Zd,af2,gd2⟩,by simpa using ho2,h3⟩
structure jk where
 o:Ow
 p:Option Addr
 c:Nat
@[reducible] def jk.row (x:jk):List Value:=[S x.o.name,u64 (x.o.key:Nat),i64 x.o.head.dZ,u64 (x.o.head.root:Nat),u64 (x.o.head.prev:Nat),i64 x.o.head.at_,.slice x.p x.o.wanted.length x.c,i64 x.o.jD]
theorem gZ (x:jk):x.row.length=8:=rfl
def jk.at (F:Hp)(x:jk):Prop:=e9 F x.p (x.o.wanted.map S)
theorem jk.e8 {F F':Hp}(h:F.sub F'){x:jk}(k:x.at F):x.at F':=eu h k
@[reducible] def Poll.row (p:Poll):List Value:=[i64 p.least,i64 p.most,i64 p.lost,i64 p.nJ,i64 p.next,i64 p.asked]
theorem iR (p:Poll):p.row.length=6:=rfl
structure oC where
 f:List Int
 p:Option Addr
 c:Nat
@[reducible] def oC.v (x:oC):Value:=.slice x.p x.f.length x.c
def oC.at (F:Hp)(x:oC):Prop:=e9 F x.p (x.f.map i64)
theorem oC.e8 {F F':Hp}(h:F.sub F'){x:oC}(k:x.at F):x.at F':=eu h k
structure Fr where
 b:Nat
 cells:List Value
 ty:TypeId
 cap:Nat
structure TL where
 dI:eI
 cl:ji
 dN:List jk
 polls:List Poll
 fN:NP
 reach:Int
 jb:List Value
 fo:Nat
 ej:List oC
 events:List lW
 b0:Nat
 bo:Option Nat
 co:Nat
 bp:Option Nat
 cp:Nat
 bf:Option Nat
 cf:Nat
 xf:Nat
 be:Option Nat
 ce:Nat
def TL.t (s:TL):fr:=⟨s.dI,s.dN.map jk.o,s.polls,s.fN.now,s.fN.gE.map LP.l,s.reach,s.ej.map oC.f,s.events⟩
structure TL.at (s:TL) (F:Hp):Prop where
 dI:s.dI.at F s.cl
 dN: ∀x∈s.dN,x.at F
 fN:s.fN.at F
 ej: ∀x∈s.ej,x.at F
 xi:(s.jb.drop s.fo).take s.ej.length=s.ej.map oC.v
 zg:s.fo+s.ej.length≤s.jb.length
 zQ:s.fo+s.cf≤s.xf
 OP:s.ej.length≤s.cf
 vP:s.bf=none→s.fo=0∧s.ej.length=0∧s.cf=0
 rq:s.bo=none→s.dN.length=0∧s.co=0
 It:s.dN.length≤s.co
 w9:s.bp=none→s.polls.length=0∧s.cp=0
 K8:s.polls.length≤s.cp
 vo:s.be=none→s.events.length=0∧s.ce=0
 Ks:s.events.length≤s.ce
@[reducible] def TL.cells (s:TL) (n1 n2 n3 n4:Nat):List EV:=[.v (i64 s.dI.queue.most),.v (.slice s.cl.w s.dI.queue.wait.length s.cl.cw),.v (i64 s.dI.batch),.v (i64 s.dI.every),.v (i64 s.dI.now),.v (.slice s.cl.h s.dI.dS.length s.cl.ch),.v (.slice s.cl.b s.dI.ez.length s.cl.cb),.row n1 0 s.dN.length s.co,.row n2 0 s.polls.length s.cp,.v (i64 s.fN.now),.v (.slice s.fN.p s.fN.gE.length s.fN.c),.v (i64 s.reach),.row n3 s.fo s.ej.length s.cf,.row n4 0 s.events.length s.ce]
@[reducible] def TL.rs (s:TL) (z:Fr):RL:=[(5,⟨some z.b,z.cells.map EV.v,z.ty,z.cap⟩),(4,⟨s.be,(s.events.flatMap lW.row).map EV.v,167,s.ce * 4⟩),(3,⟨s.bf,s.jb.map EV.v,69,s.xf⟩),(2,⟨s.bp,(s.polls.flatMap Poll.row).map EV.v,159,s.cp * 6⟩),(1,⟨s.bo,(s.dN.flatMap jk.row).map EV.v,76,s.co * 8⟩),(0,⟨some s.b0,s.cells 1 2 3 4,140,14⟩)]
theorem TL.gW (n:Nat)(s:TL)(z:Fr):gD n (s.rs z)=[(n+5,⟨some z.b,z.cells.map EV.v,z.ty,z.cap⟩),(n+4,⟨s.be,(s.events.flatMap lW.row).map EV.v,167,s.ce * 4⟩),(n+3,⟨s.bf,s.jb.map EV.v,69,s.xf⟩),(n+2,⟨s.bp,(s.polls.flatMap Poll.row).map EV.v,159,s.cp * 6⟩),(n+1,⟨s.bo,(s.dN.flatMap jk.row).map EV.v,76,s.co * 8⟩),(n,⟨some s.b0,s.cells (n+1) (n+2) (n+3) (n+4),140,14⟩)]:=by
 unfold gD gY TL.rs;simp only[a9,cP,qd];rfl
theorem TL.e8 {F F':Hp}(h:F.sub F'){s:TL}(k:s.at F):s.at F':=
 ⟨eI.e8 h k.dI,fun x hx=>jk.e8 h (k.dN x hx),NP.e8 h k.fN,fun x hx=>oC.e8 h (k.ej x hx),k.xi,k.zg,k.zQ,k.OP,k.vP,k.rq,k.It,k.w9,k.K8,k.vo,k.Ks⟩
def Wn (s:TL)(z:Fr)(F:Hp)(v:Value)(t':fr)(e:EV)(F':Hp)(r:RL)(k:Nat):Prop:=
 e= .v v∧k=6∧F.sub F'∧ ∃s':TL,s'.t=t'∧s'.at F'∧s'.b0=s.b0∧r=s'.rs z
def ox (s:TL)(z:Fr)(F:Hp)(f:FuncId)(xs:List Value)(t':fr):Prop:=
 eX Tryz.prog F (s.rs z) 6 f (.loc 0 0::xs.map EV.v) (fun e F' rs' nx'=>∃r k e0,rs'=gD 6 r∧nx'=6+k∧e=g8 6 e0∧Wn s z F (.tuple #[]) t' e0 F' r k)
theorem ox.at {s:TL}{z:Fr}{F:Hp}{f:FuncId}{xs:List Value}{t':fr}(h:ox s z F f xs t'){P3:RL}{nx2:Nat}(ρ:List (Nat×Nat))(i0:Nat)(hr:lR ρ P3 ρ (s.rs z))(h0:pZ ρ (.loc i0 0)=some (.loc 0 0))(h1:o8 ρ []=true)(h2:px ρ []=true)(h3:vm 0 6 ρ=true)(hm:6≤nx2):
  eX Tryz.prog F P3 nx2 f (.loc i0 0::xs.map EV.v) (fun e F' rs' nx'=>e= .v (.tuple #[])∧F.sub F'∧nx'=nx2+6∧ ∃s':TL,s'.t=t'∧s'.at F'∧s'.b0=s.b0∧rs'=gD nx2 (s'.rs z)):=by
 have hx:sD ρ (xs.map EV.v)=some (xs.map EV.v):=by
  clear h
  induction xs with
  | nil=>rfl
  | cons a l ih=>simp only[a9,sD,pZ,ih]
 refine (eX.named (m:=nx2 - 6) (nx2:=nx2) (vD:=s.rs z) (args2:=.loc i0 0::xs.map EV.v) (args:=.loc 0 0::xs.map EV.v) ρ h hr rfl (by simp only[sD,h0,hx]) ?_ h1 h2 h3 (by omega) A4).mono fun e F' rs' nx' hq=>?_
 ·have e1:EV.val (s.rs z) (.loc 0 0)=some (.pointer (some ⟨s.b0,0,none⟩)):=rfl;simp only[iZ,e1,eH];rfl
 obtain⟨e0,W7,W8,⟨r,k,e1,rfl,rfl,rfl,rfl,rfl,hs,s',ht,ha,hb,rfl⟩,rfl,rfl,rfl⟩:=hq;refine⟨rfl,hs,by omega,s',ht,ha,hb,?_⟩;rw[yD];congr 1;omega
theorem iM {N:Nat}{s s':TL}{z:Fr}{F0 F:Hp}{t':fr}{env:Env}{rs:RL}{nx:Nat}(m:Nat)(ρ:List (Nat×Nat))(hr:lR ρ rs ρ (gD m (s'.rs z)))(h1:o8 ρ []=true)(h2:px ρ []=true)(h3:vm nx (m+6) ρ=true)(h4:Nat.ble nx (m+6)=true)(hF:F0.sub F)(ht:s'.t=t')(ha:s'.at F)(hb:s'.b0=s.b0):VS N [] ⟨env,F,rs,nx⟩ fun st'=>∃e,xL tb st' []=some e∧(∃i r k e0,st'.rs=gD i r∧st'.nx=i+k∧e=g8 i e0∧Wn s z F0 (.tuple #[]) t' e0 st'.F r k):=
 VS.mP ρ [] _ hr rfl rfl h1 h2 h3 h4 ⟨.v (.tuple #[]),rfl,m,s'.rs z,6,.v (.tuple #[]),rfl,rfl,rfl,rfl,rfl,hF,s',ht,ha,hb,rfl⟩
end
section
open Go.TR
theorem PY (l:List LP)(x:LP):((l++[x]).flatMap LP.row).map EV.v=(l.flatMap LP.row).map EV.v++x.row.map EV.v:=by simp
theorem nO (l:List LP)(x:LP)(k:Nat)(h:l.length=k):((l.flatMap LP.row).map EV.v).take (k * 12)++x.row.map EV.v=((l++[x]).flatMap LP.row).map EV.v:=by
 rw[PY,an (by rw[ab,dO je,h];exact ah _)]
attribute [local irreducible] vc dW gz fg fD gF gJ gB fJ Plain eD eX dK VS fv fA fG jt fh IntKind.wrap
set_option maxRecDepth 100000
theorem Km (cs:List Value)(n:Nat){p:Option Addr}{c:Nat}{F:Hp}(hl:cs.length=n * 1)(hf:e9 F p cs)(h1: ∀x∈cs,Go.TR.one (.v x)=true)(hb:n * 8≤140737488355328):eD Tryz.prog F 234 [.slice p n c] (fun x _ new=>mC 33 1 cs n x new):=by
 refine fW (N:=8) (rv:=[.tmp 2]) eW mixed Tryz.func234 rfl rfl rfl rfl rfl ?_;(refine run ?_;repeat intro b);refine qg (b:=p.isNone) eW rfl rfl rfl ?_;cases p with
 | none=>
  have hn:n=0:=by
   rcases dk n with h | h
   ·exact h
   have:=dR hf (j:=0) (by rw[hl];omega);cases this
  subst hn;(refine run ?_;repeat intro b);refine eU (VS.id ⟨_,rfl,.inl ⟨rfl,rfl,none,rfl⟩⟩)
 | some a=>
  (refine run ?_;repeat intro b);refine fy rfl rfl rfl rfl rfl rfl rfl rfl (iX hl hf) (gC _ h1) (fun h=>by cases h) (ah 0) rfl (az _) (by show (0+n) * 8≤_;omega) (fun hn=>?_) (fun hn b2 c2 hc2=>?_)
  ·subst hn;(refine run ?_;repeat intro b);refine eU ?_;refine VS.freeze 0 [2] rfl (cs:=[]) rfl rfl rfl fun F' hs1 hf1=>VS.id ⟨_,rfl,.inl ⟨rfl,rfl,_,rfl⟩⟩
  (refine run ?_;repeat intro b);simp only[aP]at hc2 ⊢;refine mH (qQ.mP (nx':=1) [(1,0)] [2] [(0,⟨some b2,cs.map EV.v,33,c2 * 1⟩)] (fi ⟨_,rfl,rfl,rfl,rfl,.inl ⟨rfl,fun e he=>fz _ e he⟩⟩ trivial) rfl rfl rfl rfl rfl rfl ⟨_,rfl,.inr ⟨hn,b2,c2,hc2,rfl,rfl⟩⟩)
theorem L8 (cs:List Value)(n:Nat){p:Option Addr}{c:Nat}{F:Hp}(hl:cs.length=n * 4)(hf:e9 F p cs)(h1: ∀x∈cs,Go.TR.one (.v x)=true)(hb:n * 32≤140737488355328):eD Tryz.prog F 58 [.slice p n c] (fun x _ new=>mC 41 4 cs n x new):=by
 refine fW (N:=8) (rv:=[.tmp 2]) eW mixed Tryz.func58 rfl rfl rfl rfl rfl ?_;(refine run ?_;repeat intro b);refine qg (b:=p.isNone) eW rfl rfl rfl ?_;cases p with
 | none=>
  have hn:n=0:=by
   rcases dk n with h | h
   ·exact h
   have:=dR hf (j:=0) (by rw[hl];omega);cases this
  subst hn;(refine run ?_;repeat intro b);refine eU (VS.id ⟨_,rfl,.inl ⟨rfl,rfl,none,rfl⟩⟩)
 | some a=>
  (refine run ?_;repeat intro b);refine fy rfl rfl rfl rfl rfl rfl rfl rfl (iX hl hf) (gC _ h1) (fun h=>by cases h) (ah 0) rfl (az _) (by show (0+n) * 32≤_;omega) (fun hn=>?_) (fun hn b2 c2 hc2=>?_)
  ·subst hn;(refine run ?_;repeat intro b);refine eU ?_;refine VS.freeze 0 [2] rfl (cs:=[]) rfl rfl rfl fun F' hs1 hf1=>VS.id ⟨_,rfl,.inl ⟨rfl,rfl,_,rfl⟩⟩
  (refine run ?_;repeat intro b);simp only[aP]at hc2 ⊢;refine mH (qQ.mP (nx':=1) [(1,0)] [2] [(0,⟨some b2,cs.map EV.v,41,c2 * 4⟩)] (fi ⟨_,rfl,rfl,rfl,rfl,.inl ⟨rfl,fun e he=>fz _ e he⟩⟩ trivial) rfl rfl rfl rfl rfl rfl ⟨_,rfl,.inr ⟨hn,b2,c2,hc2,rfl,rfl⟩⟩)
theorem LQ (cs:List Value)(n:Nat){p:Option Addr}{c:Nat}{F:Hp}(hl:cs.length=n * 2)(hf:e9 F p cs)(h1: ∀x∈cs,Go.TR.one (.v x)=true)(hb:n * 32≤140737488355328):eD Tryz.prog F 43 [.slice p n c] (fun x _ new=>mC 122 2 cs n x new):=by
 refine fW (N:=8) (rv:=[.tmp 2]) eW mixed Tryz.func43 rfl rfl rfl rfl rfl ?_;(refine run ?_;repeat intro b);refine qg (b:=p.isNone) eW rfl rfl rfl ?_;cases p with
 | none=>
  have hn:n=0:=by
   rcases dk n with h | h
   ·exact h
   have:=dR hf (j:=0) (by rw[hl];omega);cases this
  subst hn;(refine run ?_;repeat intro b);refine eU (VS.id ⟨_,rfl,.inl ⟨rfl,rfl,none,rfl⟩⟩)
 | some a=>
  (refine run ?_;repeat intro b);refine fy rfl rfl rfl rfl rfl rfl rfl rfl (iX hl hf) (gC _ h1) (fun h=>by cases h) (ah 0) rfl (az _) (by show (0+n) * 32≤_;omega) (fun hn=>?_) (fun hn b2 c2 hc2=>?_)
  ·subst hn;(refine run ?_;repeat intro b);refine eU ?_;refine VS.freeze 0 [2] rfl (cs:=[]) rfl rfl rfl fun F' hs1 hf1=>VS.id ⟨_,rfl,.inl ⟨rfl,rfl,_,rfl⟩⟩
  (refine run ?_;repeat intro b);simp only[aP]at hc2 ⊢;refine mH (qQ.mP (nx':=1) [(1,0)] [2] [(0,⟨some b2,cs.map EV.v,122,c2 * 2⟩)] (fi ⟨_,rfl,rfl,rfl,rfl,.inl ⟨rfl,fun e he=>fz _ e he⟩⟩ trivial) rfl rfl rfl rfl rfl rfl ⟨_,rfl,.inr ⟨hn,b2,c2,hc2,rfl,rfl⟩⟩)
theorem Me (q:LP→Bool)(g:Nat)(lb:Array Value)(hb:dK Tryz.prog g)(l:List LP){p:Option Addr}{c:Nat}{F:Hp}(hf:e9 F p (l.flatMap LP.row))(hl:l.length≤4611686018427387904)(hp: ∀x∈l,Plain Tryz.prog F g (.agg (LP.row x).toArray::lb.toList) (.bool (q x))):
  Plain Tryz.prog F 274 [.slice p l.length c,.func (.func g) #[] lb] (i64 (oy q l)):=by
 refine dQ (N:=19) (rv:=[.tmp 4]) eW mixed Tryz.func274 rfl rfl rfl rfl rfl ?_;(refine run ?_;repeat intro b);refine eY (fun k:Nat=>k≤l.length∧(l.take k).any q=false) (fun k=>⟨[(0,.v (.slice p l.length c)),(1,.v (.func (.func g) #[] lb)),(7,.v (i64 (l.length:Nat))),(8,.v (i64 (k:Nat)))],F,[],0⟩) (fun k=>l.length - k) 0 ⟨az _,rfl⟩ (VS.eL [0,1,7,8] rfl rfl) ?_;rintro k ⟨hk,hany⟩;(refine run ?_;repeat intro b);refine eE _ rfl (fun h=>?_) (fun h=>?_)
 ·have hlt:k<l.length:=by simpa using h
  obtain⟨o1,o2⟩:=fa je (by decide) hf k hlt;(refine run ?_;repeat intro b);refine dL rfl rfl rfl ⟨by omega,by omega,dR hf (j:=k * 12) (by rw[dO je];omega)⟩ ?_;refine fB (LP.row l[k]) rfl rfl rfl rfl rfl (by rw[ae];exact o1) (by rw[ae];exact o2) ?_;(refine run ?_;repeat intro b);refine dJ _ rfl rfl (by rw[fE];rfl) hb rfl (hp l[k] (aj hlt)) ?_;(refine run ?_;repeat intro b);refine eE _ rfl (fun h2=>?_) (fun h2=>?_)
  ·(refine run ?_;repeat intro b);rw[k8 hlt hany h2];rfl
  (refine run ?_;repeat intro b);rw[dT (by omega)];refine fp (k+1) ⟨hlt,?_⟩ (by omega) (VS.eL [0,1,7,8] rfl rfl);rw[al hlt,bK,hany];simp[h2]
 have hge:k=l.length:=by
  have: ¬k<l.length:=by simpa using h
  omega
 subst hge;rw[aD]at hany;(refine run ?_;repeat intro b);rw[lu hany];rfl
theorem LJ (q:LP→Bool)(g:Nat)(lb:Array Value)(hb:dK Tryz.prog g)(l:List LP){p:Option Addr}{c:Nat}{F:Hp}(hf:e9 F p (l.flatMap LP.row))(hl:l.length≤4611686018427387904)(hp: ∀x∈l,Plain Tryz.prog F g (.agg (LP.row x).toArray::lb.toList) (.bool (q x))):
  Plain Tryz.prog F 231 [.slice p l.length c,.func (.func g) #[] lb] (.bool (l.any q)):=by
 refine dQ (N:=9) (rv:=[.tmp 4]) eW mixed Tryz.func231 rfl rfl rfl rfl rfl ?_;(refine run ?_;repeat intro b);refine dJ _ rfl rfl rfl Wr rfl (Me q g lb hb l hf hl hp) ?_;(refine run ?_;repeat intro b);rw[nY];rfl
set_option maxHeartbeats 4000000
theorem L6 (x:LP){F:Hp}(hw:x.l.wf)(hx:x.at F):iy Tryz.prog F 174 [.agg x.row.toArray] (fun v F'=>∃y:LP,v= .agg y.row.toArray∧y.l=x.l∧y.at F'):=by
 refine eD.drop (fW (N:=24) (rv:=[.cell 2 71]) eW mixed Tryz.func174 rfl rfl rfl rfl rfl ?_);(refine run ?_;repeat intro b);refine fm rfl rfl rfl MZ rfl (eD.Mu (fun h=>by rw[aq h];rfl) (L8 _ _ (dO eZ _) hx.dS (oZ _) hw.dS)) ?_;rintro _ F1 hF1 ⟨p1,c1,rfl,_,h1⟩;(refine run ?_;repeat intro b);refine fm rfl rfl rfl D6 rfl (eD.Mu (fun h=>by rw[aq h];rfl) (LQ _ _ (dO eM _) (eu hF1 hx.nL.gg) (iN _) hw.gg)) ?_;rintro _ F2 hF2 ⟨p2,c2,rfl,_,h2⟩;(refine run ?_;repeat intro b);refine fm rfl rfl rfl Vm rfl (eD.Mu (fun h=>by rw[aq h];rfl) (Km (x.l.nL.fF.map mu) x.l.nL.fF.length (by rw[ab,aA]) (eu (hF1.trans hF2) hx.nL.fF) (fun v hv=>by obtain⟨m,_,rfl⟩:=aG.1 hv;rfl) hw.fF)) ?_;rintro _ F3 FX ⟨p3,c3,rfl,_,h3⟩;(refine run ?_;repeat intro b);exact eU (VS.id ⟨_,rfl,⟨x.l,p1,c1,⟨p2,c2,p3,c3⟩⟩,rfl,rfl,⟨eu (hF2.trans FX) h1,⟨eu FX h2,h3⟩⟩⟩)
theorem yf (L:List LP)(hL:L.length≤60){p:Option Addr}{c:Nat}{F:Hp}(hw: ∀x∈L,x.l.wf)(hf:e9 F p (L.flatMap LP.row))(ha: ∀x∈L,x.at F):
  eD Tryz.prog F 173 [.slice p L.length c] (fun v F' new=>∃cs,MC 71 12 cs L.length v new∧ ∃M:List LP,cs=M.flatMap LP.row∧M.map LP.l=L.map LP.l∧ ∀x∈M,x.at F'):=by
 refine fW (N:=19) (rv:=[.tmp 2]) eW mixed Tryz.func173 rfl rfl rfl rfl rfl ?_;(refine run ?_;repeat intro b);refine eY (fun q:Nat×List LP×Hp×Option Nat×Nat=>q.1≤L.length∧q.2.1.map LP.l=(L.take q.1).map LP.l∧(∀x∈q.2.1,x.at q.2.2.1)∧F.sub q.2.2.1∧(q.2.2.2.1=none→q.1=0∧q.2.2.2.2=0)∧q.1≤q.2.2.2.2)
  (fun q=>⟨[(3,.row 0 0 q.1 q.2.2.2.2),(6,.v (.slice p L.length c)),(7,.v (i64 (L.length:Nat))),(8,.v (i64 (q.1:Nat)))],q.2.2.1,[(0,⟨q.2.2.2.1,(q.2.1.flatMap LP.row).map EV.v,71,q.2.2.2.2 * 12⟩)],1⟩) (fun q=>L.length - q.1) (0,[],F,none,0) ⟨az _,rfl,by simp,Hp.sub.refl _,fun _=>⟨rfl,rfl⟩,ah _⟩ (VS.og 3 71 [6,7,8] rfl rfl (VS.id rfl)) ?_
 rintro⟨k,M,F1,gq,cap⟩ ⟨h1,h2,h3,h4,h5,h6⟩;dsimp only at h1 h2 h3 h4 h5 h6 ⊢;have hM:M.length=k:=by
  have:=a8 List.length h2;simp only[ab,aw]at this;omega
 by_cases hlt:k<L.length
 ·obtain⟨o1,o2⟩:=fa je (by decide) (eu h4 hf) k hlt;have wx:=hw _ (aj hlt);have ax:=LP.e8 h4 (ha _ (aj hlt));have h2':(M.map LP.l)++[L[k].l]=(L.take (k+1)).map LP.l:=by rw[h2,al hlt,aF];rfl
  generalize L[k]=x at o2 wx ax h2';(refine run ?_;repeat intro b);refine gw rfl (by omega) ?_;(refine run ?_;repeat intro b);refine dL rfl rfl rfl ⟨by omega,by omega,dR hf (j:=k * 12) (by rw[dO je];omega)⟩ ?_;refine fB x.row rfl rfl rfl rfl rfl (by rw[ae];exact o1) (by rw[ae];exact o2) ?_;(refine run ?_;repeat intro b);refine fm rfl rfl rfl QB rfl (L6 x wx ax) ?_;rintro _ F2 hF2 ⟨y,rfl,ey,ay⟩;(refine run ?_;repeat intro b);refine fy rfl rfl rfl rfl rfl rfl rfl rfl (ff rfl rfl) (gC _ (qn [y])) h5 h6 rfl (by rw[ab,dO je,hM];exact ah _) (by show _ * 152≤_;omega) (fun h=>by cases h) (fun _ b2 c2 hc2=>?_);(refine run ?_;repeat intro b);have hcells:=nO M y k hM;rw[dT (by omega)];exact fH (k+1,M++[y],F2,some b2,c2) 0 [(3,0)] [3,6,7,8] [(0,⟨some b2,((M++[y]).flatMap LP.row).map EV.v,71,c2 * 12⟩)]
   ⟨hlt,by rw[aF,←h2',←ey];rfl,fun z hz=>by rcases aK.1 hz with hz | hz;exact LP.e8 hF2 (h3 z hz);rw[aB.1 hz];exact ay,h4.trans hF2,(fun h=>by cases h),hc2⟩ (by simp only;omega) (aM _ _)
   (fi ⟨_,rfl,rfl,rfl,rfl,.inl ⟨hcells.symm,fun e he=>fz _ e (hcells ▸ he)⟩⟩ trivial) rfl rfl rfl rfl rfl rfl rfl
 have hge:k=L.length:=by omega
 subst hge;rw[aD]at h2;(refine run ?_;repeat intro b);refine gy rfl (by omega) ?_;(refine run ?_;repeat intro b);exact eU (VS.eL [2] rfl ⟨_,rfl,_,⟨gq,cap,h6,h5,rfl,rfl⟩,M,rfl,h2,h3⟩)
theorem Jn (L:List LP)(hL:L.length≤60){p:Option Addr}{c:Nat}{F:Hp}(hw: ∀x∈L,x.l.wf)(hf:e9 F p (L.flatMap LP.row))(ha: ∀x∈L,x.at F):
  iy Tryz.prog F 173 [.slice p L.length c] (fun v F'=>∃(M:List LP) (p':Option Addr) (c':Nat),v= .slice p' L.length c'∧e9 F' p' (M.flatMap LP.row)∧M.map LP.l=L.map LP.l∧ ∀x∈M,x.at F'):=by
 refine iy.Uc (eD.At (fun F F' cs hs hr=>?_) (fun F cs hn hr=>?_) (yf L hL hw hf ha)) fun x F' _ h=>?_
 ·obtain⟨M,e1,e2,e3⟩:=hr;exact⟨M,e1,e2,fun x hx=>LP.e8 hs (e3 x hx)⟩
 ·obtain⟨M,e1,e2,_⟩:=hr;have:M.length=0:=by
   have:=a8 List.length e2;simp only[ab]at this;omega
  rw[e1,aq this];rfl
 obtain⟨p',c',cs,rfl,_,h2,M,rfl,h3,h4⟩:=h;exact⟨M,p',c',rfl,h2,h3,h4⟩
theorem Ll (x:LP)(now:Int){pn:Option Addr}{s:Value}{F:Hp}(hn:e9 F pn [i64 now,s]):Plain Tryz.prog F 232 [.agg x.row.toArray,.pointer pn] (.bool (decide (x.l.due≤now))):=by
 have g:=hn 0 _ rfl;have g0:=dR hn (j:=0) (Nat.zero_lt_succ _);refine dQ (N:=9) (rv:=[.tmp 3]) eW mixed Tryz.func232 rfl rfl rfl rfl rfl ?_;(refine run ?_;repeat intro b);refine dL rfl rfl rfl g0 ?_;refine fw (i64 now) rfl rfl rfl rfl g ?_;(refine run ?_;repeat intro b);rfl
theorem v9 (n:NP){F:Hp}(hl:n.gE.length≤4611686018427387904)(hn:n.at F):Plain Tryz.prog F 170 [n.v] (i64 (gG n)):=by
 refine dQ (N:=22) (rv:=[.tmp 2]) eW mixed Tryz.func170 rfl rfl rfl rfl rfl ?_;(refine run ?_;repeat intro b);refine eE (decide (n.now<0∨1000000000<n.now)) ?_ (fun h=>?_) (fun h=>?_)
 ·refine dV ?_;rw[fx,Bool.decide_or]
 ·have e:gG n=4:=by unfold gG;rw[aZ (ar h)]
  rw[e];(refine run ?_;repeat intro b);rfl
 have h1:=au h;(refine run ?_;repeat intro b);refine eE (decide (60<n.gE.length)) ?_ (fun h=>?_) (fun h=>?_)
 ·refine dV ?_;rw[ai];simp;omega
 ·have e:gG n=7:=by unfold gG;rw[aY h1,aZ (ar h)]
  rw[e];(refine run ?_;repeat intro b);rfl
 have e:gG n=if (n.gE.any fun x=>decide (x.l.due≤n.now))=true then 4 else 0:=by unfold gG;rw[aY h1,aY (au h)]
 rw[e];(refine run ?_;repeat intro b);refine fX (VS.freeze 0 [19,20] rfl rfl rfl rfl fun F1 hs1 hf1=>VS.id ?_);refine dJ _ rfl rfl rfl Vu rfl (LJ (fun x=>decide (x.l.due≤n.now)) _ #[_] Vt n.gE (eu hs1 hn.gE) hl (fun x _=>Ll x n.now hf1)) ?_;(refine run ?_;repeat intro b);refine eE (n.gE.any fun x=>decide (x.l.due≤n.now)) rfl (fun h=>?_) (fun h=>?_)
 ·rw[aZ h];(refine run ?_;repeat intro b);rfl
 rw[aY (by rw[h];decide)];(refine run ?_;repeat intro b);rfl
end
end Go.Proofs.YthbnddgjkonkdaaGreatDoor
