/- A part of the proof. -/
import Derived.Test.YthbnddgjkonkdaaGreatDoorSetClerk5
import Derived.Test.YthbnddgjkonkdaaGreatDoorSetFwZ
set_option linter.unusedVariables false
set_option linter.unusedSimpArgs false
namespace Go.TR
variable {P:Program} {tb:Tb} {N:Nat} {dr:Bool} {all rest:List Oper} {K:fa→St→Prop}
theorem sy (w:World)(t tx ty e:TypeId)(i:TypeInfo)(ht:P.underlying t=some (.slice e))(hi:P.info? e=some i)(b off sLen sCap:Nat)(x:Value)(n:Nat)(news:List Value)(hs:Src P i.size tx x n news w)
  (hroom:sLen+n≤sCap) {cur:Array Value} {ct:TypeId} (qB:w.heap[b]? =some (.cells cur ct (0,0))) (hfit:off+sLen * i.size+news.length≤cur.size):
  (Builtin.append_ #[t,tx] ty #[.slice (some ⟨b,off,none⟩) sLen sCap,x]).run P w= .ok (.slice (some ⟨b,off,none⟩) (sLen+n) sCap) (w.setRow b (cur.toList.take (off+sLen * i.size)++news++cur.toList.drop (off+sLen * i.size+news.length)).toArray):=by
 have hst:=run_storeCells_at (P:=P) b (off+sLen * i.size) ct news 0 cur w qB (by simpa using hfit) hs.one;simp only[df]at hst;have h0:(⟨b,off,none⟩:Addr).add (sLen * i.size)=⟨b,off+sLen * i.size,none⟩:=Addr.add_lit _ _ _;rcases hs.kind with⟨e',hk⟩ | hk<;>simp[Builtin.append_,run_underlying ht,run_underlying hk,sizeOf,typeInfo,hi,hs.len,hroom,hs.cells,h0,hst]
theorem BZ {d:Nat}{x y:Operand}{t1 t2 e:TypeId}{ty:TypeId}{pos:String}{af:Array Edge}{env:Env}{F:Hp}{rs rs':RL}{nx id o n c cap m:Nat}{gl:Option Nat}{cells news:List EV}{ti:TI}(htb:gZ P tb)(ht:tk tb t1=some (.slice e))(ht2:wh (tk tb t2)=true)(hi:tb e=some ti)(h0:(Nat.blt 0 ti.size&&Nat.beq ti.zero.length ti.size)=true)
  (hx:gL rs [] env [] x=some (.row id o n c)) (hr:fR rs id=some ⟨gl,cells,e,cap⟩) (hrs:iq (tJ rs id)=some rs') (hd:Nat.blt d N=true) (hsrc:vX F rs ti.size (gL rs [] env [] y) m news) (hone:lj rs news) (hnl:news.length=m * ti.size) (hm:0<m) (hok:gl=none→o=0∧n=0∧c=0) (hcap:o+c * ti.size≤cap) (hcl:o+n * ti.size≤cells.length)
  (hby:(n+m) * ti.bytes≤140737488355328) (hb0:(Nat.blt 0 ti.bytes)=true)
  (k: ∀(b o' c' cap':Nat) (pre:List EV),pre.length=o'→(∀e∈pre,e∈cells)→n+m≤c'→o'+c' * ti.size≤cap'→dT P tb N false all rest K [] ⟨(d,.row nx o' (n+m) c')::env,F,(nx,⟨some b,pre++((cells.drop o).take (n * ti.size)++news),e,cap'⟩)::rs',nx+1⟩):
  dT P tb N false all (⟨some d,.call ⟨.builtin .append,#[x,y],#[t1,t2]⟩,ty,pos,af,none⟩::rest) K [] ⟨env,F,rs,nx⟩:=by
 simp only[aL,Nat.blt_eq,Nat.beq_eq]at h0 hb0;obtain⟨hs0,hz0⟩:=h0;obtain⟨i,z,hinfo,hsz,Zd,hz,hzs⟩:=oI htb hi;have hut:=jm htb ht;rw[fB,aa]at hrs;subst hrs;have hnm:n+m≤(n+m) * ti.bytes:=Nat.le_mul_of_pos_right _ hb0;refine nY (ι:={ q:Nat×Nat×Nat×List EV×Nat // q.2.2.2.1.length=q.2.1∧(∀e∈q.2.2.2.1,e∈cells)∧n+m≤q.2.2.1∧q.2.1+q.2.2.1 * ti.size≤q.2.2.2.2 }) (fun q=>.row nx q.1.2.1 (n+m) q.1.2.2.1) (env:=fun _=>env) (F:=fun _=>F)
  (rs:=fun q=>(nx,⟨some q.1.1,q.1.2.2.2.1++((cells.drop o).take (n * ti.size)++news),e,q.1.2.2.2.2⟩)::tJ rs id) (nx:=fun _=>nx+1) hd (fun c' a w op hs ho=>?_) (fun q=>k q.1.1 q.1.2.1 q.1.2.2.1 q.1.2.2.2.2 q.1.2.2.2.1 q.2.1 q.2.2.1 q.2.2.2.1 q.2.2.2.2)
 have ex:=fI hs hx;simp only[EV.val,hr]at ex;simp only[aa]at ex;have hsub: ∀k r,fR (tJ rs id) k=some r→fR rs k=some r:=fun k r hk=>by
  rw[pj]at hk;split at hk
  ·cases hk
  exact hk
 have Rf:=(hs.gS id _ hr).2;obtain⟨m',news',vs,⟨rfl,rfl⟩,s1,s2,s3,s4⟩:=BW (P:=P) htb hs hs0 ht2 (K:=fun m' n'=>m'=m∧n'=news) (hsrc _ ⟨hone,rfl,rfl⟩);simp only at s4;have hlen:((cells.drop o).take (n * ti.size)).length=n * ti.size:=by rw[aw,aR];omega
 by_cases hroom:n+m'≤c
 ·cases gl with
  | none=>obtain⟨_,_,h3⟩:=hok rfl;omega
  | some b=>
   obtain⟨g1,g2,cur,g3,g4,g5⟩:=hs.fO.own.own id _ hr;simp only at g2 g4;have hcs:n * ti.size+m' * ti.size≤c * ti.size:=by rw[←dc];exact dq _ hroom
   have hrun:=sy (P:=P) w t1 t2 op.type e i hut hinfo b o n c (a.eval y) m' vs (by rw[hsz];exact s1) hroom g3 (by rw[hsz,s2,hnl,g4];omega);simp only[aJ]at ex;rw[ex,hsz]at hrun;refine⟨⟨(b,o,c,cells.take o,cap),by simp only[aw];omega,fun e he=>cV he,hroom,hcap⟩,_,_,ie ho rfl rfl hrun,?_,?_⟩
   ·have hp:g9 [b] w (w.setRow b (cur.toList.take (o+n * ti.size)++vs++cur.toList.drop (o+n * ti.size+vs.length)).toArray):=⟨rfl,rfl,rfl,by simp[World.setRow],fun k _ hk=>setRow_other w b k _ (by simpa using hk)⟩;have Ze:cells.take o++((cells.drop o).take (n * ti.size)++news')=cells.take (o+n * ti.size)++news':=by
     rw[←bM];congr 1;rw[List.take_add]
    rw[Ze];have hl1:(cells.take (o+n * ti.size)).length=o+n * ti.size:=by rw[aw];omega
    have hl2:(cur.toList.take (o+n * ti.size)).length=o+n * ti.size:=by rw[aw,bj];omega
    refine vR hs hsub hp (fun y hy=>by simpa using hy) g1 (hs.fO.new id _ b hr (.inl rfl)) (fun k r hkr hbr=>?_) (setRow_heap w b cur _ _ _ g3) ?_ ?_ (fun e he=>?_) (fun j e x hj hx=>?_)
    ·rw[pj]at hkr;split at hkr
     ·cases hkr
     rename_i hne;exact hne (hs.fO.own.apart k id r _ b hkr hr hbr rfl)
    ·show _=cap;simp only[c8,ag,aw,aR,bj];omega
    ·show _≤cap;rw[ag,hl1,hnl];omega
    ·rcases aK.1 he with he | he
     ·exact Rf e (cV he)
     exact s3 e he
    simp only[cC];rw[bM,cj];rw[cj]at hj;rw[hl1]at hj;rw[hl2];split
    ·rename_i hlo;rw[aZ hlo,cB,aZ hlo]at hj;rw[cB,aZ hlo];simpa using g5 j e x hj hx
    rename_i hlo;rw[aY hlo]at hj;have:=s4 _ e x hj hx;rw[List.getElem?_append_left (cz.1 this).1];exact this
   simp only[EV.val,e8,dC,aJ]
 have hold: ∃BA:List Value,BA.length=n * ti.size∧(Builtin.firstCells ti.size n (.slice (gl.map fun b=>⟨b,o,none⟩) n c)).run P w.drew= .ok BA.toArray w.drew∧ ∀(j:Nat) (e:EV) (x:Value),((cells.drop o).take (n * ti.size))[j]? =some e→e.val rs=some x→BA[j]? =some x:=by
  cases gl with
  | none=>
   obtain⟨h1,h2,h3⟩:=hok rfl;subst h1 h2 h3;refine⟨[],by simp,run_firstCells_none (P:=P) w.drew ti.size 0 0 0,fun j e x hj=>by simp at hj⟩
  | some b=>
   obtain⟨BA,v1,v2,v3⟩:=r9 hs hr rfl (o:=o) (k:=n * ti.size) (by simpa using hcl);refine⟨BA,v1,run_firstCells_some (P:=P) w.drew ti.size n ⟨b,o,none⟩ n c BA v1 (fun j u hj=>by rw[Addr.add_lit];exact v2 j u hj),fun j e x hj hx=>v3 j e x (by
    rw[List.drop_take];have:o+n * ti.size - o=n * ti.size:=by omega
    rw[this];exact hj) hx⟩
 obtain⟨BA,v1,v2,v3⟩:=hold;rw[←hsz]at v2;have hg:c<n+m':=by omega
 have hrun:=run_append_grow_src (P:=P) w t1 t2 op.type e i z hut hinfo hz (gl.map fun b=>⟨b,o,none⟩) n c BA v2 (a.eval y) m' vs (by rw[hsz];exact s1) hg (by omega) (growslice_fits hg (by rw[Zd];exact hby));rw[ex]at hrun;have hge:=grownCap_ge w (n+m') c e;refine⟨⟨(w.heap.size,0,grownCap w (n+m') c e,[],grownCap w (n+m') c e * ti.size),rfl,(fun e he=>by cases he),hge,by simp only[aP];exact ah _⟩,_,_,ie ho rfl rfl hrun,?_,?_⟩
 ·have:=xV hs hsub (cells:=(cells.drop o).take (n * ti.size)++news') (xs:=BA++vs) (rest:=Builtin.zeroCells z.cells (grownCap w (n+m') c e - (n+m'))) (e:=e) (cap:=grownCap w (n+m') c e * ti.size) (by rw[ag,ag,v1,s2,hlen]) (by
   rw[ag,v1,s2,hnl,size_zeroCells,hzs,hz0,←dc,←dc];congr 1;omega) (fun e he=>by
    rcases aK.1 he with he | he
    ·exact Rf e (cU (cV he))
    ·exact s3 e he) (fun j e x hj hx=>by
    rw[cj]at hj ⊢;rw[hlen]at hj;rw[v1];split
    ·rename_i hlo;rw[aZ hlo]at hj;exact v3 j e x hj hx
    rename_i hlo;rw[aY hlo]at hj;exact s4 _ e x hj hx)
  simp only[cX];exact this
 simp only[EV.val,e8,dC,aJ]
end Go.TR
namespace Go.Proofs.YthbnddgjkonkdaaGreatDoor
section
open Go.TR
theorem fW {G:Prop}{H:Unit→Prop}(k:H ())(h: ∀u,H u→G:=by
 intro u
 repeat (first
  | refine iD (Go.TR.Dd rfl rfl rfl) ?_ | refine iD (Go.TR.IH rfl rfl) ?_ | refine iD (Go.TR.xx rfl rfl rfl) ?_ | refine iD (Go.TR.tv rfl rfl rfl) ?_
  | refine iD (Go.TR.ry rfl rfl rfl) ?_ | refine iD (Go.TR.ri rfl rfl rfl rfl rfl) ?_ | refine iD (Go.TR.qh rfl rfl rfl rfl rfl) ?_ | refine iD (Go.TR.C7 rfl rfl rfl rfl rfl) ?_
  | refine iD (Go.TR.GM rfl rfl rfl rfl) ?_ | refine iD (Go.TR.BJ rfl) ?_ | refine iD (Go.TR.B5 rfl rfl rfl rfl) ?_ | refine iD (Go.TR.Gf rfl rfl rfl) ?_
  | refine iD (Go.TR.xy rfl rfl) ?_ | refine iD (Go.TR.Dg rfl rfl) ?_ | refine iD (Go.TR.BV rfl rfl rfl rfl) ?_ | refine iD (Go.TR.Hg rfl rfl rfl) ?_
  | refine iD Go.TR.NT ?_ | refine iD Go.TR.Gb ?_ | refine iD Go.TR.HN ?_ | refine iD Go.TR.Gn ?_
  | refine iD Go.TR.He ?_ | refine iD Go.TR.Hv ?_ | refine iD Go.TR.LH ?_ | refine iD Go.TR.lJ ?_
  | refine iD Go.TR.BP ?_ | refine iD Go.TR.zc ?_ | refine iD Go.TR.yH ?_ | refine iD Go.TR.ym ?_
  | refine iD (Go.TR.za rfl) ?_ | refine iD Go.TR.Gh ?_ | refine iD Go.TR.My ?_ | refine iD Go.TR.G8 ?_
  | (refine' BE (Go.TR.Lo rfl rfl rfl rfl) (fun b=>?_);rotate_left) | (refine' BE (Go.TR.ux rfl rfl rfl rfl) (fun b=>?_);rotate_left) | refine iD (Go.TR.CB rfl) ?_ | refine iD (Go.TR.Cj rfl) ?_
  | (refine' BE (Go.TR.zx rfl rfl rfl rfl rfl rfl rfl rfl) (fun b=>?_);rotate_left) | refine iD Go.TR.B9 ?_ | refine iD Go.TR.Dh ?_ | refine iD Go.TR.xR ?_
  | refine iD Go.TR.yA ?_ | refine iD (Go.TR.dI rfl rfl rfl (by decide)) ?_ | refine iD (Go.TR.iw rfl rfl rfl rfl rfl (fun _=>by decide)) ?_)
 exact fun h=>h):G:=h () k
theorem fQ (rs rs':RL): ∀l:List Value,ED rs rs' (l.map EV.v)
 | []=>trivial
 | _::l=>⟨rfl,fQ rs rs' l⟩
theorem OH {P:Program}{tb:Tb}{N:Nat}{g:fa}{st:St}{ops:Array Oper}{kept:List Nat}{K:St→Prop}{m f':Nat}{done:Array Bool}{lo:List Oper}(i j k:Nat){o o' o2:Oper}(hr:Region.ready .any ops done=[i,j,k])(hlo:ops.toList=lo)(ho:lo[i]? =some o)(ho':lo[j]? =some o')(ho2:lo[k]? =some o2)(h1:dT P tb N false lo [o] (ju kept st.F st.rs (fq P tb N ops kept K m f' (done.setIfInBounds i true))) g st)
  (h2:dT P tb N false lo [o'] (ju kept st.F st.rs (fq P tb N ops kept K m f' (done.setIfInBounds j true))) g st) (h3:dT P tb N false lo [o2] (ju kept st.F st.rs (fq P tb N ops kept K m f' (done.setIfInBounds k true))) g st):fq P tb N ops kept K (m+1) (f'+1) done g st:=by
 subst hlo;refine .inr (.inr ⟨f',rfl,by rw[hr];simp,fun q hq=>?_⟩);rw[hr]at hq;obtain⟨d,op,ty,pos,af,gd⟩:=o;obtain⟨d',op',ty',pos',YL,YM⟩:=o';obtain⟨d2,op2,S7,Za,af2,gd2⟩:=o2;simp only[aT,cZ,dE]at hq;rcases hq with rfl | rfl | rfl
 ·exact⟨⟨d,op,ty,pos,af,gd⟩,by simpa using ho,h1⟩
 ·exact⟨⟨d',op',ty',pos',YL,YM⟩,by simpa using ho',h2⟩
 exact⟨⟨d2,op2,S7,Za,af2,gd2⟩,by simpa using ho2,h3⟩
structure jh where
 o:Ow
 p:Option Addr
 c:Nat
@[reducible] def jh.row (x:jh):List Value:=[S x.o.name,u64 (x.o.key:Nat),i64 x.o.head.dW,u64 (x.o.head.root:Nat),u64 (x.o.head.prev:Nat),i64 x.o.head.at_,.slice x.p x.o.wanted.length x.c,i64 x.o.jA]
theorem gW (x:jh):x.row.length=8:=rfl
def jh.at (F:Hp)(x:jh):Prop:=eY F x.p (x.o.wanted.map S)
theorem jh.eX {F F':Hp}(h:F.sub F'){x:jh}(k:x.at F):x.at F':=dZ h k
@[reducible] def Poll.row (p:Poll):List Value:=[i64 p.least,i64 p.most,i64 p.lost,i64 p.nE,i64 p.next,i64 p.asked]
theorem iN (p:Poll):p.row.length=6:=rfl
structure ot where
 f:List Int
 p:Option Addr
 c:Nat
@[reducible] def ot.v (x:ot):Value:=.slice x.p x.f.length x.c
def ot.at (F:Hp)(x:ot):Prop:=eY F x.p (x.f.map i64)
theorem ot.eX {F F':Hp}(h:F.sub F'){x:ot}(k:x.at F):x.at F':=dZ h k
structure Fr where
 b:Nat
 cells:List Value
 ty:TypeId
 cap:Nat
structure TL where
 dF:eE
 cl:jf
 dK:List jh
 polls:List Poll
 fJ:NP
 reach:Int
 iY:List Value
 fo:Nat
 dX:List ot
 events:List lU
 b0:Nat
 bo:Option Nat
 co:Nat
 bp:Option Nat
 cp:Nat
 bf:Option Nat
 cf:Nat
 xf:Nat
 be:Option Nat
 ce:Nat
def TL.t (s:TL):fm:=⟨s.dF,s.dK.map jh.o,s.polls,s.fJ.now,s.fJ.gz.map LP.l,s.reach,s.dX.map ot.f,s.events⟩
structure TL.at (s:TL) (F:Hp):Prop where
 dF:s.dF.at F s.cl
 dK: ∀x∈s.dK,x.at F
 fJ:s.fJ.at F
 dX: ∀x∈s.dX,x.at F
 xb:(s.iY.drop s.fo).take s.dX.length=s.dX.map ot.v
 xM:s.fo+s.dX.length≤s.iY.length
 zp:s.fo+s.cf≤s.xf
 Pw:s.dX.length≤s.cf
 vM:s.bf=none→s.fo=0∧s.dX.length=0∧s.cf=0
 rD:s.bo=none→s.dK.length=0∧s.co=0
 IV:s.dK.length≤s.co
 wY:s.bp=none→s.polls.length=0∧s.cp=0
 K7:s.polls.length≤s.cp
 vt:s.be=none→s.events.length=0∧s.ce=0
 Js:s.events.length≤s.ce
@[reducible] def TL.cells (s:TL) (n1 n2 n3 n4:Nat):List EV:=[.v (i64 s.dF.queue.most),.v (.slice s.cl.w s.dF.queue.wait.length s.cl.cw),.v (i64 s.dF.batch),.v (i64 s.dF.every),.v (i64 s.dF.now),.v (.slice s.cl.h s.dF.dP.length s.cl.ch),.v (.slice s.cl.b s.dF.ee.length s.cl.cb),.row n1 0 s.dK.length s.co,.row n2 0 s.polls.length s.cp,.v (i64 s.fJ.now),.v (.slice s.fJ.p s.fJ.gz.length s.fJ.c),.v (i64 s.reach),.row n3 s.fo s.dX.length s.cf,.row n4 0 s.events.length s.ce]
@[reducible] def TL.rs (s:TL) (z:Fr):RL:=[(5,⟨some z.b,z.cells.map EV.v,z.ty,z.cap⟩),(4,⟨s.be,(s.events.flatMap lU.row).map EV.v,167,s.ce * 4⟩),(3,⟨s.bf,s.iY.map EV.v,69,s.xf⟩),(2,⟨s.bp,(s.polls.flatMap Poll.row).map EV.v,159,s.cp * 6⟩),(1,⟨s.bo,(s.dK.flatMap jh.row).map EV.v,76,s.co * 8⟩),(0,⟨some s.b0,s.cells 1 2 3 4,140,14⟩)]
theorem TL.gT (n:Nat)(s:TL)(z:Fr):gB n (s.rs z)=[(n+5,⟨some z.b,z.cells.map EV.v,z.ty,z.cap⟩),(n+4,⟨s.be,(s.events.flatMap lU.row).map EV.v,167,s.ce * 4⟩),(n+3,⟨s.bf,s.iY.map EV.v,69,s.xf⟩),(n+2,⟨s.bp,(s.polls.flatMap Poll.row).map EV.v,159,s.cp * 6⟩),(n+1,⟨s.bo,(s.dK.flatMap jh.row).map EV.v,76,s.co * 8⟩),(n,⟨some s.b0,s.cells (n+1) (n+2) (n+3) (n+4),140,14⟩)]:=by
 unfold gB gV TL.rs;simp only[a9,cM,pX];rfl
theorem TL.eX {F F':Hp}(h:F.sub F'){s:TL}(k:s.at F):s.at F':=
 ⟨eE.eX h k.dF,fun x hx=>jh.eX h (k.dK x hx),NP.eX h k.fJ,fun x hx=>ot.eX h (k.dX x hx),k.xb,k.xM,k.zp,k.Pw,k.vM,k.rD,k.IV,k.wY,k.K7,k.vt,k.Js⟩
def Wd (s:TL)(z:Fr)(F:Hp)(v:Value)(t':fm)(e:EV)(F':Hp)(r:RL)(k:Nat):Prop:=
 e= .v v∧k=6∧F.sub F'∧ ∃s':TL,s'.t=t'∧s'.at F'∧s'.b0=s.b0∧r=s'.rs z
def oy (s:TL)(z:Fr)(F:Hp)(f:FuncId)(xs:List Value)(t':fm):Prop:=
 eR Tryz.prog F (s.rs z) 6 f (.loc 0 0::xs.map EV.v) (fun e F' rs' nx'=>∃r k e0,rs'=gB 6 r∧nx'=6+k∧e=gX 6 e0∧Wd s z F (.tuple #[]) t' e0 F' r k)
theorem oy.at {s:TL}{z:Fr}{F:Hp}{f:FuncId}{xs:List Value}{t':fm}(h:oy s z F f xs t'){P0:RL}{nx2:Nat}(ρ:List (Nat×Nat))(i0:Nat)(hr:lQ ρ P0 ρ (s.rs z))(h0:qj ρ (.loc i0 0)=some (.loc 0 0))(h1:oW ρ []=true)(h2:pc ρ []=true)(h3:vd 0 6 ρ=true)(hm:6≤nx2):
  eR Tryz.prog F P0 nx2 f (.loc i0 0::xs.map EV.v) (fun e F' rs' nx'=>e= .v (.tuple #[])∧F.sub F'∧nx'=nx2+6∧ ∃s':TL,s'.t=t'∧s'.at F'∧s'.b0=s.b0∧rs'=gB nx2 (s'.rs z)):=by
 have hx:sx ρ (xs.map EV.v)=some (xs.map EV.v):=by
  clear h
  induction xs with
  | nil=>rfl
  | cons a l ih=>simp only[a9,sx,qj,ih]
 refine (eR.named (m:=nx2 - 6) (nx2:=nx2) (vf:=s.rs z) (args2:=.loc i0 0::xs.map EV.v) (args:=.loc 0 0::xs.map EV.v) ρ h hr rfl (by simp only[sx,h0,hx]) ?_ h1 h2 h3 (by omega) AA).mono fun e F' rs' nx' hq=>?_
 ·have e1:EV.val (s.rs z) (.loc 0 0)=some (.pointer (some ⟨s.b0,0,none⟩)):=rfl;simp only[iU,e1,eD];rfl
 obtain⟨e0,W4,W5,⟨r,k,e1,rfl,rfl,rfl,rfl,rfl,hs,s',ht,ha,hb,rfl⟩,rfl,rfl,rfl⟩:=hq;refine⟨rfl,hs,by omega,s',ht,ha,hb,?_⟩;rw[x5];congr 1;omega
theorem iJ {N:Nat}{s s':TL}{z:Fr}{F0 F:Hp}{t':fm}{env:Env}{rs:RL}{nx:Nat}(m:Nat)(ρ:List (Nat×Nat))(hr:lQ ρ rs ρ (gB m (s'.rs z)))(h1:oW ρ []=true)(h2:pc ρ []=true)(h3:vd nx (m+6) ρ=true)(h4:Nat.ble nx (m+6)=true)(hF:F0.sub F)(ht:s'.t=t')(ha:s'.at F)(hb:s'.b0=s.b0):VS N [] ⟨env,F,rs,nx⟩ fun st'=>∃e,yR tb st' []=some e∧(∃i r k e0,st'.rs=gB i r∧st'.nx=i+k∧e=gX i e0∧Wd s z F0 (.tuple #[]) t' e0 st'.F r k):=
 VS.mM ρ [] _ hr rfl rfl h1 h2 h3 h4 ⟨.v (.tuple #[]),rfl,m,s'.rs z,6,.v (.tuple #[]),rfl,rfl,rfl,rfl,rfl,hF,s',ht,ha,hb,rfl⟩
end
section
open Go.TR
theorem PF (l:List LP)(x:LP):((l++[x]).flatMap LP.row).map EV.v=(l.flatMap LP.row).map EV.v++x.row.map EV.v:=by simp
theorem nU (l:List LP)(x:LP)(k:Nat)(h:l.length=k):((l.flatMap LP.row).map EV.v).take (k * 12)++x.row.map EV.v=((l++[x]).flatMap LP.row).map EV.v:=by
 rw[PF,an (by rw[ab,dL je,h];exact ah _)]
attribute [local irreducible] vc dT gx fc fA gC gG gw fG Plain eu eR dH VS fq fx fD ju fe IntKind.wrap
set_option maxRecDepth 100000
theorem Kt (cs:List Value)(n:Nat){p:Option Addr}{c:Nat}{F:Hp}(hl:cs.length=n * 1)(hf:eY F p cs)(h1: ∀x∈cs,Go.TR.one (.v x)=true)(hb:n * 8≤140737488355328):eu Tryz.prog F 234 [.slice p n c] (fun x _ new=>ml 33 1 cs n x new):=by
 refine fU (N:=8) (rv:=[.tmp 2]) eP mixed Tryz.func234 rfl rfl rfl rfl rfl ?_;(refine run ?_;repeat intro b);refine p9 (b:=p.isNone) eP rfl rfl rfl ?_;cases p with
 | none=>
  have hn:n=0:=by
   rcases dh n with h | h
   ·exact h
   have:=dO hf (j:=0) (by rw[hl];omega);cases this
  subst hn;(refine run ?_;repeat intro b);refine eM (VS.id ⟨_,rfl,.inl ⟨rfl,rfl,none,rfl⟩⟩)
 | some a=>
  (refine run ?_;repeat intro b);refine fv rfl rfl rfl rfl rfl rfl rfl rfl (iV hl hf) (gy _ h1) (fun h=>by cases h) (ah 0) rfl (az _) (by show (0+n) * 8≤_;omega) (fun hn=>?_) (fun hn b2 c2 hc2=>?_)
  ·subst hn;(refine run ?_;repeat intro b);refine eM ?_;refine VS.freeze 0 [2] rfl (cs:=[]) rfl rfl rfl fun F' hs1 hf1=>VS.id ⟨_,rfl,.inl ⟨rfl,rfl,_,rfl⟩⟩
  (refine run ?_;repeat intro b);simp only[aP]at hc2 ⊢;refine mI (qN.mM (nx':=1) [(1,0)] [2] [(0,⟨some b2,cs.map EV.v,33,c2 * 1⟩)] (ff ⟨_,rfl,rfl,rfl,rfl,.inl ⟨rfl,fun e he=>fw _ e he⟩⟩ trivial) rfl rfl rfl rfl rfl rfl ⟨_,rfl,.inr ⟨hn,b2,c2,hc2,rfl,rfl⟩⟩)
theorem L4 (cs:List Value)(n:Nat){p:Option Addr}{c:Nat}{F:Hp}(hl:cs.length=n * 4)(hf:eY F p cs)(h1: ∀x∈cs,Go.TR.one (.v x)=true)(hb:n * 32≤140737488355328):eu Tryz.prog F 58 [.slice p n c] (fun x _ new=>ml 41 4 cs n x new):=by
 refine fU (N:=8) (rv:=[.tmp 2]) eP mixed Tryz.func58 rfl rfl rfl rfl rfl ?_;(refine run ?_;repeat intro b);refine p9 (b:=p.isNone) eP rfl rfl rfl ?_;cases p with
 | none=>
  have hn:n=0:=by
   rcases dh n with h | h
   ·exact h
   have:=dO hf (j:=0) (by rw[hl];omega);cases this
  subst hn;(refine run ?_;repeat intro b);refine eM (VS.id ⟨_,rfl,.inl ⟨rfl,rfl,none,rfl⟩⟩)
 | some a=>
  (refine run ?_;repeat intro b);refine fv rfl rfl rfl rfl rfl rfl rfl rfl (iV hl hf) (gy _ h1) (fun h=>by cases h) (ah 0) rfl (az _) (by show (0+n) * 32≤_;omega) (fun hn=>?_) (fun hn b2 c2 hc2=>?_)
  ·subst hn;(refine run ?_;repeat intro b);refine eM ?_;refine VS.freeze 0 [2] rfl (cs:=[]) rfl rfl rfl fun F' hs1 hf1=>VS.id ⟨_,rfl,.inl ⟨rfl,rfl,_,rfl⟩⟩
  (refine run ?_;repeat intro b);simp only[aP]at hc2 ⊢;refine mI (qN.mM (nx':=1) [(1,0)] [2] [(0,⟨some b2,cs.map EV.v,41,c2 * 4⟩)] (ff ⟨_,rfl,rfl,rfl,rfl,.inl ⟨rfl,fun e he=>fw _ e he⟩⟩ trivial) rfl rfl rfl rfl rfl rfl ⟨_,rfl,.inr ⟨hn,b2,c2,hc2,rfl,rfl⟩⟩)
theorem Mh (cs:List Value)(n:Nat){p:Option Addr}{c:Nat}{F:Hp}(hl:cs.length=n * 2)(hf:eY F p cs)(h1: ∀x∈cs,Go.TR.one (.v x)=true)(hb:n * 32≤140737488355328):eu Tryz.prog F 43 [.slice p n c] (fun x _ new=>ml 122 2 cs n x new):=by
 refine fU (N:=8) (rv:=[.tmp 2]) eP mixed Tryz.func43 rfl rfl rfl rfl rfl ?_;(refine run ?_;repeat intro b);refine p9 (b:=p.isNone) eP rfl rfl rfl ?_;cases p with
 | none=>
  have hn:n=0:=by
   rcases dh n with h | h
   ·exact h
   have:=dO hf (j:=0) (by rw[hl];omega);cases this
  subst hn;(refine run ?_;repeat intro b);refine eM (VS.id ⟨_,rfl,.inl ⟨rfl,rfl,none,rfl⟩⟩)
 | some a=>
  (refine run ?_;repeat intro b);refine fv rfl rfl rfl rfl rfl rfl rfl rfl (iV hl hf) (gy _ h1) (fun h=>by cases h) (ah 0) rfl (az _) (by show (0+n) * 32≤_;omega) (fun hn=>?_) (fun hn b2 c2 hc2=>?_)
  ·subst hn;(refine run ?_;repeat intro b);refine eM ?_;refine VS.freeze 0 [2] rfl (cs:=[]) rfl rfl rfl fun F' hs1 hf1=>VS.id ⟨_,rfl,.inl ⟨rfl,rfl,_,rfl⟩⟩
  (refine run ?_;repeat intro b);simp only[aP]at hc2 ⊢;refine mI (qN.mM (nx':=1) [(1,0)] [2] [(0,⟨some b2,cs.map EV.v,122,c2 * 2⟩)] (ff ⟨_,rfl,rfl,rfl,rfl,.inl ⟨rfl,fun e he=>fw _ e he⟩⟩ trivial) rfl rfl rfl rfl rfl rfl ⟨_,rfl,.inr ⟨hn,b2,c2,hc2,rfl,rfl⟩⟩)
theorem NC (q:LP→Bool)(g:Nat)(lb:Array Value)(hb:dH Tryz.prog g)(l:List LP){p:Option Addr}{c:Nat}{F:Hp}(hf:eY F p (l.flatMap LP.row))(hl:l.length≤4611686018427387904)(hp: ∀x∈l,Plain Tryz.prog F g (.agg (LP.row x).toArray::lb.toList) (.bool (q x))):
  Plain Tryz.prog F 274 [.slice p l.length c,.func (.func g) #[] lb] (i64 (ov q l)):=by
 refine dN (N:=19) (rv:=[.tmp 4]) eP mixed Tryz.func274 rfl rfl rfl rfl rfl ?_;(refine run ?_;repeat intro b);refine eU (fun k:Nat=>k≤l.length∧(l.take k).any q=false) (fun k=>⟨[(0,.v (.slice p l.length c)),(1,.v (.func (.func g) #[] lb)),(7,.v (i64 (l.length:Nat))),(8,.v (i64 (k:Nat)))],F,[],0⟩) (fun k=>l.length - k) 0 ⟨az _,rfl⟩ (VS.eH [0,1,7,8] rfl rfl) ?_;rintro k ⟨hk,hany⟩;(refine run ?_;repeat intro b);refine ez _ rfl (fun h=>?_) (fun h=>?_)
 ·have hlt:k<l.length:=by simpa using h
  obtain⟨o1,o2⟩:=eZ je (by decide) hf k hlt;(refine run ?_;repeat intro b);refine dI rfl rfl rfl ⟨by omega,by omega,dO hf (j:=k * 12) (by rw[dL je];omega)⟩ ?_;refine fy (LP.row l[k]) rfl rfl rfl rfl rfl (by rw[ae];exact o1) (by rw[ae];exact o2) ?_;(refine run ?_;repeat intro b);refine dG _ rfl rfl (by rw[fB];rfl) hb rfl (hp l[k] (aj hlt)) ?_;(refine run ?_;repeat intro b);refine ez _ rfl (fun h2=>?_) (fun h2=>?_)
  ·(refine run ?_;repeat intro b);rw[lg hlt hany h2];rfl
  (refine run ?_;repeat intro b);rw[dQ (by omega)];refine fj (k+1) ⟨hlt,?_⟩ (by omega) (VS.eH [0,1,7,8] rfl rfl);rw[al hlt,bI,hany];simp[h2]
 have hge:k=l.length:=by
  have: ¬k<l.length:=by simpa using h
  omega
 subst hge;rw[aD]at hany;(refine run ?_;repeat intro b);rw[lv hany];rfl
theorem L7 (q:LP→Bool)(g:Nat)(lb:Array Value)(hb:dH Tryz.prog g)(l:List LP){p:Option Addr}{c:Nat}{F:Hp}(hf:eY F p (l.flatMap LP.row))(hl:l.length≤4611686018427387904)(hp: ∀x∈l,Plain Tryz.prog F g (.agg (LP.row x).toArray::lb.toList) (.bool (q x))):
  Plain Tryz.prog F 231 [.slice p l.length c,.func (.func g) #[] lb] (.bool (l.any q)):=by
 refine dN (N:=9) (rv:=[.tmp 4]) eP mixed Tryz.func231 rfl rfl rfl rfl rfl ?_;(refine run ?_;repeat intro b);refine dG _ rfl rfl rfl Vi rfl (NC q g lb hb l hf hl hp) ?_;(refine run ?_;repeat intro b);rw[og];rfl
set_option maxHeartbeats 4000000
theorem NY (x:LP){F:Hp}(hw:x.l.wf)(hx:x.at F):iu Tryz.prog F 174 [.agg x.row.toArray] (fun v F'=>∃y:LP,v= .agg y.row.toArray∧y.l=x.l∧y.at F'):=by
 refine eu.drop (fU (N:=24) (rv:=[.cell 2 71]) eP mixed Tryz.func174 rfl rfl rfl rfl rfl ?_);(refine run ?_;repeat intro b);refine fi rfl rfl rfl Ms rfl (eu.MH (fun h=>by rw[aq h];rfl) (L4 _ _ (dL eW _) hx.dP (oY _) hw.dP)) ?_;rintro _ F1 hF1 ⟨p1,c1,rfl,_,h1⟩;(refine run ?_;repeat intro b);refine fi rfl rfl rfl EF rfl (eu.MH (fun h=>by rw[aq h];rfl) (Mh _ _ (dL eI _) (dZ hF1 hx.nJ.fZ) (iK _) hw.fZ)) ?_;rintro _ F2 hF2 ⟨p2,c2,rfl,_,h2⟩;(refine run ?_;repeat intro b);refine fi rfl rfl rfl Tk rfl (eu.MH (fun h=>by rw[aq h];rfl) (Kt (x.l.nJ.fC.map mu) x.l.nJ.fC.length (by rw[ab,aA]) (dZ (hF1.trans hF2) hx.nJ.fC) (fun v hv=>by obtain⟨m,_,rfl⟩:=aG.1 hv;rfl) hw.fC)) ?_;rintro _ F3 FU ⟨p3,c3,rfl,_,h3⟩;(refine run ?_;repeat intro b);exact eM (VS.id ⟨_,rfl,⟨x.l,p1,c1,⟨p2,c2,p3,c3⟩⟩,rfl,rfl,⟨dZ (hF2.trans FU) h1,⟨dZ FU h2,h3⟩⟩⟩)
theorem yn (L:List LP)(hL:L.length≤60){p:Option Addr}{c:Nat}{F:Hp}(hw: ∀x∈L,x.l.wf)(hf:eY F p (L.flatMap LP.row))(ha: ∀x∈L,x.at F):
  eu Tryz.prog F 173 [.slice p L.length c] (fun v F' new=>∃cs,M7 71 12 cs L.length v new∧ ∃M:List LP,cs=M.flatMap LP.row∧M.map LP.l=L.map LP.l∧ ∀x∈M,x.at F'):=by
 refine fU (N:=19) (rv:=[.tmp 2]) eP mixed Tryz.func173 rfl rfl rfl rfl rfl ?_;(refine run ?_;repeat intro b);refine eU (fun q:Nat×List LP×Hp×Option Nat×Nat=>q.1≤L.length∧q.2.1.map LP.l=(L.take q.1).map LP.l∧(∀x∈q.2.1,x.at q.2.2.1)∧F.sub q.2.2.1∧(q.2.2.2.1=none→q.1=0∧q.2.2.2.2=0)∧q.1≤q.2.2.2.2)
  (fun q=>⟨[(3,.row 0 0 q.1 q.2.2.2.2),(6,.v (.slice p L.length c)),(7,.v (i64 (L.length:Nat))),(8,.v (i64 (q.1:Nat)))],q.2.2.1,[(0,⟨q.2.2.2.1,(q.2.1.flatMap LP.row).map EV.v,71,q.2.2.2.2 * 12⟩)],1⟩) (fun q=>L.length - q.1) (0,[],F,none,0) ⟨az _,rfl,by simp,Hp.sub.refl _,fun _=>⟨rfl,rfl⟩,ah _⟩ (VS.nT 3 71 [6,7,8] rfl rfl (VS.id rfl)) ?_
 rintro⟨k,M,F1,gl,cap⟩ ⟨h1,h2,h3,h4,h5,h6⟩;dsimp only at h1 h2 h3 h4 h5 h6 ⊢;have hM:M.length=k:=by
  have:=a8 List.length h2;simp only[ab,aw]at this;omega
 by_cases hlt:k<L.length
 ·obtain⟨o1,o2⟩:=eZ je (by decide) (dZ h4 hf) k hlt;have wx:=hw _ (aj hlt);have ax:=LP.eX h4 (ha _ (aj hlt));have h2':(M.map LP.l)++[L[k].l]=(L.take (k+1)).map LP.l:=by rw[h2,al hlt,aF];rfl
  generalize L[k]=x at o2 wx ax h2';(refine run ?_;repeat intro b);refine gm rfl (by omega) ?_;(refine run ?_;repeat intro b);refine dI rfl rfl rfl ⟨by omega,by omega,dO hf (j:=k * 12) (by rw[dL je];omega)⟩ ?_;refine fy x.row rfl rfl rfl rfl rfl (by rw[ae];exact o1) (by rw[ae];exact o2) ?_;(refine run ?_;repeat intro b);refine fi rfl rfl rfl QA rfl (NY x wx ax) ?_;rintro _ F2 hF2 ⟨y,rfl,ey,ay⟩;(refine run ?_;repeat intro b);refine fv rfl rfl rfl rfl rfl rfl rfl rfl (fb rfl rfl) (gy _ (qe [y])) h5 h6 rfl (by rw[ab,dL je,hM];exact ah _) (by show _ * 152≤_;omega) (fun h=>by cases h) (fun _ b2 c2 hc2=>?_);(refine run ?_;repeat intro b);have hcells:=nU M y k hM;rw[dQ (by omega)];exact fE (k+1,M++[y],F2,some b2,c2) 0 [(3,0)] [3,6,7,8] [(0,⟨some b2,((M++[y]).flatMap LP.row).map EV.v,71,c2 * 12⟩)]
   ⟨hlt,by rw[aF,←h2',←ey];rfl,fun z hz=>by rcases aK.1 hz with hz | hz;exact LP.eX hF2 (h3 z hz);rw[aB.1 hz];exact ay,h4.trans hF2,(fun h=>by cases h),hc2⟩ (by simp only;omega) (aM _ _)
   (ff ⟨_,rfl,rfl,rfl,rfl,.inl ⟨hcells.symm,fun e he=>fw _ e (hcells ▸ he)⟩⟩ trivial) rfl rfl rfl rfl rfl rfl rfl
 have hge:k=L.length:=by omega
 subst hge;rw[aD]at h2;(refine run ?_;repeat intro b);refine gu rfl (by omega) ?_;(refine run ?_;repeat intro b);exact eM (VS.eH [2] rfl ⟨_,rfl,_,⟨gl,cap,h6,h5,rfl,rfl⟩,M,rfl,h2,h3⟩)
theorem JC (L:List LP)(hL:L.length≤60){p:Option Addr}{c:Nat}{F:Hp}(hw: ∀x∈L,x.l.wf)(hf:eY F p (L.flatMap LP.row))(ha: ∀x∈L,x.at F):
  iu Tryz.prog F 173 [.slice p L.length c] (fun v F'=>∃(M:List LP) (p':Option Addr) (c':Nat),v= .slice p' L.length c'∧eY F' p' (M.flatMap LP.row)∧M.map LP.l=L.map LP.l∧ ∀x∈M,x.at F'):=by
 refine iu.U7 (eu.At (fun F F' cs hs hr=>?_) (fun F cs hn hr=>?_) (yn L hL hw hf ha)) fun x F' _ h=>?_
 ·obtain⟨M,e1,e2,e3⟩:=hr;exact⟨M,e1,e2,fun x hx=>LP.eX hs (e3 x hx)⟩
 ·obtain⟨M,e1,e2,_⟩:=hr;have:M.length=0:=by
   have:=a8 List.length e2;simp only[ab]at this;omega
  rw[e1,aq this];rfl
 obtain⟨p',c',cs,rfl,_,h2,M,rfl,h3,h4⟩:=h;exact⟨M,p',c',rfl,h2,h3,h4⟩
theorem Mc (x:LP)(now:Int){pn:Option Addr}{s:Value}{F:Hp}(hn:eY F pn [i64 now,s]):Plain Tryz.prog F 232 [.agg x.row.toArray,.pointer pn] (.bool (decide (x.l.due≤now))):=by
 have g:=hn 0 _ rfl;have g0:=dO hn (j:=0) (Nat.zero_lt_succ _);refine dN (N:=9) (rv:=[.tmp 3]) eP mixed Tryz.func232 rfl rfl rfl rfl rfl ?_;(refine run ?_;repeat intro b);refine dI rfl rfl rfl g0 ?_;refine fr (i64 now) rfl rfl rfl rfl g ?_;(refine run ?_;repeat intro b);rfl
theorem wQ (n:NP){F:Hp}(hl:n.gz.length≤4611686018427387904)(hn:n.at F):Plain Tryz.prog F 170 [n.v] (i64 (gD n)):=by
 refine dN (N:=22) (rv:=[.tmp 2]) eP mixed Tryz.func170 rfl rfl rfl rfl rfl ?_;(refine run ?_;repeat intro b);refine ez (decide (n.now<0∨1000000000<n.now)) ?_ (fun h=>?_) (fun h=>?_)
 ·refine dS ?_;rw[fu,Bool.decide_or]
 ·have e:gD n=4:=by unfold gD;rw[aZ (ar h)]
  rw[e];(refine run ?_;repeat intro b);rfl
 have h1:=au h;(refine run ?_;repeat intro b);refine ez (decide (60<n.gz.length)) ?_ (fun h=>?_) (fun h=>?_)
 ·refine dS ?_;rw[ai];simp;omega
 ·have e:gD n=7:=by unfold gD;rw[aY h1,aZ (ar h)]
  rw[e];(refine run ?_;repeat intro b);rfl
 have e:gD n=if (n.gz.any fun x=>decide (x.l.due≤n.now))=true then 4 else 0:=by unfold gD;rw[aY h1,aY (au h)]
 rw[e];(refine run ?_;repeat intro b);refine fT (VS.freeze 0 [19,20] rfl rfl rfl rfl fun F1 hs1 hf1=>VS.id ?_);refine dG _ rfl rfl rfl VF rfl (L7 (fun x=>decide (x.l.due≤n.now)) _ #[_] UJ n.gz (dZ hs1 hn.gz) hl (fun x _=>Mc x n.now hf1)) ?_;(refine run ?_;repeat intro b);refine ez (n.gz.any fun x=>decide (x.l.due≤n.now)) rfl (fun h=>?_) (fun h=>?_)
 ·rw[aZ h];(refine run ?_;repeat intro b);rfl
 rw[aY (by rw[h];decide)];(refine run ?_;repeat intro b);rfl
end
end Go.Proofs.YthbnddgjkonkdaaGreatDoor
