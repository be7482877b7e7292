/- A part of the proof. -/
import Derived.Laws.MakeOwn
import Derived.Test.YthbnddgjkonkdaaGreatDoorFwU
import Derived.Test.YthbnddgjkonkdaaGreatDoorSetFwL
import Derived.Test.YthbnddgjkonkdaaGreatDoorSetHead
set_option linter.unusedVariables false
set_option linter.unusedSimpArgs false
namespace Go.TR
section
open Go
section
variable {P:Program} {tb:Tb} {N:Nat} {all rest:List Oper} {K:fa→St→Prop}
theorem Ap {z:Array Value}{v:Value}(h:z.toList=[v])(n:Nat):(madeCells z n).toList=List.replicate n v:=by
 have hz:z= #[v]:=by
  apply bg;simpa using h
 subst hz;apply List.ext_getElem
 ·simp[madeCells]
 intro i h1 h2;simp[madeCells,Nat.mod_one]
theorem Lf {d:Nat}{x y:Operand}{t e:TypeId}{ty:TypeId}{pos:String}{af:Array Edge}{env:Env}{F:Hp}{rs:RL}{nx n:Nat}{ti:TI}{kl kc:IntKind}(htb:gZ P tb)(ht:tk tb t=some (.slice e))(hi:tb e=some ti)
  (hx:gL rs [] env [] x=some (.v (.int kl (n:Nat)))) (hy:gL rs [] env [] y=some (.v (.int kc (n:Nat)))) (hd:Nat.blt d N=true) (hb:n * ti.bytes≤281474976710656) (h63:n≤9223372036854775807)
  (k: ∀b (vs:List Value),vs.length=n * ti.size→(∀v,ti.zero=[v]→vs=List.replicate (n * ti.size) v)→dT P tb N false all rest K [] ⟨(d,.row nx 0 n n)::env,F,(nx,⟨some b,vs.map .v,e,n * ti.size⟩)::rs,nx+1⟩):
  dT P tb N false all (⟨some d,.makeSlice t x y,ty,pos,af,none⟩::rest) K [] ⟨env,F,rs,nx⟩:=by
 obtain⟨i,hinfo,hsz,hby,z,hz,hzl⟩:=(htb e ti hi).info;have hut:=jm htb ht;refine nY (ι:={ q:Nat×List Value // q.2.length=n * ti.size∧ ∀v,ti.zero=[v]→q.2=List.replicate (n * ti.size) v }) (fun _=>.row nx 0 n n) (env:=fun _=>env) (F:=fun _=>F) (rs:=fun q=>(nx,⟨some q.1.1,q.1.2.map .v,e,n * ti.size⟩)::rs) (nx:=fun _=>nx+1) hd (fun c' a w o hs ho=>?_) (fun q=>k q.1.1 q.1.2 q.2.1 q.2.2);have ex:=fI hs hx;have ey:=fI hs hy;simp only[EV.val,aa]at ex ey;have hbi:((i.bytes:Nat):Int) * ((n:Nat):Int)≤281474976710656:=by
  rw[hby,←Int.natCast_mul,Nat.mul_comm];omega
 have hrun:=run_make (P:=P) w t e i z hut hinfo hz kl kc (n:Int) (n:Int) (by omega) (Int.le_refl _) hbi (by omega);rw[ex,ey]at hrun;simp only[ae,hsz]at hrun;have Oe:(madeCells z.cells (n * ti.size)).toList.length=n * ti.size:=by rw[bj,size_madeCells]
 refine⟨⟨(w.heap.size,(madeCells z.cells (n * ti.size)).toList),Oe,fun v hv=>Ap (by rw[hzl];exact hv) _⟩,.slice (some ⟨w.heap.size,0,none⟩) n n,w.alloc (.cells (madeCells z.cells (n * ti.size)) e),?_,?_,?_⟩
 ·simp only[execOp,ho];simp[hrun]
 ·have:=vi hs (cells:=(madeCells z.cells (n * ti.size)).toList.map EV.v) (cs:=madeCells z.cells (n * ti.size)) (t:=e) (by simp) (fun e he=>by
   obtain⟨v,_,rfl⟩:=aG.1 he;trivial) (fun j e x hj hx=>by
   rw[aI,aS]at hj;obtain⟨v,h2,rfl⟩:=hj;simp only[EV.val,aa]at hx;rw[←hx];simpa using h2)
  rw[ab,Oe]at this;exact this
 simp[EV.val,e8]
end
end
section
open Go
variable {P:Program} {tb:Tb} {N:Nat} {all rest:List Oper} {K:fa→St→Prop}
section
variable {env:Env} {F:Hp} {rs:RL} {nx:Nat} {ty:TypeId} {pos:String} {af:Array Edge}
theorem RA {d:Nat}{x y:Operand}{t1 t2 e:TypeId}{p:Option Addr}{n c m b0 id:Nat}{r:kj}{o0:Obj}{cs vs:List Value}{ti:TI}(htb:gZ P tb)(ht:tk tb t1=some (.slice e))(ht2:wh (tk tb t2)=true)(hi:tb e=some ti)(h0:(Nat.blt 0 ti.size&&Nat.beq ti.zero.length ti.size&&Nat.blt 0 ti.bytes)=true)
  (hx:gL rs [] env [] x=some (.v (.slice p n c))) (hd:Nat.blt d N=true) (hsrc:vX F rs ti.size (gL rs [] env [] y) m (vs.map .v)) (hone:lj rs (vs.map .v)) (hm:0<m) (hnl:vs.length=m * ti.size) (hb:(n+m) * ti.bytes≤140737488355328)
  (hr:fR rs id=some r) (hb0:r.at b0) {b1:Nat} (hF1:F b1=some o0) (h01:b0≤b1) (hp:gU F e ti.size p n c cs) (HV: ∀b,p=some ⟨b,0,none⟩→b0≤b)
  (k: ∀b' c' o',(p=some ⟨b',0,none⟩∨F b'=none∧b0<b')→gU (F.plus b' o') e ti.size (some ⟨b',0,none⟩) (n+m) c' (cs++vs)→dT P tb N false all rest K [] ⟨(d,.v (.slice (some ⟨b',0,none⟩) (n+m) c'))::env,F.plus b' o',rs,nx⟩):
  dT P tb N false all (⟨some d,.call ⟨.builtin .append,#[x,y],#[t1,t2]⟩,ty,pos,af,none⟩::rest) K [] ⟨env,F,rs,nx⟩:=by
 simp only[aL,Nat.blt_eq,Nat.beq_eq]at h0;obtain⟨⟨hs0,hz0⟩,K0⟩:=h0;obtain⟨i,z,hinfo,hsz,hby,hz,hzs⟩:=oI htb hi;have hut:=jm htb ht;have hnm:n+m≤(n+m) * ti.bytes:=Nat.le_mul_of_pos_right _ K0;obtain⟨p1,p2,p3⟩:=hp;refine nY (ι:={ q:Nat×Nat×Obj // (p=some ⟨q.1,0,none⟩∨F q.1=none∧b0<q.1)∧gU (F.plus q.1 q.2.2) e ti.size (some ⟨q.1,0,none⟩) (n+m) q.2.1 (cs++vs) }) (fun q=>.v (.slice (some ⟨q.1.1,0,none⟩) (n+m) q.1.2.1)) (env:=fun _=>env) (F:=fun q=>F.plus q.1.1 q.1.2.2) (rs:=fun _=>rs) (nx:=fun _=>nx) hd (fun c' a w o hs ho=>?_) (fun q=>k q.1.1 q.1.2.1 q.1.2.2 q.2.1 q.2.2);have ex:=fI hs hx;simp only[EV.val,aa]at ex;obtain⟨m',news',vs',⟨rfl,rfl⟩,s1,s2,s3,s4⟩:=BW (P:=P) htb hs hs0 ht2 (K:=fun m' n'=>m'=m∧n'=vs.map .v) (hsrc _ ⟨hone,rfl,rfl⟩);have hvs:vs'=vs:=by
  apply List.ext_getElem?;intro j;rw[ab]at s2;by_cases hj:j<vs.length
  ·have:=s4 j (.v vs[j]) vs[j] (by rw[aI,ao hj];rfl) rfl;rw[this,ao hj]
  rw[cy (by omega),cy (by omega)]
 subst hvs;have FV: ∀{b' cap':Nat} {cur:Array Value},n+m'≤cap'→cur.size=cap' * ti.size→cur.toList.take ((n+m') * ti.size)=cs++vs'→gU (F.plus b' (.cells cur e (0,0))) e ti.size (some ⟨b',0,none⟩) (n+m') cap' (cs++vs'):=fun {b' cap' cur} h1 h2 h3=>by
  refine⟨by rw[ag,p1,hnl,←dc],h1,.inr ⟨b',cur,rfl,?_,h2,h3⟩⟩;show (if b'=b' then some _ else F b')=_;rw[aZ rfl]
 have hgrow:c<n+m'→(Builtin.firstCells i.size n (.slice p n c)).run P w.drew= .ok cs.toArray w.drew→∃(q:{ q:Nat×Nat×Obj // (p=some ⟨q.1,0,none⟩∨F q.1=none∧b0<q.1)∧gU (F.plus q.1 q.2.2) e ti.size (some ⟨q.1,0,none⟩) (n+m') q.2.1 (cs++vs') }) (v:Value) (w':World),(execOp a.eval o).run P w= .ok (.value v) w'∧fF c' N [] ⟨env,F.plus q.1.1 q.1.2.2,rs,nx⟩ a w'∧(EV.v (.slice (some ⟨q.1.1,0,none⟩) (n+m') q.1.2.1)).val rs=some v:=fun hg hold=>by
  have hrun:=run_append_grow_src w t1 t2 o.type e i z hut hinfo hz p n c cs hold (a.eval y) m' vs' (by rw[hsz];exact s1) hg (by omega) (growslice_fits hg (by rw[hby];exact hb));have hge:=grownCap_ge w (n+m') c e;rw[ex]at hrun;obtain⟨f1,f2⟩:=px (fF.drewN hs) (.cells ((cs++vs').toArray++Builtin.zeroCells z.cells (grownCap w (n+m') c e - (n+m'))) e);have hzl:(Builtin.zeroCells z.cells (grownCap w (n+m') c e - (n+m'))).size=(grownCap w (n+m') c e - (n+m')) * ti.size:=by rw[size_zeroCells,hzs,hz0]
  refine⟨⟨(w.heap.size,grownCap w (n+m') c e,.cells ((cs++vs').toArray++Builtin.zeroCells z.cells (grownCap w (n+m') c e - (n+m'))) e),.inr ⟨f1,Nat.lt_of_le_of_lt h01 (gJ (hs.fO.le _ _ hF1))⟩,FV hge ?_ ?_⟩,_,_,ie ho rfl rfl hrun,f2,rfl⟩
  ·rw[Array.size_append,c8,ag,p1,hnl,hzl,←dc,←dc];congr 1;dsimp only;omega
  rw[Array.toList_append,da (by simp only[ag,p1,hnl,←dc];exact ah _)];exact an (by simp only[ag,p1,hnl,←dc];exact ah _)
 rcases p3 with⟨rfl,rfl,rfl⟩ | ⟨b,cur,rfl,q1,q2,q3⟩
 ·have hcs:cs=[]:=aq (by rw[p1,dv]);subst hcs;exact hgrow (by omega) (run_firstCells_none _ _ _ _ _)
 have qB:=hs.fO.le _ _ q1;by_cases hroom:n+m'≤c
 ·have hfit:n * ti.size+vs'.length≤cur.size:=by
   rw[q2,hnl,←dc];exact dq _ hroom
  have hrun:=l8 (P:=P) w t1 t2 o.type e i hut hinfo b n c (a.eval y) m' vs' (by rw[hsz];exact s1) hroom qB (by rw[hsz];exact hfit);rw[ex,hsz]at hrun;have hp:g9 [b] w (w.setRow b (cur.toList.take (n * ti.size)++vs'++cur.toList.drop (n * ti.size+vs'.length)).toArray):=⟨rfl,rfl,rfl,by simp[World.setRow],fun k _ hk=>setRow_other w b k _ (by simpa using hk)⟩;refine⟨⟨(b,c,.cells (cur.toList.take (n * ti.size)++vs'++cur.toList.drop (n * ti.size+vs'.length)).toArray e),.inl rfl,FV hroom ?_ ?_⟩,_,_,ie ho rfl rfl hrun,um hs hr hb0 (HV b rfl) q1 hp (setRow_heap w b cur _ _ _ qB),rfl⟩
  ·simp only[c8,ag,aw,aR,bj];omega
  simp only[q3];rw[da (by rw[ag,p1,hnl,←dc];exact ah _)];exact an (by rw[ag,p1,hnl,←dc];exact ah _)
 refine hgrow (by omega) ?_;rw[hsz];refine run_firstCells_some (P:=P) w.drew ti.size n ⟨b,0,none⟩ n c cs p1 fun j u hj=>?_;have hj':j<n * ti.size:=by rw[←p1];exact (cz.1 hj).1
 rw[←q3,cB,aZ hj']at hj;rw[kI];show w.cell? _=some u;simp only[World.cell?,qB];simpa using hj
end
theorem lu (l:List Value){n:Nat}: ∀e∈l.map EV.v,EV.lt n e:=fun e he=>by
 obtain⟨x,_,rfl⟩:=aG.1 he;trivial
theorem VS.mark {env:Env}{F:Hp}{rs:RL}{nx:Nat}{G:St→Prop}(k: ∀b0,(∀id r b,fR rs id=some r→r.gl=some b→b0≤b)→VS N [] ⟨env,F,(nx,Go.TR.mark b0)::rs,nx+1⟩ G):VS N [] ⟨env,F,rs,nx⟩ G:=fun c a w hs=>
 k c.wE.heap.size (fun id r b h1 h2=>hs.fO.new id r b h1 (.inl h2)) c a w (DQ hs (ah _))
theorem VS.iz {env env':Env}{F:Hp}{rs rs':RL}{nx:Nat}{G:St→Prop}(id:Nat){b size n c:Nat}{cells:List EV}{ty:TypeId}{cap:Nat}{cs:List Value}(slots:List Nat)(hr:fR rs id=some ⟨some b,cells,ty,cap⟩)(hcs:iU rs cells=some cs)(hrs:iq (u9 b id rs)=some rs')(np:Go.TR.eH (At b id env) slots=some env')
  (hcap:cap=c * size) (hn:cs.length=n * size) (hnc:n≤c) (h0:0<cs.length)
  (k: ∀F',F.sub F'→gU F' ty size (some ⟨b,0,none⟩) n c cs→F b=none→VS N [] ⟨env',F',rs',nx⟩ G):VS N [] ⟨env,F,rs,nx⟩ G:=by
 intro cx a w hs;obtain⟨F',h1,h2,h3⟩:=yD hs hr rfl hcs;rw[fB,aa]at hrs;subst hrs;obtain⟨o1,o2,cur,o3,o4,o5⟩:=hs.fO.own.own id _ hr;obtain⟨hl,hg⟩:=oZ hcs;have hcell:=h2 0 cs[0] (ao h0);have hF:F' b=some (.cells cur ty (0,0)):=by
  simp only[im,aJ,gb,Option.bind_some,kI,jx]at hcell;cases hb:F' b with
  | none=>rw[hb]at hcell;cases hcell
  | some o=>
   have h4:w.heap[b]? =some o:=h3.fO.le b o hb;rw[o3]at h4;exact h4.symm
 have hsz:n * size≤cur.size:=by rw[o4,hcap];exact dq _ hnc
 refine k F' h1 ⟨hn,hnc,.inr ⟨b,cur,rfl,hF,by rw[o4,hcap],?_⟩⟩ o1 cx a w (pO np h3);apply List.ext_getElem?;intro j;by_cases hj:j<n * size
 ·rw[cB,aZ hj];have hjc:j<cs.length:=by rw[hn];exact hj
  rw[ao hjc];obtain⟨e,he,hx⟩:=hg j cs[j] (ao hjc);have:=o5 j e cs[j] he hx;simpa using this
 rw[cy (by rw[aw,bj];omega),cy (by omega)]
end
end Go.TR
namespace Go.Proofs.YthbnddgjkonkdaaGreatDoor
open Go.TR
open Go.Op (bytesLess)
theorem yd: ∀k n,oq (k+1) n=zI (n / 2 ^ k)::oq k n
 | 0,n=>by simp[oq]
 | k+1,n=>by
  have ih:=yd k (n / 2);rw[oq,ih,oq,Nat.div_div_eq_div_mul,←Nat.pow_succ'];rfl
def mZ (n:Nat):List EV:=(oq 16 n).map fun b=>.v (u8 (b.toNat:Nat))
def sL:List EV:=[.v (u8 0),.v (u8 0),.v (u8 0),.v (u8 0),.v (u8 0),.v (u8 0),.v (u8 0),.v (u8 0),.v (u8 0),.v (u8 0),.v (u8 0),.v (u8 0),.v (u8 0),.v (u8 0),.v (u8 0),.v (u8 0)]
theorem kA (n:Nat):(mZ n).length=16:=by unfold mZ;rw[ab,mQ]
theorem Ku (n k:Nat)(h:k<16):(mZ n)[k]'(by rw[kA];exact h)= .v (u8 ((zI (n / 2 ^ (15 - k))).toNat:Nat)):=by
 unfold mZ;rw[cD,vo 16 n k h]
theorem OC (m j:Nat)(hj:j≤15):IntKind.u8.wrap (48+IntKind.u8.wrap (IntKind.u64.wrap ↑(BitVec.ofInt IntKind.u64.bits ((m:Int).fdiv (2 ^ min ((j:Nat):Int).toNat IntKind.u64.bits)) &&& BitVec.ofInt IntKind.u64.bits 1).toNat))=(((zI (m / 2 ^ j)).toNat:Nat):Int):=by
 have e1:min (Int.toNat ((j:Nat):Int)) IntKind.u64.bits=j:=by simp[IntKind.bits];omega
 have e2:(2 ^ j:Int)=((2 ^ j:Nat):Int):=(Int.natCast_pow 2 j).symm;rw[e1,e2,←bG];generalize m / 2 ^ j=x;have e3:(BitVec.ofInt IntKind.u64.bits (x:Int) &&& BitVec.ofInt IntKind.u64.bits 1).toNat=x % 2:=by
  rw[BitVec.toNat_and,BitVec.ofInt_natCast,BitVec.toNat_ofNat];have:(BitVec.ofInt IntKind.u64.bits 1).toNat=1:=rfl;rw[this,Nat.and_one_is_mod];show x % 2 ^ 64 % 2=x % 2;omega
 have e4:(zI x).toNat=48+x % 2:=by
  unfold zI;rw[dz];omega
 rw[e3,e4,nk,Ot,Ot];omega
attribute [local irreducible] vc dT gx fc fA gC gG gw fG Plain eu eR dH VS fq fx fD ju fe IntKind.wrap
set_option maxRecDepth 100000
theorem HO (s:List UInt8)(hs:s.length≤4611686018427387904)(F:Hp):Plain Tryz.prog F 155 [S s] (S (ej s)):=by
 refine dN (N:=23) (rv:=[.tmp 2]) eP mixed Tryz.func155 rfl rfl rfl rfl rfl ?_;(refine run ?_;repeat intro b);refine dG _ rfl rfl rfl C9 rfl (lr s hs F) ?_;have hm:=kZ s;unfold ej;generalize gg s=m at hm;(refine run ?_;repeat intro b);refine eU (fun k:Nat=>k≤16) (fun k=>⟨[(3,.v (u64 (m:Nat))),(4,.loc 0 0),(8,.v (i64 (k:Nat)))],F,[(0,⟨some b,(mZ m).take k++sL.drop k,304,16⟩)],1⟩) (fun k=>16 - k) 0 (by decide) (VS.eH [3,4,8] rfl rfl) ?_;intro k hk;(refine run ?_;repeat intro b);refine ez _ rfl (fun h=>?_) (fun h=>?_)
 ·have hlt:k<16:=by simp at h;omega
  (refine run ?_;repeat intro b);have e1:IntKind.i64.wrap (15 - (k:Int))=((15 - k:Nat):Int):=by
   rw[wrap_i64 (by omega) (by omega)];omega
  rw[e1];refine dI rfl rfl rfl (by omega) ?_;(refine run ?_;repeat intro b);rw[OC m (15 - k) (by omega)];refine dI rfl rfl rfl ⟨by omega,by omega⟩ ?_;have hl1:(mZ m).length=sL.length:=kA m;have hk1:k<(mZ m).length:=by rw[kA];exact hlt
  have hidx:(0+((k:Int).toNat) * 1)=k:=by omega
  have hlen:((mZ m).take k++sL.drop k).length=16:=by
   rw[ag,aw,aR,kA];have:sL.length=16:=rfl;omega
  refine iP ((mZ m).take (k+1)++sL.drop (k+1)) rfl rfl rfl rfl rfl rfl ?_ ?_ rfl ?_
  ·show 0+((k:Int).toNat) * 1+1≤((mZ m).take k++sL.drop k).length;rw[hlen];omega
  ·show ((mZ m).take k++sL.drop k).take (0+((k:Int).toNat) * 1)++[_]++((mZ m).take k++sL.drop k).drop (0+((k:Int).toNat) * 1+1)=_;rw[hidx,←AL (mZ m) sL hl1 k hk1,Ku m k hlt]
  (refine run ?_;repeat intro b);rw[dQ (by omega)];exact fj (k+1) hlt (by omega) (VS.eH [3,4,8] rfl rfl)
 have hge:k=16:=by simp at h;omega
 subst hge;(refine run ?_;repeat intro b);have hc:(mZ m).take 16++sL.drop 16=mZ m:=by
  have:(mZ m).length=16:=kA m;rw[an (by omega)];show mZ m++[]=_;rw[bT]
 rw[hc];refine qo (oq 16 m) rfl rfl rfl rfl ?_ ?_ ?_
 ·rw[kA];exact ah 16
 ·rw[an (by rw[kA];exact ah 16)];rfl
 (refine run ?_;repeat intro b);rfl
theorem vp (s:List UInt8)(hs:s.length≤4611686018427387904)(F:Hp):Plain Tryz.prog F 100 [S s] (pair (S (jS s)) (i64 (if eL s=true then 0 else 3))):=by
 refine dN (N:=9) (rv:=[.tmp 2,.tmp 3]) eP mixed Tryz.func100 rfl rfl rfl rfl rfl ?_;(refine run ?_;repeat intro b);refine dG _ rfl rfl rfl wB rfl (oK s hs F) ?_;unfold jS;cases hg:eL s with
 | false=>
  (refine run ?_;repeat intro b);rfl
 | true=>
  (refine run ?_;repeat intro b);refine dG _ rfl rfl rfl V9 rfl (HO s hs F) ?_;(refine run ?_;repeat intro b);rfl
theorem nN (s:List UInt8)(hs:s.length≤4611686018427387904)(F:Hp):Plain Tryz.prog F 162 [S s] (S (jS s)):=by
 refine dN (N:=11) (rv:=[.tmp 2]) eP mixed Tryz.func162 rfl rfl rfl rfl rfl ?_;(refine run ?_;repeat intro b);refine dG _ rfl rfl rfl Mp rfl (vp s hs F) ?_;(refine run ?_;repeat intro b);rfl
theorem oJ (s:List UInt8)(hs:s.length≤4611686018427387904)(F:Hp):Plain Tryz.prog F 101 [S s] (S (jS s)):=by
 refine dN (N:=11) (rv:=[.tmp 2]) eP mixed Tryz.func101 rfl rfl rfl rfl rfl ?_;(refine run ?_;repeat intro b);refine dG _ rfl rfl rfl Mp rfl (vp s hs F) ?_;(refine run ?_;repeat intro b);rfl
theorem kW (s:List UInt8)(hs:s.length≤4611686018427387904)(F:Hp):Plain Tryz.prog F 137 [S s] (S (ej s)):=by
 refine dN (N:=21) (rv:=[.tmp 2]) eP mixed Tryz.func137 rfl rfl rfl rfl rfl ?_;(refine run ?_;repeat intro b);refine dG _ rfl rfl rfl vQ rfl (jU s hs F) ?_;have hm:=kZ s;unfold ej;generalize gg s=m at hm;(refine run ?_;repeat intro b);refine eU (fun k:Nat=>k≤16) (fun k=>⟨[(3,.v (u64 ((m / 2 ^ k:Nat):Nat))),(4,.v (S (oq k m))),(7,.v (i64 (k:Nat)))],F,[],0⟩) (fun k=>16 - k) 0 (by decide) (VS.eH [3,4,7] rfl (by rw[Nat.pow_zero,Nat.div_one];rfl)) ?_;intro k hk;(refine run ?_;repeat intro b);refine ez _ rfl (fun h=>?_) (fun h=>?_)
 ·have hlt:k<16:=by simp at h;omega
  (refine run ?_;repeat intro b);have e2:((m / 2 ^ k:Nat):Int).tmod 2=((m / 2 ^ k % 2:Nat):Int):=rfl;have e3:IntKind.u64.wrap (((m / 2 ^ k % 2:Nat):Int)+1)=((m / 2 ^ k % 2+1:Nat):Int):=by rw[nk];omega
  have e4:IntKind.u64.wrap (((m / 2 ^ k:Nat):Int).tdiv 2)=((m / 2 ^ (k+1):Nat):Int):=by
   rw[Nat.pow_succ,←Nat.div_div_eq_div_mul];have:=Nat.div_le_self m (2 ^ k);have:MM=2305843009213693951:=rfl;show IntKind.u64.wrap ((m / 2 ^ k / 2:Nat):Int)=((m / 2 ^ k / 2:Nat):Int);rw[nk];generalize m / 2 ^ k=x at *;omega
  rw[e2,e3];have hd:(((bl { data:=#[48,49] }).take ((m / 2 ^ k % 2+1:Nat):Int).toNat).drop ((m / 2 ^ k % 2:Nat):Int).toNat)=[zI (m / 2 ^ k)]:=by
   unfold zI;rcases Nat.mod_two_eq_zero_or_one (m / 2 ^ k) with h | h<;>rw[h]<;>rfl
  refine dI rfl rfl rfl ⟨by omega,by omega,by show ((m / 2 ^ k % 2+1:Nat):Int)≤2;omega⟩ ?_;rw[hd];(refine run ?_;repeat intro b);have hlen:=mQ k m;refine dI rfl rfl rfl (by show 1+(oq k m).length≤9223372036854775807;omega) ?_;(refine run ?_;repeat intro b);rw[e4,dQ (by omega)];exact fj (k+1) hlt (by omega) (VS.eH [3,4,7] rfl (by rw[yd];rfl))
 have hge:k=16:=by simp at h;omega
 subst hge;(refine run ?_;repeat intro b);rfl
theorem Ez (s:List UInt8)(F:Hp):Plain Tryz.prog F 223 [S s] (.bool false):=by
 refine dN (N:=6) (rv:=[.tmp 2]) eP mixed Tryz.func223 rfl rfl rfl rfl rfl ?_;(refine run ?_;repeat intro b);simp[gE]
theorem Ia (s t:List UInt8)(F:Hp):Plain Tryz.prog F 161 [S s,S t] (i64 (zg s t)):=by
 refine dN (N:=20) (rv:=[.tmp 4]) eP mixed Tryz.func161 rfl rfl rfl rfl rfl ?_;(refine run ?_;repeat intro b);refine dG _ rfl rfl rfl QJ rfl (Ez s F) ?_;(refine run ?_;repeat intro b);refine dG _ rfl rfl rfl QJ rfl (Ez t F) ?_;(refine run ?_;repeat intro b);refine ez (bytesLess s t) rfl (fun h=>?_) (fun h=>?_)
 ·have e:zg s t= -1:=by unfold zg;rw[aZ h]
  rw[e];(refine run ?_;repeat intro b);rfl
 (refine run ?_;repeat intro b);refine ez (!(bytesLess s t||decide (s=t))) rfl (fun h2=>?_) (fun h2=>?_)
 ·have e:zg s t=1:=by
   simp[h]at h2;unfold zg;rw[aY (by rw[h];decide),aY h2]
  rw[e];(refine run ?_;repeat intro b);rfl
 have e:zg s t=0:=by
  simp[h]at h2;unfold zg;rw[aY (by rw[h];decide),aZ h2]
 rw[e];(refine run ?_;repeat intro b);rfl
theorem RN (x y:Int){p:Option Addr}{c:Nat}{F:Hp}(hf:eY F p [i64 x,i64 y]):Plain Tryz.prog F 160 [.slice p 2 c] (i64 (if x≠0 then x else y)):=by
 refine dN (N:=18) (rv:=[.tmp 2]) eP mixed Tryz.func160 rfl rfl rfl rfl rfl ?_;(refine run ?_;repeat intro b);refine eU (fun k:Nat=>k≤2∧(0<k→x=0)∧(1<k→y=0)) (fun k=>⟨[(3,.v (i64 0)),(6,.v (.slice p 2 c)),(7,.v (i64 2)),(8,.v (i64 (k:Nat)))],F,[],0⟩) (fun k=>2 - k) 0 ⟨by decide,fun h=>absurd h (by decide),fun h=>absurd h (by decide)⟩ (VS.eH [3,6,7,8] rfl rfl) ?_;rintro k ⟨hk,h0,h1⟩;(refine run ?_;repeat intro b);by_cases hlt:k<2
 ·refine gm rfl (by omega) ?_;have g:=gQ hf (j:=k) hlt;(refine run ?_;repeat intro b);refine dI rfl rfl rfl ⟨by omega,by omega,dO hf (j:=k) hlt⟩ ?_;have hk2:k=0∨k=1:=by omega
  rcases hk2 with rfl | rfl
  ·refine fr (i64 x) rfl rfl rfl rfl g ?_;(refine run ?_;repeat intro b);refine ez (decide (x≠0)) ?_ (fun h=>?_) (fun h=>?_)
   ·refine dS ?_;rw[ai];simp
   ·rw[aZ (ar h)];(refine run ?_;repeat intro b);rfl
   (refine run ?_;repeat intro b);rw[dQ (k:=0) (by omega)];exact fj 1 ⟨by decide,fun _=>by simpa using h,fun h=>absurd h (by decide)⟩ (by decide) (VS.eH [3,6,7,8] rfl rfl)
  have hx:=h0 (by decide);refine fr (i64 y) rfl rfl rfl rfl g ?_;(refine run ?_;repeat intro b);refine ez (decide (y≠0)) ?_ (fun h=>?_) (fun h=>?_)
  ·refine dS ?_;rw[ai];simp
  ·rw[aY (by simpa using hx)];(refine run ?_;repeat intro b);rfl
  (refine run ?_;repeat intro b);rw[dQ (k:=1) (by omega)];exact fj 2 ⟨by decide,fun _=>hx,fun _=>by simpa using h⟩ (by decide) (VS.eH [3,6,7,8] rfl rfl)
 have hge:k=2:=by omega
 subst hge;refine ez false rfl (fun h=>by cases h) (fun _=>?_);rw[aY (by simpa using h0 (by decide)),h1 (by decide)];(refine run ?_;repeat intro b);rfl
theorem Ek (a b:List UInt8)(ha:a.length≤4611686018427387904)(hb:b.length≤4611686018427387904)(F:Hp):Plain Tryz.prog F 106 [S a,S b] (i64 (kN a b)):=by
 refine dN (N:=15) (rv:=[.tmp 4]) eP mixed Tryz.func106 rfl rfl rfl rfl rfl ?_;(refine run ?_;repeat intro b);refine dG _ rfl rfl rfl FB rfl (nN a ha F) ?_;(refine run ?_;repeat intro b);refine dG _ rfl rfl rfl FB rfl (nN b hb F) ?_;refine dG _ rfl rfl rfl Qf rfl (Ia _ _ F) ?_;(refine run ?_;repeat intro b);refine dG _ rfl rfl rfl Qf rfl (Ia a b F) ?_;(refine run ?_;repeat intro b);refine fT (VS.freeze 0 [13] rfl rfl rfl rfl fun F1 hs1 hf1=>VS.id ?_);refine dG _ rfl rfl rfl Tl rfl (RN _ _ hf1) ?_;(refine run ?_;repeat intro b);rfl
theorem uM (a b:List UInt8)(ha:a.length≤4611686018427387904)(hb:b.length≤4611686018427387904)(F:Hp):Plain Tryz.prog F 243 [S a,S b] (.bool (ahead a b)):=by
 refine dN (N:=24) (rv:=[.tmp 4]) eP mixed Tryz.func243 rfl rfl rfl rfl rfl ?_;(refine run ?_;repeat intro b);refine dG _ rfl rfl rfl wT rfl (kW a ha F) ?_;(refine run ?_;repeat intro b);refine dG _ rfl rfl rfl wT rfl (kW b hb F) ?_;unfold ahead;generalize ej a=p;generalize ej b=q;generalize hx:bytesLess p q=x;generalize hy:bytesLess a b=y;(refine run ?_;repeat intro b);simp only[fX,hx,hy,fH,fu,gE]
 first | rfl | congr
theorem tB (name value:List UInt8)(hn:name.length≤4611686018427387904)(F:Hp):Plain Tryz.prog F 96 [S name,S value] (i64 (eJ name value)):=by
 refine dN (N:=13) (rv:=[.tmp 4]) eP mixed Tryz.func96 rfl rfl rfl rfl rfl ?_;(refine run ?_;repeat intro b);refine dG _ rfl rfl rfl wB rfl (oK name hn F) ?_;(refine run ?_;repeat intro b);refine ez (!eL name) rfl (fun h=>?_) (fun h=>?_)
 ·have h2: ¬eL name=true:=by simpa using h
  (refine run ?_;repeat intro b);simp only[gE,eJ,aY h2]
 have h2:eL name=true:=by simpa using h
 (refine run ?_;repeat intro b);refine ez (decide (20<value.length)) ?_ (fun h3=>?_) (fun h3=>?_)
 ·refine dS ?_;rw[aV,fX];omega
 ·have h4:20<value.length:=by simpa using h3
  (refine run ?_;repeat intro b);simp only[gE,eJ,aZ h2,aZ h4]
 have h4: ¬20<value.length:=by simpa using h3
 (refine run ?_;repeat intro b);simp only[gE,eJ,aZ h2,aY h4]
end Go.Proofs.YthbnddgjkonkdaaGreatDoor
